/- Lemmas: Compare. -/
import Derived.Test.YtihfcjioilmmjaaGreatRm1
import Derived.Test.YtihfcjioilmmjaaGreatRm19
import Derived.Test.YtihfcjioilmmjaaGreatRm3
import Derived.Test.YtihfcjioilmmjaaGreatRm4
import Derived.Test.YtihfcjioilmmjaaGreatRm13
import Derived.Test.YtihfcjioilmmjaaGreatRm17
import Derived.Test.YtihfcjioilmmjaaGreatRm9
import Derived.Test.YtihfcjioilmmjaaGreatRm12
import Derived.Test.YtihfcjioilmmjaaGreatRm6
set_option linter.all false
namespace Go.Proofs.YtihfcjioilmmjaaGreat
open Go Go.RowKit
open Go.Lib Go.Proofs
theorem append_none {P : Program} {w : World} (base : Nat) (t ty e : TypeId) (i : TypeInfo) (size : Nat) (ht : P.underlying t = some (.slice e)) (hi : P.info? e = some i)
  (v : Value) (n : Nat) (xs : List Value) (hown : w.ownsRow base e size v n xs) (c : Nat) :
  (Builtin.append_ #[t,t] ty #[v,.slice none 0 c]).run P w = .ok v w:=by
 rcases hown.2 with ⟨rfl,rfl⟩ | ⟨g,cap,cur,rfl,_,_,hnc,_⟩
 ·simp [Builtin.append_,run_underlying ht,sizeOf,typeInfo,hi,Builtin.lenOf,Builtin.firstCells]
 ·simp [Builtin.append_,run_underlying ht,sizeOf,typeInfo,hi,Builtin.lenOf,Builtin.firstCells,hnc,storeCells]
theorem append_texts {W : World} {base : Nat} {v : Value} {k : Nat} {xs : List Value} (hown : W.ownsRow base 9 1 v k xs) {u : Value} {l : List ByteArray} (hu : StrsAt W u l) (hk : k + l.length ≤ 1000000) (hb : base ≤ W.heap.size) :
  ∃ v' w',(Builtin.append_ #[26,26] 26 #[v,u]).run Tryz.prog W = .ok v' w' ∧ w'.ownsRow base 9 1 v' (k + l.length) (xs ++ l.map Value.string) ∧ W.grownBy w' v.ownBlock ∧ (v'.ownBlock = v.ownBlock ∨ v'.ownBlock = some W.heap.size):=by
 have hml : (1000000 : Nat) ≤ maxLen:=by decide
 obtain ⟨i0,hi,hz0,hz1,hz2⟩:=info_parts vinfo9
 obtain ⟨a,cap,rfl,_,_,_,hc⟩:=hu.1
 rcases Nat.eq_zero_or_pos l.length with h0 | hpos
 ·have h1 : l = []:=List.eq_nil_of_length_eq_zero h0
  subst h1
  cases a with
  | none=>exact ⟨v,W,append_none base 26 26 9 i0 1 (by kernel_rfl) hi v k xs hown cap,by simpa using hown,⟨rfl,rfl,rfl,Nat.le_refl _,fun _ _ _=>rfl⟩,.inl rfl⟩
  | some a=>
   obtain ⟨v',w',q1,q2,q3,_,q5⟩:=Go.run_append_own_at (P:=Tryz.prog) (w:=W) base 26 26 9 i0 _ 1 16 (by kernel_rfl) hi hz0 hz1 hz2 rfl (by decide) v k xs hown a 0 cap [] rfl (fun j u hj=>by simp at hj) (fun u hu=>by cases hu) (by simp at hk;omega) (by simp at hk;omega) hb
   exact ⟨v',w',q1,by simpa using q2,q3,q5⟩
 ·obtain ⟨b,off,rfl,_⟩:=hc 0 (.string (l[0]'hpos)) (by simp [List.getElem?_eq_getElem hpos])
  obtain ⟨v',w',q1,q2,q3,_,q5⟩:=Go.run_append_own_at (P:=Tryz.prog) (w:=W) base 26 26 9 i0 _ 1 16 (by kernel_rfl) hi hz0 hz1 hz2 rfl (by decide) v k xs hown ⟨b,off,none⟩ l.length cap (l.map Value.string) (by simp) (fun j u hj=>by
   obtain ⟨b',off',e,hcell⟩:=hc j u hj
   simp only [Option.some.injEq,Addr.mk.injEq] at e
   obtain ⟨rfl,rfl,_⟩:=e
   unfold Addr.add
   split
   ·rename_i hj0;subst hj0;simpa using hcell
   ·exact hcell) (fun u hu=>by obtain ⟨s,_,rfl⟩:=List.mem_map.1 hu;rfl) (by omega) (by omega) hb
  exact ⟨v',w',q1,q2,q3,q5⟩
theorem info46 : (Tryz.prog.info? 46).map (fun i=>(i.zero,i.size,i.bytes)) = some (some (.agg #[.string ⟨#[]⟩,.string ⟨#[]⟩,.slice none 0 0,.int .i64 0,.int .i64 0]),5,72):=by kernel_rfl
theorem append_fct {W : World} {base : Nat} {v : Value} {k : Nat} {xs row : List Value} (hown : W.ownsRow base 46 5 v k xs) (ab m : Nat) (hl : row.length = m * 5) (hrow : ∀ j u,row[j]? = some u → W.cell? ⟨ab,0 + j,none⟩ = some u) (h1 : ∀ u ∈ row,u.oneCell' = true) (hk : k + m ≤ 1000000) (hb : base ≤ W.heap.size) (c : Nat) :
  ∃ v' w',(Builtin.append_ #[24,24] 24 #[v,.slice (some ⟨ab,0,none⟩) m c]).run Tryz.prog W = .ok v' w' ∧ w'.ownsRow base 46 5 v' (k + m) (xs ++ row) ∧ W.grownBy w' v.ownBlock:=by
 have hml : (1000000 : Nat) ≤ maxLen:=by decide
 obtain ⟨i0,hi,hz0,hz1,hz2⟩:=info_parts info46
 obtain ⟨v',w',q1,q2,q3,_⟩:=run_append_own (P:=Tryz.prog) (w:=W) base 24 24 46 i0 _ 5 72 (by kernel_rfl) hi hz0 hz1 hz2 rfl (by decide) v k xs hown ⟨ab,0,none⟩ m c row hl (fun j u hj=>add_cell (hrow j u hj)) h1 (by omega) (by omega) hb
 exact ⟨v',w',q1,q2,q3⟩
structure OwnI (N : Nat) (w : World) (l : List Fct) (v : Value) (vs : List Value) (wr : World) : Prop where
 ext : Ext w wr
 len : vs.length = l.length
 rows : wr.ownsRow N 46 5 v l.length ((l.zip vs).flatMap fun x=>factCells x.1 x.2)
 vals : ∀ x ∈ l.zip vs,wr.ownsRow N 9 1 x.2 x.1.values.length (x.1.values.map Value.string)
theorem OwnI.facts {N : Nat} {w : World} {l : List Fct} {v : Value} {vs : List Value} {wr : World} (h : OwnI N w l v vs wr) (hl : ∀ f ∈ l,∃ u,FactAt w f u) : FactsAt wr v l:=
 ⟨vs,h.len,SlAt.of_owns h.rows,fun x hx=>by
  obtain ⟨u,hs,h1⟩:=hl x.1 (List.of_mem_zip (show (x.1,x.2) ∈ l.zip vs from hx)).1
  exact ⟨⟨SlAt.of_owns (h.vals x hx),hs.2⟩,h1⟩⟩
set_option maxHeartbeats 4000000 in
set_option maxRecDepth 100000 in
theorem ownL_any {w : World} {v : Value} {l : List Fct} (h : FactsAt w v l) (hl : l.length ≤ 1000) (hv : ∀ f ∈ l,f.values.length ≤ 1000) :
  Calls Tryz.prog 19 #[v] w fun e w'=>∃ v',e = .returned v' ∧ FactsAt w' v' l ∧ Ext w w':=by
 obtain ⟨a,cap,rfl,hcap,hel⟩:=RowsAt.at (cells:=factCells) (by decide) (fun _ _=>rfl) h
 have hfa : ∀ f ∈ l,∃ u,FactAt w f u:=fun f hf=>by
  obtain ⟨i,hi⟩:=List.mem_iff_getElem?.1 hf
  obtain ⟨_,_,u,_,hu,_⟩:=hel i f hi
  exact ⟨u,hu⟩
 obtain ⟨W1,hW1⟩ : ∃ W1,W1 = w.alloc (.cells #[] 46 (0,0)):=⟨_,rfl⟩
 have hx1 : Ext w W1:=by rw [hW1];exact bel
 have hb1 : W1.heap[w.heap.size]? = some (.cells #[] 46 (0,0)):=by rw [hW1];simp only [heap_drawn_get,heap_drew_get,heap_setCell_get,heap_alloc_get,World.size_alloc,World.size_setCell,size_drawn,putObj_get,putObj_size];(repeat (first | rw [if_pos trivial] | rw [if_pos rfl] | rw [if_neg (by omega)] | rw [if_pos (by omega)]))
 have hI0 : OwnI w.heap.size w [] (.slice (some ⟨w.heap.size,0,none⟩) 0 0) [] W1:=⟨hx1,rfl,⟨rfl,.inr ⟨w.heap.size,0,#[],rfl,Nat.le_refl _,hb1,Nat.le_refl _,Nat.zero_le _,rfl,rfl⟩⟩,fun x hx=>by cases hx⟩
 have HI0:=Lib.hid hI0
 have HEL:=Lib.hid hel
 have HV:=Lib.hid hv
 have HFA:=Lib.hid hfa
 clear hel h hcap hv hfa hI0 hx1 hb1
 go_enter Tryz.func19,Tryz.ntmps19
 go_upto_region 2 with fail
 rw [← hW1]
 clear hW1
 go_wp2_with fail
 go_loopw [3,4] (fun v i wr=>∃ (j : Nat) (vs : List Value),j ≤ l.length ∧ i = .int .i64 j ∧ OwnI w.heap.size w (l.take j) v vs wr) (fun _ i _=>l.length - (intOf i).toNat)
 case atStart=>exact ⟨0,[],Nat.zero_le _,rfl,HI0.out⟩
 case round=>
  obtain ⟨j,vs,hj,rfl,hI⟩:=hrel
  obtain ⟨op,oc,rfl⟩:=owns_form hI.rows
  have hlk : (l.take j).length = j:=by rw [List.length_take];omega
  rw [hlk] at hI
  rw [hlk]
  have HI:=Lib.hid hI
  by_cases hlt : j < l.length
  ·obtain ⟨f,hf⟩ : ∃ f,l[j]? = some f:=⟨_,List.getElem?_eq_getElem hlt⟩
   obtain ⟨b,off,u,rfl,hok,hc⟩:=HEL.out j f hf
   obtain ⟨up,uc,hue,hz1,hz2,hz3⟩:=hok.1.1
   subst hue
   have hx:=hI.ext
   have g0 : wr.cell? ⟨b,off + j * 5,none⟩ = some (.string f.subject):=hx.cell' (hc 0 _ rfl)
   have g1 : wr.cell? ⟨b,off + j * 5 + 1,none⟩ = some (.string f.attr):=hx.cell' (hc 1 _ rfl)
   have g2 : wr.cell? ⟨b,off + j * 5 + 2,none⟩ = some (.slice up f.values.length uc):=hx.cell' (hc 2 _ rfl)
   have g3 : wr.cell? ⟨b,off + j * 5 + 3,none⟩ = some (.int .i64 f.low):=hx.cell' (hc 3 _ rfl)
   have g4 : wr.cell? ⟨b,off + j * 5 + 4,none⟩ = some (.int .i64 f.high):=hx.cell' (hc 4 _ rfl)
   obtain ⟨W3,hW3⟩ : ∃ W3,W3 = wr.alloc (.cells #[.string f.subject,.string f.attr,.slice up f.values.length uc,.int .i64 f.low,.int .i64 f.high] 46 (0,0)):=⟨_,rfl⟩
   have hx3 : Ext wr W3:=by rw [hW3];exact bel
   have hb3 : W3.heap[wr.heap.size]? = some (.cells #[.string f.subject,.string f.attr,.slice up f.values.length uc,.int .i64 f.low,.int .i64 f.high] 46 (0,0)):=by rw [hW3];simp only [heap_drawn_get,heap_drew_get,heap_setCell_get,heap_alloc_get,World.size_alloc,World.size_setCell,size_drawn,putObj_get,putObj_size];(repeat (first | rw [if_pos trivial] | rw [if_pos rfl] | rw [if_neg (by omega)] | rw [if_pos (by omega)]))
   have hs3 : W3.heap.size = wr.heap.size + 1:=by rw [hW3];simp
   obtain ⟨W4,hW4⟩ : ∃ W4,W4 = W3.alloc (.cells #[] 9 (0,0)):=⟨_,rfl⟩
   have hx4 : Ext W3 W4:=by rw [hW4];exact bel
   have hb4 : W4.heap[W3.heap.size]? = some (.cells #[] 9 (0,0)):=by rw [hW4];simp only [heap_drawn_get,heap_drew_get,heap_setCell_get,heap_alloc_get,World.size_alloc,World.size_setCell,size_drawn,putObj_get,putObj_size];(repeat (first | rw [if_pos trivial] | rw [if_pos rfl] | rw [if_neg (by omega)] | rw [if_pos (by omega)]))
   have hst : StrsAt W4 (.slice up f.values.length uc) f.values:=hok.1.ext (hx.trans' (hx3.trans' hx4))
   have hvl:=HV.out f (List.mem_of_getElem? hf)
   obtain ⟨v',w5,happ,hrow5,hgrow,hat⟩:=append_texts (base:=W3.heap.size) (v:=.slice (some ⟨W3.heap.size,0,none⟩) 0 0) (k:=0) (xs:=[]) ⟨rfl,.inr ⟨W3.heap.size,0,#[],rfl,Nat.le_refl _,hb4,Nat.le_refl _,Nat.zero_le _,rfl,rfl⟩⟩ hst (by omega) hx4.size
   rw [Nat.zero_add,List.nil_append] at hrow5
   obtain ⟨sp,sc,rfl⟩:=owns_form hrow5
   have hx5 : Ext W3 w5:=hx4.grown hgrow hx4.size fun k hk=>by simp [Value.ownBlock] at hk;omega
   have hb5:=hx5.obj hb3
   obtain ⟨W6,hW6⟩ : ∃ W6,W6 = w5.setCell ⟨wr.heap.size,2,none⟩ (.slice sp f.values.length sc):=⟨_,rfl⟩
   have hb6 : W6.heap[wr.heap.size]? = some (.cells #[.string f.subject,.string f.attr,.slice sp f.values.length sc,.int .i64 f.low,.int .i64 f.high] 46 (0,0)):=by rw [hW6];simp only [heap_drawn_get,heap_drew_get,heap_setCell_get,heap_alloc_get,World.size_alloc,World.size_setCell,size_drawn,putObj_get,putObj_size];(repeat (first | rw [if_pos trivial] | rw [if_pos rfl] | rw [if_neg (by omega)] | rw [if_pos (by omega)]));rw [hb5];rfl
   have hx36 : Ext wr w5:=hx3.trans' hx5
   have hx6 : Ext wr W6:=by rw [hW6];exact bel
   have hrow6 : W6.ownsRow W3.heap.size 9 1 (.slice sp f.values.length sc) f.values.length (f.values.map Value.string):=owns_keep hrow5 fun g cs hge _=>by
    rw [hW6,heap_setCell_get,if_neg (by omega)]
   obtain ⟨W7,hW7⟩ : ∃ W7,W7 = W6.alloc (.cells #[.string f.subject,.string f.attr,.slice sp f.values.length sc,.int .i64 f.low,.int .i64 f.high] 46 (0,0)):=⟨_,rfl⟩
   have hx7 : Ext W6 W7:=by rw [hW7];exact bel
   have hb7 : W7.heap[W6.heap.size]? = some (.cells #[.string f.subject,.string f.attr,.slice sp f.values.length sc,.int .i64 f.low,.int .i64 f.high] 46 (0,0)):=by rw [hW7];simp only [heap_drawn_get,heap_drew_get,heap_setCell_get,heap_alloc_get,World.size_alloc,World.size_setCell,size_drawn,putObj_get,putObj_size];(repeat (first | rw [if_pos trivial] | rw [if_pos rfl] | rw [if_neg (by omega)] | rw [if_pos (by omega)]))
   have hxr7:=hx6.trans' hx7
   have hrow7:=owns_keep hI.rows fun g cs _ hgg=>hxr7.block g (heap_lt hgg)
   obtain ⟨v'',w8,happ8,hrow8,hgrow8⟩:=append_fct (row:=[.string f.subject,.string f.attr,.slice sp f.values.length sc,.int .i64 f.low,.int .i64 f.high]) hrow7 W6.heap.size 1 rfl (fun k u hj=>by rw [Nat.zero_add,cell_of hb7 k,List.getElem?_toArray];exact hj) (fun u hu=>by simp at hu;rcases hu with rfl | rfl | rfl | rfl | rfl <;> rfl) (by omega) (Nat.le_trans hI.ext.size hxr7.size) 1
   have hx8 : Ext w w8:=(hI.ext.trans' hxr7).grown hgrow8 (Nat.le_trans hI.ext.size hxr7.size) fun k hk=>(owns_block hrow7 hk).1
   have hfr:=frm_grown hrow7 hgrow8
   have hN : w.heap.size ≤ W3.heap.size:=Nat.le_trans hI.ext.size hx3.size
   have htk : l.take (j + 1) = l.take j ++ [f]:=by rw [List.take_add_one,hf];rfl
   have hzip : (l.take (j + 1)).zip (vs ++ [.slice sp f.values.length sc]) = (l.take j).zip vs ++ [(f,.slice sp f.values.length sc)]:=by rw [htk,List.zip_append hI.len.symm];rfl
   have hI8 : OwnI w.heap.size w (l.take (j + 1)) v'' (vs ++ [.slice sp f.values.length sc]) w8:=by
    refine ⟨hx8,by rw [htk];simp [hI.len],?_,fun x hx=>?_⟩
    ·rw [hzip,List.flatMap_append,htk,List.length_append]
     exact hrow8
    ·rw [hzip] at hx
     rcases List.mem_append.1 hx with hx | hx
     ·exact hfr.owns (owns_keep (hI.vals x hx) fun g cs _ hgg=>hxr7.block g (heap_lt hgg)) (by decide)
     ·rw [List.mem_singleton.1 hx]
      exact hfr.owns (owns_mono (owns_keep hrow6 fun g cs _ hgg=>hx7.block g (heap_lt hgg)) hN) (by decide)
   have d2:=cell_of ((hx4.obj hb3)) 2
   have e2 : w5.cell? ⟨wr.heap.size,2,none⟩ = some (.slice up f.values.length uc):=cell_of hb5 2
   have fz:=frozen_of hb5 2
   have k0:=cell_of hb6 0
   have k1:=cell_of hb6 1
   have k2:=cell_of hb6 2
   have k3:=cell_of hb6 3
   have k4:=cell_of hb6 4
   rw [hW7] at happ8
   rw [hW4] at happ d2
   have HAPP:=Lib.hid happ
   have HAPP8:=Lib.hid happ8
   have HI8:=Lib.hid hI8
   have HI':=Lib.hid hI
   clear happ happ8 hI8 hI hx hok hc hz1 hz2 hz3 hx3 hb3 hx4 hb4 hst hvl hrow5 hgrow hat hx5 hb5 hx36 hx6 hb6 hrow6 hW7 hx7 hb7 hxr7 hrow7 hrow8 hgrow8 hx8 hfr hN htk hzip hf hs3 hlk
   go_upto_region 6 with fail
   rw [← hW3]
   clear hW3 g0 g1 g2 g3 g4 hW4
   go_upto_region 7 with (at_builtin;refine wpList_append_run rfl _ _ 26 rfl rfl rfl HAPP.out ?_)
   rw [← hW6]
   clear hW6 d2 e2 fz
   go_wp2_with (at_builtin;refine wpList_append_run rfl _ _ 24 rfl rfl rfl HAPP8.out ?_)
   exact ⟨⟨j + 1,_,by omega,rfl,HI8.out⟩,by simp [intOf];omega⟩
  ·obtain rfl : j = l.length:=by omega
   go_wp2_with fail
   go_ret
   refine ⟨_,rfl,?_,HI.out.ext⟩
   have:=HI.out
   rw [List.take_length] at this
   exact this.facts HFA.out
end Go.Proofs.YtihfcjioilmmjaaGreat
namespace Go.Proofs.YtihfcjioilmmjaaGreat
open Go Go.RowKit
open Go.Lib Go.Sort Go.Maps Go.Shelf Go.Proofs
theorem info84 : (Tryz.prog.info? 84).map (fun i=>(i.zero,i.size,i.bytes)) = some (some (.agg #[.string ⟨#[]⟩,.int .u8 0,.int .u8 0]),3,24):=by kernel_rfl
theorem append_shift {W : World} {base : Nat} {v : Value} {k : Nat} {xs row : List Value} (hown : W.ownsRow base 84 3 v k xs) (ab m : Nat) (hl : row.length = m * 3) (hrow : ∀ j u,row[j]? = some u → W.cell? ⟨ab,0 + j,none⟩ = some u) (h1 : ∀ u ∈ row,u.oneCell' = true) (hk : k + m ≤ 1000000) (hb : base ≤ W.heap.size) (c : Nat) :
  ∃ v' w',(Builtin.append_ #[80,80] 80 #[v,.slice (some ⟨ab,0,none⟩) m c]).run Tryz.prog W = .ok v' w' ∧ w'.ownsRow base 84 3 v' (k + m) (xs ++ row) ∧ W.grownBy w' v.ownBlock:=by
 have hml : (1000000 : Nat) ≤ maxLen:=by decide
 obtain ⟨i0,hi,hz0,hz1,hz2⟩:=info_parts info84
 obtain ⟨v',w',q1,q2,q3,_⟩:=run_append_own (P:=Tryz.prog) (w:=W) base 80 80 84 i0 _ 3 24 (by kernel_rfl) hi hz0 hz1 hz2 rfl (by decide) v k xs hown ⟨ab,0,none⟩ m c row hl (fun j u hj=>add_cell (hrow j u hj)) h1 (by omega) (by omega) hb
 exact ⟨v',w',q1,q2,q3⟩
theorem append_owned {W : World} {base b2 : Nat} {v u : Value} {k m : Nat} {xs row : List Value} (hown : W.ownsRow base 9 1 v k xs) (hu : W.ownsRow b2 9 1 u m row) (h1 : ∀ u ∈ row,u.oneCell' = true) (hk : k + m ≤ 1000000) (hb : base ≤ W.heap.size) :
  ∃ v' w',(Builtin.append_ #[26,26] 26 #[v,u]).run Tryz.prog W = .ok v' w' ∧ w'.ownsRow base 9 1 v' (k + m) (xs ++ row) ∧ W.grownBy w' v.ownBlock:=by
 rcases hu.2 with ⟨rfl,rfl⟩ | ⟨g,cap,cur,rfl,hgb,hgg,r1,r2,r3,r4⟩
 ·have h0 : row = []:=List.eq_nil_of_length_eq_zero (by simpa using hu.1)
  subst h0
  obtain ⟨i0,hi,hz0,hz1,hz2⟩:=info_parts vinfo9
  exact ⟨v,W,run_append_owned_none (P:=Tryz.prog) (w:=W) base 26 26 9 i0 1 (by kernel_rfl) hi v k xs hown,by simpa using hown,⟨rfl,rfl,rfl,Nat.le_refl _,fun _ _ _=>rfl⟩⟩
 ·obtain ⟨v',w',q1,q2,q3,_⟩:=append_strs hown g m (by simpa using hu.1) (fun j u hj=>by
   rw [Nat.zero_add,cell_of hgg]
   rw [← r4,List.getElem?_take] at hj
   split at hj
   ·simpa using hj
   ·cases hj) h1 hk hb cap
  exact ⟨v',w',q1,q2,q3⟩
def shiftL (l : List (List UInt8)) (k1 k2 : List Int) : List (List UInt8 × Int × Int):=(l.zip (k1.zip k2)).filter fun x=>decide (x.2.1 ≠ x.2.2)
def shiftCells (x : List UInt8 × Int × Int) : List Value:=[encStr x.1,.int .u8 x.2.1,.int .u8 x.2.2]
theorem shiftL_snoc (l : List (List UInt8)) (t : List UInt8) (k1 k2 : List Int) (a b : Int) (h1 : k1.length = l.length) (h2 : k2.length = l.length) : shiftL (l ++ [t]) (k1 ++ [a]) (k2 ++ [b]) = if a = b then shiftL l k1 k2 else shiftL l k1 k2 ++ [(t,a,b)]:=by
 unfold shiftL
 rw [List.zip_append (by omega),List.zip_append (by rw [List.length_zip];omega),List.filter_append]
 by_cases hk : a = b <;> simp [hk]
theorem shiftL_le (l : List (List UInt8)) (k1 k2 : List Int) : (shiftL l k1 k2).length ≤ l.length:=Nat.le_trans (List.length_filter_le _ _) (by rw [List.length_zip];omega)
def bothV (h1 h2 : List (Int × FR)) : List (List UInt8):=compact (sortB ((wholesV h1 ++ wholesV h2).map ofBytes))
def CompareRel (h1 h2 : List (Int × FR)) (bad : Prop) (L1 L2 : ByteArray → Int → Prop) (w : World) (r : Ending) (w' : World) : Prop:=
 Ext w w' ∧ ((bad ∧ r = .returned (.tuple #[.slice none 0 0,.int .i64 113])) ∨ ((tooMany h1 = true ∨ tooMany h2 = true) ∧ r = .returned (.tuple #[.slice none 0 0,.int .i64 5])) ∨
  (tooMany h1 = false ∧ tooMany h2 = false ∧ ∃ v k1 k2,r = .returned (.tuple #[v,.int .i64 0]) ∧ KsOk L1 (bothV h1 h2) k1 ∧ KsOk L2 (bothV h1 h2) k2 ∧ w'.ownsRow w.heap.size 84 3 v (shiftL (bothV h1 h2) k1 k2).length ((shiftL (bothV h1 h2) k1 k2).flatMap shiftCells)))
set_option maxHeartbeats 8000000 in
set_option maxRecDepth 100000 in
theorem compare_any {B : Nat} {w : World} {rb : Nat} {R : Rec} {cm : Nat} {vv fv : Value} {os : List (Option Nat × Option Nat)} {xs : List (List Value)} (h : RecAt B w rb R cm vv fv os xs) (hg : Glob w) {i1 i2 : Nat} {ver1 ver2 : Ver} (hv1 : R.vers[i1]? = some ver1) (hv2 : R.vers[i2]? = some ver2)
  (x0 : Int) (x1 : ByteArray) (p2 : Option Addr) (n2 c2 : Nat) (x3 x4 : Int) (p5 : Option Addr) (n5 c5 : Nat) (p6 : Option Addr) (n6 c6 : Nat) (S : Nat → World → Prop) (hS : ∀ sb W W',S sb W → Ext W W' → S sb W') (bad : Prop) (L1 L2 : ByteArray → Int → Prop)
  (hread : ∀ W,Ext w W → Calls Tryz.prog 47 #[encP rb,.agg #[.int .u8 x0,.string x1,.slice p2 n2 c2,.int .i64 x3,.int .i64 x4,.slice p5 n5 c5,.slice p6 n6 c6]] W (ReadRel S bad W))
  (hlike1 : ∀ (W : World) (sb B2 vb : Nat) (sv : Value) (mp mk mf md : Nat) (lp : List (ByteArray × Value)) (lk lf ld : List ((ByteArray × Nat) × Value)) (t : ByteArray),Ext w W → S sb W → ViewAt B2 W vb (heldF R ver1) sv mp mk mf md lp lk lf ld →
   Calls Tryz.prog 49 #[.pointer (some ⟨vb,0,none⟩),.string t,.pointer (some ⟨sb,0,none⟩)] W fun e w'=>∃ k,e = .returned (.int .u8 k) ∧ (L1 t k ∧ 1 ≤ k ∧ k ≤ 3) ∧ Ext W w')
  (hlike2 : ∀ (W : World) (sb B2 vb : Nat) (sv : Value) (mp mk mf md : Nat) (lp : List (ByteArray × Value)) (lk lf ld : List ((ByteArray × Nat) × Value)) (t : ByteArray),Ext w W → S sb W → ViewAt B2 W vb (heldF R ver2) sv mp mk mf md lp lk lf ld →
   Calls Tryz.prog 49 #[.pointer (some ⟨vb,0,none⟩),.string t,.pointer (some ⟨sb,0,none⟩)] W fun e w'=>∃ k,e = .returned (.int .u8 k) ∧ (L2 t k ∧ 1 ≤ k ∧ k ≤ 3) ∧ Ext W w') :
  Calls Tryz.prog 25 #[encP rb,.int .i64 (i1 : Int),.int .i64 (i2 : Int),.agg #[.int .u8 x0,.string x1,.slice p2 n2 c2,.int .i64 x3,.int .i64 x4,.slice p5 n5 c5,.slice p6 n6 c6]] w fun r w'=>CompareRel (heldF R ver1) (heldF R ver2) bad L1 L2 w r w':=by
 have hsl1:=subsV_len _ (held_len h.ok (List.mem_of_getElem? hv1))
 have hsl2:=subsV_len _ (held_len h.ok (List.mem_of_getElem? hv2))
 have hwl1 : (wholesV (heldF R ver1)).length ≤ 600:=Nat.le_trans (List.length_filter_le _ _) hsl1
 have hwl2 : (wholesV (heldF R ver2)).length ≤ 600:=Nat.le_trans (List.length_filter_le _ _) hsl2
 obtain ⟨vp,vc,rfl⟩:=owns_form h.vers
 obtain ⟨W1,hW1⟩ : ∃ W1,W1 = w.alloc (.cells #[.int .u8 x0,.string x1,.slice p2 n2 c2,.int .i64 x3,.int .i64 x4,.slice p5 n5 c5,.slice p6 n6 c6] 31 (0,0)):=⟨_,rfl⟩
 have hx1 : Ext w W1:=by rw [hW1];exact bel
 have hb1 : W1.heap[w.heap.size]? = some (.cells #[.int .u8 x0,.string x1,.slice p2 n2 c2,.int .i64 x3,.int .i64 x4,.slice p5 n5 c5,.slice p6 n6 c6] 31 (0,0)):=by rw [hW1];simp only [heap_drawn_get,heap_drew_get,heap_setCell_get,heap_alloc_get,World.size_alloc,World.size_setCell,size_drawn,putObj_get,putObj_size];(repeat (first | rw [if_pos trivial] | rw [if_pos rfl] | rw [if_neg (by omega)] | rw [if_pos (by omega)]))
 have hr1 : W1.cell? ⟨rb,1,none⟩ = some (.slice vp R.vers.length vc):=hx1.cell' (cell_of h.blk 1)
 have hck1:=checkVersion_any rb vp R.vers.length vc (i1 : Int) W1 hr1
 have hck2:=checkVersion_any rb vp R.vers.length vc (i2 : Int) W1 hr1
 have hi1 : i1 < R.vers.length:=(List.getElem?_eq_some_iff.1 hv1).1
 have hi2 : i2 < R.vers.length:=(List.getElem?_eq_some_iff.1 hv2).1
 rw [show (if decide (0 ≤ (i1 : Int)) && decide ((i1 : Int) < (R.vers.length : Int)) then (0 : Int) else 110) = 0 by simp [hi1]] at hck1
 rw [show (if decide (0 ≤ (i2 : Int)) && decide ((i2 : Int) < (R.vers.length : Int)) then (0 : Int) else 110) = 0 by simp [hi2]] at hck2
 have hrd:=hread W1 hx1
 have d0:=cell_of hb1 0
 have d1:=cell_of hb1 1
 have d2:=cell_of hb1 2
 have d3:=cell_of hb1 3
 have d4:=cell_of hb1 4
 have d5:=cell_of hb1 5
 have d6:=cell_of hb1 6
 have HCK1:=Lib.hid hck1
 have HCK2:=Lib.hid hck2
 have HRD:=Lib.hid hrd
 have HREC:=Lib.hid h
 have HGLB:=Lib.hid hg
 have HVR1:=Lib.hid hv1
 have HVR2:=Lib.hid hv2
 have HS:=Lib.hid hS
 have HLIKE1:=Lib.hid hlike1
 have HLIKE2:=Lib.hid hlike2
 have HX1:=Lib.hid hx1
 have HSL:=Lib.hid (And.intro hsl1 hsl2)
 obtain ⟨f1,hf1⟩ : ∃ hf,heldF R ver1 = hf:=⟨_,rfl⟩
 obtain ⟨f2,hf2⟩ : ∃ hf,heldF R ver2 = hf:=⟨_,rfl⟩
 rw [hf1] at HLIKE1 HSL hwl1 ⊢
 rw [hf2] at HLIKE2 HSL hwl2 ⊢
 have HHF1:=Lib.hid hf1
 have HHF2:=Lib.hid hf2
 clear hck1 hck2 hrd h hg hv1 hv2 hS hlike1 hlike2 hx1 hb1 hr1 hread hsl1 hsl2 hf1 hf2 hi1 hi2
 unfold encP at *
 go_enter Tryz.func25,Tryz.ntmps25
 go_upto_region 1 with fail
 rw [← hW1]
 clear hW1
 go_wp2_with fail
 refine HCK1.out.mono ?_
 rintro e w1 ⟨rfl,rfl⟩
 go_wp2_with fail
 refine HCK2.out.mono ?_
 rintro e w1 ⟨rfl,rfl⟩
 go_wp2_with fail
 refine HRD.out.mono ?_
 rintro e w2 ⟨hx2,⟨hbad,rfl⟩ | ⟨sb,rfl,hsb⟩⟩
 ·go_wp2_with fail
  refine bodyPost_ret (v:=.tuple #[.slice none 0 0,.int .i64 113]) (by simp [results,Tryz.results25,go_sem]) rfl ?_
  exact ⟨HX1.out.trans' hx2,.inl ⟨hbad,rfl⟩⟩
 have HX2:=Lib.hid (HX1.out.trans' hx2)
 have HSB:=Lib.hid hsb
 have hlook:=look_any (HREC.out.ext HX2.out) (HGLB.out.ext HX2.out) HVR1.out
 unfold encP at hlook
 rw [HHF1.out] at hlook
 have HLOOK:=Lib.hid hlook
 clear hx2 hsb hlook d0 d1 d2 d3 d4 d5 d6
 go_wp2_with fail
 refine HLOOK.out.mono ?_
 rintro e w3 ⟨vb,sv,mp,mk,mf,md,lp,lk,lf,ld,rfl,hV,hx3⟩
 have HX3:=Lib.hid (HX2.out.trans' hx3)
 have HV1:=Lib.hid hV
 have HSB3:=Lib.hid (HS.out sb w2 w3 HSB.out hx3)
 have hlook:=look_any (HREC.out.ext HX3.out) (HGLB.out.ext HX3.out) HVR2.out
 unfold encP at hlook
 rw [HHF2.out] at hlook
 have HLOOK2:=Lib.hid hlook
 clear hV hx3 hlook
 go_wp2_with fail
 refine HLOOK2.out.mono ?_
 rintro e w4 ⟨vb2,sv2,mp2,mk2,mf2,md2,lp2,lk2,lf2,ld2,rfl,hV,hx4⟩
 have HX4:=Lib.hid (HX3.out.trans' hx4)
 have HV2:=Lib.hid hV
 have HV14:=Lib.hid (HV1.out.ext hx4)
 have HSB4:=Lib.hid (HS.out sb w3 w4 HSB3.out hx4)
 have HWH1:=Lib.hid (wholes_any HV14.out (by have:=HSL.out;omega))
 clear hV hx4
 go_wp2_with fail
 refine HWH1.out.mono ?_
 rintro e w5 ⟨ho1,hx5⟩
 have HWH2:=Lib.hid (wholes_any (HV2.out.ext hx5) (by have:=HSL.out;omega))
 have HX5:=Lib.hid hx5
 clear hx5
 rcases ho1 with ⟨hto1,rfl⟩ | ⟨hto1,v1,rfl,hrow1⟩
 ·have HTO:=Lib.hid hto1
  clear hto1
  go_wp2_with fail
  refine HWH2.out.mono ?_
  rintro e w6 ⟨ho2,hx6⟩
  have HX6:=Lib.hid ((HX4.out.trans' HX5.out).trans' hx6)
  clear hx6
  rcases ho2 with ⟨hto2,rfl⟩ | ⟨hto2,v2,rfl,hrow2⟩
  ·go_wp2_with fail
   refine bodyPost_ret (v:=.tuple #[.slice none 0 0,.int .i64 5]) (by simp [results,Tryz.results25,go_sem]) rfl ?_
   exact ⟨HX6.out,.inr (.inl ⟨.inl HTO.out,rfl⟩)⟩
  ·clear hrow2 hto2
   go_wp2_with fail
   refine bodyPost_ret (v:=.tuple #[.slice none 0 0,.int .i64 5]) (by simp [results,Tryz.results25,go_sem]) rfl ?_
   exact ⟨HX6.out,.inr (.inl ⟨.inl HTO.out,rfl⟩)⟩
 ·have HTO:=Lib.hid hto1
  have HROW1:=Lib.hid hrow1
  clear hto1 hrow1
  go_wp2_with fail
  refine HWH2.out.mono ?_
  rintro e w6 ⟨ho2,hx6⟩
  have HX6:=Lib.hid hx6
  rcases ho2 with ⟨hto2,rfl⟩ | ⟨hto2,v2,rfl,hrow2⟩
  ·have HTO2:=Lib.hid hto2
   clear hto2 hx6
   go_wp2_with fail
   refine bodyPost_ret (v:=.tuple #[.slice none 0 0,.int .i64 5]) (by simp [results,Tryz.results25,go_sem]) rfl ?_
   exact ⟨(HX4.out.trans' HX5.out).trans' HX6.out,.inr (.inl ⟨.inr HTO2.out,rfl⟩)⟩
  ·have HTO2:=Lib.hid hto2
   have hrow16:=owns_keep HROW1.out fun g cs _ hgg=>hx6.block g (heap_lt hgg)
   obtain ⟨v3,w7,happ,hrow3,hg7⟩:=append_owned hrow16 hrow2 (fun u hu=>by obtain ⟨t,_,rfl⟩:=List.mem_map.1 hu;rfl) (by omega) (HX5.out.trans' hx6).size
   have hx7 : Ext w4 w7:=(HX5.out.trans' hx6).grown hg7 (HX5.out.trans' hx6).size fun k hk=>(owns_block hrow16 hk).1
   obtain ⟨l,hl⟩ : ∃ l,(wholesV f1 ++ wholesV f2).map ofBytes = l:=⟨_,rfl⟩
   have hll : l.length = (wholesV f1).length + (wholesV f2).length:=by rw [← hl,List.length_map,List.length_append]
   have hrow4 : w7.ownsRow w4.heap.size 9 1 v3 l.length (l.map Value.string):=by
    rw [hll,← hl,List.map_map]
    have e : (wholesV f1).map encStr ++ (wholesV f2).map encStr = (wholesV f1 ++ wholesV f2).map (Value.string ∘ ofBytes):=by
     rw [← List.map_append];rfl
    rw [← e]
    exact hrow3
   have HSO:=Lib.hid (sortS_any w4.heap.size v3 l w7 hrow4 (by omega))
   have HAPP:=Lib.hid happ
   have HX7:=Lib.hid hx7
   have HL:=Lib.hid hl
   have HROW4:=Lib.hid hrow4
   clear hto2 hx6 hrow16 happ hrow3 hg7 hx7 hl hrow4 hrow2
   go_wp2_with (at_builtin;refine wpList_append_run rfl _ _ 26 rfl rfl rfl HAPP.out ?_)
   refine HSO.out.mono ?_
   rintro e w8 ⟨rfl,hg8,hrow8⟩
   have hx8 : Ext w4 w8:=HX7.out.grown hg8 HX7.out.size fun k hk=>(owns_block HROW4.out hk).1
   have hsbl : (sortB l).length = l.length:=by unfold sortB;rw [List.length_mergeSort,List.length_map]
   rw [← hsbl] at hrow8
   have HCO:=Lib.hid (compactS_any w4.heap.size v3 (sortB l) w8 hrow8 (by omega))
   have HROW8:=Lib.hid hrow8
   have HX8:=Lib.hid hx8
   have HSBL:=Lib.hid hsbl
   clear hg8 hrow8 hx8 hsbl HSO
   go_wp2_with fail
   refine HCO.out.mono ?_
   rintro e w9 ⟨v9,rfl,_,hg9,hrow9⟩
   have hx9 : Ext w4 w9:=HX8.out.grown hg9 HX8.out.size fun k hk=>(owns_block HROW8.out hk).1
   obtain ⟨zs,hzs⟩ : ∃ zs,compact (sortB l) = zs:=⟨_,rfl⟩
   rw [hzs] at hrow9
   have hzl : zs.length ≤ 1200:=by
    have h1:=compact_le (sortB l)
    rw [hzs,HSBL.out] at h1
    omega
   have HBV : Hid (bothV f1 f2 = zs):=by unfold Hid bothV;rw [HL.out,hzs]
   obtain ⟨lp',lc',rfl⟩:=owns_form hrow9
   obtain ⟨_,_,hze,_,_,_,hel⟩:=SlAt.of_owns hrow9
   simp only [Value.slice.injEq,true_and] at hze
   obtain ⟨rfl,rfl⟩:=hze
   have HEL:=Lib.hid hel
   have HX9:=Lib.hid (HX4.out.trans' hx9)
   have HSB9:=Lib.hid (HS.out sb w4 w9 HSB4.out hx9)
   have HV19:=Lib.hid (HV14.out.ext hx9)
   have HV29:=Lib.hid (HV2.out.ext hx9)
   clear hg9 hrow9 hx9 hzs hel HCO
   go_wp2_with fail
   go_loopw [19,75] (fun v i wr=>∃ (j : Nat) (k1 k2 : List Int),j ≤ zs.length ∧ i = .int .i64 j ∧ Ext w9 wr ∧ KsOk L1 (zs.take j) k1 ∧ KsOk L2 (zs.take j) k2 ∧ wr.ownsRow w9.heap.size 84 3 v (shiftL (zs.take j) k1 k2).length ((shiftL (zs.take j) k1 k2).flatMap shiftCells)) (fun _ i _=>zs.length - (intOf i).toNat)
   case atStart=>exact ⟨0,[],[],Nat.zero_le _,rfl,ext_refl _,⟨rfl,fun i t k h=>by simp at h⟩,⟨rfl,fun i t k h=>by simp at h⟩,World.ownsRow_nil _ _ _ _⟩
   case round=>
    obtain ⟨j,k1,k2,hj,rfl,hx,hk1,hk2,hrow⟩:=hrel
    have HXR:=Lib.hid hx
    have HXW:=Lib.hid (HX9.out.trans' hx)
    have HK1:=Lib.hid hk1
    have HK2:=Lib.hid hk2
    obtain ⟨op,oc,rfl⟩:=owns_form hrow
    have HROW:=Lib.hid hrow
    by_cases hlt : j < zs.length
    ·obtain ⟨t,ht⟩ : ∃ t,zs[j]? = some t:=⟨_,List.getElem?_eq_getElem hlt⟩
     obtain ⟨tb,toff,rfl,hct0⟩:=HEL.out j (encStr t) (by rw [List.getElem?_map,ht];rfl)
     have hct:=hx.cell' hct0
     rw [show encStr t = .string (ofBytes t) from rfl] at hct
     have htk : zs.take (j + 1) = zs.take j ++ [t]:=by rw [List.take_add_one,ht];rfl
     have hcall:=HLIKE1.out wr sb _ vb sv mp mk mf md lp lk lf ld (ofBytes t) HXW.out (HS.out sb w9 wr HSB9.out hx) (HV19.out.ext hx)
     obtain ⟨s,hs⟩ : ∃ s,ofBytes t = s:=⟨_,rfl⟩
     rw [hs] at hct hcall
     have hle : (shiftL (zs.take j) k1 k2).length ≤ 1200:=by
      have h1:=shiftL_le (zs.take j) k1 k2
      rw [List.length_take] at h1
      omega
     have HTK:=Lib.hid htk
     have HSE:=Lib.hid hs
     have HCALL:=Lib.hid hcall
     clear htk hs hcall hx hk1 hk2 hrow hct0 ht
     go_wp2_with fail
     refine HCALL.out.mono ?_
     rintro e wa ⟨a,rfl,ha,hxa⟩
     have HA:=Lib.hid ha
     have HXA:=Lib.hid (HXR.out.trans' hxa)
     have HXA0:=Lib.hid hxa
     have HCALL2:=Lib.hid (HLIKE2.out wa sb _ vb2 sv2 mp2 mk2 mf2 md2 lp2 lk2 lf2 ld2 s (HXW.out.trans' hxa) (HS.out sb w9 wa HSB9.out (HXR.out.trans' hxa)) (HV29.out.ext (HXR.out.trans' hxa)))
     clear ha hxa hct
     go_wp2_with fail
     refine HCALL2.out.mono ?_
     rintro e wb ⟨b,rfl,hb,hxb⟩
     have hms:=shiftL_snoc (zs.take j) t k1 k2 a b HK1.out.1 HK2.out.1
     rw [← HTK.out] at hms
     have HKA : Hid (KsOk L1 (zs.take (j + 1)) (k1 ++ [a])):=by
      unfold Hid
      rw [HTK.out]
      exact HK1.out.snoc (by rw [HSE.out];exact HA.out)
     have HKB : Hid (KsOk L2 (zs.take (j + 1)) (k2 ++ [b])):=by
      unfold Hid
      rw [HTK.out]
      exact HK2.out.snoc (by rw [HSE.out];exact hb)
     have HMS:=Lib.hid hms
     have HX5':=Lib.hid (HXA.out.trans' hxb)
     have HROW5:=Lib.hid (owns_keep HROW.out fun g cs _ hgg=>(HXA0.out.trans' hxb).block g (heap_lt hgg))
     have hsz5:=(HXA.out.trans' hxb).size
     clear hms hb hxb
     by_cases hab : a = b
     ·have habn : (a != b) = false:=by rw [hab];simp
      have h2:=HMS.out
      rw [if_pos hab] at h2
      have HMS2:=Lib.hid h2
      clear h2 hab
      go_wp2_with fail
      refine ⟨⟨j + 1,k1 ++ [a],k2 ++ [b],by omega,rfl,HX5'.out,HKA.out,HKB.out,?_⟩,by simp [intOf];omega⟩
      rw [HMS2.out];exact HROW5.out
     ·have habn : (a != b) = true:=by rw [bne_iff_ne];exact hab
      have h2:=HMS.out
      rw [if_neg hab] at h2
      have HMS2:=Lib.hid h2
      obtain ⟨W9,hW9⟩ : ∃ W9,W9 = wb.alloc (.cells #[.string s,.int .u8 a,.int .u8 b] 84 (0,0)):=⟨_,rfl⟩
      have hx9 : Ext wb W9:=by rw [hW9];exact bel
      have hb9 : W9.heap[wb.heap.size]? = some (.cells #[.string s,.int .u8 a,.int .u8 b] 84 (0,0)):=by rw [hW9];simp only [heap_drawn_get,heap_drew_get,heap_setCell_get,heap_alloc_get,World.size_alloc,World.size_setCell,size_drawn,putObj_get,putObj_size];(repeat (first | rw [if_pos trivial] | rw [if_pos rfl] | rw [if_neg (by omega)] | rw [if_pos (by omega)]))
      have hrow9:=owns_keep HROW5.out fun g cs _ hgg=>hx9.block g (heap_lt hgg)
      obtain ⟨v',w10,happ,hrow',hgrow⟩:=append_shift (row:=[.string s,.int .u8 a,.int .u8 b]) hrow9 wb.heap.size 1 rfl (fun k u hj=>by rw [Nat.zero_add,cell_of hb9 k,List.getElem?_toArray];exact hj) (fun u hu=>by simp at hu;rcases hu with rfl | rfl | rfl <;> rfl) (by omega) (Nat.le_trans hsz5 hx9.size) 1
      have hx10 : Ext w9 w10:=(HX5'.out.trans' hx9).grown hgrow (Nat.le_trans HX5'.out.size hx9.size) fun k hk=>(owns_block hrow9 hk).1
      rw [hW9] at happ
      have HAPP:=Lib.hid happ
      have HX10:=Lib.hid hx10
      have HROW':=Lib.hid hrow'
      clear hW9 hx9 hb9 hrow9 happ hrow' hgrow hx10 h2 hab
      go_wp2_with (at_builtin;refine wpList_append_run rfl _ _ 80 rfl rfl rfl HAPP.out ?_)
      refine ⟨⟨j + 1,k1 ++ [a],k2 ++ [b],by omega,rfl,HX10.out,HKA.out,HKB.out,?_⟩,by simp [intOf];omega⟩
      rw [HMS2.out,List.length_append,List.flatMap_append,List.flatMap_cons,List.flatMap_nil,List.append_nil,show shiftCells (t,a,b) = [.string s,.int .u8 a,.int .u8 b] from congrArg (fun z=>[Value.string z,.int .u8 a,.int .u8 b]) HSE.out]
      exact HROW'.out
    ·have hje : j = zs.length:=by omega
     have hji : ¬ ((j : Int) < (zs.length : Int)):=by omega
     have hta : zs.take j = zs:=by rw [hje];exact List.take_length
     have HTA:=Lib.hid hta
     clear hx hk1 hk2 hrow hta hje
     go_wp2_with fail
     refine bodyPost_ret (v:=.tuple #[.slice op (shiftL (zs.take j) k1 k2).length oc,.int .i64 0]) (by simp [results,Tryz.results25,go_sem]) rfl ?_
     refine ⟨HXW.out,.inr (.inr ⟨HTO.out,HTO2.out,_,k1,k2,rfl,?_,?_,?_⟩)⟩
     ·rw [HBV.out,← HTA.out];exact HK1.out
     ·rw [HBV.out,← HTA.out];exact HK2.out
     ·rw [HBV.out]
      have h1:=owns_low HROW.out HX9.out.size
      rw [HTA.out] at h1 ⊢
      exact h1
end Go.Proofs.YtihfcjioilmmjaaGreat
namespace Go.Proofs.YtihfcjioilmmjaaGreat
open Go Go.RowKit
open Go.Lib Go.Sort Go.Maps Go.Shelf Go.Proofs
def LikeN (R : Rec) (hf : List (Int × FR)) (own : Exp) (parts : List Exp) (s : ByteArray) (k : Int) : Prop:=∃ q qs,ReadOk R own parts q qs ∧ LikeS R hf q qs s k
theorem partsV_len (hf : List (Int × FR)) (h : hf.length ≤ 300) (s : ByteArray) : (partsV hf s).length ≤ 600:=Nat.le_trans (List.length_filter_le _ _) (subsV_len hf h)
theorem ReadOk.ask {R : Rec} {own : Exp} {parts : List Exp} {q : Qn} {qs : List Qn} (h : ReadOk R own parts q qs) : q.size ≤ 30 ∧ (∀ x ∈ qs,∃ e,askF R e = some x ∧ x.size ≤ 30) ∧ qs.length ≤ 3:=by
 obtain ⟨h1,h2,h3,h4,_⟩:=h
 have hl : qs.length = parts.length:=by have:=congrArg List.length h2;simpa using this.symm
 refine ⟨by omega,fun x hx=>?_,by omega⟩
 have hxs : some x ∈ qs.map some:=List.mem_map.2 ⟨x,hx,rfl⟩
 rw [← h2] at hxs
 obtain ⟨e,_,he⟩:=List.mem_map.1 hxs
 have hle : ∀ (l : List Qn),x ∈ l → x.size ≤ (l.map (·.size)).sum:=by
  intro l
  induction l with
  | nil=>intro h;cases h
  | cons y r ih=>
   intro h
   rw [List.map_cons,List.sum_cons]
   rcases List.mem_cons.1 h with rfl | h
   ·omega
   ·have:=ih h;omega
 exact ⟨e,he,by have:=hle qs hx;omega⟩
theorem likeN_any {B : Nat} {w : World} {rb : Nat} {R : Rec} {cm : Nat} {vv fv : Value} {os : List (Option Nat × Option Nat)} {xs : List (List Value)} (h : RecAt B w rb R cm vv fv os xs) {ver : Ver} (hvm : ver ∈ R.vers) {own : Exp} {parts : List Exp} {W : World} (hx : Ext w W) {sb : Nat} (hs : SrchN R own parts sb W)
  {B2 vb : Nat} {sv : Value} {mp mk mf md : Nat} {lp : List (ByteArray × Value)} {lk lf ld : List ((ByteArray × Nat) × Value)} (hV : ViewAt B2 W vb (heldF R ver) sv mp mk mf md lp lk lf ld) (s : ByteArray) :
  Calls Tryz.prog 49 #[.pointer (some ⟨vb,0,none⟩),.string s,.pointer (some ⟨sb,0,none⟩)] W fun e w'=>∃ k,e = .returned (.int .u8 k) ∧ (LikeN R (heldF R ver) own parts s k ∧ 1 ≤ k ∧ k ≤ 3) ∧ Ext W w':=by
 obtain ⟨q,qs,qb,qbs,pv,b,hok,hsb,hpv,hlen,⟨lo,hi,tv,mb,lm,hq⟩,hqs⟩:=hs
 obtain ⟨h30,hask,hq3⟩:=hok.ask
 have hm:=fun (y : Int × FR) (hy : y ∈ heldF R ver)=>heldF_mem h.ok hvm hy
 have hfc : ∀ y ∈ heldF R ver,(y.2.attr,y.2.col) ∈ R.cols:=fun y hy=>(h.ok.fact _ (hm y hy)).1
 have hfb : ∀ y ∈ heldF R ver,y.2.st.bits < 256:=fun y hy=>(h.ok.fact _ (hm y hy)).2.2.2.1
 have hfull:=full_of h.ok (cols_nodup h) hfc
 obtain ⟨pa,pc,rfl⟩:=owns_form hpv
 obtain ⟨lpa,lpc,hlp1,hlp2⟩:=hV.partLook s
 refine (like_walk W vb sb qb mp s pa qbs.length pc hlen.symm hq3 (cell_of hV.view 1) (cell_of hsb 0) (cell_of hsb 1) lpa lpc (SlAt.of_owns hlp1) (Nat.le_trans (partsV_len _ (held_len h.ok hvm) s) (by omega)) hlp2 ?_ ?_ (q:=q) (qs:=qs) (hf:=heldF R ver) (R:=R)).mono ?_
 ·intro W' hx' t
  refine outcomes_set (h.ext (hx.trans' hx')) (hV.ext hx') hfc hfb hfull (qbs:=qbs) (QsAt.ext ⟨SlAt.of_owns hpv,by rw [List.length_map];exact hlen.symm,fun i qb' φ h1 h2=>?_⟩ hx') (by omega) (fun i qb' q' h1 h2=>?_) hask t
  ·rw [List.getElem?_map] at h2
   cases hqi : qs[i]? with
   | none=>rw [hqi] at h2;cases h2
   | some q'=>
    rw [hqi] at h2
    obtain rfl:=Option.some.inj h2
    obtain ⟨lo',hi',tv',mb',lm',hq'⟩:=hqs i qb' q' h1 hqi
    exact ⟨tv',lo',hi',cell_of hq'.blk 0,hq'.hiW,hq'.test⟩
  ·obtain ⟨lo',hi',tv',mb',lm',hq'⟩:=hqs i qb' q' h1 h2
   exact ⟨_,_,_,_,_,hq'.ext hx'⟩
 ·intro W' hx' g hg
  refine outcomes_set (h.ext (hx.trans' hx')) (hV.ext hx') hfc hfb hfull (qbs:=[qb]) (qs:=[q]) ⟨sl_one hg,rfl,fun i qb' φ h1 h2=>?_⟩ (by simp) (fun i qb' q' h1 h2=>?_) (fun x hxm=>by rw [List.mem_singleton.1 hxm];exact ⟨own,hok.1,h30⟩) s
  ·match i,h1,h2 with
   | 0,h1,h2=>
    obtain rfl:=Option.some.inj h1
    obtain rfl:=Option.some.inj h2
    exact ⟨tv,lo,hi,cell_of (hq.ext hx').blk 0,(hq.ext hx').hiW,(hq.ext hx').test⟩
   | i + 1,h1,_=>simp at h1
  ·match i,h1,h2 with
   | 0,h1,h2=>
    obtain rfl:=Option.some.inj h1
    obtain rfl:=Option.some.inj h2
    exact ⟨_,_,_,_,_,hq.ext hx'⟩
   | i + 1,h1,_=>simp at h1
 ·rintro e w' ⟨k,rfl,hl,hx'⟩
  exact ⟨k,rfl,⟨⟨q,qs,hok,hl⟩,by have:=hl.2.2;omega,by have:=hl.2.2;omega⟩,hx'⟩
theorem likesN_any {B : Nat} {w : World} {rb : Nat} {R : Rec} {cm : Nat} {vv fv : Value} {os : List (Option Nat × Option Nat)} {xs : List (List Value)} (h : RecAt B w rb R cm vv fv os xs) (hg : Glob w) {iv : Nat} {ver : Ver} (hv : R.vers[iv]? = some ver) (s : ByteArray) (hs : s.size ≤ maxLen) {x0 : Int} {x1 : ByteArray} {p2 : Option Addr} {n2 c2 : Nat} {x3 x4 : Int} {p5 : Option Addr} {n5 c5 : Nat} {own : Exp} (he : ExpAt w [.int .u8 x0,.string x1,.slice p2 n2 c2,.int .i64 x3,.int .i64 x4,.slice p5 n5 c5] own) (hn : own.nodes ≤ 1000) {p6 : Option Addr} {c6 : Nat} {parts : List Exp} (hps : ExpsAt w (.slice p6 parts.length c6) parts) (hpn : ∀ x ∈ parts,x.nodes ≤ 1000) :
  Calls Tryz.prog 17 #[encP rb,.int .i64 (iv : Int),.string s,.agg #[.int .u8 x0,.string x1,.slice p2 n2 c2,.int .i64 x3,.int .i64 x4,.slice p5 n5 c5,.slice p6 parts.length c6]] w fun r w'=>LikeRel (heldF R ver) s (¬ ∃ q qs,ReadOk R own parts q qs) (LikeN R (heldF R ver) own parts) w r w':=
 like_any h hg hv s hs x0 x1 p2 n2 c2 x3 x4 p5 n5 c5 p6 _ c6 (SrchN R own parts) (fun _ _ _ h hx=>h.ext hx) _ _ (fun W hx=>(recRead_any (h.ext hx) (he.ext hx) hn (hps.ext hx) hpn).mono fun _ _ h=>read_rel h) fun _ _ _ _ _ _ _ _ _ _ _ _ _ hx hs hV _ _=>likeN_any h (List.mem_of_getElem? hv) hx hs hV s
theorem compareN_any {B : Nat} {w : World} {rb : Nat} {R : Rec} {cm : Nat} {vv fv : Value} {os : List (Option Nat × Option Nat)} {xs : List (List Value)} (h : RecAt B w rb R cm vv fv os xs) (hg : Glob w) {i1 i2 : Nat} {ver1 ver2 : Ver} (hv1 : R.vers[i1]? = some ver1) (hv2 : R.vers[i2]? = some ver2) {x0 : Int} {x1 : ByteArray} {p2 : Option Addr} {n2 c2 : Nat} {x3 x4 : Int} {p5 : Option Addr} {n5 c5 : Nat} {own : Exp} (he : ExpAt w [.int .u8 x0,.string x1,.slice p2 n2 c2,.int .i64 x3,.int .i64 x4,.slice p5 n5 c5] own) (hn : own.nodes ≤ 1000) {p6 : Option Addr} {c6 : Nat} {parts : List Exp} (hps : ExpsAt w (.slice p6 parts.length c6) parts) (hpn : ∀ x ∈ parts,x.nodes ≤ 1000) :
  Calls Tryz.prog 25 #[encP rb,.int .i64 (i1 : Int),.int .i64 (i2 : Int),.agg #[.int .u8 x0,.string x1,.slice p2 n2 c2,.int .i64 x3,.int .i64 x4,.slice p5 n5 c5,.slice p6 parts.length c6]] w fun r w'=>CompareRel (heldF R ver1) (heldF R ver2) (¬ ∃ q qs,ReadOk R own parts q qs) (LikeN R (heldF R ver1) own parts) (LikeN R (heldF R ver2) own parts) w r w':=
 compare_any h hg hv1 hv2 x0 x1 p2 n2 c2 x3 x4 p5 n5 c5 p6 _ c6 (SrchN R own parts) (fun _ _ _ h hx=>h.ext hx) _ _ _ (fun W hx=>(recRead_any (h.ext hx) (he.ext hx) hn (hps.ext hx) hpn).mono fun _ _ h=>read_rel h)
  (fun _ _ _ _ _ _ _ _ _ _ _ _ _ t hx hs hV=>likeN_any h (List.mem_of_getElem? hv1) hx hs hV t) fun _ _ _ _ _ _ _ _ _ _ _ _ _ t hx hs hV=>likeN_any h (List.mem_of_getElem? hv2) hx hs hV t
end Go.Proofs.YtihfcjioilmmjaaGreat
namespace Go.Proofs.YtihfcjioilmmjaaGreat
open Go Go.RowKit
open Go.Lib Go.Proofs
end Go.Proofs.YtihfcjioilmmjaaGreat
namespace Go.Proofs.YtihfcjioilmmjaaGreat
open Go Go.RowKit
open Go.Lib Go.Proofs
def ParsAt (w : World) (v : Value) (P : List (List Int)) : Prop:=∃ vs : List Value,vs.length = P.length ∧ SlAt w v 1 P.length vs ∧ ∀ (i : Nat) u ps,vs[i]? = some u → P[i]? = some ps → IntsAt w u ps
theorem ParsAt.ext {w w' : World} {v : Value} {P : List (List Int)} (h : ParsAt w v P) (hx : Ext w w') : ParsAt w' v P:=
 let ⟨vs,h1,h2,h3⟩:=h;⟨vs,h1,h2.ext hx,fun i u ps hu hp=>(h3 i u ps hu hp).ext hx⟩
structure MkSt (w : World) (n : Nat) (Rel : Nat → Prop) (ms : List Bool) (wr : World) : Prop where
 ext : Ext w wr
 row : wr.heap[w.heap.size]? = some (.cells (ms.map Value.bool).toArray 4 (0,0))
 len : ms.length = n
 rel : ∀ i,ms[i]? = some true → Rel i
theorem MkSt.set {w : World} {n : Nat} {Rel : Nat → Prop} {ms : List Bool} {wr : World} (h : MkSt w n Rel ms wr) {q : Nat} (hq : Rel q) : MkSt w n Rel (ms.set q true) (wr.setCell ⟨w.heap.size,q,none⟩ (.bool true)):=by
 refine ⟨Below.setCell h.ext (Nat.le_refl _) _,?_,by rw [List.length_set];exact h.len,fun i hi=>?_⟩
 ·rw [heap_setCell_get,if_pos rfl,h.row]
  simp [List.map_set]
 ·rw [List.getElem?_set] at hi
  split at hi
  ·rename_i e;subst e;exact hq
  ·exact h.rel i hi
end Go.Proofs.YtihfcjioilmmjaaGreat
namespace Go.Proofs.YtihfcjioilmmjaaGreat
open Go Go.RowKit
open Go.Lib Go.Proofs
def VSub (u v : Ver) : Prop:=(∀ n,(look u.added n).isSome = true → (look v.added n).isSome = true) ∧ ∀ n,(look u.wd n).isSome = true → (look v.wd n).isSome = true
theorem VSub.trans {u v x : Ver} (h : VSub u v) (k : VSub v x) : VSub u x:=⟨fun n hn=>k.1 n (h.1 n hn),fun n hn=>k.2 n (h.2 n hn)⟩
theorem VSub.refl (v : Ver) : VSub v v:=⟨fun _ h=>h,fun _ h=>h⟩
structure Hist (R : Rec) (P : List (List Int)) : Prop where
 len : P.length = R.vers.length
 sub : ∀ (k : Nat) ver ps p,R.vers[k]? = some ver → P[k]? = some ps → p ∈ ps → ∃ (i : Nat) (vp : Ver),p = (i : Int) ∧ i < k ∧ R.vers[i]? = some vp ∧ VSub vp ver
theorem ComOk.vsub {R : Rec} {ps : List Int} {adds : List Fct} {wds : List Int} {frs : List FR} {la lw : List (Int × Value)} (h : ComOk R ps adds wds frs la lw) {p : Int} (hp : p ∈ ps) : ∃ (i : Nat) (vp : Ver),p = (i : Int) ∧ R.vers[i]? = some vp ∧ VSub vp ⟨la,lw⟩:=by
 obtain ⟨i,vp,rfl,h1,h2⟩:=verOf_has (h.has p hp)
 exact ⟨i,vp,rfl,h1,fun n hn=>(h.added n).2 (.inl ⟨_,hp,vp,h2,hn⟩),fun n hn=>(h.wd n).2 (.inl ⟨_,hp,vp,h2,hn⟩)⟩
theorem Hist.commit {R : Rec} {P : List (List Int)} (hh : Hist R P) {ps : List Int} {adds : List Fct} {wds : List Int} {frs : List FR} {la lw : List (Int × Value)} (h : ComOk R ps adds wds frs la lw) : Hist (commitR R frs la lw) (P ++ [ps]):=by
 refine ⟨by unfold commitR;simp [hh.len],fun k ver ps' p hk hpk hp=>?_⟩
 unfold commitR at hk ⊢
 by_cases hlt : k < R.vers.length
 ·rw [List.getElem?_append_left hlt] at hk
  rw [List.getElem?_append_left (by rw [hh.len];exact hlt)] at hpk
  obtain ⟨i,vp,e,h1,h2,h3⟩:=hh.sub k ver ps' p hk hpk hp
  exact ⟨i,vp,e,h1,by rw [List.getElem?_append_left (by omega)];exact h2,h3⟩
 ·have hk2 : k = R.vers.length:=by
   have:=(List.getElem?_eq_some_iff.1 hk).1
   simp at this
   omega
  subst hk2
  rw [List.getElem?_append_right (Nat.le_refl _),Nat.sub_self] at hk
  rw [List.getElem?_append_right (by rw [hh.len];exact Nat.le_refl _),hh.len,Nat.sub_self] at hpk
  obtain rfl : (⟨la,lw⟩ : Ver) = ver:=by simpa using hk
  obtain rfl : ps = ps':=by simpa using hpk
  obtain ⟨i,vp,e,h1,h2⟩:=h.vsub hp
  have hi:=(List.getElem?_eq_some_iff.1 h1).1
  exact ⟨i,vp,e,hi,by rw [List.getElem?_append_left hi];exact h1,h2⟩
theorem Hist.new (cols : List (Attr × Nat)) : Hist ⟨cols,[⟨[],[]⟩],[]⟩ [[]]:=⟨rfl,fun k ver ps p hk hpk hp=>by
 match k,hpk with
 | 0,hpk=>
  obtain rfl:=Option.some.inj hpk
  cases hp
 | k + 1,hpk=>simp at hpk⟩
end Go.Proofs.YtihfcjioilmmjaaGreat
namespace Go.Proofs.YtihfcjioilmmjaaGreat
open Go Go.RowKit
open Go.Lib Go.Sort Go.Maps Go.Shelf Go.Proofs
def NoWd (R : Rec) : Prop:=∀ v ∈ R.vers,∀ n,(look v.wd n).isSome = false
theorem NoWd.new (cols : List (Attr × Nat)) : NoWd ⟨cols,[⟨[],[]⟩],[]⟩:=fun v hv n=>by
 rw [List.mem_singleton.1 hv];rfl
theorem NoWd.commit {R : Rec} (h : NoWd R) {ps : List Int} {adds : List Fct} {frs : List FR} {la lw : List (Int × Value)} (hc : ComOk R ps adds [] frs la lw) : NoWd (commitR R frs la lw):=fun v hv n=>by
 rcases List.mem_append.1 hv with hv | hv
 ·exact h v hv n
 ·rw [List.mem_singleton.1 hv]
  cases hw : (look lw n).isSome with
  | false=>rfl
  | true=>
   rcases (hc.wd n).1 hw with ⟨p,hp,ver,hver,hl⟩ | hn
   ·obtain ⟨i,ver',rfl,h1,h2⟩:=verOf_has (hc.has p hp)
    rw [hver] at h2
    obtain rfl:=Option.some.inj h2
    rw [h ver (List.mem_of_getElem? h1) n] at hl
    cases hl
   ·cases hn
def numF : Nat → List FR → List (Int × FR)
 | _,[]=>[]
 | k,f :: r=>((k : Int) + 1,f) :: numF (k + 1) r
theorem numF_mem : ∀ (k : Nat) (l : List FR) (n : Int),n ∈ (numF k l).map (·.1) ↔ (k : Int) + 1 ≤ n ∧ n ≤ (k : Int) + l.length
 | k,[],n=>by simp [numF];omega
 | k,f :: r,n=>by
  rw [numF,List.map_cons,List.mem_cons,numF_mem (k + 1) r n,List.length_cons]
  omega
theorem numF_sorted : ∀ (k : Nat) (l : List FR),((numF k l).map (·.1)).Pairwise (· < ·)
 | _,[]=>List.Pairwise.nil
 | k,f :: r=>by
  rw [numF,List.map_cons,List.pairwise_cons]
  refine ⟨fun n hn=>?_,numF_sorted (k + 1) r⟩
  have:=(numF_mem (k + 1) r n).1 hn
  show (k : Int) + 1 < n
  omega
theorem numF_map (g : List FR) : ∀ (k : Nat) (l : List FR),k = g.length → ((numF k l).map (·.1)).map (fun n=>(n,((g ++ l)[(n - 1).toNat]?).getD ⟨⟨#[]⟩,⟨⟨#[]⟩,[],0,0⟩,0,⟨0,0,0⟩⟩)) = numF k l:=by
 have key : ∀ (l g : List FR) (r : List FR),((numF g.length l).map (·.1)).map (fun n=>(n,((g ++ (l ++ r))[(n - 1).toNat]?).getD ⟨⟨#[]⟩,⟨⟨#[]⟩,[],0,0⟩,0,⟨0,0,0⟩⟩)) = numF g.length l:=by
  intro l
  induction l with
  | nil=>intro g r;rfl
  | cons f l ih=>
   intro g r
   rw [numF,List.map_cons,List.map_cons]
   have:=ih (g ++ [f]) r
   rw [List.length_append,List.length_singleton,List.append_assoc] at this
   congr 1
   ·have e : ((g.length : Int) + 1 - 1).toNat = g.length:=by omega
    simp [e]
 intro k l hk
 subst hk
 have:=key l g []
 rw [List.append_nil] at this
 exact this
theorem child_held {R : Rec} {i : Nat} {ver : Ver} {adds : List Fct} {frs : List FR} {la lw : List (Int × Value)} (h : ComOk R [(i : Int)] adds [] frs la lw) (hv : R.vers[i]? = some ver) (hnw : NoWd R) (hok : RecOk R) (hok' : RecOk (commitR R frs la lw)) :
  heldF (commitR R frs la lw) ⟨la,lw⟩ = heldF R ver ++ numF R.facts.length frs:=by
 have hvm : ver ∈ R.vers:=List.mem_of_getElem? hv
 have hkeys:=hok.keys ver hvm
 have hvo : verOf R (i : Int) = some ver:=by
  unfold verOf
  rw [if_pos (by omega),Int.toNat_natCast];exact hv
 have hnw':=hnw.commit h
 have hnew : (⟨la,lw⟩ : Ver) ∈ (commitR R frs la lw).vers:=List.mem_append_right _ (List.mem_singleton_self _)
 have hhold : ∀ n,(⟨la,lw⟩ : Ver).holds n = true ↔ (look ver.added n).isSome = true ∨ ((R.facts.length : Int) + 1 ≤ n ∧ n ≤ (R.facts.length : Int) + frs.length):=fun n=>by
  show ((look la n).isSome && !(look lw n).isSome) = true ↔ _
  rw [show (look lw n).isSome = false from hnw' _ hnew n,Bool.not_false,Bool.and_true,h.added n,h.len]
  constructor
  ·rintro (⟨p,hp,ver',hv',hl⟩ | hl)
   ·rw [List.mem_singleton.1 hp,hvo] at hv'
    obtain rfl:=Option.some.inj hv'
    exact .inl hl
   ·exact .inr hl
  ·rintro (hl | hl)
   ·exact .inl ⟨_,List.mem_singleton_self _,ver,hvo,hl⟩
   ·exact .inr hl
 have hold : ∀ n,ver.holds n = true ↔ (look ver.added n).isSome = true:=fun n=>by
  show ((look ver.added n).isSome && !(look ver.wd n).isSome) = true ↔ _
  rw [hnw ver hvm n,Bool.not_false,Bool.and_true]
 have hle : ∀ n ∈ heldV ver,1 ≤ n ∧ n ≤ (R.facts.length : Int):=fun n hn=>by
  rw [heldV_mem,hold] at hn
  exact hkeys.2.2 n (look_isSome_iff.1 hn)
 have hvv : heldV ⟨la,lw⟩ = heldV ver ++ (numF R.facts.length frs).map (·.1):=by
  refine sorted_ext (heldV_sorted _ (hok'.keys _ hnew).1) ?_ fun n=>?_
  ·rw [List.pairwise_append]
   refine ⟨heldV_sorted _ hkeys.1,numF_sorted _ _,fun x hx y hy=>?_⟩
   have h1:=hle x hx
   have h2:=(numF_mem _ _ _).1 hy
   omega
  ·rw [heldV_mem,hhold,List.mem_append,heldV_mem,hold,numF_mem]
 unfold heldF
 rw [hvv,List.map_append]
 congr 1
 ·refine List.map_congr_left fun n hn=>?_
  have:=hle n hn
  show (n,((R.facts ++ frs)[(n - 1).toNat]?).getD _) = (n,(R.facts[(n - 1).toNat]?).getD _)
  rw [List.getElem?_append_left (by omega)]
 ·exact numF_map R.facts _ frs rfl
theorem held_old {R : Rec} {frs : List FR} {la lw : List (Int × Value)} {ver : Ver} (hv : ver ∈ R.vers) (hnw : NoWd R) (hok : RecOk R) : heldF (commitR R frs la lw) ver = heldF R ver:=by
 unfold heldF
 refine List.map_congr_left fun n hn=>?_
 rw [heldV_mem] at hn
 have h1 : (look ver.added n).isSome = true:=by
  have : ((look ver.added n).isSome && !(look ver.wd n).isSome) = true:=hn
  rw [hnw ver hv n,Bool.not_false,Bool.and_true] at this
  exact this
 have h2:=(hok.keys ver hv).2.2 n (look_isSome_iff.1 h1)
 show (n,((R.facts ++ frs)[(n - 1).toNat]?).getD _) = (n,(R.facts[(n - 1).toNat]?).getD _)
 rw [List.getElem?_append_left (by omega)]
theorem rowsF_one {R : Rec} {f : Fct} {frs : List FR} (h : rowsF R [f] = some frs) : ∃ x,checkF R f = some x ∧ frs = [x]:=by
 unfold rowsF at h
 cases hc : checkF R f with
 | none=>rw [hc] at h;cases h
 | some x=>
  rw [hc] at h
  simp only [rowsF,Option.map_some,Option.some.injEq] at h
  exact ⟨x,rfl,h.symm⟩
theorem checkF_some {R : Rec} {f : Fct} {x : FR} (h : checkF R f = some x) : ∃ c,colOf R f.attr = some c ∧ subj f.subject = true ∧ (readF c.1 f.values f.low f.high).2 = true ∧ x = ⟨f.subject,c.1,c.2,(readF c.1 f.values f.low f.high).1⟩:=by
 unfold checkF at h
 cases hc : colOf R f.attr with
 | none=>rw [hc] at h;cases h
 | some c=>
  rw [hc] at h
  simp only at h
  split at h
  ·rename_i h1
   split at h
   ·rename_i h2
    simp only [Option.some.injEq] at h
    exact ⟨c,rfl,h1,h2,h.symm⟩
   ·cases h
  ·cases h
structure MoreK (R : Rec) (h1 h2 : List (Int × FR)) : Prop where
 sub : ∀ (s : ByteArray) a c n,(a,c) ∈ R.cols → memS a (ofV h2 (s,c) a) n → memS a (ofV h1 (s,c) a) n
 subs : subsV h2 = subsV h1
theorem MoreK.refl (R : Rec) (h : List (Int × FR)) : MoreK R h h:=⟨fun _ _ _ _ _ h=>h,rfl⟩
theorem MoreK.trans {R : Rec} {a b c : List (Int × FR)} (h : MoreK R a b) (k : MoreK R b c) : MoreK R a c:=⟨fun s x y n hc hm=>h.sub s x y n hc (k.sub s x y n hc hm),k.subs.trans h.subs⟩
theorem doubtK_snoc {l : List (Int × FR)} {x : Int × FR} {k : ByteArray × Nat} (h : keyOf x.2 ≠ k) : doubtK (l ++ [x]) k = doubtK l k:=by
 unfold doubtK
 rw [knowK_snoc,if_neg h]
theorem subsL_snoc (l : List (Int × FR)) (x : Int × FR) : subsL (l ++ [x]) = subsL l ++ [x.2.subject,wholeOf x.2.subject]:=by
 unfold subsL
 rw [List.flatMap_append]
 simp
theorem sortB_mem {l : List ByteArray} {t : List UInt8} : t ∈ sortB l ↔ ofBytes t ∈ l:=by
 unfold sortB
 rw [(List.mergeSort_perm _ _).mem_iff,List.mem_map]
 exact ⟨fun ⟨s,hs,e⟩=>by rw [← e,of_bytes];exact hs,fun h=>⟨ofBytes t,h,bytes_of t⟩⟩
theorem sortB_sorted (l : List ByteArray) : (sortB l).Pairwise (· ≤ ·):=by
 unfold sortB
 refine (List.pairwise_mergeSort (fun a b c h1 h2=>?_) (fun a b=>?_) _).imp fun h=>by simpa using h
 ·simp only [decide_eq_true_eq] at *
  exact List.le_trans h1 h2
 ·simp only [Bool.or_eq_true,decide_eq_true_eq]
  exact List.le_total a b
theorem compB {l : List ByteArray} : (compact (sortB l)).Pairwise (fun a b=>a ≤ b ∧ a ≠ b) ∧ ∀ t,t ∈ compact (sortB l) ↔ ofBytes t ∈ l:=by
 obtain ⟨h1,h2⟩:=compact_spec (sortB l) (sortB_sorted l) (fun a b h1 h2=>List.le_antisymm h1 h2) (fun a b c h1 h2=>List.le_trans h1 h2)
 exact ⟨h1,fun t=>(h2 t).trans sortB_mem⟩
theorem strict_ext : ∀ {l m : List (List UInt8)},l.Pairwise (fun a b=>a ≤ b ∧ a ≠ b) → m.Pairwise (fun a b=>a ≤ b ∧ a ≠ b) → (∀ t,t ∈ l ↔ t ∈ m) → l = m
 | [],[],_,_,_=>rfl
 | [],y :: m,_,_,h=>by have:=(h y).2 List.mem_cons_self;cases this
 | x :: l,[],_,_,h=>by have:=(h x).1 List.mem_cons_self;cases this
 | x :: l,y :: m,hl,hm,h=>by
  obtain ⟨hl1,hl2⟩:=List.pairwise_cons.1 hl
  obtain ⟨hm1,hm2⟩:=List.pairwise_cons.1 hm
  have hxy : x = y:=by
   rcases List.mem_cons.1 ((h x).1 List.mem_cons_self) with e | hx
   ·exact e
   ·rcases List.mem_cons.1 ((h y).2 List.mem_cons_self) with e | hy
    ·exact e.symm
    ·exact List.le_antisymm (hl1 y hy).1 (hm1 x hx).1
  subst hxy
  congr 1
  refine strict_ext hl2 hm2 fun t=>?_
  constructor
  ·intro ht
   rcases List.mem_cons.1 ((h t).1 (List.mem_cons_of_mem _ ht)) with e | k
   ·exact absurd e.symm (hl1 t ht).2
   ·exact k
  ·intro ht
   rcases List.mem_cons.1 ((h t).2 (List.mem_cons_of_mem _ ht)) with e | k
   ·exact absurd e.symm (hm1 t ht).2
   ·exact k
theorem cut_cases (s : ByteArray) : (isPart s = false ∧ wholeOf s = s ∧ ∀ k : Nat,s.data.toList[k]? ≠ some 47) ∨
  ∃ o : Nat,isPart s = true ∧ wholeOf s = ⟨(s.data.toList.take o).toArray⟩ ∧ s.data.toList[o]? = some 47 ∧ ∀ k : Nat,k < o → s.data.toList[k]? ≠ some 47:=by
 have hge:=Lib.indexByte_ge s.data.toList 47
 unfold isPart wholeOf Lib.cut
 rw [show stroke = [47] from rfl,index_one]
 by_cases h : 0 ≤ Lib.indexByte s.data.toList 47
 ·rw [if_pos h]
  obtain ⟨o,ho⟩ : ∃ o : Nat,Lib.indexByte s.data.toList 47 = (o : Int):=⟨(Lib.indexByte s.data.toList 47).toNat,by omega⟩
  obtain ⟨h1,h2⟩:=Lib.indexByte_some ho
  exact .inr ⟨o,rfl,by rw [ho];rfl,h1,h2⟩
 ·rw [if_neg h]
  exact .inl ⟨rfl,rfl,Lib.indexByte_none (by omega)⟩
theorem wholeOf_whole (s : ByteArray) : wholeOf (wholeOf s) = wholeOf s ∧ isPart (wholeOf s) = false:=by
 have key : ∀ t : ByteArray,(∀ k : Nat,t.data.toList[k]? ≠ some 47) → wholeOf t = t ∧ isPart t = false:=fun t ht=>by
  rcases cut_cases t with ⟨h1,h2,_⟩ | ⟨o,_,_,h3,_⟩
  ·exact ⟨h2,h1⟩
  ·exact absurd h3 (ht o)
 refine key _ fun k=>?_
 rcases cut_cases s with ⟨_,h2,h3⟩ | ⟨o,_,h2,_,h4⟩
 ·rw [h2];exact h3 k
 ·rw [h2]
  show (s.data.toList.take o)[k]? ≠ some 47
  rw [List.getElem?_take]
  split
  ·rename_i hk;exact h4 k hk
  ·simp
theorem subsL_whole {l : List (Int × FR)} {s : ByteArray} (h : s ∈ subsL l) : wholeOf s ∈ subsL l:=by
 unfold subsL at h ⊢
 obtain ⟨x,hx,hs⟩:=List.mem_flatMap.1 h
 refine List.mem_flatMap.2 ⟨x,hx,?_⟩
 rcases List.mem_cons.1 hs with rfl | hs
 ·exact List.mem_cons_of_mem _ List.mem_cons_self
 ·rw [List.mem_singleton.1 hs,(wholeOf_whole x.2.subject).1]
  exact List.mem_cons_of_mem _ List.mem_cons_self
theorem subs_mem {l : List (Int × FR)} {t : List UInt8} : t ∈ subsV l ↔ ofBytes t ∈ subsL l:=compB.2 t
theorem subs_strict (l : List (Int × FR)) : (subsV l).Pairwise (fun a b=>a ≤ b ∧ a ≠ b):=compB.1
theorem subs_snoc {l : List (Int × FR)} {x : Int × FR} (h : x.2.subject ∈ subsL l) : subsV (l ++ [x]) = subsV l:=by
 refine strict_ext (subs_strict _) (subs_strict _) fun t=>?_
 rw [subs_mem,subs_mem,subsL_snoc,List.mem_append]
 constructor
 ·rintro (h1 | h1)
  ·exact h1
  ·rcases List.mem_cons.1 h1 with e | h1
   ·rw [e];exact h
   ·rw [List.mem_singleton.1 h1];exact subsL_whole h
 ·exact .inl
theorem more_step {R : Rec} (hcn : (R.cols.map (·.2)).Nodup) {l : List (Int × FR)} {x : Int × FR} (hl : ∀ y ∈ l ++ [x],(y.2.attr,y.2.col) ∈ R.cols) (hd : doubtK (l ++ [x]) (keyOf x.2) = doubtK l (keyOf x.2)) (hs : x.2.subject ∈ subsL l) : MoreK R l (l ++ [x]):=by
 refine ⟨fun s a c n hc hm=>?_,subs_snoc hs⟩
 have hl1 : ∀ y ∈ l,(y.2.attr,y.2.col) ∈ R.cols:=fun y hy=>hl y (List.mem_append_left _ hy)
 rw [ofV_mem (l ++ [x]) (held_attr hcn hl hc s)] at hm
 rw [ofV_mem l (held_attr hcn hl1 hc s)]
 refine ⟨hm.1,?_⟩
 rcases hm.2 with h1 | h1
 ·left
  by_cases hk : keyOf x.2 = (s,c)
  ·rw [hk] at hd;rw [← hd];exact h1
  ·rw [← doubtK_snoc hk];exact h1
 ·exact .inr fun y hy=>h1 y (List.mem_append_left _ hy)
theorem OutS.more {R : Rec} {h1 h2 : List (Int × FR)} (h : MoreK R h1 h2) {s : ByteArray} {qs : List Qn} {x : Nat} (hx : OutS R h2 s qs x) : OutS R h1 s qs x:=
 let ⟨σ,k1,k2⟩:=hx;⟨σ,fun a c hc hs=>h.sub s a c _ hc (k1 a c hc hs),k2⟩
theorem partsV_more {R : Rec} {h1 h2 : List (Int × FR)} (h : MoreK R h1 h2) (s : ByteArray) : partsV h2 s = partsV h1 s:=by unfold partsV;rw [h.subs]
theorem SetsS.more {R : Rec} {h1 h2 : List (Int × FR)} (h : MoreK R h1 h2) {qs : List Qn} {ps : List (List UInt8)} {x : Nat} (hx : SetsS R h2 qs ps x) : SetsS R h1 qs ps x:=
 let ⟨bs,k1,k2,k3⟩:=hx;⟨bs,k1,fun i p b hp hb=>(k2 i p b hp hb).more h,k3⟩
theorem OutS.ex {R : Rec} (hok : RecOk R) (hcn : (R.cols.map (·.2)).Nodup) {l : List (Int × FR)} (hl : ∀ y ∈ l,(y.2.attr,y.2.col) ∈ R.cols) (s : ByteArray) (qs : List Qn) : ∃ x,OutS R l s qs x:=by
 have hch : ∀ c,∃ n : Int,∀ a,(a,c) ∈ R.cols → memS a (ofV l (s,c) a) n:=by
  intro c
  by_cases hc : ∃ a,(a,c) ∈ R.cols
  ·obtain ⟨a,ha⟩:=hc
   obtain ⟨n,hn⟩:=ofV_some (hok.attrs _ ha) l (held_attr hcn hl ha s)
   exact ⟨n,fun a' ha'=>by rw [← col_uniq hcn ha ha'];exact hn⟩
  ·exact ⟨0,fun a ha=>absurd ⟨a,ha⟩ hc⟩
 obtain ⟨σ,hσ⟩:=Classical.axiomOfChoice hch
 exact ⟨_,σ,fun a c hc _=>hσ c a hc,rfl⟩
theorem SetsS.ex {R : Rec} (hok : RecOk R) (hcn : (R.cols.map (·.2)).Nodup) {l : List (Int × FR)} (hl : ∀ y ∈ l,(y.2.attr,y.2.col) ∈ R.cols) (qs : List Qn) (ps : List (List UInt8)) : ∃ x,SetsS R l qs ps x:=by
 have hrev : ∀ r : List (List UInt8),∃ x,SetsS R l qs r.reverse x:=by
  intro r
  induction r with
  | nil=>exact ⟨0,SetsS.nil.2 rfl⟩
  | cons p r ih=>
   obtain ⟨y,hy⟩:=ih
   obtain ⟨b,hb⟩:=OutS.ex hok hcn hl (ofBytes p) qs
   rw [List.reverse_cons]
   exact ⟨_,SetsS.snoc.2 ⟨y,b,hy,hb,rfl⟩⟩
 have:=hrev ps.reverse
 rwa [List.reverse_reverse] at this
theorem LikeS.uniq {R : Rec} {hf : List (Int × FR)} {q : Qn} {qs : List Qn} {s : ByteArray} {k k' : Int} (h : LikeS R hf q qs s k) (h' : LikeS R hf q qs s k') : k = k':=by
 have e1 : k = 3 ↔ k' = 3:=h.1.trans h'.1.symm
 have e2 : k = 1 ↔ k' = 1:=h.2.1.trans h'.2.1.symm
 have:=h.2.2
 have:=h'.2.2
 omega
theorem LikeN.uniq {R : Rec} {hf : List (Int × FR)} {own : Exp} {parts : List Exp} {s : ByteArray} {k k' : Int} (h : LikeN R hf own parts s k) (h' : LikeN R hf own parts s k') : k = k':=by
 obtain ⟨q,qs,h1,h2⟩:=h
 obtain ⟨q',qs',h1',h2'⟩:=h'
 obtain ⟨rfl,rfl⟩:=h1'.same h1.1 h1.2.1
 exact h2.uniq h2'
theorem LikeS.ex (R : Rec) (hf : List (Int × FR)) (q : Qn) (qs : List Qn) (s : ByteArray) : ∃ k,LikeS R hf q qs s k:=by
 by_cases h1 : OutS R hf s [q] 1 ∧ SetsS R hf qs (partsV hf s) (2 ^ qs.length - 1)
 ·by_cases h2 : (∀ x,OutS R hf s [q] x → x = 1) ∧ ∀ x,SetsS R hf qs (partsV hf s) x → x = 2 ^ qs.length - 1
  ·exact ⟨1,⟨fun h=>absurd h (by decide),fun h=>absurd h1 h⟩,⟨fun _=>⟨h1,h2⟩,fun _=>rfl⟩,.inl rfl⟩
  ·exact ⟨2,⟨fun h=>absurd h (by decide),fun h=>absurd h1 h⟩,⟨fun h=>absurd h (by decide),fun h=>absurd h.2 h2⟩,.inr (.inl rfl)⟩
 ·exact ⟨3,⟨fun _=>h1,fun _=>rfl⟩,⟨fun h=>absurd h (by decide),fun h=>absurd h.1 h1⟩,.inr (.inr rfl)⟩
theorem more_like {R : Rec} (hok : RecOk R) (hcn : (R.cols.map (·.2)).Nodup) {h1 h2 : List (Int × FR)} (h : MoreK R h1 h2) (hl : ∀ y ∈ h2,(y.2.attr,y.2.col) ∈ R.cols) {q : Qn} {qs : List Qn} {s : ByteArray} {a b : Int} (ha : LikeS R h1 q qs s a) (hb : LikeS R h2 q qs s b) : a = b ∨ a = 2:=by
 have hp:=partsV_more h s
 rcases ha.2.2 with e | e | e
 ·left
  obtain ⟨_,k1,k2⟩:=ha.2.1.1 e
  obtain ⟨x,hx⟩:=OutS.ex hok hcn hl s [q]
  obtain ⟨y,hy⟩:=SetsS.ex hok hcn hl qs (partsV h2 s)
  have e1:=k1 x (hx.more h)
  have hy1 : SetsS R h1 qs (partsV h1 s) y:=by rw [← hp];exact hy.more h
  have e2:=k2 y hy1
  subst e1 e2
  rw [e,eq_comm]
  refine hb.2.1.2 ⟨⟨hx,hy⟩,fun z hz=>k1 z (hz.more h),fun z hz=>k2 z ?_⟩
  rw [← hp];exact hz.more h
 ·exact .inr e
 ·left
  rw [e,eq_comm]
  refine hb.1.2 fun ⟨k1,k2⟩=>ha.1.1 e ⟨k1.more h,?_⟩
  rw [← hp];exact k2.more h
theorem moreN_like {R : Rec} (hok : RecOk R) (hcn : (R.cols.map (·.2)).Nodup) {h1 h2 : List (Int × FR)} (h : MoreK R h1 h2) (hl : ∀ y ∈ h2,(y.2.attr,y.2.col) ∈ R.cols) {own : Exp} {parts : List Exp} {s : ByteArray} {a b : Int} (ha : LikeN R h1 own parts s a) (hb : LikeN R h2 own parts s b) : a = b ∨ a = 2:=by
 obtain ⟨q,qs,k1,k2⟩:=ha
 obtain ⟨q',qs',k1',k2'⟩:=hb
 obtain ⟨rfl,rfl⟩:=k1'.same k1.1 k1.2.1
 exact more_like hok hcn h hl k2 k2'
theorem both_same {h1 h2 : List (Int × FR)} (h : subsV h2 = subsV h1) : bothV h1 h2 = wholesV h1:=by
 have hw : wholesV h2 = wholesV h1:=by unfold wholesV;rw [h]
 refine strict_ext compB.1 ((subs_strict h1).sublist List.filter_sublist) fun t=>?_
 unfold bothV
 rw [compB.2,hw,List.mem_map]
 constructor
 ·rintro ⟨u,hu,e⟩
  have e2 : u = t:=by have:=congrArg bytesOf e;rwa [bytes_of,bytes_of] at this
  rw [← e2]
  exact (List.mem_append.1 hu).elim id id
 ·intro ht
  exact ⟨t,List.mem_append_left _ ht,rfl⟩
end Go.Proofs.YtihfcjioilmmjaaGreat
namespace Go.Proofs.YtihfcjioilmmjaaGreat
open Go Go.RowKit
open Go.Lib Go.Sort Go.Maps Go.Shelf Go.Proofs
def KnGen (R : Rec) (hf : List (Int × FR)) (s k : ByteArray) (w : World) (e : Ending) (w' : World) : Prop:=
 ∃ (p1 : Option Addr) (n1 c1 : Nat) (lo hi : Int) (p2 : Option Addr) (n2 c2 : Nat) (d : Bool) (er : Int),e = .returned (.tuple #[.agg #[.slice p1 n1 c1,.int .i64 lo,.int .i64 hi,.slice p2 n2 c2,.bool d],.int .i64 er]) ∧ Ext w w' ∧
  (∀ a c,subj s = true → colOf R k = some (a,c) → er = 0 ∧ d = doubtK hf (s,c)) ∧ (er = 0 → subj s = true ∧ ∃ a c,colOf R k = some (a,c))
set_option maxHeartbeats 4000000 in
set_option maxRecDepth 100000 in
theorem known_gen {B : Nat} {w : World} {rb : Nat} {R : Rec} {cm : Nat} {vv fv : Value} {os : List (Option Nat × Option Nat)} {xs : List (List Value)} (h : RecAt B w rb R cm vv fv os xs) (hg : Glob w) {iv : Nat} {ver : Ver} (hv : R.vers[iv]? = some ver) (s k : ByteArray) (hs : s.size < 4294967281) :
  Calls Tryz.prog 13 #[encP rb,.int .i64 (iv : Int),.string s,.string k] w (KnGen R (heldF R ver) s k w):=by
 by_cases hsub : subj s = true
 ·cases hc : colOf R k with
  | some x=>
   refine (known_any h hg hv s k hs hsub (a:=x.1) (c:=x.2) hc).mono ?_
   rintro e w' ⟨xv,fvs,rfl,hx,hf,hE⟩
   obtain ⟨p1,c1,rfl⟩:=owns_form hx
   obtain ⟨p2,c2,rfl⟩:=owns_form hf
   refine ⟨p1,_,c1,_,_,p2,_,c2,_,0,rfl,hE,fun a c _ h2=>⟨rfl,?_⟩,fun _=>⟨hsub,x.1,x.2,hc⟩⟩
   rw [hc] at h2
   obtain rfl:=Option.some.inj h2
   rfl
  | none=>
   obtain ⟨vp,vc,rfl⟩:=owns_form h.vers
   have hr1 : w.cell? ⟨rb,1,none⟩ = some (.slice vp R.vers.length vc):=cell_of h.blk 1
   have hck:=fun W (hW : Ext w W)=>checkVersion_any rb vp R.vers.length vc (iv : Int) W (hW.cell' hr1)
   have hi : iv < R.vers.length:=(List.getElem?_eq_some_iff.1 hv).1
   have hif : (if decide (0 ≤ (iv : Int)) && decide ((iv : Int) < (R.vers.length : Int)) then (0 : Int) else 110) = 0:=by simp [hi]
   simp only [hif] at hck
   have hlk:=fun W (hW : Ext w W)=>lookup_col h hW k
   simp only [hc,Option.isSome_none] at hlk
   have HCK:=Lib.hid hck
   have HLK:=Lib.hid hlk
   have HR0:=Lib.hid (show w.cell? ⟨rb,0,none⟩ = some (.map (some cm)) from cell_of h.blk 0)
   obtain ⟨W1,hW1⟩ : ∃ W1,W1 = w.alloc (.cells #[.slice none 0 0,.int .i64 0,.int .i64 0,.slice none 0 0,.bool false] 52 (0,0)):=⟨_,rfl⟩
   have hx1 : Ext w W1:=by rw [hW1];exact bel
   have hb8 : W1.heap[w.heap.size]? = some (.cells #[.slice none 0 0,.int .i64 0,.int .i64 0,.slice none 0 0,.bool false] 52 (0,0)):=by rw [hW1];simp only [heap_drawn_get,heap_drew_get,heap_setCell_get,heap_alloc_get,World.size_alloc,World.size_setCell,size_drawn,putObj_get,putObj_size];(repeat (first | rw [if_pos trivial] | rw [if_pos rfl] | rw [if_neg (by omega)] | rw [if_pos (by omega)]))
   have HX1:=Lib.hid hx1
   have HB8:=Lib.hid hb8
   have HC:=Lib.hid hc
   clear hck hif h hr1 hx1 hb8 hc hv hlk hi
   unfold encP at *
   go_enter Tryz.func13,Tryz.ntmps13
   go_upto_region 1 with fail
   rw [← hW1]
   clear hW1
   go_wp2_with fail
   refine (HCK.out W1 HX1.out).mono ?_
   rintro e w1 ⟨rfl,rfl⟩
   go_wp2_with fail
   refine (isSubject_any s W1 hs (hg.ext HX1.out)).mono ?_
   rintro e w2 ⟨rfl,hx2⟩
   rw [hsub]
   have HX2:=Lib.hid (HX1.out.trans' hx2)
   have HB8_2:=Lib.hid (hx2.obj HB8.out)
   have hr0:=HX2.out.cell' HR0.out
   have hl2:=HLK.out w2 HX2.out
   unfold encP at hl2
   have d0 : w2.cell? ⟨w.heap.size,0,none⟩ = some (.slice none 0 0):=cell_of HB8_2.out 0
   have fd0:=frozen_of HB8_2.out 0
   have d1 : w2.cell? ⟨w.heap.size,1,none⟩ = some (.int .i64 0):=cell_of HB8_2.out 1
   have fd1:=frozen_of HB8_2.out 1
   have d2 : w2.cell? ⟨w.heap.size,2,none⟩ = some (.int .i64 0):=cell_of HB8_2.out 2
   have fd2:=frozen_of HB8_2.out 2
   have d3 : w2.cell? ⟨w.heap.size,3,none⟩ = some (.slice none 0 0):=cell_of HB8_2.out 3
   have fd3:=frozen_of HB8_2.out 3
   have d4 : w2.cell? ⟨w.heap.size,4,none⟩ = some (.bool false):=cell_of HB8_2.out 4
   have fd4:=frozen_of HB8_2.out 4
   clear hx2
   go_wp2_with fail
   obtain ⟨W3,hW3⟩ : ∃ W3,W3 = (((((w2.setCell ⟨w.heap.size,0,none⟩ (.slice none 0 0)).setCell ⟨w.heap.size,1,none⟩ (.int .i64 0)).setCell ⟨w.heap.size,2,none⟩ (.int .i64 0)).setCell ⟨w.heap.size,3,none⟩ (.slice none 0 0)).setCell ⟨w.heap.size,4,none⟩ (.bool false)):=⟨_,rfl⟩
   have hx3 : Ext w W3:=by
    have:=HX2.out
    rw [hW3]
    exact bel
   have hb3 : W3.heap[w.heap.size]? = some (.cells #[.slice none 0 0,.int .i64 0,.int .i64 0,.slice none 0 0,.bool false] 52 (0,0)):=by
    rw [hW3]
    simp only [heap_drawn_get,heap_drew_get,heap_setCell_get,heap_alloc_get,World.size_alloc,World.size_setCell,size_drawn,putObj_get,putObj_size];(repeat (first | rw [if_pos trivial] | rw [if_pos rfl] | rw [if_neg (by omega)] | rw [if_pos (by omega)]))
    rw [HB8_2.out];rfl
   rw [← hW3]
   have e0:=cell_of hb3 0
   have e1:=cell_of hb3 1
   have e2:=cell_of hb3 2
   have e3:=cell_of hb3 3
   have e4:=cell_of hb3 4
   refine bodyPost_ret (v:=.tuple #[.agg #[.slice none 0 0,.int .i64 0,.int .i64 0,.slice none 0 0,.bool false],.int .i64 7]) (by clear hW3;simp [results,Tryz.results13,go_sem,e0,e1,e2,e3,e4]) rfl ?_
   exact ⟨none,0,0,0,0,none,0,0,false,7,rfl,hx3,fun a c _ h2=>(by rw [HC.out] at h2;cases h2),fun h=>absurd h (by decide)⟩
 ·obtain ⟨vp,vc,rfl⟩:=owns_form h.vers
  have hr1 : w.cell? ⟨rb,1,none⟩ = some (.slice vp R.vers.length vc):=cell_of h.blk 1
  have hck:=fun W (hW : Ext w W)=>checkVersion_any rb vp R.vers.length vc (iv : Int) W (hW.cell' hr1)
  have hi : iv < R.vers.length:=(List.getElem?_eq_some_iff.1 hv).1
  have hif : (if decide (0 ≤ (iv : Int)) && decide ((iv : Int) < (R.vers.length : Int)) then (0 : Int) else 110) = 0:=by simp [hi]
  simp only [hif] at hck
  have HCK:=Lib.hid hck
  have HR0:=Lib.hid (show w.cell? ⟨rb,0,none⟩ = some (.map (some cm)) from cell_of h.blk 0)
  obtain ⟨W1,hW1⟩ : ∃ W1,W1 = w.alloc (.cells #[.slice none 0 0,.int .i64 0,.int .i64 0,.slice none 0 0,.bool false] 52 (0,0)):=⟨_,rfl⟩
  have hx1 : Ext w W1:=by rw [hW1];exact bel
  have hb8 : W1.heap[w.heap.size]? = some (.cells #[.slice none 0 0,.int .i64 0,.int .i64 0,.slice none 0 0,.bool false] 52 (0,0)):=by rw [hW1];simp only [heap_drawn_get,heap_drew_get,heap_setCell_get,heap_alloc_get,World.size_alloc,World.size_setCell,size_drawn,putObj_get,putObj_size];(repeat (first | rw [if_pos trivial] | rw [if_pos rfl] | rw [if_neg (by omega)] | rw [if_pos (by omega)]))
  have HX1:=Lib.hid hx1
  have HB8:=Lib.hid hb8
  clear hck hif h hr1 hx1 hb8 hv hi
  unfold encP at *
  go_enter Tryz.func13,Tryz.ntmps13
  go_upto_region 1 with fail
  rw [← hW1]
  clear hW1
  go_wp2_with fail
  refine (HCK.out W1 HX1.out).mono ?_
  rintro e w1 ⟨rfl,rfl⟩
  go_wp2_with fail
  refine (isSubject_any s W1 hs (hg.ext HX1.out)).mono ?_
  rintro e w2 ⟨rfl,hx2⟩
  rw [Bool.eq_false_iff.2 hsub]
  have HX2:=Lib.hid (HX1.out.trans' hx2)
  have HB8_2:=Lib.hid (hx2.obj HB8.out)
  have d0 : w2.cell? ⟨w.heap.size,0,none⟩ = some (.slice none 0 0):=cell_of HB8_2.out 0
  have fd0:=frozen_of HB8_2.out 0
  have d1 : w2.cell? ⟨w.heap.size,1,none⟩ = some (.int .i64 0):=cell_of HB8_2.out 1
  have fd1:=frozen_of HB8_2.out 1
  have d2 : w2.cell? ⟨w.heap.size,2,none⟩ = some (.int .i64 0):=cell_of HB8_2.out 2
  have fd2:=frozen_of HB8_2.out 2
  have d3 : w2.cell? ⟨w.heap.size,3,none⟩ = some (.slice none 0 0):=cell_of HB8_2.out 3
  have fd3:=frozen_of HB8_2.out 3
  have d4 : w2.cell? ⟨w.heap.size,4,none⟩ = some (.bool false):=cell_of HB8_2.out 4
  have fd4:=frozen_of HB8_2.out 4
  clear hx2
  go_wp2_with fail
  obtain ⟨W3,hW3⟩ : ∃ W3,W3 = (((((w2.setCell ⟨w.heap.size,0,none⟩ (.slice none 0 0)).setCell ⟨w.heap.size,1,none⟩ (.int .i64 0)).setCell ⟨w.heap.size,2,none⟩ (.int .i64 0)).setCell ⟨w.heap.size,3,none⟩ (.slice none 0 0)).setCell ⟨w.heap.size,4,none⟩ (.bool false)):=⟨_,rfl⟩
  have hx3 : Ext w W3:=by
   have:=HX2.out
   rw [hW3]
   exact bel
  have hb3 : W3.heap[w.heap.size]? = some (.cells #[.slice none 0 0,.int .i64 0,.int .i64 0,.slice none 0 0,.bool false] 52 (0,0)):=by
   rw [hW3]
   simp only [heap_drawn_get,heap_drew_get,heap_setCell_get,heap_alloc_get,World.size_alloc,World.size_setCell,size_drawn,putObj_get,putObj_size];(repeat (first | rw [if_pos trivial] | rw [if_pos rfl] | rw [if_neg (by omega)] | rw [if_pos (by omega)]))
   rw [HB8_2.out];rfl
  rw [← hW3]
  have e0:=cell_of hb3 0
  have e1:=cell_of hb3 1
  have e2:=cell_of hb3 2
  have e3:=cell_of hb3 3
  have e4:=cell_of hb3 4
  refine bodyPost_ret (v:=.tuple #[.agg #[.slice none 0 0,.int .i64 0,.int .i64 0,.slice none 0 0,.bool false],.int .i64 2]) (by clear hW3;simp [results,Tryz.results13,go_sem,e0,e1,e2,e3,e4]) rfl ?_
  exact ⟨none,0,0,0,0,none,0,0,false,2,rfl,hx3,fun a c h1 _=>absurd h1 hsub,fun h=>absurd h (by decide)⟩
end Go.Proofs.YtihfcjioilmmjaaGreat
namespace Go.Proofs.YtihfcjioilmmjaaGreat
open Go Go.RowKit
open Go.Lib Go.Proofs
theorem extract_take (s : ByteArray) (k : Nat) : s.extract 0 k = ⟨(s.data.toList.take k).toArray⟩:=by
 apply ByteArray.ext
 rw [ByteArray.data_extract]
 apply Array.ext'
 rw [Array.toList_extract]
 simp
theorem cut_here {s : ByteArray} {k : Nat} (h : s.data.toList[k]? = some 47) (hno : ∀ j : Nat,j < k → s.data.toList[j]? ≠ some 47) : wholeOf s = s.extract 0 k ∧ isPart s = true:=by
 rcases cut_cases s with ⟨_,_,h3⟩ | ⟨o,h1,h2,h3,h4⟩
 ·exact absurd h (h3 k)
 ·have : o = k:=by
   rcases Nat.lt_trichotomy o k with hl | hl | hl
   ·exact absurd h3 (hno o hl)
   ·exact hl
   ·exact absurd h (h4 k hl)
  subst this
  exact ⟨by rw [h2,extract_take],h1⟩
theorem cut_none {s : ByteArray} (hno : ∀ j : Nat,j < s.size → s.data.toList[j]? ≠ some 47) : wholeOf s = s ∧ isPart s = false:=by
 rcases cut_cases s with ⟨h1,h2,_⟩ | ⟨o,_,_,h3,_⟩
 ·exact ⟨h2,h1⟩
 ·have : o < s.data.toList.length:=(List.getElem?_eq_some_iff.1 h3).1
  exact absurd h3 (hno o (by rw [Array.length_toList] at this;exact this))
theorem byte_at {s : ByteArray} {k : Nat} (h : k < s.size) : s.data.toList[k]? = some s[k]:=by
 have h' : k < s.data.size:=h
 rw [Array.getElem?_toList,Array.getElem?_eq_getElem h'];rfl
set_option maxHeartbeats 2000000 in
set_option maxRecDepth 100000 in
theorem whole_any (s : ByteArray) (w : World) (hs : s.size ≤ maxLen) : Calls Tryz.prog 16 #[.string s] w fun e w'=>e = .returned (.tuple #[.string (wholeOf s),.bool (isPart s)]) ∧ w = w':=by
 unfold maxLen at hs
 go_enter Tryz.func16,Tryz.ntmps16
 go_wp2_with fail
 go_loopw [4] (fun i wr=>∃ k : Nat,k ≤ s.size ∧ i = .int .i64 k ∧ Hid (∀ j : Nat,j < k → s.data.toList[j]? ≠ some 47) ∧ wr = w) (fun i _=>s.size - (intOf i).toNat)
 case atStart=>exact ⟨0,Nat.zero_le _,rfl,fun j hj=>absurd hj (Nat.not_lt_zero _),rfl⟩
 case round=>
  obtain ⟨k,hk,rfl,hno,rfl⟩:=hrel
  by_cases hlt : k < s.size
  ·go_wp2_with fail
   ·rename_i hb
    have h1 : s[k] = 47:=by
     have : (s[k].toNat : Int) = 47:=by simpa using hb
     exact UInt8.toNat_inj.1 (by show s[k].toNat = 47;omega)
    obtain ⟨e1,e2⟩:=cut_here (by rw [byte_at hlt,h1]) hno.out
    refine bodyPost_ret (v:=.tuple #[.string (s.extract 0 k),.bool true]) (by simp [results,Tryz.results16,go_sem]) rfl ?_
    exact ⟨by rw [e1,e2],rfl⟩
   ·rename_i hb
    refine ⟨⟨k + 1,by omega,rfl,fun j hj=>?_,trivial⟩,by simp [intOf];omega⟩
    by_cases hjk : j < k
    ·exact hno.out j hjk
    ·obtain rfl : j = k:=by omega
     rw [byte_at hlt]
     intro e
     have : s[j] = 47:=Option.some.inj e
     rw [this] at hb
     simp at hb
  ·have hke : k = s.size:=by omega
   have hki : ¬ ((k : Int) < (s.size : Int)):=by omega
   obtain ⟨e1,e2⟩:=cut_none (s:=s) (by rw [← hke];exact hno.out)
   have E1:=Lib.hid (And.intro e1 e2)
   clear e1 e2
   go_wp2_with fail
   refine bodyPost_ret (v:=.tuple #[.string s,.bool false]) (by simp [results,Tryz.results16,go_sem]) rfl ?_
   exact ⟨by rw [E1.out.1,E1.out.2],rfl⟩
def SubjPost (hf : List (Int × FR)) (w : World) (e : Ending) (w' : World) : Prop:=
 ∃ sv,e = .returned (.tuple #[sv,.int .i64 0]) ∧ w'.ownsRow w.heap.size 9 1 sv (subsV hf).length ((subsV hf).map encStr) ∧ Ext w w'
set_option maxHeartbeats 2000000 in
set_option maxRecDepth 100000 in
theorem subjectsV_any {B : Nat} {w : World} {rb : Nat} {R : Rec} {cm : Nat} {vv fv : Value} {os : List (Option Nat × Option Nat)} {xs : List (List Value)} (h : RecAt B w rb R cm vv fv os xs) (hg : Glob w) {iv : Nat} {ver : Ver} (hv : R.vers[iv]? = some ver) :
  Calls Tryz.prog 15 #[encP rb,.int .i64 (iv : Int)] w (SubjPost (heldF R ver) w):=by
 obtain ⟨vp,vc,rfl⟩:=owns_form h.vers
 have hr1 : w.cell? ⟨rb,1,none⟩ = some (.slice vp R.vers.length vc):=cell_of h.blk 1
 have hck:=checkVersion_any rb vp R.vers.length vc (iv : Int) w hr1
 have hi : iv < R.vers.length:=(List.getElem?_eq_some_iff.1 hv).1
 rw [show (if decide (0 ≤ (iv : Int)) && decide ((iv : Int) < (R.vers.length : Int)) then (0 : Int) else 110) = 0 by simp [hi]] at hck
 have HCK:=Lib.hid hck
 have HL:=Lib.hid (look_any h hg hv)
 clear hck h hg hv hr1 hi
 unfold encP at *
 go_enter Tryz.func15,Tryz.ntmps15
 go_wp2_with fail
 refine HCK.out.mono ?_
 rintro e w1 ⟨rfl,rfl⟩
 go_wp2_with fail
 refine HL.out.mono ?_
 rintro e w3 ⟨vb,sv,mp,mk,mf,md,lp,lk,lf,ld,rfl,hV,hx3⟩
 have c0:=cell_of hV.view 0
 have HV:=Lib.hid hV.subs
 have HX:=Lib.hid hx3
 obtain ⟨sp,sc,rfl⟩:=owns_form hV.subs
 clear hV hx3
 go_wp2_with fail
 refine bodyPost_ret (v:=.tuple #[.slice sp (subsV (heldF R ver)).length sc,.int .i64 0]) (by simp [results,Tryz.results15,go_sem]) rfl ?_
 exact ⟨_,rfl,HV.out,HX.out⟩
end Go.Proofs.YtihfcjioilmmjaaGreat
namespace Go.Proofs.YtihfcjioilmmjaaGreat
open Go Go.RowKit
open Go.Lib Go.Proofs
theorem countL_nodes {d : Nat} (ih : ∀ e,countF d e < 100 → e.nodes ≤ countF d e) : ∀ (l : List Exp) (n : Nat),countL d l n < 100 → n + nodesL l ≤ countL d l n
 | [],n,h=>by rw [countL,nodesL];omega
 | k :: r,n,h=>by
  rw [countL] at h ⊢
  split at h
  ·rename_i hn
   rw [if_pos hn,nodesL]
   have h1:=countL_nodes ih r _ h
   have h2:=ih k (by omega)
   omega
  ·omega
theorem countF_nodes : ∀ (d : Nat) (e : Exp),countF d e < 100 → e.nodes ≤ countF d e
 | 0,.mk _ _ _ _ _ _,h=>by rw [countF] at h;omega
 | d + 1,.mk op attr values lo hi kids,h=>by
  rw [countF] at h ⊢
  have h1:=countL_nodes (countF_nodes d) kids _ h
  rw [Exp.nodes]
  show 1 + nodesL kids ≤ countL d kids (1 + values.length / 10)
  omega
end Go.Proofs.YtihfcjioilmmjaaGreat
namespace Go.Proofs.YtihfcjioilmmjaaGreat
open Go Go.RowKit
open Go.Lib Go.Sort Go.Maps Go.Shelf Go.Proofs
def tSteel : ByteArray:=⟨#[115,116,101,101,108]⟩
def tIron : ByteArray:=⟨#[105,114,111,110]⟩
def tWood : ByteArray:=⟨#[119,111,111,100]⟩
def tMat : ByteArray:=⟨#[109,97,116,101,114,105,97,108]⟩
def tBuilt : ByteArray:=⟨#[98,117,105,108,116]⟩
def tTay : ByteArray:=⟨#[116,97,121]⟩
def tForth : ByteArray:=⟨#[102,111,114,116,104]⟩
def kMat : Attr:=⟨tMat,[tSteel,tIron,tWood],0,0⟩
def kBuilt : Attr:=⟨tBuilt,[],1800,2030⟩
def kAdds : List Fct:=[⟨tTay,tMat,[tIron,tWood],0,0⟩,⟨tTay,tMat,[tSteel,tIron],0,0⟩,⟨tTay,tBuilt,[],1870,1880⟩]
def kCols (c1 c2 : Nat) : List (Attr × Nat):=[(kMat,c1),(kBuilt,c2)]
def kRows (c1 c2 : Nat) : List FR:=[⟨tTay,kMat,c1,⟨6,0,0⟩⟩,⟨tTay,kMat,c1,⟨3,0,0⟩⟩,⟨tTay,kBuilt,c2,⟨0,1870,1880⟩⟩]
theorem k_mat : AttrOk kMat where
 name:=by kernel_rfl
 small:=by decide
 names:=fun v hv=>List.all_eq_true.1 (show [tSteel,tIron,tWood].all (fun v=>nm v) = true from by kernel_rfl) v hv
 nodup:=by decide
 low:=by decide
 ends:=by decide
 high:=by decide
 zero:=fun _=>⟨rfl,rfl⟩
theorem k_built : AttrOk kBuilt where
 name:=by kernel_rfl
 small:=by decide
 names:=fun v hv=>by cases hv
 nodup:=by decide
 low:=by decide
 ends:=by decide
 high:=by decide
 zero:=fun h=>absurd rfl h
theorem k_new : NewOk [kMat,kBuilt]:=by
 refine ⟨by decide,fun a ha=>?_,by decide⟩
 rcases List.mem_cons.1 ha with rfl | ha
 ·exact k_mat
 ·rcases List.mem_cons.1 ha with rfl | ha
  ·exact k_built
  ·cases ha
theorem k_rows (c1 c2 : Nat) : rowsF ⟨kCols c1 c2,[⟨[],[]⟩],[]⟩ kAdds = some (kRows c1 c2):=by
 kernel_rfl
theorem k_col1 (c1 c2 : Nat) (v : List Ver) (f : List FR) : colOf ⟨kCols c1 c2,v,f⟩ tMat = some (kMat,c1):=by kernel_rfl
theorem k_held {c1 c2 : Nat} {la lw : List (Int × Value)} (h : ComOk ⟨kCols c1 c2,[⟨[],[]⟩],[]⟩ [0] kAdds [] (kRows c1 c2) la lw) (hn : (la.map (·.1)).Nodup) :
  heldF (commitR ⟨kCols c1 c2,[⟨[],[]⟩],[]⟩ (kRows c1 c2) la lw) ⟨la,lw⟩ = [(1,⟨tTay,kMat,c1,⟨6,0,0⟩⟩),(2,⟨tTay,kMat,c1,⟨3,0,0⟩⟩),(3,⟨tTay,kBuilt,c2,⟨0,1870,1880⟩⟩)]:=by
 have h0 : ∀ p ∈ ([0] : List Int),∀ ver,verOf ⟨kCols c1 c2,[⟨[],[]⟩],[]⟩ p = some ver → ver = ⟨[],[]⟩:=fun p hp ver hv=>by
  rw [List.mem_singleton.1 hp] at hv
  unfold verOf at hv
  simpa using hv.symm
 have hl : heldV ⟨la,lw⟩ = [1,2,3]:=by
  refine sorted_ext (heldV_sorted _ hn) (by decide) fun n=>?_
  rw [heldV_mem]
  unfold Ver.holds
  have h1:=h.added n
  have h2:=h.wd n
  have hw : (look lw n).isSome = false:=by
   cases hb : (look lw n).isSome with
   | false=>rfl
   | true=>
    rcases h2.1 hb with ⟨p,hp,ver,hv,hk⟩ | hk
    ·rw [h0 p hp ver hv] at hk;simp [look] at hk
    ·cases hk
  show ((look la n).isSome && !(look lw n).isSome) = true ↔ _
  rw [hw]
  simp only [Bool.not_false,Bool.and_true]
  rw [h1]
  constructor
  ·rintro (⟨p,hp,ver,hv,hk⟩ | hk)
   ·rw [h0 p hp ver hv] at hk;simp [look] at hk
   ·have e : kAdds.length = 3:=rfl
    simp only [List.length_nil,e] at hk
    have : n = 1 ∨ n = 2 ∨ n = 3:=by omega
    rcases this with rfl | rfl | rfl <;> simp
  ·intro hk
   refine .inr ?_
   have e : kAdds.length = 3:=rfl
   simp only [List.length_nil,e]
   simp at hk
   omega
 unfold heldF
 rw [hl]
 rfl
def kHeld (c1 c2 : Nat) : List (Int × FR):=[(1,⟨tTay,kMat,c1,⟨6,0,0⟩⟩),(2,⟨tTay,kMat,c1,⟨3,0,0⟩⟩),(3,⟨tTay,kBuilt,c2,⟨0,1870,1880⟩⟩)]
theorem k_subsL (c1 c2 : Nat) : (subsL (kHeld c1 c2)).map bytesOf = List.replicate 6 (bytesOf tTay):=by kernel_rfl
theorem k_subs (c1 c2 : Nat) : subsV (kHeld c1 c2) = [bytesOf tTay]:=by
 unfold subsV sortB
 rw [k_subsL]
 rw [List.perm_replicate.1 (List.mergeSort_perm (List.replicate 6 (bytesOf tTay)) (fun x y=>decide (x ≤ y)))]
 kernel_rfl
theorem k_wholes (c1 c2 : Nat) : wholesV (kHeld c1 c2) = [bytesOf tTay]:=by unfold wholesV;rw [k_subs];kernel_rfl
theorem k_parts1 (c1 c2 : Nat) : partsV (kHeld c1 c2) tTay = []:=by unfold partsV;rw [k_subs];kernel_rfl
theorem k_parts2 (c1 c2 : Nat) : partsV (kHeld c1 c2) tForth = []:=by unfold partsV;rw [k_subs];kernel_rfl
theorem k_many (c1 c2 : Nat) : tooMany (kHeld c1 c2) = false:=by
 unfold tooMany
 rw [k_subs]
 have : ofBytes (bytesOf tTay) = tTay:=by kernel_rfl
 simp [this,k_parts1]
theorem k_step1 (c1 : Nat) : stepK (some (stepK none ⟨tTay,kMat,c1,⟨6,0,0⟩⟩)) ⟨tTay,kMat,c1,⟨3,0,0⟩⟩ = (⟨2,0,0⟩,false,kMat):=by kernel_rfl
theorem k_step2 (c2 : Nat) : stepK none ⟨tTay,kBuilt,c2,⟨0,1870,1880⟩⟩ = (⟨0,1870,1880⟩,false,kBuilt):=by kernel_rfl
theorem k_of1 {c1 c2 : Nat} (hc : c1 ≠ c2) : ofV (kHeld c1 c2) (tTay,c1) kMat = ⟨2,0,0⟩:=by
 have h1 : knowK (kHeld c1 c2) (tTay,c1) = some (⟨2,0,0⟩,false,kMat):=by
  unfold knowK kHeld
  simp only [List.foldl_cons,List.foldl_nil,keyOf,if_pos,Prod.mk.injEq,true_and,hc.symm,if_false]
  rw [k_step1]
 unfold ofV knowV
 rw [h1];rfl
theorem k_of2 {c1 c2 : Nat} (hc : c1 ≠ c2) : ofV (kHeld c1 c2) (tTay,c2) kBuilt = ⟨0,1870,1880⟩:=by
 have h1 : knowK (kHeld c1 c2) (tTay,c2) = some (⟨0,1870,1880⟩,false,kBuilt):=by
  unfold knowK kHeld
  simp only [List.foldl_cons,List.foldl_nil,keyOf,if_pos,Prod.mk.injEq,true_and,hc,if_false]
  rw [k_step2]
 unfold ofV knowV
 rw [h1];rfl
theorem k_of3 (c1 c2 c : Nat) (a : Attr) : ofV (kHeld c1 c2) (tForth,c) a = allSt a:=by
 have hne : ¬ (tTay = tForth):=by decide
 have h1 : knowK (kHeld c1 c2) (tForth,c) = none:=by
  unfold knowK kHeld
  simp only [List.foldl_cons,List.foldl_nil,keyOf,Prod.mk.injEq,hne,false_and,if_false]
 unfold ofV knowV
 rw [h1];rfl
theorem k_doubt {c1 c2 : Nat} (hc : c1 ≠ c2) : doubtK (kHeld c1 c2) (tTay,c1) = false:=by
 have h1 : knowK (kHeld c1 c2) (tTay,c1) = some (⟨2,0,0⟩,false,kMat):=by
  unfold knowK kHeld
  simp only [List.foldl_cons,List.foldl_nil,keyOf,if_pos,Prod.mk.injEq,true_and,hc.symm,if_false]
  rw [k_step1]
 unfold doubtK
 rw [h1];rfl
theorem k_facts {c1 c2 : Nat} (hc : c1 ≠ c2) : factsK (kHeld c1 c2) (tTay,c1) = [1,2]:=by
 unfold factsK kHeld
 simp [keyOf,hc.symm]
theorem k_vals : valsB 2 kMat.values.zipIdx = [tIron]:=by kernel_rfl
def kE1 : Exp:=.mk 1 tMat [tIron] 0 0 []
def kE2 : Exp:=.mk 1 tBuilt [] 1800 1874 []
def kQ1 : Exp:=.mk 3 ⟨#[]⟩ [] 0 0 [kE1,kE2]
def kQ2 : Exp:=.mk 4 ⟨#[]⟩ [] 0 0 [kE1,.mk 2 ⟨#[]⟩ [] 0 0 [kE1]]
theorem k_askF1 (c1 c2 : Nat) (v : List Ver) (f : List FR) : ∃ q,askF ⟨kCols c1 c2,v,f⟩ kQ1 = some q ∧ q.size = 3 ∧ q.marks = mergeM (mergeM (fun _=>none) (inQ kMat c1 ⟨2,0,0⟩ 0 0).marks) (inQ kBuilt c2 ⟨0,1800,1874⟩ 1800 1874).marks ∧ ∀ ρ,q.φ ρ = ((2 : Nat).testBit (ρ c1).toNat && (decide (1800 ≤ ρ c2) && decide (ρ c2 ≤ 1874))):=by
 refine ⟨_,rfl,rfl,rfl,fun ρ=>?_⟩
 show ((inQ kMat c1 ⟨2,0,0⟩ 0 0).φ ρ && ((inQ kBuilt c2 ⟨0,1800,1874⟩ 1800 1874).φ ρ && true)) = _
 rw [Bool.and_true]
 rfl
theorem k_marksN (c1 c2 : Nat) (hc : c1 ≠ c2) (v : List Ver) (f : List FR) (q : Qn) : marksN ⟨kCols c1 c2,v,f⟩ q ≤ 2:=by
 unfold marksN
 exact List.length_filter_le _ _
theorem k_read1 (c1 c2 : Nat) (hc : c1 ≠ c2) (v : List Ver) (f : List FR) : ∃ q,readF0 ⟨kCols c1 c2,v,f⟩ kQ1 = some q ∧ q.marks = mergeM (mergeM (fun _=>none) (inQ kMat c1 ⟨2,0,0⟩ 0 0).marks) (inQ kBuilt c2 ⟨0,1800,1874⟩ 1800 1874).marks ∧ ∀ ρ,q.φ ρ = ((2 : Nat).testBit (ρ c1).toNat && (decide (1800 ≤ ρ c2) && decide (ρ c2 ≤ 1874))):=by
 obtain ⟨q,h1,h2,h3,h4⟩:=k_askF1 c1 c2 v f
 refine ⟨q,?_,h3,h4⟩
 unfold readF0
 rw [h1]
 have:=k_marksN c1 c2 hc v f q
 exact if_pos ⟨by omega,by omega⟩
theorem k_askF2 (c1 c2 : Nat) (v : List Ver) (f : List FR) : ∃ q,askF ⟨kCols c1 c2,v,f⟩ kQ2 = some q ∧ q.size = 4 ∧ q.marks = mergeM (mergeM (fun _=>none) (inQ kMat c1 ⟨2,0,0⟩ 0 0).marks) (mergeM (fun _=>none) (inQ kMat c1 ⟨2,0,0⟩ 0 0).marks) ∧ ∀ ρ,q.φ ρ = true:=by
 refine ⟨_,rfl,rfl,rfl,fun ρ=>?_⟩
 show ((inQ kMat c1 ⟨2,0,0⟩ 0 0).φ ρ || (!(inQ kMat c1 ⟨2,0,0⟩ 0 0).φ ρ || false)) = true
 cases (inQ kMat c1 ⟨2,0,0⟩ 0 0).φ ρ <;> rfl
theorem k_read2 (c1 c2 : Nat) (hc : c1 ≠ c2) (v : List Ver) (f : List FR) : ∃ q,readF0 ⟨kCols c1 c2,v,f⟩ kQ2 = some q ∧ q.marks = mergeM (mergeM (fun _=>none) (inQ kMat c1 ⟨2,0,0⟩ 0 0).marks) (mergeM (fun _=>none) (inQ kMat c1 ⟨2,0,0⟩ 0 0).marks) ∧ ∀ ρ,q.φ ρ = true:=by
 obtain ⟨q,h1,h2,h3,h4⟩:=k_askF2 c1 c2 v f
 refine ⟨q,?_,h3,h4⟩
 unfold readF0
 rw [h1]
 have:=k_marksN c1 c2 hc v f q
 exact if_pos ⟨by omega,by omega⟩
theorem inQ_marks (a : Attr) (c : Nat) (s : St) (lo hi : Int) (d : Nat) : (inQ a c s lo hi).marks d = if d = c then some (if a.values = [] then [lo,hi + 1] else []) else none:=rfl
theorem k_comp : Lib.compact ([1870,1875] : List Int) = [1870,1875]:=by kernel_rfl
theorem k_like1 {c1 c2 : Nat} (hc : c1 ≠ c2) {v : List Ver} {f : List FR} {q : Qn} (hm : q.marks = mergeM (mergeM (fun _=>none) (inQ kMat c1 ⟨2,0,0⟩ 0 0).marks) (inQ kBuilt c2 ⟨0,1800,1874⟩ 1800 1874).marks)
  (hφ : ∀ ρ,q.φ ρ = ((2 : Nat).testBit (ρ c1).toNat && (decide (1800 ≤ ρ c2) && decide (ρ c2 ≤ 1874)))) {k : Int} (h : LK0 ⟨kCols c1 c2,v,f⟩ (kHeld c1 c2) q tTay k) : k = 2:=by
 obtain ⟨smp,cols,hn,hk,hs,rfl⟩:=h
 have m1 : q.marks c1 = some []:=by rw [hm];unfold mergeM;simp only [inQ_marks,if_neg hc,if_pos];rfl
 have m2 : q.marks c2 = some [1800,1875]:=by rw [hm];unfold mergeM;simp only [inQ_marks,if_neg hc.symm,if_pos];rfl
 have hcs : ∀ c ∈ cols,c = c1 ∨ c = c2:=fun c hcc=>by
  have:=(hk c).1 hcc
  rw [hm] at this
  unfold mergeM at this
  simp only [inQ_marks] at this
  by_cases e2 : c = c2
  ·exact .inr e2
  ·by_cases e1 : c = c1
   ·exact .inl e1
   ·simp [e1,e2] at this
 have s1 : smp c1 = [1]:=by
  rw [hs kMat c1 (by unfold kCols;simp),k_of1 hc,m1]
  kernel_rfl
 have s2 : smp c2 = [1870,1875]:=by
  rw [hs kBuilt c2 (by unfold kCols;simp),k_of2 hc,m2]
  unfold sampF
  rw [if_pos (show kBuilt.values = [] from rfl)]
  have e : ((1870 : Int) :: ([1800,1875] : List Int).filter (inS ⟨0,1870,1880⟩)) = [1870,1875]:=by decide
  show Lib.compact (sortedP ((1870 : Int) :: ([1800,1875] : List Int).filter (inS ⟨0,1870,1880⟩))) = _
  rw [e]
  have e2 : sortedP [1870,1875] = [1870,1875]:=List.mergeSort_of_pairwise (by decide)
  rw [e2,k_comp]
 have hg : ∀ n : Int,n ∈ smp c2 → Grid smp cols (fun d=>if d = c1 then 1 else if d = c2 then n else 0):=fun n hn2=>by
  refine ⟨fun d hd=>?_,fun d hd=>?_⟩
  ·rcases hcs d hd with rfl | rfl
   ·simp [s1]
   ·simp only [if_neg hc.symm,if_pos];exact hn2
  ·have h1 : d ≠ c1:=fun e=>hd (e ▸ (hk c1).2 (by rw [m1];rfl))
   have h2 : d ≠ c2:=fun e=>hd (e ▸ (hk c2).2 (by rw [m2];rfl))
   simp [h1,h2]
 have t1 : ∃ ρ,Grid smp cols ρ ∧ q.φ ρ = true:=⟨_,hg 1870 (by rw [s2];simp),by rw [hφ];simp only [if_pos,if_neg hc.symm];decide⟩
 have t2 : ∃ ρ,Grid smp cols ρ ∧ q.φ ρ = false:=⟨_,hg 1875 (by rw [s2];simp),by rw [hφ];simp only [if_pos,if_neg hc.symm];decide⟩
 obtain ⟨ρ1,g1,f1⟩:=t1
 obtain ⟨ρ2,g2,f2⟩:=t2
 rcases likeK_spec (smp:=smp) (φ:=q.φ) hn with ⟨_,h3⟩ | ⟨_,_,h3⟩ | ⟨h3,_⟩
 ·rw [h3 ρ1 g1] at f1;cases f1
 ·rw [h3 ρ2 g2] at f2;cases f2
 ·exact h3
theorem k_like2 {c1 c2 : Nat} {v : List Ver} {f : List FR} {q : Qn} (hm : q.marks = mergeM (mergeM (fun _=>none) (inQ kMat c1 ⟨2,0,0⟩ 0 0).marks) (mergeM (fun _=>none) (inQ kMat c1 ⟨2,0,0⟩ 0 0).marks))
  (hφ : ∀ ρ,q.φ ρ = true) {k : Int} (h : LK0 ⟨kCols c1 c2,v,f⟩ (kHeld c1 c2) q tForth k) : k = 1:=by
 obtain ⟨smp,cols,hn,hk,hs,rfl⟩:=h
 have m1 : q.marks c1 = some []:=by rw [hm];unfold mergeM;simp only [inQ_marks,if_pos];rfl
 have hcs : ∀ c ∈ cols,c = c1:=fun c hcc=>by
  have:=(hk c).1 hcc
  rw [hm] at this
  unfold mergeM at this
  simp only [inQ_marks] at this
  by_cases e1 : c = c1
  ·exact e1
  ·simp [e1] at this
 have s1 : smp c1 = [0,1,2]:=by
  rw [hs kMat c1 (by unfold kCols;simp),k_of3,m1]
  kernel_rfl
 have hg : Grid smp cols (fun _=>0):=⟨fun d hd=>by rw [hcs d hd,s1];simp,fun _ _=>rfl⟩
 rcases likeK_spec (smp:=smp) (φ:=q.φ) hn with ⟨_,h3⟩ | ⟨h3,_⟩ | ⟨_,_,ρ,_,h3⟩
 ·have:=h3 _ hg;rw [hφ] at this;cases this
 ·exact h3
 ·rw [hφ] at h3;cases h3
end Go.Proofs.YtihfcjioilmmjaaGreat
namespace Go.Proofs.YtihfcjioilmmjaaGreat
open Go Go.RowKit
open Go.Lib Go.Sort Go.Maps Go.Shelf Go.Proofs
set_option maxHeartbeats 1000000 in
set_option maxRecDepth 100000 in
theorem material_any (p : Option Addr) (n c : Nat) (w : World) : Calls Tryz.prog 28 #[.slice p n c] w fun e w'=>e = .returned (.agg #[.int .u8 1,.string tMat,.slice p n c,.int .i64 0,.int .i64 0,.slice none 0 0]) ∧ Ext w w':=by
 obtain ⟨W1,hW1⟩ : ∃ W1,W1 = w.alloc (.cells #[.int .u8 0,.string ⟨#[]⟩,.slice none 0 0,.int .i64 0,.int .i64 0,.slice none 0 0] 29 (0,0)):=⟨_,rfl⟩
 have hx1 : Ext w W1:=by rw [hW1];exact bel
 have hb : W1.heap[w.heap.size]? = some (.cells #[.int .u8 0,.string ⟨#[]⟩,.slice none 0 0,.int .i64 0,.int .i64 0,.slice none 0 0] 29 (0,0)):=by rw [hW1];simp only [heap_drawn_get,heap_drew_get,heap_setCell_get,heap_alloc_get,World.size_alloc,World.size_setCell,size_drawn,putObj_get,putObj_size];(repeat (first | rw [if_pos trivial] | rw [if_pos rfl] | rw [if_neg (by omega)] | rw [if_pos (by omega)]))
 have y0:=cell_of hb 0
 have y1:=cell_of hb 1
 have y2:=cell_of hb 2
 have y3:=cell_of hb 3
 have y4:=cell_of hb 4
 have y5:=cell_of hb 5
 have f0:=frozen_of hb 0
 have f1:=frozen_of hb 1
 have f2:=frozen_of hb 2
 have f3:=frozen_of hb 3
 have f4:=frozen_of hb 4
 have f5:=frozen_of hb 5
 have HB:=Lib.hid hb
 have HX1:=Lib.hid hx1
 clear hb hx1
 unfold tMat
 go_enter Tryz.func28,Tryz.ntmps28
 go_upto_region 1 with fail
 rw [← hW1]
 clear hW1
 go_wp2_with fail
 obtain ⟨W9,hW9⟩ : ∃ W9,W9 = ((((((W1.setCell ⟨w.heap.size,0,none⟩ (.int .u8 1)).setCell ⟨w.heap.size,1,none⟩ (.string ⟨#[109,97,116,101,114,105,97,108]⟩)).setCell ⟨w.heap.size,2,none⟩ (.slice p n c)).setCell ⟨w.heap.size,3,none⟩ (.int .i64 0)).setCell ⟨w.heap.size,4,none⟩ (.int .i64 0)).setCell ⟨w.heap.size,5,none⟩ (.slice none 0 0)):=⟨_,rfl⟩
 rw [← hW9]
 have hbe : Below w.heap.size w W9:=by
  have hx:=HX1.out
  rw [hW9];exact bel
 have hb9 : W9.heap[w.heap.size]? = some (.cells #[.int .u8 1,.string ⟨#[109,97,116,101,114,105,97,108]⟩,.slice p n c,.int .i64 0,.int .i64 0,.slice none 0 0] 29 (0,0)):=by
  have hb:=HB.out
  rw [hW9];simp only [heap_drawn_get,heap_drew_get,heap_setCell_get,heap_alloc_get,World.size_alloc,World.size_setCell,size_drawn,putObj_get,putObj_size];(repeat (first | rw [if_pos trivial] | rw [if_pos rfl] | rw [if_neg (by omega)] | rw [if_pos (by omega)]))
  rw [hb];rfl
 have r0:=cell_of hb9 0
 have r1:=cell_of hb9 1
 have r2:=cell_of hb9 2
 have r3:=cell_of hb9 3
 have r4:=cell_of hb9 4
 have r5:=cell_of hb9 5
 simp only [List.getElem?_toArray,List.getElem?_cons_zero,List.getElem?_cons_succ] at r0 r1 r2 r3 r4 r5
 refine bodyPost_ret (v:=.agg #[.int .u8 1,.string ⟨#[109,97,116,101,114,105,97,108]⟩,.slice p n c,.int .i64 0,.int .i64 0,.slice none 0 0]) (by simp [results,Tryz.results28,go_sem,r0,r1,r2,r3,r4,r5]) rfl ?_
 exact ⟨rfl,hbe⟩
theorem strs_of {w : World} {b : Nat} {l : List ByteArray} {n : Nat} (hn : l.length = n) (h : w.heap[b]? = some (.cells (l.map Value.string).toArray 9 (0,0))) (hl : n ≤ maxLen) (hs : ∀ s ∈ l,s.size ≤ maxLen) : StrsAt w (.slice (some ⟨b,0,none⟩) n n) l:=by
 subst hn
 exact ⟨⟨_,_,rfl,Nat.le_refl _,hl,by simp,fun j u hu=>⟨b,0,rfl,by rw [cell_of h,Nat.zero_add,List.getElem?_toArray];exact hu⟩⟩,hs⟩
theorem strs_none (w : World) : StrsAt w (.slice none 0 0) []:=⟨⟨none,0,rfl,Nat.le_refl _,Nat.zero_le _,rfl,fun j u hu=>by simp at hu⟩,fun s hs=>by cases hs⟩
theorem i64_small {n : Int} (h : -1000000 ≤ n ∧ n ≤ 1000000) : i64ok n:=by unfold i64ok;omega
theorem i64_zero : i64ok 0:=i64_small (by decide)
theorem k_size : ∀ s ∈ [tSteel,tIron,tWood,tMat,tBuilt,tTay,tForth],s.size ≤ maxLen:=by decide
theorem k_matAt {w : World} {b : Nat} (h : w.heap[b]? = some (.cells #[.string tSteel,.string tIron,.string tWood] 9 (0,0))) : AttrAt w kMat (.slice (some ⟨b,0,none⟩) 3 3):=
 ⟨strs_of (l:=[tSteel,tIron,tWood]) rfl h (by decide) (by decide),k_size tMat (by simp),i64_small (by decide),i64_small (by decide)⟩
theorem k_builtAt (w : World) : AttrAt w kBuilt (.slice none 0 0):=⟨strs_none w,k_size tBuilt (by simp),i64_small (by decide),i64_small (by decide)⟩
theorem k_factAt {w : World} {b : Nat} {s t : ByteArray} (h : w.heap[b]? = some (.cells #[.string s,.string t] 9 (0,0))) (hs : s.size ≤ maxLen) (ht : t.size ≤ maxLen) : FactAt w ⟨tTay,tMat,[s,t],0,0⟩ (.slice (some ⟨b,0,none⟩) 2 2):=
 ⟨strs_of (l:=[s,t]) rfl h (by decide) (fun x hx=>by
  rcases List.mem_cons.1 hx with rfl | hx
  ·exact hs
  ·rw [List.mem_singleton.1 hx];exact ht),k_size tTay (by simp),k_size tMat (by simp),i64_zero,i64_zero⟩
theorem k_factAt3 (w : World) : FactAt w ⟨tTay,tBuilt,[],1870,1880⟩ (.slice none 0 0):=⟨strs_none w,k_size tTay (by simp),k_size tBuilt (by simp),i64_small (by decide),i64_small (by decide)⟩
theorem k_addsAt {w : World} {b2 b3 b4 : Nat} (h2 : w.heap[b2]? = some (.cells #[.string tIron,.string tWood] 9 (0,0))) (h3 : w.heap[b3]? = some (.cells #[.string tSteel,.string tIron] 9 (0,0)))
  (h4 : w.heap[b4]? = some (.cells #[.string tTay,.string tMat,.slice (some ⟨b2,0,none⟩) 2 2,.int .i64 0,.int .i64 0,.string tTay,.string tMat,.slice (some ⟨b3,0,none⟩) 2 2,.int .i64 0,.int .i64 0,.string tTay,.string tBuilt,.slice none 0 0,.int .i64 1870,.int .i64 1880] 46 (0,0))) :
  FactsAt w (.slice (some ⟨b4,0,none⟩) 3 3) kAdds:=by
 refine ⟨[.slice (some ⟨b2,0,none⟩) 2 2,.slice (some ⟨b3,0,none⟩) 2 2,.slice none 0 0],rfl,⟨_,3,rfl,Nat.le_refl _,(by decide : (3 : Nat) ≤ maxLen),rfl,fun j u hu=>⟨b4,0,rfl,?_⟩⟩,fun x hx=>?_⟩
 ·rw [cell_of h4,Nat.zero_add,List.getElem?_toArray];exact hu
 ·rcases List.mem_cons.1 hx with rfl | hx
  ·exact k_factAt h2 (k_size tIron (by simp)) (k_size tWood (by simp))
  ·rcases List.mem_cons.1 hx with rfl | hx
   ·exact k_factAt h3 (k_size tSteel (by simp)) (k_size tIron (by simp))
   ·rcases List.mem_cons.1 hx with rfl | hx
    ·exact k_factAt3 w
    ·cases hx
theorem k_schemaAt {w : World} {b b1 : Nat} (hb0 : w.heap[b]? = some (.cells #[.string tSteel,.string tIron,.string tWood] 9 (0,0))) (hb1 : w.heap[b1]? = some (.cells #[.string tMat,.slice (some ⟨b,0,none⟩) 3 3,.int .i64 0,.int .i64 0,.string tBuilt,.slice none 0 0,.int .i64 1800,.int .i64 2030] 90 (0,0))) :
  AttrsAt w (.slice (some ⟨b1,0,none⟩) 2 2) [kMat,kBuilt]:=by
 refine ⟨[.slice (some ⟨b,0,none⟩) 3 3,.slice none 0 0],rfl,⟨_,2,rfl,Nat.le_refl _,(by decide : (2 : Nat) ≤ maxLen),rfl,fun j u hu=>⟨b1,0,rfl,?_⟩⟩,fun x hx=>?_⟩
 ·rw [cell_of hb1,Nat.zero_add,List.getElem?_toArray];exact hu
 ·rcases List.mem_cons.1 hx with rfl | hx
  ·exact k_matAt hb0
  ·rcases List.mem_cons.1 hx with rfl | hx
   ·exact k_builtAt w
   ·cases hx
theorem k_e1At {w : World} {b : Nat} (h : w.heap[b]? = some (.cells #[.string tIron] 9 (0,0))) : ExpAt w [.int .u8 1,.string tMat,.slice (some ⟨b,0,none⟩) 1 1,.int .i64 0,.int .i64 0,.slice none 0 0] kE1:=
 .mk (css:=[]) (by decide) (k_size tMat (by simp)) i64_zero i64_zero (strs_of (l:=[tIron]) rfl h (by decide) (fun s hs=>by rw [List.mem_singleton.1 hs];exact k_size tIron (by simp))) rfl ⟨none,0,rfl,Nat.le_refl _,Nat.zero_le _,rfl,fun j u hu=>by simp at hu⟩ (fun c hc=>by cases hc) fun i c k hc=>by simp at hc
theorem k_e2At (w : World) : ExpAt w [.int .u8 1,.string tBuilt,.slice none 0 0,.int .i64 1800,.int .i64 1874,.slice none 0 0] kE2:=
 .mk (css:=[]) (by decide) (k_size tBuilt (by simp)) (i64_small (by decide)) (i64_small (by decide)) (strs_none w) rfl ⟨none,0,rfl,Nat.le_refl _,Nat.zero_le _,rfl,fun j u hu=>by simp at hu⟩ (fun c hc=>by cases hc) fun i c k hc=>by simp at hc
theorem exp_node {w : World} {b : Nat} {css : List (List Value)} {kids : List Exp} {n : Nat} (op : Int) (hop : 0 ≤ op ∧ op ≤ 255) (hn : kids.length = n) (hl : css.length = kids.length) (hm : n ≤ maxLen) (h : w.heap[b]? = some (.cells css.flatten.toArray 29 (0,0))) (h6 : ∀ c ∈ css,c.length = 6) (hk : ∀ (i : Nat) c k,css[i]? = some c → kids[i]? = some k → ExpAt w c k) :
  ExpAt w [.int .u8 op,.string ⟨#[]⟩,.slice none 0 0,.int .i64 0,.int .i64 0,.slice (some ⟨b,0,none⟩) n n] (.mk op ⟨#[]⟩ [] 0 0 kids):=by
 subst hn
 refine .mk hop (Nat.zero_le _) i64_zero i64_zero (strs_none w) hl ⟨_,_,rfl,Nat.le_refl _,hm,?_,fun j u hu=>⟨b,0,rfl,by rw [cell_of h,Nat.zero_add,List.getElem?_toArray];exact hu⟩⟩ h6 hk
 rw [List.length_flatten,List.eq_replicate_iff.2 (⟨by rw [List.length_map];exact hl,fun x hx=>by
  obtain ⟨c,hc,rfl⟩:=List.mem_map.1 hx
  exact h6 c hc⟩ : (css.map List.length).length = kids.length ∧ _),List.sum_replicate_nat]
theorem k_q1At {w : World} {b2 b5 : Nat} (h2 : w.heap[b2]? = some (.cells #[.string tIron] 9 (0,0))) (h5 : w.heap[b5]? = some (.cells #[.int .u8 1,.string tMat,.slice (some ⟨b2,0,none⟩) 1 1,.int .i64 0,.int .i64 0,.slice none 0 0,.int .u8 1,.string tBuilt,.slice none 0 0,.int .i64 1800,.int .i64 1874,.slice none 0 0] 29 (0,0))) :
  ExpAt w [.int .u8 3,.string ⟨#[]⟩,.slice none 0 0,.int .i64 0,.int .i64 0,.slice (some ⟨b5,0,none⟩) 2 2] kQ1:=by
 refine exp_node (css:=[[.int .u8 1,.string tMat,.slice (some ⟨b2,0,none⟩) 1 1,.int .i64 0,.int .i64 0,.slice none 0 0],[.int .u8 1,.string tBuilt,.slice none 0 0,.int .i64 1800,.int .i64 1874,.slice none 0 0]]) 3 (by decide) rfl rfl (by decide) h5 (fun c hc=>?_) fun i c k hc hk=>?_
 ·rcases List.mem_cons.1 hc with rfl | hc
  ·rfl
  ·rw [List.mem_singleton.1 hc];rfl
 ·match i,hc,hk with
  | 0,hc,hk=>
   obtain rfl:=Option.some.inj hc
   obtain rfl:=Option.some.inj hk
   exact k_e1At h2
  | 1,hc,hk=>
   obtain rfl:=Option.some.inj hc
   obtain rfl:=Option.some.inj hk
   exact k_e2At w
  | i + 2,hc,_=>simp at hc
theorem k_q2At {w : World} {b1 b2 b3 b4 : Nat} (h1 : w.heap[b1]? = some (.cells #[.string tIron] 9 (0,0))) (h2 : w.heap[b2]? = some (.cells #[.string tIron] 9 (0,0))) (h3 : w.heap[b3]? = some (.cells #[.int .u8 1,.string tMat,.slice (some ⟨b2,0,none⟩) 1 1,.int .i64 0,.int .i64 0,.slice none 0 0] 29 (0,0)))
  (h4 : w.heap[b4]? = some (.cells #[.int .u8 1,.string tMat,.slice (some ⟨b1,0,none⟩) 1 1,.int .i64 0,.int .i64 0,.slice none 0 0,.int .u8 2,.string ⟨#[]⟩,.slice none 0 0,.int .i64 0,.int .i64 0,.slice (some ⟨b3,0,none⟩) 1 1] 29 (0,0))) :
  ExpAt w [.int .u8 4,.string ⟨#[]⟩,.slice none 0 0,.int .i64 0,.int .i64 0,.slice (some ⟨b4,0,none⟩) 2 2] kQ2:=by
 have hn : ExpAt w [.int .u8 2,.string ⟨#[]⟩,.slice none 0 0,.int .i64 0,.int .i64 0,.slice (some ⟨b3,0,none⟩) 1 1] (.mk 2 ⟨#[]⟩ [] 0 0 [kE1]):=by
  refine exp_node (css:=[[.int .u8 1,.string tMat,.slice (some ⟨b2,0,none⟩) 1 1,.int .i64 0,.int .i64 0,.slice none 0 0]]) 2 (by decide) rfl rfl (by decide) h3 (fun c hc=>by rw [List.mem_singleton.1 hc];rfl) fun i c k hc hk=>?_
  match i,hc,hk with
  | 0,hc,hk=>
   obtain rfl:=Option.some.inj hc
   obtain rfl:=Option.some.inj hk
   exact k_e1At h2
  | i + 1,hc,_=>simp at hc
 refine exp_node (css:=[[.int .u8 1,.string tMat,.slice (some ⟨b1,0,none⟩) 1 1,.int .i64 0,.int .i64 0,.slice none 0 0],[.int .u8 2,.string ⟨#[]⟩,.slice none 0 0,.int .i64 0,.int .i64 0,.slice (some ⟨b3,0,none⟩) 1 1]]) 4 (by decide) rfl rfl (by decide) h4 (fun c hc=>?_) fun i c k hc hk=>?_
 ·rcases List.mem_cons.1 hc with rfl | hc
  ·rfl
  ·rw [List.mem_singleton.1 hc];rfl
 ·match i,hc,hk with
  | 0,hc,hk=>
   obtain rfl:=Option.some.inj hc
   obtain rfl:=Option.some.inj hk
   exact k_e1At h1
  | 1,hc,hk=>
   obtain rfl:=Option.some.inj hc
   obtain rfl:=Option.some.inj hk
   exact hn
  | i + 2,hc,_=>simp at hc
def KqI (W6 : World) (us : List Value) (W : World) : Prop:=Ext W6 W ∧ match us with
 | []=>True
 | [u2]=>∃ b2,u2 = .slice (some ⟨b2,0,none⟩) 1 1 ∧ W.heap[b2]? = some (.cells #[.string tIron] 9 (0,0))
 | [_,u3]=>∃ b2,u3 = .agg #[.int .u8 1,.string tMat,.slice (some ⟨b2,0,none⟩) 1 1,.int .i64 0,.int .i64 0,.slice none 0 0] ∧ W.heap[b2]? = some (.cells #[.string tIron] 9 (0,0))
 | [_,_,u5]=>∃ b2 b5,u5 = .slice (some ⟨b5,0,none⟩) 2 2 ∧ W.heap[b2]? = some (.cells #[.string tIron] 9 (0,0)) ∧ W.heap[b5]? = some (.cells #[.int .u8 1,.string tMat,.slice (some ⟨b2,0,none⟩) 1 1,.int .i64 0,.int .i64 0,.slice none 0 0,.int .u8 1,.string tBuilt,.slice none 0 0,.int .i64 1800,.int .i64 1874,.slice none 0 0] 29 (0,0))
 | _ :: _ :: _ :: u8 :: _=>∃ mg mc,u8 = .tuple #[.slice (some ⟨mg,0,none⟩) 1 mc,.int .i64 0] ∧ W.cell? ⟨mg,0,none⟩ = some (.string tTay) ∧ W.cell? ⟨mg,1,none⟩ = some (.int .u8 2)
end Go.Proofs.YtihfcjioilmmjaaGreat
namespace Go.Proofs.YtihfcjioilmmjaaGreat
open Go Go.RowKit
open Go.Lib Go.Sort Go.Maps Go.Shelf Go.Proofs
section
variable {B : Nat} {w : World} {rb : Nat} {R : Rec} {cm : Nat} {vv fv : Value} {os : List (Option Nat × Option Nat)} {xs : List (List Value)} {c1 c2 : Nat} {ver : Ver}
theorem k_query (h : RecAt B w rb R cm vv fv os xs) (hg : Glob w) (hcols : R.cols = kCols c1 c2) (hc : c1 ≠ c2) (hv : R.vers[1]? = some ver) (hhf : heldF R ver = kHeld c1 c2) {b2 b5 : Nat} (h2 : w.heap[b2]? = some (.cells #[.string tIron] 9 (0,0)))
  (h5 : w.heap[b5]? = some (.cells #[.int .u8 1,.string tMat,.slice (some ⟨b2,0,none⟩) 1 1,.int .i64 0,.int .i64 0,.slice none 0 0,.int .u8 1,.string tBuilt,.slice none 0 0,.int .i64 1800,.int .i64 1874,.slice none 0 0] 29 (0,0))) :
  Calls Tryz.prog 14 #[encP rb,.int .i64 1,.agg #[.int .u8 3,.string ⟨#[]⟩,.slice none 0 0,.int .i64 0,.int .i64 0,.slice (some ⟨b5,0,none⟩) 2 2,.slice none 0 0]] w fun e w'=>
   ∃ mg mc,e = .returned (.tuple #[.slice (some ⟨mg,0,none⟩) 1 mc,.int .i64 0]) ∧ w'.cell? ⟨mg,0,none⟩ = some (.string tTay) ∧ w'.cell? ⟨mg,1,none⟩ = some (.int .u8 2) ∧ Ext w w':=by
 obtain ⟨q,hq,hm,hφ⟩ : ∃ q,readF0 R kQ1 = some q ∧ q.marks = mergeM (mergeM (fun _=>none) (inQ kMat c1 ⟨2,0,0⟩ 0 0).marks) (inQ kBuilt c2 ⟨0,1800,1874⟩ 1800 1874).marks ∧ ∀ ρ,q.φ ρ = ((2 : Nat).testBit (ρ c1).toNat && (decide (1800 ≤ ρ c2) && decide (ρ c2 ≤ 1874))):=by
  obtain ⟨cols,v,f⟩:=R
  obtain rfl : cols = kCols c1 c2:=hcols
  exact k_read1 c1 c2 hc v f
 have hp : ∀ t ∈ wholesV (heldF R ver),partsV (heldF R ver) (ofBytes t) = []:=fun t ht=>by
  rw [hhf] at ht ⊢
  rw [k_wholes] at ht
  rw [List.mem_singleton.1 ht]
  exact k_parts1 c1 c2
 refine (query0_any h hg hv (k_q1At h2 h5) (by decide) none 0 hq hp).mono ?_
 rw [hhf]
 rintro e w' ⟨hx,⟨hb,_⟩ | ⟨ht,_⟩ | ⟨_,v,ks,rfl,hks,hrow⟩⟩
 ·exact hb.elim
 ·rw [k_many] at ht;cases ht
 rw [k_wholes] at hks hrow
 obtain ⟨k,rfl⟩ : ∃ k,ks = [k]:=List.length_eq_one_iff.1 hks.1
 have hk:=(hks.2 0 _ _ rfl rfl).1
 obtain rfl : k = 2:=by
  obtain ⟨cols,vl,f⟩:=R
  obtain rfl : cols = kCols c1 c2:=hcols
  exact k_like1 hc hm hφ hk
 have hrow' : w'.ownsRow w.heap.size 64 2 v 1 [.string tTay,.int .u8 2]:=hrow
 rcases hrow'.2 with ⟨_,h0⟩ | ⟨g,cap,cur,rfl,_,hgg,_,_,_,ht⟩
 ·cases h0
 ·refine ⟨g,cap,rfl,?_,?_,hx⟩
  ·rw [cell_of hgg]
   have h2 : (cur.toList.take (1 * 2))[0]? = some (.string tTay):=by rw [ht];rfl
   rw [List.getElem?_take] at h2
   simpa using h2
  ·rw [cell_of hgg]
   have h2 : (cur.toList.take (1 * 2))[1]? = some (.int .u8 2):=by rw [ht];rfl
   rw [List.getElem?_take] at h2
   simpa using h2
theorem k_likes (h : RecAt B w rb R cm vv fv os xs) (hg : Glob w) (hcols : R.cols = kCols c1 c2) (hc : c1 ≠ c2) (hv : R.vers[1]? = some ver) (hhf : heldF R ver = kHeld c1 c2) {b1 b2 b3 b4 : Nat} (h1 : w.heap[b1]? = some (.cells #[.string tIron] 9 (0,0))) (h2 : w.heap[b2]? = some (.cells #[.string tIron] 9 (0,0))) (h3 : w.heap[b3]? = some (.cells #[.int .u8 1,.string tMat,.slice (some ⟨b2,0,none⟩) 1 1,.int .i64 0,.int .i64 0,.slice none 0 0] 29 (0,0)))
  (h4 : w.heap[b4]? = some (.cells #[.int .u8 1,.string tMat,.slice (some ⟨b1,0,none⟩) 1 1,.int .i64 0,.int .i64 0,.slice none 0 0,.int .u8 2,.string ⟨#[]⟩,.slice none 0 0,.int .i64 0,.int .i64 0,.slice (some ⟨b3,0,none⟩) 1 1] 29 (0,0))) :
  Calls Tryz.prog 17 #[encP rb,.int .i64 1,.string tForth,.agg #[.int .u8 4,.string ⟨#[]⟩,.slice none 0 0,.int .i64 0,.int .i64 0,.slice (some ⟨b4,0,none⟩) 2 2,.slice none 0 0]] w fun e w'=>e = .returned (.tuple #[.int .u8 1,.int .i64 0]) ∧ Ext w w':=by
 obtain ⟨q,hq,hm,hφ⟩ : ∃ q,readF0 R kQ2 = some q ∧ q.marks = mergeM (mergeM (fun _=>none) (inQ kMat c1 ⟨2,0,0⟩ 0 0).marks) (mergeM (fun _=>none) (inQ kMat c1 ⟨2,0,0⟩ 0 0).marks) ∧ ∀ ρ,q.φ ρ = true:=by
  obtain ⟨cols,v,f⟩:=R
  obtain rfl : cols = kCols c1 c2:=hcols
  exact k_read2 c1 c2 hc v f
 have hp : partsV (heldF R ver) tForth = []:=by rw [hhf];exact k_parts2 c1 c2
 refine (likes0_any h hg hv tForth (k_size tForth (by simp)) (k_q2At h1 h2 h3 h4) (by decide) none 0 hq hp).mono ?_
 rw [hhf]
 have hnm : nm tForth = true:=by kernel_rfl
 rintro e w' ⟨hx,⟨hb,_⟩ | ⟨_,hb,_⟩ | ⟨_,hb,_⟩ | ⟨_,_,k,rfl,hk,_⟩⟩
 ·rw [hnm] at hb;cases hb
 ·exact hb.elim
 ·rw [k_parts2] at hb;exact absurd hb (by simp)
 ·obtain rfl : k = 1:=by
   obtain ⟨cols,vl,f⟩:=R
   obtain rfl : cols = kCols c1 c2:=hcols
   exact k_like2 hm hφ hk
  exact ⟨rfl,hx⟩
end
end Go.Proofs.YtihfcjioilmmjaaGreat
