/- Lemmas: states. -/
import Derived.Test.YtihfcjioilmmjaaGreatRm1
import Derived.Test.YtihfcjioilmmjaaGreatRm3
set_option linter.all false
namespace Go.Proofs.YtihfcjioilmmjaaGreat
open Go Go.RowKit
section
variable {κ : Type} [DecidableEq κ] {P : Program} {enc : κ → Value}
def posOf (l : List (κ × Value)) (k : κ) : Nat:=match lookAt l k 0 with | some x=>x.1 | none=>l.length
theorem mput_mput : ∀ (l : List (κ × Value)) (k : κ) (u v : Value),mput (mput l k u) k v = mput l k v
 | [],k,u,v=>by simp [mput]
 | x :: r,k,u,v=>by
  by_cases h : x.1 = k
  ·simp [mput,h]
  ·simp [mput,h,mput_mput r k u v]
theorem mput_look : ∀ (l : List (κ × Value)) (k : κ) (v : Value),look l k = some v → mput l k v = l
 | [],_,_,h=>by simp [look] at h
 | x :: r,k,v,h=>by
  unfold look at h
  split at h
  ·rename_i hk
   obtain ⟨a,b⟩:=x
   simp only at hk
   subst hk
   simp only [Option.some.injEq] at h
   subst h
   simp [mput]
  ·rename_i hk
   simp [mput,hk,mput_look r k v h]
theorem lookAt_mput (l : List (κ × Value)) (k : κ) (u : Value) : lookAt (mput l k u) k 0 = some (posOf l k,u):=by
 have : ∀ (l : List (κ × Value)) (i : Nat),lookAt (mput l k u) k i = some (match lookAt l k i with | some x=>x.1 | none=>i + l.length,u):=by
  intro l
  induction l with
  | nil=>intro i;simp [mput,lookAt]
  | cons x r ih=>
   intro i
   by_cases h : x.1 = k
   ·simp [mput,lookAt,h]
   ·simp only [mput,lookAt,h,if_false,ih (i + 1),List.length_cons]
    cases lookAt r k (i + 1) with
    | none=>simp;omega
    | some y=>rfl
 rw [this l 0]
 unfold posOf
 cases lookAt l k 0 with
 | none=>simp
 | some x=>rfl
theorem mput_set (l : List (κ × Value)) (k : κ) (u v : Value) : (mput l k u)[posOf l k]? = some (k,u) ∧ (mput l k u).set (posOf l k) (k,v) = mput l k v:=by
 obtain ⟨n,h1,h2,h3⟩:=lookAt_some (mput l k u) k 0 _ _ (lookAt_mput l k u)
 obtain rfl : posOf l k = n:=by omega
 exact ⟨h2,by rw [← h3 v,mput_mput]⟩
theorem run_mapEntry {w : World} {b : Nat} {l : List (κ × Value)} {k : κ} {T K E : TypeId} {z : Value} (ht : P.underlying T = some (.map K E)) (hm : MapIs enc w b l) (hf : Finds P K enc w l k) (hz : (zeroValue E).run P w = .ok z w) :
  (Instr.mapEntry T (.map (some b)) (enc k)).run P w = .ok (.tuple #[(look l k).getD z,.int .i64 (posOf l k)]) (wput enc w b (mput l k ((look l k).getD z))):=by
 obtain ⟨h1,h2,h3⟩:=hf
 unfold MapIs at hm
 rw [← lookAt_look l k 0]
 unfold posOf
 cases hl : lookAt l k 0 with
 | none=>
  rw [hl] at h1
  rw [lookAt_none l k 0 hl]
  simp only [Instr.mapEntry,Sem.run_bind,run_underlying ht,getMap hm,h2,h1,hz,Result.andThen,setMap _ hm,Sem.run_pure,Option.map_none,Option.getD_none]
  unfold wput World.putObj goInt
  rw [entsFrom_append]
  simp [entsFrom]
 | some x=>
  obtain ⟨j,u⟩:=x
  rw [hl] at h1
  obtain ⟨n,hj,hn,hput⟩:=lookAt_some l k 0 j u hl
  obtain rfl : j = n:=by omega
  have hget : ((entsFrom enc 0 l).toArray)[j]? = some ⟨enc k,u,j⟩:=by simp [entsFrom_get,hn]
  have hp : mput l k u = l:=mput_look l k u (by rw [← lookAt_look l k 0,hl];rfl)
  simp only [Instr.mapEntry,Sem.run_bind,run_underlying ht,getMap hm,h2,h1,Result.andThen,Instr.keyThatStays,hget,Option.map_some,Option.getD_some,h3,if_true,Sem.run_pure,setMap _ hm]
  rw [hp]
  unfold wput World.putObj goInt
  have h0 : (entsFrom enc 0 l).toArray.modify j (fun e=>{ e with key:=enc k }) = (entsFrom enc 0 l).toArray:=by
   apply Array.ext_getElem?
   intro i
   rw [Array.getElem?_modify]
   split
   ·rename_i hi
    subst hi
    rw [hget];rfl
   ·rfl
  rw [h0]
theorem find_born (enc : κ → Value) : ∀ (l : List (κ × Value)) (n p : Nat),p < l.length → (entsFrom enc n l).findIdx? (fun e=>((e.born : Int) == ((n + p : Nat) : Int))) = some p
 | [],_,_,h=>by simp at h
 | x :: r,n,0,_=>by simp [entsFrom,List.findIdx?_cons]
 | x :: r,n,p + 1,h=>by
  have:=find_born enc r (n + 1) p (by simpa using h)
  simp only [entsFrom,List.findIdx?_cons]
  have h1 : (((n : Int) == ((n + (p + 1) : Nat) : Int))) = false:=by
   rw [beq_eq_false_iff_ne];omega
  rw [h1]
  have h2 : n + 1 + p = n + (p + 1):=by omega
  rw [h2] at this
  simp only [Bool.false_eq_true,if_false,this,Option.map_some]
theorem run_entryStore {w : World} {b : Nat} {l : List (κ × Value)} {T : TypeId} {k : κ} {u v : Value} {p : Nat} (hm : MapIs enc w b l) (hp : l[p]? = some (k,u)) :
  (Instr.entryStore T (.map (some b)) (.int .i64 (p : Int)) v).run P w = .ok () (wput enc w b (l.set p (k,v))):=by
 unfold MapIs at hm
 have hlt : p < l.length:=(List.getElem?_eq_some_iff.1 hp).1
 have hf:=find_born enc l 0 p hlt
 have hf' : (entsFrom enc 0 l).toArray.findIdx? (fun e=>((e.born : Int) == (p : Int))) = some p:=by
  rw [List.findIdx?_toArray]
  simpa using hf
 simp only [Instr.entryStore,Sem.run_bind,getMap hm,asInt,asIntOf,Sem.run_pure,Result.andThen,hf',setMap _ hm]
 unfold wput World.putObj
 have h0 : (entsFrom enc 0 l).toArray.modify p (fun e=>{ e with val:=v }) = (entsFrom enc 0 (l.set p (k,v))).toArray:=by
  have:=entsFrom_modify enc 0 p l k u v hp
  rw [← this]
  apply Array.ext_getElem?
  intro i
  rw [Array.getElem?_modify]
  simp only [List.getElem?_toArray]
  rw [List.getElem?_modify]
  by_cases hi : p = i
  ·subst hi
   simp [entsFrom_get,hp]
  ·simp [hi]
 rw [h0]
 simp
end
end Go.Proofs.YtihfcjioilmmjaaGreat
namespace Go.Proofs.YtihfcjioilmmjaaGreat
open Go Go.RowKit
open Go.Lib
def keyOf (f : FR) : ByteArray × Nat:=(f.subject,f.col)
def stepK (cur : Option (St × Bool × Attr)) (f : FR) : St × Bool × Attr:=
 (meetSt ((cur.map (·.1)).getD (allSt f.attr)) f.st,((cur.map (·.2.1)).getD false || !meetOk f.attr (meetSt ((cur.map (·.1)).getD (allSt f.attr)) f.st)),f.attr)
def knowK (l : List (Int × FR)) (k : ByteArray × Nat) : Option (St × Bool × Attr):=l.foldl (fun cur x=>if keyOf x.2 = k then some (stepK cur x.2) else cur) none
theorem knowK_snoc (l : List (Int × FR)) (x : Int × FR) (k : ByteArray × Nat) : knowK (l ++ [x]) k = if keyOf x.2 = k then some (stepK (knowK l k) x.2) else knowK l k:=by
 unfold knowK;rw [List.foldl_append];rfl
def factsK (l : List (Int × FR)) (k : ByteArray × Nat) : List Int:=(l.filter fun x=>decide (keyOf x.2 = k)).map (·.1)
theorem factsK_snoc (l : List (Int × FR)) (x : Int × FR) (k : ByteArray × Nat) : factsK (l ++ [x]) k = if keyOf x.2 = k then factsK l k ++ [x.1] else factsK l k:=by
 unfold factsK
 rw [List.filter_append,List.map_append]
 by_cases h : keyOf x.2 = k <;> simp [h]
def subsL (l : List (Int × FR)) : List ByteArray:=l.flatMap fun x=>[x.2.subject,wholeOf x.2.subject]
def doubtK (l : List (Int × FR)) (k : ByteArray × Nat) : Bool:=((knowK l k).map (·.2.1)).getD false
def knowV (l : List (Int × FR)) (k : ByteArray × Nat) : Option St:=(knowK l k).map fun x=>if x.2.1 then allSt x.2.2 else x.1
def subsV (l : List (Int × FR)) : List (List UInt8):=compact (sortB (subsL l))
def partsV (l : List (Int × FR)) (s : ByteArray) : List (List UInt8):=(subsV l).filter fun t=>isPart (ofBytes t) && decide (wholeOf (ofBytes t) = s)
theorem knowK_some : ∀ (l : List (Int × FR)) (k : ByteArray × Nat) (x : St × Bool × Attr),knowK l k = some x → ∃ y ∈ l,keyOf y.2 = k ∧ x.2.2 = y.2.attr:=by
 intro l k
 have hrev : ∀ (r : List (Int × FR)) (x : St × Bool × Attr),knowK r.reverse k = some x → ∃ y ∈ r,keyOf y.2 = k ∧ x.2.2 = y.2.attr:=by
  intro r
  induction r with
  | nil=>intro x h;simp [knowK] at h
  | cons y r ih=>
   intro x h
   rw [List.reverse_cons,knowK_snoc] at h
   split at h
   ·rename_i hk
    simp only [Option.some.injEq] at h
    subst h
    exact ⟨y,List.mem_cons_self,hk,rfl⟩
   ·obtain ⟨z,hz,h2⟩:=ih x h
    exact ⟨z,List.mem_cons_of_mem _ hz,h2⟩
 intro x h
 have:=hrev l.reverse x (by rw [List.reverse_reverse];exact h)
 obtain ⟨y,hy,h2⟩:=this
 exact ⟨y,List.mem_reverse.1 hy,h2⟩
theorem factsK_mem {l : List (Int × FR)} {k : ByteArray × Nat} (h : factsK l k ≠ []) : ∃ y ∈ l,keyOf y.2 = k:=by
 obtain ⟨n,hn⟩:=List.exists_mem_of_ne_nil _ h
 unfold factsK at hn
 obtain ⟨y,hy,_⟩:=List.mem_map.1 hn
 have:=List.mem_filter.1 hy
 exact ⟨y,this.1,by simpa using this.2⟩
structure LookI (N N2 : Nat) (w : World) (hv : Value) (hl : List Int) (sA sF sK sD : List (Int × FR)) (sv : Value) (lk lf ld : List ((ByteArray × Nat) × Value)) (wr : World) : Prop where
 below : Below N w wr
 view : wr.heap[N + 4]? = some (.cells #[sv,.map (some N),.map (some (N + 1)),.map (some (N + 2)),.map (some (N + 3))] 138 (0,0))
 held : wr.ownsRow N 3 1 hv hl.length (hl.map (Value.int .i64))
 low : ∀ g,hv.ownBlock = some g → g < N2
 le : N + 5 ≤ N2
 size : N2 ≤ wr.heap.size
 subs : wr.ownsRow N2 9 1 sv (subsL sA).length ((subsL sA).map Value.string)
 parts : MapIs Value.string wr N []
 known : MapIs encK wr (N + 1) lk
 facts : MapIs encK wr (N + 2) lf
 doubts : MapIs encK wr (N + 3) ld
 knownL : ∀ k,look lk k = (knowK sK k).map fun x=>x.1.val
 factsN : ∀ k,look lf k = none → factsK sF k = []
 factsS : ∀ k v,look lf k = some v → wr.ownsRow N2 3 1 v (factsK sF k).length ((factsK sF k).map (Value.int .i64)) ∧ factsK sF k ≠ []
 factsD : ∀ k k' v v',look lf k = some v → look lf k' = some v' → k ≠ k' → v.ownBlock ≠ v'.ownBlock
 doubtsL : ∀ k,look ld k = if doubtK sD k then some (.bool true) else none
section
variable {N N2 : Nat} {w : World} {hv : Value} {hl : List Int} {sA sF sK sD : List (Int × FR)} {sv : Value} {lk lf ld : List ((ByteArray × Nat) × Value)} {W : World}
theorem LookI.ext (h : LookI N N2 w hv hl sA sF sK sD sv lk lf ld W) {W' : World} (hx : Ext W W') : LookI N N2 w hv hl sA sF sK sD sv lk lf ld W':=
 {below:=Below.trans h.below (Below.mono hx (Nat.le_trans (by have:=h.le;omega) h.size)),view:=hx.obj h.view,held:=owns_keep h.held fun g _ _ hg=>hx.block g (heap_lt hg),low:=h.low,le:=h.le,size:=Nat.le_trans h.size hx.size
  subs:=owns_keep h.subs fun g _ _ hg=>hx.block g (heap_lt hg),parts:=h.parts.ext hx,known:=h.known.ext hx,facts:=h.facts.ext hx,doubts:=h.doubts.ext hx,knownL:=h.knownL,factsN:=h.factsN
  factsS:=fun k v hk=>⟨owns_keep (h.factsS k v hk).1 fun g _ _ hg=>hx.block g (heap_lt hg),(h.factsS k v hk).2⟩,factsD:=h.factsD,doubtsL:=h.doubtsL }
theorem LookI.subsStep (h : LookI N N2 w hv hl sA sF sK sD sv lk lf ld W) {W1 : World} {sv' : Value} {x : Int × FR} (hg : W.grownBy W1 sv.ownBlock)
  (hr : W1.ownsRow N2 9 1 sv' ((subsL sA).length + 2) ((subsL sA).map Value.string ++ [.string x.2.subject,.string (wholeOf x.2.subject)])) :
  LookI N N2 w hv hl (sA ++ [x]) sF sK sD sv' lk lf ld (W1.setCell ⟨N + 4,0,none⟩ sv'):=by
 have hN : N ≤ W.heap.size:=Nat.le_trans (by have:=h.le;omega) h.size
 have f1:=frm_grown h.subs hg
 have b1:=f1.cells h.view (by decide)
 have f2 : Frm 138 W1 (W1.setCell ⟨N + 4,0,none⟩ sv'):=frm_set b1 sv'
 have hl' : subsL (sA ++ [x]) = subsL sA ++ [x.2.subject,wholeOf x.2.subject]:=by unfold subsL;rw [List.flatMap_append];rfl
 refine
   {below:=Below.setCell (h.below.grown hg hN fun k hk=>Nat.le_trans (by have:=h.le;omega) (owns_block h.subs hk).1) (Nat.le_add_right N 4) sv',view:=?_,held:=f2.owns (f1.owns h.held (by decide)) (by decide),low:=h.low,le:=h.le,size:=by rw [World.size_setCell];exact Nat.le_trans h.size hg.size,subs:=?_
    parts:=f2.map (f1.map h.parts),known:=f2.map (f1.map h.known),facts:=f2.map (f1.map h.facts),doubts:=f2.map (f1.map h.doubts),knownL:=h.knownL,factsN:=h.factsN
    factsS:=fun k v hk=>⟨f2.owns (f1.owns (h.factsS k v hk).1 (by decide)) (by decide),(h.factsS k v hk).2⟩,factsD:=h.factsD,doubtsL:=h.doubtsL }
 ·rw [heap_setCell_get,if_pos rfl,b1];rfl
 ·rw [hl',List.length_append,List.map_append]
  exact f2.owns hr (by decide)
theorem put_cells {W : World} {b g : Nat} {es : Array MapEntry} {c : Nat} {cs : Array Value} {T : TypeId} {fr : Nat × Nat} {o : Obj} (hb : W.heap[b]? = some (.map es c)) (hg : W.heap[g]? = some (.cells cs T fr)) : (W.putObj b o).heap[g]? = some (.cells cs T fr):=by
 rw [putObj_get,if_neg]
 ·exact hg
 ·rintro rfl
  rw [hb] at hg;cases hg
theorem put_owns {W : World} {b : Nat} {es : Array MapEntry} {c : Nat} {o : Obj} (hb : W.heap[b]? = some (.map es c)) {base : Nat} {T : TypeId} {k : Nat} {v : Value} {n : Nat} {xs : List Value} (ho : W.ownsRow base T k v n xs) : (W.putObj b o).ownsRow base T k v n xs:=
 owns_keep ho fun _ _ _ hg=>(put_cells hb hg).trans hg.symm
theorem put_other {κ : Type} [DecidableEq κ] {enc : κ → Value} {W : World} {b c : Nat} {l : List (κ × Value)} {o : Obj} (hc : MapIs enc W c l) (hne : c ≠ b) : MapIs enc (W.putObj b o) c l:=by
 unfold MapIs;rw [putObj_get,if_neg hne];exact hc
theorem wput_same {κ : Type} [DecidableEq κ] {enc : κ → Value} {W : World} {b : Nat} {l : List (κ × Value)} (hb : b < W.heap.size) : MapIs enc (wput enc W b l) b l:=by
 unfold MapIs wput;rw [putObj_get,if_pos rfl,if_pos hb]
theorem LookI.knownStep (h : LookI N N2 w hv hl sA sF sK sD sv lk lf ld W) (x : Int × FR) : LookI N N2 w hv hl sA sF (sK ++ [x]) sD sv (mput lk (keyOf x.2) (stepK (knowK sK (keyOf x.2)) x.2).1.val) lf ld (wput encK W (N + 1) (mput lk (keyOf x.2) (stepK (knowK sK (keyOf x.2)) x.2).1.val)):=by
 have hN : N ≤ W.heap.size:=Nat.le_trans (by have:=h.le;omega) h.size
 have hm:=h.known
 have hlt : N + 1 < W.heap.size:=heap_lt hm
 unfold MapIs at hm
 refine
   {below:=below_putObj h.below (by omega) _,view:=put_cells hm h.view,held:=put_owns hm h.held,low:=h.low,le:=h.le,size:=by unfold wput;rw [putObj_size];exact h.size,subs:=put_owns hm h.subs
    parts:=put_other h.parts (by omega),known:=wput_same hlt,facts:=put_other h.facts (by omega),doubts:=put_other h.doubts (by omega),knownL:=fun k=>?_,factsN:=h.factsN
    factsS:=fun k v hk=>⟨put_owns hm (h.factsS k v hk).1,(h.factsS k v hk).2⟩,factsD:=h.factsD,doubtsL:=h.doubtsL }
 rw [knowK_snoc]
 by_cases hk : keyOf x.2 = k
 ·subst hk
  rw [look_mput_same,if_pos rfl];rfl
 ·rw [look_mput_other _ _ _ _ (Ne.symm hk),if_neg hk];exact h.knownL k
theorem LookI.doubtYes (h : LookI N N2 w hv hl sA sF sK sD sv lk lf ld W) (x : Int × FR) (hd : (stepK (knowK sD (keyOf x.2)) x.2).2.1 = true) : LookI N N2 w hv hl sA sF sK (sD ++ [x]) sv lk lf (mput ld (keyOf x.2) (.bool true)) (wput encK W (N + 3) (mput ld (keyOf x.2) (.bool true))):=by
 have hN : N ≤ W.heap.size:=Nat.le_trans (by have:=h.le;omega) h.size
 have hm:=h.doubts
 have hlt : N + 3 < W.heap.size:=heap_lt hm
 unfold MapIs at hm
 refine
   {below:=below_putObj h.below (by omega) _,view:=put_cells hm h.view,held:=put_owns hm h.held,low:=h.low,le:=h.le,size:=by unfold wput;rw [putObj_size];exact h.size,subs:=put_owns hm h.subs
    parts:=put_other h.parts (by omega),known:=put_other h.known (by omega),facts:=put_other h.facts (by omega),doubts:=wput_same hlt,knownL:=h.knownL,factsN:=h.factsN
    factsS:=fun k v hk=>⟨put_owns hm (h.factsS k v hk).1,(h.factsS k v hk).2⟩,factsD:=h.factsD,doubtsL:=fun k=>?_ }
 unfold doubtK
 rw [knowK_snoc]
 by_cases hk : keyOf x.2 = k
 ·subst hk
  rw [look_mput_same,if_pos rfl]
  simp [hd]
 ·rw [look_mput_other _ _ _ _ (Ne.symm hk),if_neg hk];exact h.doubtsL k
theorem LookI.doubtNo (h : LookI N N2 w hv hl sA sF sK sD sv lk lf ld W) (x : Int × FR) (hd : meetOk x.2.attr (stepK (knowK sD (keyOf x.2)) x.2).1 = true) : LookI N N2 w hv hl sA sF sK (sD ++ [x]) sv lk lf ld W:=by
 refine { h with doubtsL:=fun k=>?_ }
 rw [h.doubtsL k]
 unfold doubtK
 rw [knowK_snoc]
 by_cases hk : keyOf x.2 = k
 ·subst hk
  rw [if_pos rfl]
  have : (stepK (knowK sD (keyOf x.2)) x.2).2.1 = ((knowK sD (keyOf x.2)).map (·.2.1)).getD false:=by
   show (_ || !meetOk x.2.attr (stepK (knowK sD (keyOf x.2)) x.2).1) = _
   rw [hd];simp
  simp [this]
 ·rw [if_neg hk]
theorem LookI.factsStep (h : LookI N N2 w hv hl sA sF sK sD sv lk lf ld W) (x : Int × FR) {W2 : World} {v' : Value} (hg : (wput encK W (N + 2) (mput lf (keyOf x.2) ((look lf (keyOf x.2)).getD (.slice none 0 0)))).grownBy W2 ((look lf (keyOf x.2)).getD (.slice none 0 0)).ownBlock)
  (hat : v'.ownBlock = ((look lf (keyOf x.2)).getD (.slice none 0 0)).ownBlock ∨ v'.ownBlock = some W.heap.size)
  (hr : W2.ownsRow N2 3 1 v' ((factsK sF (keyOf x.2)).length + 1) ((factsK sF (keyOf x.2)).map (Value.int .i64) ++ [.int .i64 x.1])) :
  LookI N N2 w hv hl sA (sF ++ [x]) sK sD sv lk (mput lf (keyOf x.2) v') ld (wput encK W2 (N + 2) (mput lf (keyOf x.2) v')):=by
 have hN : N ≤ W.heap.size:=Nat.le_trans (by have:=h.le;omega) h.size
 have hm:=h.facts
 have hlt : N + 2 < W.heap.size:=heap_lt hm
 unfold MapIs at hm
 obtain ⟨old,hold⟩ : ∃ old,(look lf (keyOf x.2)).getD (.slice none 0 0) = old:=⟨_,rfl⟩
 rw [hold] at hg hat
 have hrow0 : W.ownsRow N2 3 1 old (factsK sF (keyOf x.2)).length ((factsK sF (keyOf x.2)).map (Value.int .i64)):=by
  rw [← hold]
  cases hlk : look lf (keyOf x.2) with
  | none=>rw [h.factsN _ hlk];exact World.ownsRow_nil _ _ _ _
  | some v=>exact (h.factsS _ v hlk).1
 obtain ⟨l1,hl1⟩ : ∃ l1,mput lf (keyOf x.2) old = l1:=⟨_,rfl⟩
 rw [hl1] at hg
 obtain ⟨W1,hW1⟩ : ∃ W1,W1 = wput encK W (N + 2) l1:=⟨_,rfl⟩
 rw [← hW1] at hg
 have hs1 : W1.heap.size = W.heap.size:=by rw [hW1];unfold wput;rw [putObj_size]
 have hrow1 : W1.ownsRow N2 3 1 old (factsK sF (keyOf x.2)).length ((factsK sF (keyOf x.2)).map (Value.int .i64)):=by rw [hW1];exact put_owns hm hrow0
 have f1:=frm_grown hrow1 hg
 have hm2 : MapIs encK W2 (N + 2) l1:=f1.map (by rw [hW1];exact wput_same hlt)
 have hm2':=hm2
 unfold MapIs at hm2'
 have hb1 : Below N w W1:=by rw [hW1];exact below_putObj h.below (by omega) _
 have hb2 : Below N w W2:=hb1.grown hg (by rw [hs1];exact hN) fun k hk=>Nat.le_trans (by have:=h.le;omega) (owns_block hrow1 hk).1
 have hkeep : ∀ {base k : Nat} {v : Value} {n : Nat} {xs : List Value},W.ownsRow base 3 k v n xs → v.ownBlock ≠ old.ownBlock ∨ v.ownBlock = none → W2.ownsRow base 3 k v n xs:=fun ho hne=>by
  have h1:=put_owns (o:=.map (entsFrom encK 0 l1).toArray l1.length) hm ho
  have h2:=h1
  rw [show W.putObj (N + 2) (.map (entsFrom encK 0 l1).toArray l1.length) = W1 from hW1.symm] at h2
  exact h2.kept hg hne.symm
 refine
     { below:=below_putObj hb2 (by omega) _,view:=put_cells hm2' (f1.cells (by rw [hW1];exact put_cells hm h.view) (by decide)),held:=put_owns hm2' (hkeep h.held ?_),low:=h.low,le:=h.le,size:=?_,subs:=put_owns hm2' (f1.owns (by rw [hW1];exact put_owns hm h.subs) (by decide))
       parts:=put_other (f1.map (by rw [hW1];exact put_other h.parts (by omega))) (by omega),known:=put_other (f1.map (by rw [hW1];exact put_other h.known (by omega))) (by omega),facts:=wput_same (heap_lt hm2'),doubts:=put_other (f1.map (by rw [hW1];exact put_other h.doubts (by omega))) (by omega),knownL:=h.knownL,factsN:=fun k hk=>?_
       factsS:=fun k v hk=>?_,factsD:=fun k k' v u hv hu hne=>?_,doubtsL:=h.doubtsL }
 ·cases ho : hv.ownBlock with
  | none=>exact .inr rfl
  | some g=>
   left
   intro e
   have h1:=h.low g ho
   have h2:=(owns_block hrow0 e.symm).1
   omega
 ·unfold wput;rw [putObj_size];exact Nat.le_trans (by rw [hs1];exact h.size) hg.size
 ·by_cases hkk : k = keyOf x.2
  ·subst hkk;rw [look_mput_same] at hk;cases hk
  ·rw [look_mput_other _ _ _ _ hkk] at hk
   rw [factsK_snoc,if_neg (Ne.symm hkk)]
   exact h.factsN k hk
 ·by_cases hkk : k = keyOf x.2
  ·subst hkk
   rw [look_mput_same] at hk
   obtain rfl:=Option.some.inj hk
   rw [factsK_snoc,if_pos rfl]
   refine ⟨put_owns hm2' ?_,by simp⟩
   simpa using hr
  ·rw [look_mput_other _ _ _ _ hkk] at hk
   rw [factsK_snoc,if_neg (Ne.symm hkk)]
   obtain ⟨h1,h2⟩:=h.factsS k v hk
   refine ⟨put_owns hm2' (hkeep h1 ?_),h2⟩
   cases hlk : look lf (keyOf x.2) with
   | none=>
    rw [hlk] at hold
    left
    rw [← hold]
    intro e
    have h3 : v.ownBlock = none:=e
    rcases h1.2 with ⟨rfl,h4⟩ | ⟨g,cap,cur,rfl,_⟩
    · exact h2 (List.eq_nil_of_length_eq_zero h4)
    · simp [Value.ownBlock] at h3
   | some u=>
    rw [hlk] at hold
    left
    rw [← hold]
    exact h.factsD _ _ _ _ hk hlk hkk
 ·have hv0 : ∀ (a : ByteArray × Nat) (y : Value),look lf a = some y → a ≠ keyOf x.2 → y.ownBlock ≠ v'.ownBlock:=fun a y hy hne'=>by
   rcases hat with e | e
   ·rw [e,← hold]
    cases hlk : look lf (keyOf x.2) with
    | none=>
      intro e2
      have h3 : y.ownBlock = none:=e2
      obtain ⟨h1,h2⟩:=h.factsS a y hy
      rcases h1.2 with ⟨rfl,h4⟩ | ⟨g,cap,cur,rfl,_⟩
      · exact h2 (List.eq_nil_of_length_eq_zero h4)
      · simp [Value.ownBlock] at h3
    | some u=>exact h.factsD _ _ _ _ hy hlk hne'
   ·rw [e]
    intro e2
    obtain ⟨h1,_⟩:=h.factsS a y hy
    have:=(h1.lt _ e2).2
    omega
  by_cases h1 : k = keyOf x.2
  ·subst h1
   rw [look_mput_same] at hv
   obtain rfl:=Option.some.inj hv
   rw [look_mput_other _ _ _ _ (Ne.symm hne)] at hu
   exact (hv0 k' u hu (Ne.symm hne)).symm
  ·rw [look_mput_other _ _ _ _ h1] at hv
   by_cases h2 : k' = keyOf x.2
   ·subst h2
    rw [look_mput_same] at hu
    obtain rfl:=Option.some.inj hu
    exact hv0 k v hv h1
   ·rw [look_mput_other _ _ _ _ h2] at hu
    exact h.factsD _ _ _ _ hv hu hne
end
theorem vinfo3 : (Tryz.prog.info? 3).map (fun i=>(i.zero,i.size,i.bytes)) = some (some (.int .i64 0),1,8):=by kernel_rfl
theorem vinfo9 : (Tryz.prog.info? 9).map (fun i=>(i.zero,i.size,i.bytes)) = some (some (.string ⟨#[]⟩),1,16):=by kernel_rfl
theorem add_cell {W : World} {ab j : Nat} {u : Value} (h : W.cell? ⟨ab,0 + j,none⟩ = some u) : W.cell? ((⟨ab,0,none⟩ : Addr).add j) = some u:=by
 by_cases h0 : j = 0
 ·subst h0;simpa [Addr.add] using h
 ·simpa [Addr.add,h0] using h
theorem append_ints {W : World} {base : Nat} {v : Value} {k : Nat} {xs row : List Value} (hown : W.ownsRow base 3 1 v k xs) (ab m : Nat) (hl : row.length = m) (hrow : ∀ j u,row[j]? = some u → W.cell? ⟨ab,0 + j,none⟩ = some u) (h1 : ∀ u ∈ row,u.oneCell' = true) (hk : k + m ≤ 1000000) (hb : base ≤ W.heap.size) (c : Nat) :
  ∃ v' w',(Builtin.append_ #[35,35] 35 #[v,.slice (some ⟨ab,0,none⟩) m c]).run Tryz.prog W = .ok v' w' ∧ w'.ownsRow base 3 1 v' (k + m) (xs ++ row) ∧ W.grownBy w' v.ownBlock ∧ (v'.ownBlock = v.ownBlock ∨ v'.ownBlock = some W.heap.size):=by
 have hml : (1000000 : Nat) ≤ maxLen:=by decide
 obtain ⟨i0,hi,hz0,hz1,hz2⟩:=info_parts vinfo3
 obtain ⟨v',w',q1,q2,q3,_,q5⟩:=Go.run_append_own_at (P:=Tryz.prog) (w:=W) base 35 35 3 i0 _ 1 8 (by kernel_rfl) hi hz0 hz1 hz2 rfl (by decide) v k xs hown ⟨ab,0,none⟩ m c row (by omega) (fun j u hj=>add_cell (hrow j u hj)) h1 (by omega) (by omega) hb
 exact ⟨v',w',q1,q2,q3,q5⟩
theorem append_strs {W : World} {base : Nat} {v : Value} {k : Nat} {xs row : List Value} (hown : W.ownsRow base 9 1 v k xs) (ab m : Nat) (hl : row.length = m) (hrow : ∀ j u,row[j]? = some u → W.cell? ⟨ab,0 + j,none⟩ = some u) (h1 : ∀ u ∈ row,u.oneCell' = true) (hk : k + m ≤ 1000000) (hb : base ≤ W.heap.size) (c : Nat) :
  ∃ v' w',(Builtin.append_ #[26,26] 26 #[v,.slice (some ⟨ab,0,none⟩) m c]).run Tryz.prog W = .ok v' w' ∧ w'.ownsRow base 9 1 v' (k + m) (xs ++ row) ∧ W.grownBy w' v.ownBlock ∧ (v'.ownBlock = v.ownBlock ∨ v'.ownBlock = some W.heap.size):=by
 have hml : (1000000 : Nat) ≤ maxLen:=by decide
 obtain ⟨i0,hi,hz0,hz1,hz2⟩:=info_parts vinfo9
 obtain ⟨v',w',q1,q2,q3,_,q5⟩:=Go.run_append_own_at (P:=Tryz.prog) (w:=W) base 26 26 9 i0 _ 1 16 (by kernel_rfl) hi hz0 hz1 hz2 rfl (by decide) v k xs hown ⟨ab,0,none⟩ m c row (by omega) (fun j u hj=>add_cell (hrow j u hj)) h1 (by omega) (by omega) hb
 exact ⟨v',w',q1,q2,q3,q5⟩
def heldF (R : Rec) (ver : Ver) : List (Int × FR):=(heldV ver).map fun n=>(n,(R.facts[(n - 1).toNat]?).getD ⟨⟨#[]⟩,⟨⟨#[]⟩,[],0,0⟩,0,⟨0,0,0⟩⟩)
theorem heldF_at {R : Rec} (hok : RecOk R) {ver : Ver} (hv : ver ∈ R.vers) {j : Nat} (hj : j < (heldV ver).length) : ∃ (i : Nat) (f : FR),(heldV ver)[j]? = some ((i : Int) + 1) ∧ R.facts[i]? = some f ∧ (heldF R ver)[j]? = some ((i : Int) + 1,f):=by
 have hm : (heldV ver)[j] ∈ heldV ver:=List.getElem_mem _
 have hk : (heldV ver)[j] ∈ ver.added.map (·.1):=by
  unfold heldV at hm
  have:=(List.mem_filter.1 hm).1
  exact (List.mergeSort_perm _ _).mem_iff.1 this
 have hb:=(hok.keys ver hv).2.2 _ hk
 have hi : ((heldV ver)[j] - 1).toNat < R.facts.length:=by omega
 refine ⟨((heldV ver)[j] - 1).toNat,R.facts[((heldV ver)[j] - 1).toNat],?_,List.getElem?_eq_getElem hi,?_⟩
 ·rw [List.getElem?_eq_getElem hj]
  congr 1
  omega
 ·unfold heldF
  rw [List.getElem?_map,List.getElem?_eq_getElem hj]
  simp only [Option.map_some,List.getElem?_eq_getElem hi,Option.getD_some]
  congr 2
  omega
theorem heldF_len (R : Rec) (ver : Ver) : (heldF R ver).length = (heldV ver).length:=by unfold heldF;rw [List.length_map]
theorem RecAt.factAt {B : Nat} {w : World} {rb : Nat} {R : Rec} {cm : Nat} {vv fv : Value} {os : List (Option Nat × Option Nat)} {xs : List (List Value)} (h : RecAt B w rb R cm vv fv os xs) {i : Nat} {f : FR} (hf : R.facts[i]? = some f) :
  ∃ fb cap s p n c lo hi,fv = .slice (some ⟨fb,0,none⟩) R.facts.length cap ∧ R.facts.length ≤ cap ∧ ∀ (j : Nat) u,(frCells f [.string s,.slice p n c,.int .i64 lo,.int .i64 hi])[j]? = some u → w.cell? ⟨fb,i * 9 + j,none⟩ = some u:=by
 have hi : i < R.facts.length:=(List.getElem?_eq_some_iff.1 hf).1
 obtain ⟨x,hx⟩ : ∃ x,xs[i]? = some x:=⟨_,List.getElem?_eq_getElem (by rw [h.factLen];exact hi)⟩
 obtain ⟨s,p,n,c,lo,hi',rfl⟩:=h.four x (List.mem_of_getElem? hx)
 obtain ⟨hl,hh⟩:=h.facts
 rcases hh with ⟨_,h0⟩ | ⟨g,cap,cur,rfl,hg,hc,hn,hm,hs,ht⟩
 ·omega
 ·refine ⟨g,cap,s,p,n,c,lo,hi',rfl,hn,fun j u hu=>?_⟩
  have hj : j < 9:=(List.getElem?_eq_some_iff.1 hu).1
  have hz : (R.facts.zip xs)[i]? = some (f,[.string s,.slice p n c,.int .i64 lo,.int .i64 hi']):=by rw [List.getElem?_zip_eq_some];exact ⟨hf,hx⟩
  have hfour : ∀ (l1 : List FR) (l2 : List (List Value)),(∀ x ∈ l2,FourOk x) → ∀ (i j : Nat) (y : FR × List Value),(l1.zip l2)[i]? = some y → j < 9 → ((l1.zip l2).flatMap fun x=>frCells x.1 x.2)[i * 9 + j]? = (frCells y.1 y.2)[j]?:=by
   intro l1
   induction l1 with
   | nil=>intro l2 _ i j y hy;simp at hy
   | cons a r ih=>
    intro l2 h4 i j y hy hj
    cases l2 with
    | nil=>simp at hy
    | cons b r2=>
     have hb : (frCells a b).length = 9:=by
      obtain ⟨_,_,_,_,_,_,rfl⟩:=h4 b List.mem_cons_self
      rfl
     simp only [List.zip_cons_cons,List.flatMap_cons]
     cases i with
     | zero=>
      simp at hy
      subst hy
      rw [Nat.zero_mul,Nat.zero_add]
      exact List.getElem?_append_left (by rw [hb];exact hj)
     | succ i=>
      rw [List.getElem?_append_right (by rw [hb,Nat.add_mul];omega),hb]
      have : (i + 1) * 9 + j - 9 = i * 9 + j:=by rw [Nat.add_mul];omega
      rw [this]
      exact ih r2 (fun x hx=>h4 x (List.mem_cons_of_mem _ hx)) i j y (by simpa using hy) hj
  have h2:=hfour R.facts xs h.four i j _ hz hj
  rw [cell_of hc]
  rw [← ht,hu,List.getElem?_take] at h2
  split at h2
  ·simpa using h2
  ·cases h2
def AppI (wq : World) (T : TypeId) (base sz blk off : Nat) (vv : Value) (k : Nat) (xs row : List Value) (m : Nat) (us : List Value) (W : World) : Prop:=
 match us with
 | []=>Ext wq W
 | [u]=>∃ ab,u = .slice (some ⟨ab,0,none⟩) m m ∧ W.heap[ab]? = some (.cells row.toArray T (0,0)) ∧ Ext wq W
 | [_,v']=>∃ W0,Ext wq W0 ∧ W0.grownBy W vv.ownBlock ∧ W.ownsRow base T sz v' (k + m) (xs ++ row)
 | _ :: v' :: _=>∃ W0 W1,Ext wq W0 ∧ W0.grownBy W1 vv.ownBlock ∧ W1.ownsRow base T sz v' (k + m) (xs ++ row) ∧ W = W1.setCell ⟨blk,off,none⟩ v'
section
variable {wq : World} {T : TypeId} {base sz blk off : Nat} {vv : Value} {k : Nat} {xs row : List Value} {m : Nat} {us : List Value} {W : World}
theorem AppI.pre (h : AppI wq T base sz blk off vv k xs row m us W) (hl : us.length ≤ 1) : Ext wq W:=by
 match us,h,hl with
 | [],h,_=>exact h
 | [_],⟨_,_,_,h⟩,_=>exact h
theorem AppI.keep (h : AppI wq T base sz blk off vv k xs row m us W) (hl : us.length ≤ 2) {n : Nat} {ys : List Value} (hvv : wq.ownsRow base T sz vv n ys) {b : Nat} {o : Obj} (hb : wq.heap[b]? = some o) (ho : ∀ cs fr,o ≠ .cells cs T fr) : W.heap[b]? = some o:=by
 match us,h,hl with
 | [],h,_=>exact Ext.obj h hb
 | [_],⟨_,_,_,h⟩,_=>exact h.obj hb
 | [_,_],⟨W0,hx,hg,_⟩,_=>exact grown_keep (owns_keep hvv fun g _ _ hgg=>hx.block g (heap_lt hgg)) hg (hx.obj hb) ho
end
def EntI {κ : Type} [DecidableEq κ] (enc : κ → Value) (wq : World) (T : TypeId) (base mb : Nat) (lm : List (κ × Value)) (key : κ) (old : Value) (k : Nat) (xs row : List Value) (m : Nat) (P : Value → World → Prop) (us : List Value) (W : World) : Prop:=
 match us with
 | []=>Ext wq W
 | [u]=>∃ ab,u = .slice (some ⟨ab,0,none⟩) m m ∧ W.heap[ab]? = some (.cells row.toArray T (0,0)) ∧ Ext wq W
 | [u,e]=>∃ ab W0,u = .slice (some ⟨ab,0,none⟩) m m ∧ e = .tuple #[old,.int .i64 (posOf lm key)] ∧ W0.heap[ab]? = some (.cells row.toArray T (0,0)) ∧ Ext wq W0 ∧ W = wput enc W0 mb (mput lm key old)
 | [_,_,v']=>∃ W0,Ext wq W0 ∧ (wput enc W0 mb (mput lm key old)).grownBy W old.ownBlock ∧ W.ownsRow base T 1 v' (k + m) (xs ++ row) ∧ (v'.ownBlock = old.ownBlock ∨ v'.ownBlock = some W0.heap.size)
 | _ :: _ :: v' :: _=>P v' W
theorem EntI.pre {κ : Type} [DecidableEq κ] {enc : κ → Value} {wq : World} {T : TypeId} {base mb : Nat} {lm : List (κ × Value)} {key : κ} {old : Value} {k : Nat} {xs row : List Value} {m : Nat} {P : Value → World → Prop} {us : List Value} {W : World} (h : EntI enc wq T base mb lm key old k xs row m P us W) (hl : us.length ≤ 1) : Ext wq W:=by
 match us,h,hl with
 | [],h,_=>exact h
 | [_],⟨_,_,_,h⟩,_=>exact h
theorem RecAt.isCol {B : Nat} {w : World} {rb : Nat} {R : Rec} {cm : Nat} {vv fv : Value} {os : List (Option Nat × Option Nat)} {xs : List (List Value)} (h : RecAt B w rb R cm vv fv os xs) {a : Attr} {c : Nat} (hc : (a,c) ∈ R.cols) : IsCol w c:=by
 obtain ⟨_,_,_,h1,_⟩:=h.colAt _ hc
 exact ⟨_,h1⟩
theorem heldF_mem {R : Rec} (hok : RecOk R) {ver : Ver} (hv : ver ∈ R.vers) {y : Int × FR} (hy : y ∈ heldF R ver) : y.2 ∈ R.facts:=by
 obtain ⟨j,hj⟩:=List.mem_iff_getElem?.1 hy
 have hjl : j < (heldV ver).length:=by rw [← heldF_len R ver];exact (List.getElem?_eq_some_iff.1 hj).1
 obtain ⟨i,f,_,hf,hx⟩:=heldF_at hok hv hjl
 rw [hx] at hj
 obtain rfl:=Option.some.inj hj
 exact List.mem_of_getElem? hf
theorem RecAt.heldCol {B : Nat} {w : World} {rb : Nat} {R : Rec} {cm : Nat} {vv fv : Value} {os : List (Option Nat × Option Nat)} {xs : List (List Value)} (h : RecAt B w rb R cm vv fv os xs) {ver : Ver} (hv : ver ∈ R.vers) {W : World} (hx : Ext w W) (j : Nat) : ∀ y ∈ (heldF R ver).take j,IsCol W y.2.col:=fun y hy=>
 (h.ext hx).isCol (h.ok.fact _ (heldF_mem h.ok hv (List.mem_of_mem_take hy))).1
section
variable {N N2 : Nat} {w : World} {hv : Value} {hl : List Int} {sA sF sK sD : List (Int × FR)} {sv : Value} {lk lf ld : List ((ByteArray × Nat) × Value)} {W W' : World}
theorem LookI.colF (h : LookI N N2 w hv hl sA sF sK sD sv lk lf ld W) (hs : ∀ y ∈ sF,IsCol W' y.2.col) : ∀ x ∈ lf,IsCol W' x.1.2:=fun x hx=>by
 have h1 : (look lf x.1).isSome = true:=look_isSome_iff.2 (List.mem_map.2 ⟨x,hx,rfl⟩)
 obtain ⟨v,hv⟩:=Option.isSome_iff_exists.1 h1
 obtain ⟨y,hy,e⟩:=factsK_mem (h.factsS x.1 v hv).2
 rw [← e];exact hs y hy
theorem LookI.colK (h : LookI N N2 w hv hl sA sF sK sD sv lk lf ld W) (hs : ∀ y ∈ sK,IsCol W' y.2.col) : ∀ x ∈ lk,IsCol W' x.1.2:=fun x hx=>by
 have h1 : (look lk x.1).isSome = true:=look_isSome_iff.2 (List.mem_map.2 ⟨x,hx,rfl⟩)
 rw [h.knownL] at h1
 cases hk : knowK sK x.1 with
 | none=>rw [hk] at h1;cases h1
 | some z=>
  obtain ⟨y,hy,e,_⟩:=knowK_some _ _ _ hk
  rw [← e];exact hs y hy
theorem LookI.colD (h : LookI N N2 w hv hl sA sF sK sD sv lk lf ld W) (hs : ∀ y ∈ sD,IsCol W' y.2.col) : ∀ x ∈ ld,IsCol W' x.1.2:=fun x hx=>by
 have h1 : (look ld x.1).isSome = true:=look_isSome_iff.2 (List.mem_map.2 ⟨x,hx,rfl⟩)
 rw [h.doubtsL] at h1
 unfold doubtK at h1
 cases hk : knowK sD x.1 with
 | none=>rw [hk] at h1;simp at h1
 | some z=>
  obtain ⟨y,hy,e,_⟩:=knowK_some _ _ _ hk
  rw [← e];exact hs y hy
end
theorem factsK_le (l : List (Int × FR)) (k : ByteArray × Nat) : (factsK l k).length ≤ l.length:=by
 unfold factsK;rw [List.length_map];exact List.length_filter_le _ _
section
variable {N N2 : Nat} {w : World} {hv : Value} {hl : List Int} {sA sF sK sD : List (Int × FR)} {sv : Value} {lk lf ld : List ((ByteArray × Nat) × Value)} {W : World}
theorem LookI.rowOld (h : LookI N N2 w hv hl sA sF sK sD sv lk lf ld W) (k : ByteArray × Nat) : W.ownsRow N2 3 1 ((look lf k).getD (.slice none 0 0)) (factsK sF k).length ((factsK sF k).map (Value.int .i64)):=by
 cases hlk : look lf k with
 | none=>rw [h.factsN _ hlk];exact World.ownsRow_nil _ _ _ _
 | some v=>exact (h.factsS _ v hlk).1
theorem LookI.entry (h : LookI N N2 w hv hl sA sF sK sD sv lk lf ld W) (k : ByteArray × Nat) {W2 : World} {v' : Value} (hg : (wput encK W (N + 2) (mput lf k ((look lf k).getD (.slice none 0 0)))).grownBy W2 ((look lf k).getD (.slice none 0 0)).ownBlock) :
  (Instr.entryStore 135 (.map (some (N + 2))) (.int .i64 (posOf lf k)) v').run Tryz.prog W2 = .ok () (wput encK W2 (N + 2) (mput lf k v')) ∧
  ∀ (b : Nat) (cs : Array Value) (T : TypeId) (fr : Nat × Nat),T ≠ 3 → W.heap[b]? = some (.cells cs T fr) → (wput encK W2 (N + 2) (mput lf k v')).heap[b]? = some (.cells cs T fr):=by
 have hm:=h.facts
 have hlt : N + 2 < W.heap.size:=heap_lt hm
 unfold MapIs at hm
 have hrow1 : (wput encK W (N + 2) (mput lf k ((look lf k).getD (.slice none 0 0)))).ownsRow N2 3 1 ((look lf k).getD (.slice none 0 0)) _ _:=put_owns hm (h.rowOld k)
 have f1:=frm_grown hrow1 hg
 have hm2 : MapIs encK W2 (N + 2) (mput lf k ((look lf k).getD (.slice none 0 0))):=f1.map (wput_same hlt)
 have hm2':=hm2
 unfold MapIs at hm2'
 refine ⟨?_,fun b cs T fr hT hb=>put_cells hm2' (f1.cells (put_cells hm hb) hT)⟩
 have:=run_entryStore (P:=Tryz.prog) (T:=135) (v:=v') hm2 (mput_set lf k ((look lf k).getD (.slice none 0 0)) v').1
 rw [(mput_set lf k ((look lf k).getD (.slice none 0 0)) v').2] at this
 exact this
end
def AllI (wq : World) (st0 : St) (us : List Value) (W : World) : Prop:=
 match us with
 | []=>Ext wq W
 | [a]=>∃ W0,Ext wq W0 ∧ a = .pointer (some ⟨W0.heap.size,0,none⟩) ∧ W = W0.alloc (.cells #[.int .u64 0,.int .i64 0,.int .i64 0] 120 (0,0))
 | a :: _=>∃ bb,a = .pointer (some ⟨bb,0,none⟩) ∧ wq.heap.size ≤ bb ∧ Ext wq W ∧ W.heap[bb]? = some (.cells #[.int .u64 st0.bits,.int .i64 st0.low,.int .i64 st0.high] 120 (0,0))
theorem AllI.pre {wq : World} {st0 : St} {us : List Value} {W : World} (h : AllI wq st0 us W) (hl : us.length ≤ 1) : Ext wq W:=by
 match us,h,hl with
 | [],h,_=>exact h
 | [_],⟨W0,h,_,e⟩,_=>rw [e];exact h.trans' (by exact bel)
def UpI (wq : World) (P : World → Prop) (us : List Value) (W : World) : Prop:=
 match us with
 | []=>Ext wq W
 | _=>P W
theorem UpI.pre {wq : World} {P : World → Prop} {us : List Value} {W : World} (h : UpI wq P us W) (hl : us.length ≤ 0) : Ext wq W:=by
 have : us = []:=List.eq_nil_of_length_eq_zero (by omega)
 subst this;exact h
theorem knowK_bits {l : List (Int × FR)} (hl : ∀ y ∈ l,y.2.st.bits < 256) {k : ByteArray × Nat} {x : St × Bool × Attr} (h : knowK l k = some x) : x.1.bits < 256:=by
 have hrev : ∀ (r : List (Int × FR)),(∀ y ∈ r,y.2.st.bits < 256) → ∀ (x : St × Bool × Attr),knowK r.reverse k = some x → x.1.bits < 256:=by
  intro r
  induction r with
  | nil=>intro _ x h;simp [knowK] at h
  | cons y r ih=>
   intro hr x h
   rw [List.reverse_cons,knowK_snoc] at h
   split at h
   ·simp only [Option.some.injEq] at h
    subst h
    exact Nat.lt_of_le_of_lt Nat.and_le_right (hr y List.mem_cons_self)
   ·exact ih (fun y hy=>hr y (List.mem_cons_of_mem _ hy)) x h
 exact hrev l.reverse (fun y hy=>hl y (List.mem_reverse.1 hy)) x (by rw [List.reverse_reverse];exact h)
theorem allSt_bits {a : Attr} (ha : AttrOk a) : (allSt a).bits < 256:=by
 have h1:=ha.small
 have h2 : 2 ^ a.values.length ≤ 2 ^ 8:=Nat.pow_le_pow_right (by decide) h1
 show 2 ^ a.values.length - 1 < 256
 omega
end Go.Proofs.YtihfcjioilmmjaaGreat
namespace Go.Proofs.YtihfcjioilmmjaaGreat
open Go Go.RowKit
open Go.Lib Go.Sort Go.Maps Go.Shelf Go.Proofs
def partsJ (pj : List (List UInt8)) (s : ByteArray) : List (List UInt8):=pj.filter fun t=>isPart (ofBytes t) && decide (wholeOf (ofBytes t) = s)
theorem partsJ_snoc (pj : List (List UInt8)) (t : List UInt8) (s : ByteArray) : partsJ (pj ++ [t]) s = if isPart (ofBytes t) = true ∧ wholeOf (ofBytes t) = s then partsJ pj s ++ [t] else partsJ pj s:=by
 unfold partsJ
 rw [List.filter_append]
 by_cases h1 : isPart (ofBytes t) = true <;> by_cases h2 : wholeOf (ofBytes t) = s <;> simp [h1,h2]
structure LookJ (N N2 N3 : Nat) (w : World) (hf : List (Int × FR)) (sv : Value) (pj : List (List UInt8)) (lp : List (ByteArray × Value)) (kn : ByteArray × Nat → Option Value) (lk lf ld : List ((ByteArray × Nat) × Value)) (wr : World) : Prop where
 below : Below N w wr
 view : wr.heap[N + 4]? = some (.cells #[sv,.map (some N),.map (some (N + 1)),.map (some (N + 2)),.map (some (N + 3))] 138 (0,0))
 le : N + 5 ≤ N2
 le3 : N2 ≤ N3
 size : N3 ≤ wr.heap.size
 subs : wr.ownsRow N2 9 1 sv (subsV hf).length ((subsV hf).map encStr)
 low : ∀ g,sv.ownBlock = some g → g < N3
 parts : MapIs Value.string wr N lp
 partsN : ∀ s,look lp s = none → partsJ pj s = []
 partsS : ∀ s v,look lp s = some v → wr.ownsRow N3 9 1 v (partsJ pj s).length ((partsJ pj s).map encStr) ∧ partsJ pj s ≠ []
 partsD : ∀ k k' v v',look lp k = some v → look lp k' = some v' → k ≠ k' → v.ownBlock ≠ v'.ownBlock
 known : MapIs encK wr (N + 1) lk
 facts : MapIs encK wr (N + 2) lf
 doubts : MapIs encK wr (N + 3) ld
 knownL : ∀ k,look lk k = kn k
 factsN : ∀ k,look lf k = none → factsK hf k = []
 factsS : ∀ k v,look lf k = some v → wr.ownsRow N2 3 1 v (factsK hf k).length ((factsK hf k).map (Value.int .i64)) ∧ factsK hf k ≠ []
 doubtsL : ∀ k,look ld k = if doubtK hf k then some (.bool true) else none
section
variable {N N2 N3 : Nat} {w : World} {hf : List (Int × FR)} {sv : Value} {pj : List (List UInt8)} {lp : List (ByteArray × Value)} {kn : ByteArray × Nat → Option Value} {lk lf ld : List ((ByteArray × Nat) × Value)} {W : World}
theorem LookJ.ext (h : LookJ N N2 N3 w hf sv pj lp kn lk lf ld W) {W' : World} (hx : Ext W W') : LookJ N N2 N3 w hf sv pj lp kn lk lf ld W':=
 {below:=Below.trans h.below (Below.mono hx (Nat.le_trans (by have:=h.le;have:=h.le3;omega) h.size)),view:=hx.obj h.view,le:=h.le,le3:=h.le3,size:=Nat.le_trans h.size hx.size,subs:=owns_keep h.subs fun g _ _ hg=>hx.block g (heap_lt hg),low:=h.low,parts:=h.parts.ext hx,partsN:=h.partsN
  partsS:=fun k v hk=>⟨owns_keep (h.partsS k v hk).1 fun g _ _ hg=>hx.block g (heap_lt hg),(h.partsS k v hk).2⟩,partsD:=h.partsD,known:=h.known.ext hx,facts:=h.facts.ext hx,doubts:=h.doubts.ext hx,knownL:=h.knownL,factsN:=h.factsN
  factsS:=fun k v hk=>⟨owns_keep (h.factsS k v hk).1 fun g _ _ hg=>hx.block g (heap_lt hg),(h.factsS k v hk).2⟩,doubtsL:=h.doubtsL }
theorem LookI.toJ {hv : Value} {hl : List Int} (h : LookI N N2 w hv hl hf hf hf hf sv lk lf ld W) {W1 W1' W2 : World} {sv' : Value} (g1 : W.grownBy W1 sv.ownBlock) (r1 : W1.ownsRow N2 9 1 sv (subsL hf).length ((sortB (subsL hf)).map encStr)) (hx : Ext W1 W1') (g2 : W1'.grownBy W2 sv.ownBlock) (hb : sv'.ownBlock = sv.ownBlock)
  (r2 : W2.ownsRow N2 9 1 sv' (subsV hf).length ((subsV hf).map encStr)) :
  LookJ N N2 W2.heap.size w hf sv' [] [] (fun k=>(knowK hf k).map fun x=>x.1.val) lk lf ld (W2.setCell ⟨N + 4,0,none⟩ sv') ∧ W1'.heap[N + 4]? = some (.cells #[sv,.map (some N),.map (some (N + 1)),.map (some (N + 2)),.map (some (N + 3))] 138 (0,0)) ∧ W2.heap[N + 4]? = some (.cells #[sv,.map (some N),.map (some (N + 1)),.map (some (N + 2)),.map (some (N + 3))] 138 (0,0)):=by
 have hN : N ≤ W.heap.size:=Nat.le_trans (by have:=h.le;omega) h.size
 have r1' : W1'.ownsRow N2 9 1 sv (subsL hf).length ((sortB (subsL hf)).map encStr):=owns_keep r1 fun g _ _ hg=>hx.block g (heap_lt hg)
 have f1:=frm_grown h.subs g1
 have f2:=frm_grown r1' g2
 have v1:=hx.obj (f1.cells h.view (by decide))
 have v2:=f2.cells v1 (by decide)
 have f3 : Frm 138 W2 (W2.setCell ⟨N + 4,0,none⟩ sv'):=frm_set v2 sv'
 have hN1 : N ≤ W1.heap.size:=Nat.le_trans hN g1.size
 have b1 : Below N w W1:=h.below.grown g1 hN fun k hk=>Nat.le_trans (by have:=h.le;omega) (owns_block h.subs hk).1
 have b1' : Below N w W1':=Below.trans b1 (Below.mono hx hN1)
 have b2 : Below N w W2:=b1'.grown g2 (Nat.le_trans hN1 hx.size) fun k hk=>Nat.le_trans (by have:=h.le;omega) (owns_block r1' hk).1
 have mp : ∀ {κ : Type} [DecidableEq κ] {enc : κ → Value} {b : Nat} {l : List (κ × Value)},MapIs enc W b l → MapIs enc (W2.setCell ⟨N + 4,0,none⟩ sv') b l:=fun hm=>f3.map (f2.map (MapIs.ext (f1.map hm) hx))
 have hs2 : W.heap.size ≤ W2.heap.size:=Nat.le_trans g1.size (Nat.le_trans hx.size g2.size)
 refine ⟨
   {below:=Below.setCell b2 (Nat.le_add_right N 4) sv',view:=?_,le:=h.le,le3:=Nat.le_trans h.size hs2,size:=by rw [World.size_setCell];exact Nat.le_refl _,subs:=f3.owns r2 (by decide),low:=fun g hg=>?_,parts:=mp h.parts,partsN:=fun s _=>rfl,partsS:=fun s v hs=>(by cases hs),partsD:=fun k k' v v' hs=>(by cases hs)
    known:=mp h.known,facts:=mp h.facts,doubts:=mp h.doubts,knownL:=h.knownL,factsN:=h.factsN,factsS:=fun k v hk=>⟨f3.owns (f2.owns (owns_keep (f1.owns (h.factsS k v hk).1 (by decide)) fun g _ _ hg=>hx.block g (heap_lt hg)) (by decide)) (by decide),(h.factsS k v hk).2⟩,doubtsL:=h.doubtsL },v1,v2⟩
 ·rw [heap_setCell_get,if_pos rfl,v2];rfl
 ·exact (r2.lt g hg).2
theorem LookJ.knownStep (h : LookJ N N2 N3 w hf sv pj lp kn lk lf ld W) (k : ByteArray × Nat) (v : Value) (kn' : ByteArray × Nat → Option Value) (hk : kn' k = some v) (hk' : ∀ k',k' ≠ k → kn' k' = kn k') : LookJ N N2 N3 w hf sv pj lp kn' (mput lk k v) lf ld (wput encK W (N + 1) (mput lk k v)):=by
 have hN : N ≤ W.heap.size:=Nat.le_trans (by have:=h.le;have:=h.le3;omega) h.size
 have hm:=h.known
 have hlt : N + 1 < W.heap.size:=heap_lt hm
 unfold MapIs at hm
 refine
   {below:=below_putObj h.below (by omega) _,view:=put_cells hm h.view,le:=h.le,le3:=h.le3,size:=by unfold wput;rw [putObj_size];exact h.size,subs:=put_owns hm h.subs,low:=h.low
    parts:=put_other h.parts (by omega),partsN:=h.partsN,partsS:=fun k v hk=>⟨put_owns hm (h.partsS k v hk).1,(h.partsS k v hk).2⟩,partsD:=h.partsD,known:=wput_same hlt,facts:=put_other h.facts (by omega),doubts:=put_other h.doubts (by omega),knownL:=fun k1=>?_,factsN:=h.factsN
    factsS:=fun k v hk=>⟨put_owns hm (h.factsS k v hk).1,(h.factsS k v hk).2⟩,doubtsL:=h.doubtsL }
 by_cases e : k1 = k
 ·subst e
  rw [look_mput_same,hk]
 ·rw [look_mput_other _ _ _ _ e,hk' _ e];exact h.knownL k1
theorem LookJ.put (h : LookJ N N2 N3 w hf sv pj lp kn lk lf ld W) {r : Nat} {o o' : Obj} (hr : N3 ≤ r) (ho : W.heap[r]? = some o) (h1 : ∀ cs T fr,o ≠ .cells cs T fr) : LookJ N N2 N3 w hf sv pj lp kn lk lf ld (W.putObj r o'):=by
 have hle:=h.le
 have hle3:=h.le3
 have hc : ∀ {g : Nat} {cs : Array Value} {T : TypeId} {fr : Nat × Nat},W.heap[g]? = some (.cells cs T fr) → (W.putObj r o').heap[g]? = some (.cells cs T fr):=fun hg=>by
  rw [putObj_get,if_neg]
  ·exact hg
  ·rintro rfl
   rw [ho] at hg
   exact h1 _ _ _ (Option.some.inj hg)
 have how : ∀ {base : Nat} {T : TypeId} {k : Nat} {v : Value} {n : Nat} {xs : List Value},W.ownsRow base T k v n xs → (W.putObj r o').ownsRow base T k v n xs:=fun hw=>owns_keep hw fun _ _ _ hg=>(hc hg).trans hg.symm
 have hmp : ∀ {κ : Type} [DecidableEq κ] {enc : κ → Value} {b : Nat} {l : List (κ × Value)},b < N3 → MapIs enc W b l → MapIs enc (W.putObj r o') b l:=fun hb hm=>by
  unfold MapIs;rw [putObj_get,if_neg (by omega)];exact hm
 exact
    {below:=below_putObj h.below (by omega) _,view:=hc h.view,le:=h.le,le3:=h.le3,size:=by rw [putObj_size];exact h.size,subs:=how h.subs,low:=h.low,parts:=hmp (by omega) h.parts,partsN:=h.partsN
     partsS:=fun k v hk=>⟨how (h.partsS k v hk).1,(h.partsS k v hk).2⟩,partsD:=h.partsD,known:=hmp (by omega) h.known,facts:=hmp (by omega) h.facts,doubts:=hmp (by omega) h.doubts,knownL:=h.knownL,factsN:=h.factsN
     factsS:=fun k v hk=>⟨how (h.factsS k v hk).1,(h.factsS k v hk).2⟩,doubtsL:=h.doubtsL }
theorem LookJ.rowOld (h : LookJ N N2 N3 w hf sv pj lp kn lk lf ld W) (s : ByteArray) : W.ownsRow N3 9 1 ((look lp s).getD (.slice none 0 0)) (partsJ pj s).length ((partsJ pj s).map encStr):=by
 cases hlk : look lp s with
 | none=>rw [h.partsN _ hlk];exact World.ownsRow_nil _ _ _ _
 | some v=>exact (h.partsS _ v hlk).1
theorem LookJ.noPart (h : LookJ N N2 N3 w hf sv pj lp kn lk lf ld W) {t : List UInt8} (ht : isPart (ofBytes t) = false) : LookJ N N2 N3 w hf sv (pj ++ [t]) lp kn lk lf ld W:=by
 have e : ∀ s,partsJ (pj ++ [t]) s = partsJ pj s:=fun s=>by rw [partsJ_snoc,if_neg (by rw [ht];simp)]
 exact { h with partsN:=fun s hs=>by rw [e];exact h.partsN s hs,partsS:=fun s v hs=>by rw [e];exact h.partsS s v hs }
theorem LookJ.part (h : LookJ N N2 N3 w hf sv pj lp kn lk lf ld W) {t : List UInt8} (ht : isPart (ofBytes t) = true) {W2 : World} {v' : Value} (hg : W.grownBy W2 ((look lp (wholeOf (ofBytes t))).getD (.slice none 0 0)).ownBlock)
  (hat : v'.ownBlock = ((look lp (wholeOf (ofBytes t))).getD (.slice none 0 0)).ownBlock ∨ v'.ownBlock = some W.heap.size)
  (hr : W2.ownsRow N3 9 1 v' ((partsJ pj (wholeOf (ofBytes t))).length + 1) ((partsJ pj (wholeOf (ofBytes t))).map encStr ++ [.string (ofBytes t)])) :
  LookJ N N2 N3 w hf sv (pj ++ [t]) (mput lp (wholeOf (ofBytes t)) v') kn lk lf ld (wput Value.string W2 N (mput lp (wholeOf (ofBytes t)) v')):=by
 obtain ⟨s,hs⟩ : ∃ s,wholeOf (ofBytes t) = s:=⟨_,rfl⟩
 rw [hs] at hg hat hr ⊢
 obtain ⟨old,hold⟩ : ∃ old,(look lp s).getD (.slice none 0 0) = old:=⟨_,rfl⟩
 have hrow0:=h.rowOld s
 rw [hold] at hg hat hrow0
 have hle:=h.le
 have hle3:=h.le3
 have hN : N ≤ W.heap.size:=Nat.le_trans (by omega) h.size
 have f1:=frm_grown hrow0 hg
 have hm2 : MapIs Value.string W2 N lp:=f1.map h.parts
 have hm2':=hm2
 unfold MapIs at hm2'
 have hlt : N < W2.heap.size:=heap_lt hm2'
 have hb2 : Below N w W2:=h.below.grown hg hN fun k hk=>Nat.le_trans (by omega) (owns_block hrow0 hk).1
 have hkeep : ∀ {base k : Nat} {v : Value} {n : Nat} {xs : List Value},W.ownsRow base 9 k v n xs → v.ownBlock ≠ old.ownBlock ∨ v.ownBlock = none → W2.ownsRow base 9 k v n xs:=fun ho hne=>ho.kept hg hne.symm
 have hsome : ∀ (a : ByteArray) (y : Value),look lp a = some y → y.ownBlock ≠ none:=fun a y hy e=>by
  obtain ⟨h1,h2⟩:=h.partsS a y hy
  rcases h1.2 with ⟨rfl,h4⟩ | ⟨g,cap,cur,rfl,_⟩
  ·exact h2 (List.eq_nil_of_length_eq_zero h4)
  ·simp [Value.ownBlock] at e
 have hne0 : ∀ (a : ByteArray) (y : Value),look lp a = some y → a ≠ s → y.ownBlock ≠ old.ownBlock:=fun a y hy hne=>by
  rw [← hold]
  cases hlk : look lp s with
  | none=>exact hsome a y hy
  | some u=>exact h.partsD _ _ _ _ hy hlk hne
 refine
     {below:=below_putObj hb2 (by omega) _,view:=put_cells hm2' (f1.cells h.view (by decide)),le:=h.le,le3:=h.le3,size:=by unfold wput;rw [putObj_size];exact Nat.le_trans h.size hg.size,subs:=put_owns hm2' (hkeep h.subs ?_),low:=h.low
      parts:=wput_same hlt,partsN:=fun a ha=>?_,partsS:=fun a v ha=>?_,partsD:=fun a a' v u hv hu hne=>?_,known:=put_other (f1.map h.known) (by omega),facts:=put_other (f1.map h.facts) (by omega),doubts:=put_other (f1.map h.doubts) (by omega),knownL:=h.knownL,factsN:=h.factsN
      factsS:=fun k v hk=>⟨put_owns hm2' (f1.owns (h.factsS k v hk).1 (by decide)),(h.factsS k v hk).2⟩,doubtsL:=h.doubtsL }
 ·cases ho : sv.ownBlock with
  | none=>exact .inr rfl
  | some g=>
   left
   intro e
   have h1:=h.low g ho
   have h2:=(owns_block hrow0 e.symm).1
   omega
 ·by_cases e : a = s
  ·subst e;rw [look_mput_same] at ha;cases ha
  ·rw [look_mput_other _ _ _ _ e] at ha
   rw [partsJ_snoc,if_neg (fun q=>e (by rw [← q.2];exact hs))]
   exact h.partsN a ha
 ·by_cases e : a = s
  ·subst e
   rw [look_mput_same] at ha
   obtain rfl:=Option.some.inj ha
   rw [partsJ_snoc,if_pos ⟨ht,hs⟩]
   refine ⟨put_owns hm2' ?_,by simp⟩
   rw [List.length_append,List.map_append]
   exact hr
  ·rw [look_mput_other _ _ _ _ e] at ha
   rw [partsJ_snoc,if_neg (fun q=>e (by rw [← q.2];exact hs))]
   obtain ⟨h1,h2⟩:=h.partsS a v ha
   exact ⟨put_owns hm2' (hkeep h1 (.inl (hne0 a v ha e))),h2⟩
 ·have hv0 : ∀ (a : ByteArray) (y : Value),look lp a = some y → a ≠ s → y.ownBlock ≠ v'.ownBlock:=fun a y hy hne'=>by
   rcases hat with e | e
   ·rw [e];exact hne0 a y hy hne'
   ·rw [e]
    intro e2
    have:=((h.partsS a y hy).1.lt _ e2).2
    omega
  by_cases h1 : a = s
  ·subst h1
   rw [look_mput_same] at hv
   obtain rfl:=Option.some.inj hv
   rw [look_mput_other _ _ _ _ (Ne.symm hne)] at hu
   exact (hv0 a' u hu (Ne.symm hne)).symm
  ·rw [look_mput_other _ _ _ _ h1] at hv
   by_cases h2 : a' = s
   ·subst h2
    rw [look_mput_same] at hu
    obtain rfl:=Option.some.inj hu
    exact hv0 a v hv h1
   ·rw [look_mput_other _ _ _ _ h2] at hu
    exact h.partsD _ _ _ _ hv hu hne
end
structure ViewAt (B : Nat) (w : World) (vb : Nat) (hf : List (Int × FR)) (sv : Value) (mp mk mf md : Nat) (lp : List (ByteArray × Value)) (lk lf ld : List ((ByteArray × Nat) × Value)) : Prop where
 view : w.heap[vb]? = some (.cells #[sv,.map (some mp),.map (some mk),.map (some mf),.map (some md)] 138 (0,0))
 subs : w.ownsRow B 9 1 sv (subsV hf).length ((subsV hf).map encStr)
 parts : MapIs Value.string w mp lp
 partsN : ∀ s,look lp s = none → partsV hf s = []
 partsS : ∀ s v,look lp s = some v → w.ownsRow B 9 1 v (partsV hf s).length ((partsV hf s).map encStr) ∧ partsV hf s ≠ []
 known : MapIs encK w mk lk
 knownL : ∀ k,look lk k = (knowV hf k).map St.val
 facts : MapIs encK w mf lf
 factsN : ∀ k,look lf k = none → factsK hf k = []
 factsS : ∀ k v,look lf k = some v → w.ownsRow B 3 1 v (factsK hf k).length ((factsK hf k).map (Value.int .i64)) ∧ factsK hf k ≠ []
 doubts : MapIs encK w md ld
 doubtsL : ∀ k,look ld k = if doubtK hf k then some (.bool true) else none
theorem ViewAt.ext {B : Nat} {w W : World} {vb : Nat} {hf : List (Int × FR)} {sv : Value} {mp mk mf md : Nat} {lp : List (ByteArray × Value)} {lk lf ld : List ((ByteArray × Nat) × Value)} (h : ViewAt B w vb hf sv mp mk mf md lp lk lf ld) (hx : Ext w W) : ViewAt B W vb hf sv mp mk mf md lp lk lf ld:=
 {view:=hx.obj h.view,subs:=owns_keep h.subs fun g _ _ hg=>hx.block g (heap_lt hg),parts:=h.parts.ext hx,partsN:=h.partsN,partsS:=fun k v hk=>⟨owns_keep (h.partsS k v hk).1 fun g _ _ hg=>hx.block g (heap_lt hg),(h.partsS k v hk).2⟩
  known:=h.known.ext hx,knownL:=h.knownL,facts:=h.facts.ext hx,factsN:=h.factsN,factsS:=fun k v hk=>⟨owns_keep (h.factsS k v hk).1 fun g _ _ hg=>hx.block g (heap_lt hg),(h.factsS k v hk).2⟩,doubts:=h.doubts.ext hx,doubtsL:=h.doubtsL }
theorem LookJ.done {N N2 N3 : Nat} {w : World} {hf : List (Int × FR)} {sv : Value} {lp : List (ByteArray × Value)} {lk lf ld : List ((ByteArray × Nat) × Value)} {W : World} (h : LookJ N N2 N3 w hf sv (subsV hf) lp (fun k=>(knowV hf k).map St.val) lk lf ld W) : ViewAt N W (N + 4) hf sv N (N + 1) (N + 2) (N + 3) lp lk lf ld:=
 {view:=h.view,subs:=owns_mono h.subs (by have:=h.le;omega),parts:=h.parts,partsN:=h.partsN,partsS:=fun s v hs=>⟨owns_mono (h.partsS s v hs).1 (by have:=h.le;have:=h.le3;omega),(h.partsS s v hs).2⟩,known:=h.known,knownL:=h.knownL,facts:=h.facts,factsN:=h.factsN
  factsS:=fun k v hk=>⟨owns_mono (h.factsS k v hk).1 (by have:=h.le;omega),(h.factsS k v hk).2⟩,doubts:=h.doubts,doubtsL:=h.doubtsL }
theorem compact_sub {α : Type} [Inhabited α] [DecidableEq α] {zs : List α} {x : α} (h : x ∈ Lib.compact zs) : x ∈ zs:=by
 unfold Lib.compact Lib.compactUpTo at h
 obtain ⟨i,hi,rfl⟩:=List.mem_map.1 h
 have hlt : i < zs.length:=by simpa using (List.mem_filter.1 hi).1
 rw [getElem!_pos zs.toArray i (by simpa using hlt)]
 simp
theorem sortB_len (l : List ByteArray) : (sortB l).length = l.length:=by unfold sortB;rw [List.length_mergeSort,List.length_map]
theorem subsL_len (l : List (Int × FR)) : (subsL l).length = 2 * l.length:=by
 induction l with
 | nil=>rfl
 | cons a r ih=>unfold subsL at *;rw [List.flatMap_cons,List.length_append,ih];simp;omega
theorem subsV_size {hf : List (Int × FR)} (h : ∀ y ∈ hf,y.2.subject.size < 4294967281) {t : List UInt8} (ht : t ∈ subsV hf) : (ofBytes t).size < 4294967281:=by
 have h1:=compact_sub ht
 unfold sortB at h1
 have h2:=(List.mergeSort_perm _ _).mem_iff.1 h1
 obtain ⟨s,hs,rfl⟩:=List.mem_map.1 h2
 unfold subsL at hs
 obtain ⟨y,hy,hs⟩:=List.mem_flatMap.1 hs
 have hz:=(cut_sizes y.2.subject).1
 have hb:=h y hy
 rw [of_bytes]
 simp only [List.mem_cons,List.not_mem_nil,or_false] at hs
 rcases hs with rfl | rfl
 ·exact hb
 ·omega
def kn2 (hf : List (Int × FR)) (ld : List ((ByteArray × Nat) × Value)) (seen : List Nat) (k : ByteArray × Nat) : Option Value:=
 if seen.any (fun i=>decide ((ld[i]?).map (·.1) = some k)) then (knowK hf k).map fun x=>(allSt x.2.2).val else (knowK hf k).map fun x=>x.1.val
theorem kn2_done {hf : List (Int × FR)} {ld : List ((ByteArray × Nat) × Value)} {seen : List Nat} (hd : ∀ k,look ld k = if doubtK hf k then some (.bool true) else none) (hall : ∀ i,i < ld.length → i ∈ seen) (k : ByteArray × Nat) : kn2 hf ld seen k = (knowV hf k).map St.val:=by
 unfold kn2 knowV
 have hq : (seen.any fun i=>decide ((ld[i]?).map (·.1) = some k)) = doubtK hf k:=by
  rw [Bool.eq_iff_iff,List.any_eq_true]
  have h1:=hd k
  constructor
  ·rintro ⟨i,_,hi⟩
   have hi : (ld[i]?).map (·.1) = some k:=by simpa using hi
   obtain ⟨x,hx,rfl⟩:=Option.map_eq_some_iff.1 hi
   have h2 : (look ld x.1).isSome = true:=look_isSome_iff.2 (List.mem_map.2 ⟨x,List.mem_of_getElem? hx,rfl⟩)
   rw [h1] at h2
   by_cases h3 : doubtK hf x.1 = true
   ·exact h3
   ·rw [if_neg h3] at h2;cases h2
  ·intro h3
   rw [if_pos h3] at h1
   have h2 : k ∈ ld.map (·.1):=look_isSome_iff.1 (by rw [h1];rfl)
   obtain ⟨x,hx,rfl⟩:=List.mem_map.1 h2
   obtain ⟨i,hi⟩:=List.mem_iff_getElem?.1 hx
   exact ⟨i,hall i (List.getElem?_eq_some_iff.1 hi).1,by rw [hi];simp⟩
 rw [hq]
 unfold doubtK
 cases hk : knowK hf k with
 | none=>simp
 | some x=>
  obtain ⟨a,b,c⟩:=x
  cases b <;> simp
theorem kn2_snoc {hf : List (Int × FR)} {ld : List ((ByteArray × Nat) × Value)} {seen : List Nat} {i : Nat} {k : ByteArray × Nat} {v : Value} (hi : ld[i]? = some (k,v)) :
  (kn2 hf ld (seen ++ [i]) k = (knowK hf k).map fun x=>(allSt x.2.2).val) ∧ ∀ k',k' ≠ k → kn2 hf ld (seen ++ [i]) k' = kn2 hf ld seen k':=by
 unfold kn2
 constructor
 ·rw [List.any_append]
  simp [hi]
 ·intro k' hk'
  rw [List.any_append]
  have : (decide ((ld[i]?).map (·.1) = some k')) = false:=by
   rw [hi];simp;exact fun e=>hk' e.symm
  simp only [List.any_cons,List.any_nil,this,Bool.or_false]
theorem kn2_some {hf : List (Int × FR)} {ld : List ((ByteArray × Nat) × Value)} {seen : List Nat} {k : ByteArray × Nat} (h : (kn2 hf ld seen k).isSome = true) : ∃ y ∈ hf,keyOf y.2 = k:=by
 unfold kn2 at h
 cases hk : knowK hf k with
 | none=>rw [hk] at h;simp at h
 | some x=>obtain ⟨y,hy,e,_⟩:=knowK_some _ _ _ hk;exact ⟨y,hy,e⟩
def CuI (wq : World) (u0 : Value) (P : World → Prop) (us : List Value) (W : World) : Prop:=
 match us with
 | []=>Ext wq W
 | [u]=>u = u0 ∧ Ext wq W
 | _=>P W
theorem CuI.pre {wq : World} {u0 : Value} {P : World → Prop} {us : List Value} {W : World} (h : CuI wq u0 P us W) (hl : us.length ≤ 1) : Ext wq W:=by
 match us,h,hl with
 | [],h,_=>exact h
 | [_],⟨_,h⟩,_=>exact h
def LupI (wq : World) (T : TypeId) (base : Nat) (old : Value) (k : Nat) (xs row : List Value) (m : Nat) (P : Value → World → Prop) (us : List Value) (W : World) : Prop:=
 match us with
 | []=>Ext wq W
 | [u]=>∃ ab,u = .slice (some ⟨ab,0,none⟩) m m ∧ W.heap[ab]? = some (.cells row.toArray T (0,0)) ∧ Ext wq W
 | [_,v']=>∃ W0,Ext wq W0 ∧ W0.grownBy W old.ownBlock ∧ W.ownsRow base T 1 v' (k + m) (xs ++ row) ∧ (v'.ownBlock = old.ownBlock ∨ v'.ownBlock = some W0.heap.size)
 | _ :: v' :: _=>P v' W
theorem LupI.pre {wq : World} {T : TypeId} {base : Nat} {old : Value} {k : Nat} {xs row : List Value} {m : Nat} {P : Value → World → Prop} {us : List Value} {W : World} (h : LupI wq T base old k xs row m P us W) (hl : us.length ≤ 1) : Ext wq W:=by
 match us,h,hl with
 | [],h,_=>exact h
 | [_],⟨_,_,_,h⟩,_=>exact h
theorem LupI.keep {wq : World} {T : TypeId} {base : Nat} {old : Value} {k : Nat} {xs row : List Value} {m : Nat} {P : Value → World → Prop} {us : List Value} {W : World} (h : LupI wq T base old k xs row m P us W) (hl : us.length ≤ 2) {n : Nat} {ys : List Value} (hvv : wq.ownsRow base T 1 old n ys) {b : Nat} {o : Obj} (hb : wq.heap[b]? = some o) (ho : ∀ cs fr,o ≠ .cells cs T fr) : W.heap[b]? = some o:=by
 match us,h,hl with
 | [],h,_=>exact Ext.obj h hb
 | [_],⟨_,_,_,h⟩,_=>exact h.obj hb
 | [_,_],⟨W0,hx,hg,_⟩,_=>exact grown_keep (owns_keep hvv fun g _ _ hgg=>hx.block g (heap_lt hgg)) hg (hx.obj hb) ho
end Go.Proofs.YtihfcjioilmmjaaGreat
