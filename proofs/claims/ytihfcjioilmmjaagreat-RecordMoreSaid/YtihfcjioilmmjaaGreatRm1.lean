/- Lemmas: data. -/
import Derived.Orders
import Derived.Calls
import Derived.WalkKit
import Derived.RangeFuncRecord
import Derived.MapKept
import Derived.LaidEql
import Derived.Test.YtihfcjioilmmjaaGreatProg
import Derived.Laws.StructEq
import Derived.ProofKit
import Derived.Laws.BitsAllLaws
import Derived.WalkSpells
import Derived.WalkLawsBesides
import Derived.Outline
import Derived.BigRegion
import Derived.Deep.QuietTactic
import Derived.BigQuiet
import Derived.StillTailTactics
import Derived.Deep.RegionLaw
import Derived.Deep.LoopGhost
import Derived.Deep.DeepFit
import Derived.Deep.DeepCutAuto
import Derived.Handy
import Derived.Lib.Hide
import Derived.Shelf.Strings.Search1
import Derived.Shelf.Strings.Search2
import Derived.Shelf.Strings.Search3
import Derived.Shelf.Strings.Cut
import Derived.Shelf.LaysM
import Derived.Shelf.Strings.Shaped
import Derived.Shelf.Sort.Plain
import Derived.Ground.Names2Prog
import Derived.Shelf.Slices.Clone
import Derived.Shelf.Slices.CompactI
import Derived.Shelf.Slices.CompactS
import Derived.Shelf.Slices.In.SortNone
import Derived.Shelf.SlGeneric
import Derived.Shelf.SlIterI.Nil
import Derived.Ground.GgzProg
import Derived.Lib.SliceRun
import Derived.Laws.IdiomCopy
import Derived.Maps.RangeRun
import Derived.RangeFuncNested
import Derived.RangeFuncBound
import Derived.RangeFuncCalls
import Derived.RangeFuncLeaves
import Derived.Shelf.Abstract
import Derived.Shelf.RegionOpen
import Derived.OwnWalkIn
import Derived.TacticsInMore
import Derived.LoopNIn
import Derived.LoopIn
import Derived.RangeFuncBox
import Derived.Maps.AppendAt
import Derived.Deep.CutRange
import Derived.Laws.EntriesVeiled
import Derived.ChangeArms
import Derived.Sort.AssemblyPlain
import Derived.Shelf.Small.Bits
import Derived.Shelf.Strconv.Itoa0
import Derived.Shelf.SlSortCmp.Xorshift
import Derived.Laws.Bits64b
import Derived.Sort.LotD1
import Derived.Laws.OwnMore
import Derived.HandedShaped
import Derived.Shelf.Vars
import Derived.Carry
set_option linter.all false
namespace Go.Proofs.YtihfcjioilmmjaaGreat.Rt
open Go
def gives (P : Program) (o : Oper) (a : Act) (w : World) (J : Value → World → Prop) : Prop:=
 match (execOp a.eval o).run P w with
 | .ok (.value v) w'=>J v w'
 | .ok .skip w'=>J undef w'
 | .ok (.enter f args) w'=>Calls P f args w' (fun e w''=>∃ v,e = .returned v ∧ J v w'')
 | _=>False
section
variable {P : Program} {ops : Array Oper}
theorem gives_wp {o : Oper} {a : Act} {w : World} {J : Value → World → Prop} {K : Act → World → Prop} {Q : Exit → Act → World → Prop}
  (h : gives P o a w J) (hk : ∀ v w',J v w' → K (a.put o.dst v) w') : o.wp P a w K Q:=by
 unfold gives at h
 unfold Oper.wp
 generalize (execOp a.eval o).run P w = r at *
 cases r with
 | ok n w'=>
  cases n <;> simp only [Oper.upon] at h ⊢ <;>
   first
    | exact hk _ _ h
    | exact h.elim
    | exact h.mono (fun e w'' ⟨v,he,hj⟩=>by subst he;exact hk _ _ hj)
 | halt x w'=>cases x <;> exact h.elim
theorem gives_congr {o : Oper} {a b : Act} {w : World} {J : Value → World → Prop} (he : execOp a.eval o = execOp b.eval o) (h : gives P o a w J) : gives P o b w J:=by
 unfold gives at *;rw [← he];exact h
theorem gives_value {o : Oper} {a : Act} {w w' : World} {v : Value} {J : Value → World → Prop} (h : (execOp a.eval o).run P w = .ok (.value v) w') (hj : J v w') : gives P o a w J:=by
 unfold gives;rw [h];exact hj
theorem gives_skip {o : Oper} {a : Act} {w w' : World} {J : Value → World → Prop} (h : (execOp a.eval o).run P w = .ok .skip w') (hj : J undef w') : gives P o a w J:=by
 unfold gives;rw [h];exact hj
theorem gives_call {o : Oper} {a : Act} {w w' : World} {f : FuncId} {args : Array Value} {J : Value → World → Prop} (h : (execOp a.eval o).run P w = .ok (.enter f args) w')
  (hc : Calls P f args w' (fun e w''=>∃ v,e = .returned v ∧ J v w'')) : gives P o a w J:=by
 unfold gives;rw [h];exact hc
theorem gives_val {o : Oper} {a : Act} {w : World} {J : Value → World → Prop} (h : ∃ v w',(execOp a.eval o).run P w = .ok (.value v) w' ∧ J v w') : gives P o a w J:=
 let ⟨_,_,h1,h2⟩:=h;gives_value h1 h2
theorem gives_skp {o : Oper} {a : Act} {w : World} {J : Value → World → Prop} (h : ∃ w',(execOp a.eval o).run P w = .ok .skip w' ∧ J undef w') : gives P o a w J:=
 let ⟨_,h1,h2⟩:=h;gives_skip h1 h2
theorem gives_cal {o : Oper} {a : Act} {w : World} {J : Value → World → Prop} (h : ∃ f args w',(execOp a.eval o).run P w = .ok (.enter f args) w' ∧ Calls P f args w' (fun e w''=>∃ v,e = .returned v ∧ J v w'')) : gives P o a w J:=
 let ⟨_,_,_,h1,h2⟩:=h;gives_call h1 h2
def stepAt (P : Program) (ops : Array Oper) (i : Nat) (a : Act) (w : World) (J : Value → World → Prop) : Prop:=
 ∃ o,ops[i]? = some o ∧ if Region.wanted o (yielded ops a.tmps) = true then gives P o a w J else J undef w
def dstOf (ops : Array Oper) (i : Nat) : Option Tmp:=(ops[i]?).bind (·.dst)
theorem stepAt_wpOp {i : Nat} {a : Act} {w : World} {J : Value → World → Prop} {K : Act → World → Prop} {Q : Exit → Act → World → Prop}
  (h : stepAt P ops i a w J) (hk : ∀ v w',J v w' → K (a.put (dstOf ops i) v) w') : wpOp P ops Q i K a w:=by
 obtain ⟨o,ho,h⟩:=h
 have hd : dstOf ops i = o.dst:=by simp [dstOf,ho]
 rw [hd] at hk
 unfold wpOp
 simp only [ho]
 split
 ·rename_i hw;rw [if_pos hw] at h;exact .inl (gives_wp h hk)
 ·rename_i hw;rw [if_neg hw] at h;exact hk _ _ h
def RSeq (P : Program) (ops : Array Oper) (eff : Nat → Bool) (hi : Nat → Nat) (I : List Value → World → Prop) (Q : Act → World → Prop) : List Nat → List Value → Act → Prop
 | [],us,a=>∀ w,I us w → Q a w
 | i :: π,us,a=>
  if eff i = true then
   (∀ w,I us w → stepAt P ops i a w (fun v w'=>I (us ++ [v]) w')) ∧ ∀ v,(∃ w,I (us ++ [v]) w) → RSeq P ops eff hi I Q π (us ++ [v]) (a.put (dstOf ops i) v)
  else
   ∃ v,(∀ us' w,us <+: us' → us'.length ≤ hi i → I us' w → stepAt P ops i a w (fun v' w'=>v' = v ∧ I us' w')) ∧ RSeq P ops eff hi I Q π us (a.put (dstOf ops i) v)
def puts (ops : Array Oper) (a : Act) (T : List (Nat × Value)) : Act:=T.foldl (fun a x=>a.put (dstOf ops x.1) x.2) a
theorem puts_nil (a : Act) : puts ops a [] = a:=rfl
theorem puts_cons (a : Act) (x : Nat × Value) (T : List (Nat × Value)) : puts ops a (x :: T) = puts ops (a.put (dstOf ops x.1) x.2) T:=rfl
theorem puts_append (a : Act) (S T : List (Nat × Value)) : puts ops a (S ++ T) = puts ops (puts ops a S) T:=List.foldl_append ..
def dep (cls : List Nat) (i j : Nat) : Bool:=(cls.getD i 0).testBit j
def pairOk (ops : Array Oper) (cls : List Nat) (x y : Nat) : Bool:=
 (match ops[x]?,ops[y]? with
  | some ox,some oy=>ox.apart ops oy
  | _,_=>true) || dep cls y x
def pairsOk (ops : Array Oper) (effs cls : List Nat) : List Nat → Bool
 | []=>true
 | x :: r=>(r.all fun y=>y != x && pairOk ops cls x y && (!effs.contains x || dep cls y x)) && pairsOk ops effs cls r
def noSel (ops : Array Oper) : Bool:=ops.all fun o=>match o.op with | .select ..=>false | _=>true
def okB (ops : Array Oper) (π effs his cls : List Nat) : Bool:=
 noSel ops &&
 ((List.range ops.size).all fun i=>match ops[i]? with
  | some o=>(o.after.all fun e=>!Region.binds .any e || decide (e.on < i)) &&
   ((List.range ops.size).all fun j=>!dep cls i j || o.after.any fun e=>Region.binds .any e && (e.on == j || dep cls e.on j))
  | none=>true) &&
 (cls.length == ops.size) &&
 (π.all fun i=>decide (i < ops.size)) && ((List.range ops.size).all fun i=>π.contains i) && pairsOk ops effs cls π &&
 (π.filter (fun i=>effs.contains i) == effs) &&
 (π.all fun i=>effs.contains i || match effs[his.getD i 1000]? with | some e=>dep cls e i | none=>true)
structure Ok (ops : Array Oper) (π effs his cls : List Nat) : Prop where
 sel : ∀ (i : Nat) o cs b,ops[i]? = some o → o.op ≠ .select cs b
 down : ∀ (i : Nat) o,ops[i]? = some o → ∀ e ∈ o.after,Region.binds .any e = true → e.on < i
 cl : ∀ (i : Nat) o j,ops[i]? = some o → dep cls i j = true → j < ops.size → ∃ e ∈ o.after,Region.binds .any e = true ∧ (e.on = j ∨ dep cls e.on j = true)
 all : ∀ i,i < ops.size → i ∈ π
 lt : ∀ i ∈ π,i < ops.size
 pairs : pairsOk ops effs cls π = true
 effsEq : π.filter (fun i=>effs.contains i) = effs
 hi : ∀ i ∈ π,effs.contains i = false → ∀ e,effs[his.getD i 1000]? = some e → dep cls e i = true
theorem ok_of {π effs his cls : List Nat} (h : okB ops π effs his cls = true) : Ok ops π effs his cls:=by
 simp only [okB,Bool.and_eq_true] at h
 obtain ⟨⟨⟨⟨⟨⟨⟨h1,h2⟩,_⟩,h3⟩,h4⟩,h5⟩,h6⟩,h7⟩:=h
 refine ⟨?_,?_,?_,?_,?_,h5,by simpa using h6,?_⟩
 ·intro i o cs b ho hs
  unfold noSel at h1
  rw [Array.all_eq_true_iff_forall_mem] at h1
  have:=h1 o (Array.mem_of_getElem? ho)
  rw [hs] at this;cases this
 ·intro i o ho e he hb
  have hlt : i < ops.size:=(Array.getElem?_eq_some_iff.1 ho).1
  have:=List.all_eq_true.1 h2 i (by simpa using hlt)
  simp only [ho,Bool.and_eq_true] at this
  have:=(Array.all_eq_true_iff_forall_mem.1 this.1) e he
  simpa [hb] using this
 ·intro i o j ho hd hj
  have hlt : i < ops.size:=(Array.getElem?_eq_some_iff.1 ho).1
  have:=List.all_eq_true.1 h2 i (by simpa using hlt)
  simp only [ho,Bool.and_eq_true] at this
  have:=List.all_eq_true.1 this.2 j (by simpa using hj)
  simp only [hd,Bool.not_true,Bool.false_or] at this
  obtain ⟨e,he,hh⟩:=Array.any_eq_true'.1 this
  simp only [Bool.and_eq_true,Bool.or_eq_true,beq_iff_eq] at hh
  exact ⟨e,he,hh.1,hh.2⟩
 ·intro i hi
  have:=List.all_eq_true.1 h4 i (by simpa using hi)
  simpa using this
 ·intro i hi
  have:=List.all_eq_true.1 h3 i hi
  simpa using this
 ·intro i hi he e hee
  have:=List.all_eq_true.1 h7 i hi
  simp only [he,Bool.false_or,hee] at this
  exact this
theorem pairs_spec {effs cls : List Nat} : ∀ {π l1 : List Nat} {x : Nat} {l2 : List Nat},pairsOk ops effs cls π = true → π = l1 ++ x :: l2 → ∀ y ∈ l2,y ≠ x ∧ pairOk ops cls x y = true ∧ (effs.contains x = true → dep cls y x = true)
 | [],l1,x,l2,_,h=>by simp at h
 | p :: r,[],x,l2,hp,h=>by
  obtain ⟨rfl,rfl⟩ : p = x ∧ r = l2:=by simpa using h
  simp only [pairsOk,Bool.and_eq_true] at hp
  intro y hy
  have:=List.all_eq_true.1 hp.1 y hy
  simp only [Bool.and_eq_true,bne_iff_ne,ne_eq,Bool.or_eq_true,Bool.not_eq_true'] at this
  refine ⟨this.1.1,this.1.2,fun he=>?_⟩
  rcases this.2 with h0 | h0
  ·rw [he] at h0;cases h0
  ·exact h0
 | p :: r,q :: l1,x,l2,hp,h=>by
  obtain ⟨rfl,rfl⟩ : p = q ∧ r = l1 ++ x :: l2:=by simpa using h
  simp only [pairsOk,Bool.and_eq_true] at hp
  exact pairs_spec hp.2 rfl
def Agree (ops : Array Oper) (o : Oper) (a b : Act) : Prop:=∀ t ∈ o.looksAt ops,a.tmps[t]? = b.tmps[t]?
theorem agree_exec {o : Oper} (hs : ∀ cs b,o.op ≠ .select cs b) {a b : Act} (h : Agree ops o a b) : execOp a.eval o = execOp b.eval o:=
 execOp_congr o hs fun x hx=>by
  cases x with
  | tmp t=>
   have:=h t (List.mem_append_left _ (List.mem_filterMap.2 ⟨.tmp t,by simpa using hx,rfl⟩))
   simp [Act.eval,this]
  | _=>rfl
theorem agree_wanted {o : Oper} {a b : Act} (h : Agree ops o a b) : Region.wanted o (yielded ops a.tmps) = Region.wanted o (yielded ops b.tmps):=by
 unfold Region.wanted
 cases hg : o.guard with
 | none=>rfl
 | some gw=>
  obtain ⟨g,want⟩:=gw
  have hy : yielded ops a.tmps g = yielded ops b.tmps g:=by
   unfold yielded
   cases ht : (ops[g]?).bind (·.dst) with
   | none=>rfl
   | some t=>
    have:=h t (by simp [Oper.looksAt,hg,ht])
    simp [this]
  simp only [hy]
theorem put_get (a : Act) (d : Option Tmp) (v : Value) (t : Nat) : (a.put d v).tmps[t]? = if d = some t ∧ (a.tmps[t]?).isSome then some v else a.tmps[t]?:=by
 cases d with
 | none=>simp [Act.put]
 | some d=>
  simp only [Act.put,Option.some.injEq]
  by_cases h : d = t
  ·subst h
   by_cases hlt : d < a.tmps.size
   ·simp [hlt]
   ·simp [hlt,Array.setIfInBounds]
  ·simp [Array.getElem?_setIfInBounds_ne h,h]
theorem agree_put {o : Oper} {a b : Act} (h : Agree ops o a b) (d : Option Tmp) (v : Value) : Agree ops o (a.put d v) (b.put d v):=by
 intro t ht
 rw [put_get,put_get,h t ht]
theorem agree_left {o : Oper} {a b : Act} (h : Agree ops o a b) (d : Option Tmp) (v : Value) (hd : ∀ t,d = some t → t ∉ o.looksAt ops) : Agree ops o (a.put d v) b:=by
 intro t ht
 rw [put_get,if_neg (fun hc=>hd t hc.1 ht)]
 exact h t ht
theorem agree_right {o : Oper} {a b : Act} (h : Agree ops o a b) (d : Option Tmp) (v : Value) (hd : ∀ t,d = some t → t ∉ o.looksAt ops) : Agree ops o a (b.put d v):=by
 intro t ht
 rw [put_get,if_neg (fun hc=>hd t hc.1 ht)]
 exact h t ht
theorem agree_filter {o : Oper} (L : Nat → Bool) : ∀ (T : List (Nat × Value)) (a b : Act),Agree ops o a b → (∀ x ∈ T,L x.1 = false → ∀ t,dstOf ops x.1 = some t → t ∉ o.looksAt ops) →
  Agree ops o (puts ops a T) (puts ops b (T.filter fun x=>L x.1))
 | [],_,_,h,_=>h
 | x :: T,a,b,h,hT=>by
  rw [puts_cons]
  cases hx : L x.1 with
  | true=>
   rw [List.filter_cons_of_pos (by simpa using hx),puts_cons]
   exact agree_filter L T _ _ (agree_put h _ _) fun y hy=>hT y (List.mem_cons_of_mem _ hy)
  | false=>
   rw [List.filter_cons_of_neg (by simp [hx])]
   exact agree_filter L T _ _ (agree_left h _ _ (hT x List.mem_cons_self hx)) fun y hy=>hT y (List.mem_cons_of_mem _ hy)
theorem agree_apart {o : Oper} : ∀ (T : List (Nat × Value)) (a b : Act),Agree ops o a b → (∀ x ∈ T,∀ t,dstOf ops x.1 = some t → t ∉ o.looksAt ops) → Agree ops o a (puts ops b T)
 | [],_,_,h,_=>h
 | x :: T,a,b,h,hT=>by
  rw [puts_cons]
  exact agree_apart T _ _ (agree_right h _ _ (hT x List.mem_cons_self)) fun y hy=>hT y (List.mem_cons_of_mem _ hy)
theorem puts_put (d : Option Tmp) (v : Value) : ∀ (T : List (Nat × Value)) (a : Act),(∀ x ∈ T,∀ t,dstOf ops x.1 = some t → d ≠ some t) → (puts ops a T).put d v = puts ops (a.put d v) T
 | [],_,_=>rfl
 | x :: T,a,h=>by
  rw [puts_cons,puts_cons,puts_put d v T _ fun y hy=>h y (List.mem_cons_of_mem _ hy),Act.put_comm a x.2 v (h x List.mem_cons_self)]
theorem dep_listed {π effs his cls : List Nat} (hok : Ok ops π effs his cls) {L : Nat → Bool}
  (hL : ∀ (i : Nat) o,ops[i]? = some o → L i = true → ∀ e ∈ o.after,Region.binds .any e = true → L e.on = true) :
  ∀ (n i : Nat) o,i < n → ops[i]? = some o → (∀ e ∈ o.after,Region.binds .any e = true → L e.on = true) → ∀ j,j < ops.size → dep cls i j = true → L j = true:=by
 intro n
 induction n with
 | zero=>intro i o h;omega
 | succ n ih=>
  intro i o hi ho he j hj hd
  obtain ⟨e,hm,hb,hh⟩:=hok.cl i o j ho hd hj
  rcases hh with rfl | hh
  ·exact he e hm hb
  ·have hlt:=hok.down i o ho e hm hb
   have hi' : i < ops.size:=(Array.getElem?_eq_some_iff.1 ho).1
   have ho' : ops[e.on]? = some ops[e.on]:=Array.getElem?_eq_getElem (by omega)
   exact ih e.on _ (by omega) ho' (hL e.on _ ho' (he e hm hb)) j hj hh
section sim
variable {π effs his cls : List Nat} {I : List Value → World → Prop} {Q : Act → World → Prop}
def Obl (P : Program) (ops : Array Oper) (his : List Nat) (I : List Value → World → Prop) (us : List Value) (i : Nat) (v : Value) (a : Act) : Prop:=
 ∀ us' w,us <+: us' → us'.length ≤ his.getD i 1000 → I us' w → stepAt P ops i a w (fun v' w'=>v' = v ∧ I us' w')
theorem segment (us : List Value) : ∀ (ρ : List Nat) (a : Act),RSeq P ops (fun i=>effs.contains i) (fun i=>his.getD i 1000) I Q ρ us a →
  ∃ T ρ',ρ = T.map (·.1) ++ ρ' ∧ (ρ' = [] ∨ ∃ e r,ρ' = e :: r ∧ effs.contains e = true) ∧ (∀ x ∈ T,effs.contains x.1 = false) ∧
   RSeq P ops (fun i=>effs.contains i) (fun i=>his.getD i 1000) I Q ρ' us (puts ops a T) ∧ ∀ T1 i v T2,T = T1 ++ (i,v) :: T2 → Obl P ops his I us i v (puts ops a T1)
 | [],a,h=>⟨[],[],rfl,.inl rfl,by simp,h,fun T1 i v T2 e=>by simp at e⟩
 | i :: ρ,b,h=>by
  cases he : effs.contains i with
  | true=>exact ⟨[],i :: ρ,rfl,.inr ⟨i,ρ,rfl,he⟩,by simp,h,fun T1 i v T2 e=>by simp at e⟩
  | false=>
   unfold RSeq at h
   rw [if_neg (by simp only [he];exact Bool.false_ne_true)] at h
   obtain ⟨v,h1,h2⟩:=h
   obtain ⟨T,ρ',e1,e2,e3,e4,e5⟩:=segment us ρ _ h2
   refine ⟨(i,v) :: T,ρ',by rw [e1];rfl,e2,?_,e4,?_⟩
   ·intro x hx
    rcases List.mem_cons.1 hx with rfl | hx
    ·exact he
    ·exact e3 x hx
   ·intro T1 j u T2 e
    cases T1 with
    | nil=>
     obtain ⟨⟨rfl,rfl⟩,rfl⟩ : (i = j ∧ v = u) ∧ T = T2:=by simpa using e
     exact h1
    | cons y T1=>
     obtain ⟨rfl,rfl⟩ : (i,v) = y ∧ T = T1 ++ (j,u) :: T2:=by simpa using e
     exact e5 T1 j u T2 rfl
theorem obl_weaken {us us' : List Value} {i : Nat} {v : Value} {a : Act} (h : Obl P ops his I us i v a) (hp : us <+: us') : Obl P ops his I us' i v a:=
 fun us2 w h1 h2 h3=>h us2 w (hp.trans h1) h2 h3
theorem sim (hok : Ok ops π effs his cls) (a0 : Act) (Q' : Exit → Act → World → Prop) (hQ : ∀ a w,Q a w → Q' .normal a w) :
  ∀ (fuel : Nat) (listed : Array Bool) (a : Act) (w : World) (T : List (Nat × Value)) (ρ : List Nat) (us : List Value) (U : List Nat),
   listed.size = ops.size → U.length = fuel → (∀ i,i < ops.size → (listed.getD i false = false ↔ i ∈ U)) → U.Nodup →
   π = T.map (·.1) ++ ρ → (ρ = [] ∨ ∃ e r,ρ = e :: r ∧ effs.contains e = true) →
   RSeq P ops (fun i=>effs.contains i) (fun i=>his.getD i 1000) I Q ρ us (puts ops a0 T) →
   (∀ i,listed.getD i false = true → i ∈ T.map (·.1)) →
   (∀ x ∈ T,effs.contains x.1 = true → listed.getD x.1 false = true) →
   us.length = ((T.map (·.1)).filter (fun i=>effs.contains i)).length →
   (∀ (i : Nat) o,ops[i]? = some o → listed.getD i false = true → ∀ e ∈ o.after,Region.binds .any e = true → listed.getD e.on false = true) →
   a = puts ops a0 (T.filter fun x=>listed.getD x.1 false) → I us w →
   (∀ T1 i v T2,T = T1 ++ (i,v) :: T2 → listed.getD i false = false → Obl P ops his I us i v (puts ops a0 T1)) →
   wpAny P .any ops Q' fuel listed a w:=by
 have fin : ∀ (listed : Array Bool) (a : Act) (w : World) (T : List (Nat × Value)) (ρ : List Nat) (us : List Value),
   listed.size = ops.size → π = T.map (·.1) ++ ρ → (ρ = [] ∨ ∃ e r,ρ = e :: r ∧ effs.contains e = true) →
   RSeq P ops (fun i=>effs.contains i) (fun i=>his.getD i 1000) I Q ρ us (puts ops a0 T) →
   (∀ i,listed.getD i false = true → i ∈ T.map (·.1)) →
   a = puts ops a0 (T.filter fun x=>listed.getD x.1 false) → I us w → Region.ready .any ops listed = [] → Q' .normal a w:=by
  intro listed a w T ρ us hsz hπ hρ hR hT ha hI hr
  have hall : ∀ n i,i < n → i < ops.size → listed.getD i false = true:=by
   intro n
   induction n with
   | zero=>intro i h;omega
   | succ n ih=>
    intro i hi hlt
    cases hl : listed.getD i false with
    | true=>rfl
    | false=>
     have ho : ops[i]? = some ops[i]:=Array.getElem?_eq_getElem hlt
     have : i ∈ Region.ready .any ops listed:=by
      rw [mem_ready]
      refine ⟨?_,_,ho,fun e he hb=>?_⟩
      ·have hl' : i < listed.size:=by omega
       simp [hl'] at hl ⊢;exact hl
      ·have:=hok.down i _ ho e he hb
       exact ih e.on (by omega) (by omega)
     rw [hr] at this;cases this
  have hnil : ρ = []:=by
   rcases hρ with h | ⟨e,r,rfl,_⟩
   ·exact h
   ·exfalso
    have he : e ∈ π:=by rw [hπ];simp
    have hm:=hT e (hall _ e (Nat.lt_succ_self e) (hok.lt e he))
    obtain ⟨l1,l2,hl⟩:=List.append_of_mem hm
    have:=(pairs_spec (effs:=effs) (l1:=l1) (x:=e) (l2:=l2 ++ e :: r) hok.pairs (by rw [hπ,hl];simp) e (by simp)).1
    exact this rfl
  subst hnil
  have hf : T.filter (fun x=>listed.getD x.1 false) = T:=by
   rw [List.filter_eq_self]
   intro x hx
   have : x.1 ∈ π:=by rw [hπ];simp;exact ⟨x.2,hx⟩
   exact hall _ x.1 (Nat.lt_succ_self _) (hok.lt _ this)
  rw [ha,hf]
  exact hQ _ _ (hR w hI)
 intro fuel
 induction fuel with
 | zero=>
  intro listed a w T ρ us U hsz hUl hU hUn hπ hρ hR hT hTe hus hdc ha hI hob
  have hr : Region.ready .any ops listed = []:=by
   rw [List.eq_nil_iff_forall_not_mem]
   intro i hi
   rw [mem_ready] at hi
   obtain ⟨hl,o,ho,_⟩:=hi
   have hlt : i < ops.size:=(Array.getElem?_eq_some_iff.1 ho).1
   have hl' : i < listed.size:=by omega
   have : i ∈ U:=(hU i hlt).1 (by simp [hl'] at hl ⊢;exact hl)
   rw [List.eq_nil_of_length_eq_zero hUl] at this
   cases this
  exact ⟨hr,fin listed a w T ρ us hsz hπ hρ hR hT ha hI hr⟩
 | succ fuel ih=>
  intro listed a w T ρ us U hsz hUl hU hUn hπ hρ hR hT hTe hus hdc ha hI hob
  refine ⟨fun hr=>fin listed a w T ρ us hsz hπ hρ hR hT ha hI hr,fun i hi=>?_⟩
  rw [mem_ready] at hi
  obtain ⟨hl,o,ho,hedge⟩:=hi
  have hlt : i < ops.size:=(Array.getElem?_eq_some_iff.1 ho).1
  have hl' : i < listed.size:=by omega
  have hli : listed.getD i false = false:=by simp [hl'] at hl ⊢;exact hl
  have hdl : ∀ j,j < ops.size → dep cls i j = true → listed.getD j false = true:=dep_listed hok hdc _ i o (Nat.lt_succ_self i) ho hedge
  have hdl2 : ∀ x,listed.getD x false = true → x < ops.size → ∀ j,j < ops.size → dep cls x j = true → listed.getD j false = true:=fun x hx hxs=>
   dep_listed hok hdc _ x _ (Nat.lt_succ_self x) (Array.getElem?_eq_getElem hxs) (hdc x _ (Array.getElem?_eq_getElem hxs) hx)
  have hiU : i ∈ U:=(hU i hlt).1 hli
  have hset : ∀ j,(listed.setIfInBounds i true).getD j false = (if j = i then true else listed.getD j false):=by
   intro j
   by_cases hj : j = i
   ·subst hj;simp [hl']
   ·rw [if_neg hj,getD_set_ne false (Ne.symm hj)]
  have hsz' : (listed.setIfInBounds i true).size = ops.size:=by simpa using hsz
  have hU' : ∀ j,j < ops.size → ((listed.setIfInBounds i true).getD j false = false ↔ j ∈ U.erase i):=by
   intro j hj
   rw [hset,hUn.mem_erase_iff]
   by_cases hji : j = i
   ·subst hji;simp
   ·rw [if_neg hji,hU j hj];simp [hji]
  have hUl' : (U.erase i).length = fuel:=by rw [List.length_erase_of_mem hiU,hUl];rfl
  have hdc' : ∀ (x : Nat) o',ops[x]? = some o' → (listed.setIfInBounds i true).getD x false = true → ∀ e ∈ o'.after,Region.binds .any e = true → (listed.setIfInBounds i true).getD e.on false = true:=by
   intro x o' hx hxl e he hb
   rw [hset] at hxl ⊢
   by_cases hxi : x = i
   ·subst hxi
    obtain rfl : o' = o:=Option.some.inj (hx.symm.trans ho)
    rw [hedge e he hb];simp
   ·rw [if_neg hxi] at hxl
    rw [hdc x o' hx hxl e he hb];simp
  have hπn : ∀ l1 x l2,π = l1 ++ x :: l2 → ∀ y ∈ l2,y ≠ x ∧ pairOk ops cls x y = true ∧ (effs.contains x = true → dep cls y x = true):=fun l1 x l2 h=>pairs_spec hok.pairs h
  have hapart : ∀ x y,x < ops.size → y < ops.size → pairOk ops cls x y = true → dep cls y x = false → (ops[x]!).apart ops (ops[y]!) = true:=by
   intro x y hx hy hp hd
   unfold pairOk at hp
   rw [hd,Array.getElem?_eq_getElem hx,Array.getElem?_eq_getElem hy] at hp
   simpa [hx,hy] using hp
  have hlk : ∀ x,x < ops.size → dstOf ops x = (ops[x]!).dst:=fun x hx=>by simp [dstOf,hx]
  have ho! : ops[i]! = o:=by
   have:=Array.getElem?_eq_getElem hlt
   rw [ho] at this
   simp [hlt,Option.some.inj this]
  by_cases hiT : i ∈ T.map (·.1)
  ·
   obtain ⟨⟨i',v⟩,hm,hii⟩:=List.mem_map.1 hiT
   obtain rfl : i' = i:=hii
   obtain ⟨T1,T2,hTT⟩:=List.append_of_mem hm
   have hobl:=hob T1 i' v T2 hTT hli
   have heff : effs.contains i' = false:=by
    cases he : effs.contains i' with
    | false=>rfl
    | true=>have:=hTe _ hm he;rw [hli] at this;cases this
   have hπ1 : π = T1.map (·.1) ++ i' :: (T2.map (·.1) ++ ρ):=by rw [hπ,hTT];simp
   have hp : us.length ≤ his.getD i' 1000:=by
    refine Nat.le_of_not_lt fun hgt=>?_
    have hflt : (T.map (·.1)).filter (fun i=>effs.contains i) ++ ρ.filter (fun i=>effs.contains i) = effs:=by
     rw [← List.filter_append,← hπ];exact hok.effsEq
    have hlt2 : his.getD i' 1000 < ((T.map (·.1)).filter (fun i=>effs.contains i)).length:=by omega
    obtain ⟨e,he⟩ : ∃ e,((T.map (·.1)).filter (fun i=>effs.contains i))[his.getD i' 1000]? = some e:=⟨_,List.getElem?_eq_getElem hlt2⟩
    have he2 : effs[his.getD i' 1000]? = some e:=by
     rw [← hflt,List.getElem?_append_left hlt2];exact he
    have hem:=List.mem_filter.1 (List.mem_of_getElem? he)
    obtain ⟨x,hx,hxe⟩:=List.mem_map.1 hem.1
    have hel : listed.getD e false = true:=by rw [← hxe];exact hTe x hx (by rw [hxe];exact hem.2)
    have heπ : e ∈ π:=by rw [hπ];exact List.mem_append_left _ hem.1
    have hd:=hok.hi i' (by rw [hπ1];simp) heff e he2
    have:=hdl2 e hel (hok.lt e heπ) i' hlt hd
    rw [hli] at this;cases this
   have hst:=hobl us w (List.prefix_refl _) hp hI
   have hbefore : ∀ x ∈ T1,listed.getD x.1 false = false → ∀ t,dstOf ops x.1 = some t → t ∉ o.looksAt ops:=by
    intro x hx hxl t ht
    obtain ⟨l1,l2,hs⟩:=List.append_of_mem hx
    have hxπ : x.1 ∈ π:=by rw [hπ1,hs];simp
    have hpr:=(hπn (l1.map (·.1)) x.1 (l2.map (·.1) ++ i' :: (T2.map (·.1) ++ ρ)) (by rw [hπ1,hs];simp) i' (by simp)).2.1
    have hnd : dep cls i' x.1 = false:=by
     cases hd : dep cls i' x.1 with
     | false=>rfl
     | true=>have:=hdl x.1 (hok.lt _ hxπ) hd;rw [hxl] at this;cases this
    have hap:=hapart _ _ (hok.lt _ hxπ) hlt hpr hnd
    rw [ho!] at hap
    exact (Oper.apart_spec hap).1 t (by rw [← hlk _ (hok.lt _ hxπ)];exact ht)
   have hafter : ∀ x ∈ T2,listed.getD x.1 false = true → o.apart ops (ops[x.1]!) = true:=by
    intro x hx hxl
    have hxπ : x.1 ∈ π:=by rw [hπ1];simp;exact .inr (.inr (.inl ⟨x.2,hx⟩))
    have hpr:=(hπn (T1.map (·.1)) i' (T2.map (·.1) ++ ρ) hπ1 x.1 (by simp;exact .inl ⟨x.2,hx⟩)).2.1
    have hnd : dep cls x.1 i' = false:=by
     cases hd : dep cls x.1 i' with
     | false=>rfl
     | true=>have:=hdl2 x.1 hxl (hok.lt _ hxπ) i' hlt hd;rw [hli] at this;cases this
    have hap:=hapart _ _ hlt (hok.lt _ hxπ) hpr hnd
    rwa [ho!] at hap
   have hxlt : ∀ x ∈ T2,x.1 < ops.size:=fun x hx=>hok.lt _ (by rw [hπ1];simp;exact .inr (.inr (.inl ⟨x.2,hx⟩)))
   have hTf : T.filter (fun x=>listed.getD x.1 false) = T1.filter (fun x=>listed.getD x.1 false) ++ T2.filter (fun x=>listed.getD x.1 false):=by
    rw [hTT,List.filter_append,List.filter_cons_of_neg (by simp only [hli];exact Bool.false_ne_true)]
   have hag : Agree ops o (puts ops a0 T1) a:=by
    rw [ha,hTf,puts_append]
    refine agree_apart _ _ _ (agree_filter (fun i=>listed.getD i false) T1 a0 a0 (fun _ _=>rfl) hbefore) ?_
    intro x hx t ht
    obtain ⟨hx2,hxl⟩:=List.mem_filter.1 hx
    exact (Oper.apart_spec (hafter x hx2 hxl)).2.2 t (by rw [← hlk _ (hxlt x hx2)];exact ht)
   have hst' : stepAt P ops i' a w (fun v' w'=>v' = v ∧ I us w'):=by
    obtain ⟨o',ho',hh⟩:=hst
    obtain rfl : o' = o:=Option.some.inj (ho'.symm.trans ho)
    refine ⟨o',ho',?_⟩
    rw [agree_wanted hag] at hh
    split
    ·rename_i hw
     rw [if_pos hw] at hh
     exact gives_congr (agree_exec (fun cs b=>hok.sel i' o' cs b ho) hag) hh
    ·rename_i hw
     rw [if_neg hw] at hh
     exact hh
   refine stepAt_wpOp hst' ?_
   rintro v' w' ⟨rfl,hI'⟩
   refine ih (listed.setIfInBounds i' true) _ w' T ρ us (U.erase i') hsz' hUl' hU' (hUn.erase _) hπ hρ hR ?_ ?_ hus hdc' ?_ hI' ?_
   ·intro j hj
    rw [hset] at hj
    by_cases hji : j = i'
    ·subst hji;exact hiT
    ·rw [if_neg hji] at hj;exact hT j hj
   ·intro x hx he
    rw [hset,hTe x hx he];simp
   ·
    have hTn1 : ∀ x ∈ T1,x.1 ≠ i':=by
     intro x hx
     obtain ⟨l1,l2,hs⟩:=List.append_of_mem hx
     exact fun e=>(hπn (l1.map (·.1)) x.1 (l2.map (·.1) ++ i' :: (T2.map (·.1) ++ ρ)) (by rw [hπ1,hs];simp) i' (by simp)).1 e.symm
    have hTn2 : ∀ x ∈ T2,x.1 ≠ i':=fun x hx=>
     (hπn (T1.map (·.1)) i' (T2.map (·.1) ++ ρ) hπ1 x.1 (by simp;exact .inl ⟨x.2,hx⟩)).1
    have e1 : T1.filter (fun x=>(listed.setIfInBounds i' true).getD x.1 false) = T1.filter (fun x=>listed.getD x.1 false):=
     List.filter_congr fun x hx=>by rw [hset,if_neg (hTn1 x hx)]
    have e2 : T2.filter (fun x=>(listed.setIfInBounds i' true).getD x.1 false) = T2.filter (fun x=>listed.getD x.1 false):=
     List.filter_congr fun x hx=>by rw [hset,if_neg (hTn2 x hx)]
    rw [ha,hTf,puts_append]
    rw [hTT,List.filter_append,List.filter_cons_of_pos (by rw [hset];simp),e1,e2,puts_append,puts_cons]
    refine puts_put _ _ _ _ ?_
    intro x hx t ht
    obtain ⟨hx2,hxl⟩:=List.mem_filter.1 hx
    have:=(Oper.apart_spec (hafter x hx2 hxl)).2.1
    intro hd
    have h1 : o.dst = some t:=by rw [← ho!,← hlk _ hlt];exact hd
    exact this t h1 (by rw [← hlk _ (hxlt x hx2)];exact ht)
   ·intro S1 j u S2 hS hj
    rw [hset] at hj
    by_cases hji : j = i'
    ·subst hji;simp at hj
    ·rw [if_neg hji] at hj
     exact hob S1 j u S2 hS hj
  ·
   have hiπ : i ∈ π:=hok.all i hlt
   have hiρ : i ∈ ρ:=by
    rw [hπ] at hiπ
    exact (List.mem_append.1 hiπ).resolve_left hiT
   rcases hρ with rfl | ⟨e,r,rfl,hee⟩
   ·cases hiρ
   have hie : i = e:=by
    rcases List.mem_cons.1 hiρ with h | h
    ·exact h
    ·exfalso
     have hd:=(hπn (T.map (·.1)) e r hπ i h).2.2 hee
     have heπ : e ∈ π:=by rw [hπ];simp
     have hel:=hdl e (hok.lt e heπ) hd
     have hm:=hT e hel
     obtain ⟨l1,l2,hs⟩:=List.append_of_mem hm
     exact (hπn l1 e (l2 ++ e :: r) (by rw [hπ,hs];simp) e (by simp)).1 rfl
   subst hie
   unfold RSeq at hR
   rw [if_pos hee] at hR
   obtain ⟨hstep,hnext⟩:=hR
   have hst:=hstep w hI
   have hbefore : ∀ x ∈ T,listed.getD x.1 false = false → ∀ t,dstOf ops x.1 = some t → t ∉ o.looksAt ops:=by
    intro x hx hxl t ht
    obtain ⟨l1,l2,hs⟩:=List.append_of_mem hx
    have hxπ : x.1 ∈ π:=by rw [hπ,hs];simp
    have hpr:=(hπn (l1.map (·.1)) x.1 (l2.map (·.1) ++ i :: r) (by rw [hπ,hs];simp) i (by simp)).2.1
    have hnd : dep cls i x.1 = false:=by
     cases hd : dep cls i x.1 with
     | false=>rfl
     | true=>have:=hdl x.1 (hok.lt _ hxπ) hd;rw [hxl] at this;cases this
    have hap:=hapart _ _ (hok.lt _ hxπ) hlt hpr hnd
    rw [ho!] at hap
    exact (Oper.apart_spec hap).1 t (by rw [← hlk _ (hok.lt _ hxπ)];exact ht)
   have hag : Agree ops o (puts ops a0 T) a:=by
    rw [ha]
    exact agree_filter (fun i=>listed.getD i false) T a0 a0 (fun _ _=>rfl) hbefore
   have hst' : stepAt P ops i a w (fun v w'=>I (us ++ [v]) w'):=by
    obtain ⟨o',ho',hh⟩:=hst
    obtain rfl : o' = o:=Option.some.inj (ho'.symm.trans ho)
    refine ⟨o',ho',?_⟩
    rw [agree_wanted hag] at hh
    split
    ·rename_i hw
     rw [if_pos hw] at hh
     exact gives_congr (agree_exec (fun cs b=>hok.sel i o' cs b ho) hag) hh
    ·rename_i hw
     rw [if_neg hw] at hh
     exact hh
   refine stepAt_wpOp hst' ?_
   intro v w' hI'
   have hR':=hnext v ⟨w',hI'⟩
   obtain ⟨T',ρ',e1,e2,e3,e4,e5⟩:=segment _ _ _ hR'
   have hnotT' : ∀ x ∈ T',listed.getD x.1 false = false ∧ x.1 ≠ i:=by
    intro x hx
    have hxr : x.1 ∈ r:=by rw [e1];simp;exact .inl ⟨x.2,hx⟩
    have hne:=(hπn (T.map (·.1)) i r hπ x.1 hxr).1
    refine ⟨?_,hne⟩
    cases hl2 : listed.getD x.1 false with
    | false=>rfl
    | true=>
     have hm:=hT x.1 hl2
     obtain ⟨l1,l2,hs⟩:=List.append_of_mem hm
     exact absurd rfl (hπn l1 x.1 (l2 ++ i :: r) (by rw [hπ,hs];simp) x.1 (by simp [hxr])).1
   have hTn : ∀ x ∈ T,x.1 ≠ i:=by
    intro x hx e
    exact hiT (by rw [← e];exact List.mem_map_of_mem hx)
   refine ih (listed.setIfInBounds i true) _ w' (T ++ (i,v) :: T') ρ' (us ++ [v]) (U.erase i) hsz' hUl' hU' (hUn.erase _) ?_ e2 ?_ ?_ ?_ ?_ hdc' ?_ hI' ?_
   ·rw [hπ,e1];simp
   ·rw [puts_append,puts_cons];exact e4
   ·intro j hj
    rw [hset] at hj
    by_cases hji : j = i
    ·subst hji;simp
    ·rw [if_neg hji] at hj
     have:=hT j hj
     simp only [List.map_append,List.mem_append]
     exact .inl this
   ·intro x hx he
    rw [hset]
    rcases List.mem_append.1 hx with hx | hx
    ·rw [hTe x hx he];simp
    ·rcases List.mem_cons.1 hx with rfl | hx
     ·simp
     ·rw [e3 x hx] at he;cases he
   ·have hT'0 : (T'.map (·.1)).filter (fun i=>effs.contains i) = []:=by
     rw [List.filter_eq_nil_iff]
     intro x hx
     obtain ⟨y,hy,rfl⟩:=List.mem_map.1 hx
     rw [e3 y hy];exact Bool.false_ne_true
    simp only [List.map_append,List.map_cons,List.filter_append,List.length_append,List.length_singleton]
    rw [List.filter_cons_of_pos (by exact hee),hT'0,hus]
    simp
   ·have f1 : T.filter (fun x=>(listed.setIfInBounds i true).getD x.1 false) = T.filter (fun x=>listed.getD x.1 false):=
     List.filter_congr fun x hx=>by rw [hset,if_neg (hTn x hx)]
    have f2 : T'.filter (fun x=>(listed.setIfInBounds i true).getD x.1 false) = []:=by
     rw [List.filter_eq_nil_iff]
     intro x hx
     rw [hset,if_neg (hnotT' x hx).2,(hnotT' x hx).1]
     exact Bool.false_ne_true
    rw [List.filter_append,List.filter_cons_of_pos (by rw [hset];simp),f1,f2,puts_append,puts_cons,puts_nil,← ha]
   ·intro S1 j u S2 hS hj
    rw [hset] at hj
    by_cases hji : j = i
    ·subst hji;simp at hj
    ·rw [if_neg hji] at hj
     rcases List.append_eq_append_iff.1 hS with ⟨c,hc1,hc2⟩ | ⟨c,hc1,hc2⟩
     ·
      cases c with
      | nil=>
       obtain ⟨⟨h1,_⟩,_⟩ : (i = j ∧ v = u) ∧ T' = S2:=by simpa using hc2
       exact absurd h1.symm hji
      | cons y c=>
       obtain ⟨rfl,hc3⟩ : (i,v) = y ∧ T' = c ++ (j,u) :: S2:=by simpa using hc2
       have:=e5 c j u S2 hc3
       rw [hc1,puts_append,puts_cons]
       exact this
     ·
      cases c with
      | nil=>
       obtain ⟨⟨h1,_⟩,_⟩ : (j = i ∧ u = v) ∧ S2 = T':=by simpa using hc2
       exact absurd h1 hji
      | cons y c=>
       obtain ⟨rfl,_⟩ : (j,u) = y ∧ S2 = c ++ (i,v) :: T':=by simpa using hc2
       exact obl_weaken (hob S1 j u c hc1 hj) (List.prefix_append _ _)
theorem wp_region_rt {id : Nat} {l : List Oper} {a : Act} {w : World} {Q' : Exit → Act → World → Prop} (hm : P.follows .mixedOrders = true) (π effs his cls : List Nat)
  (hok : okB l.toArray π effs his cls = true) (I : List Value → World → Prop) (h0 : I [] { w with drawn:=w.drawn + 1 })
  (h : RSeq P l.toArray (fun i=>effs.contains i) (fun i=>his.getD i 1000) I (fun a w=>Q' .normal a w) π [] a) : (Code.region id l.toArray true).wp P Q' a w:=by
 refine wp_region_any hm ?_
 have hk:=ok_of hok
 obtain ⟨T,ρ,e1,e2,e3,e4,e5⟩:=segment _ _ _ h
 have hfalse : ∀ i : Nat,(Array.replicate l.toArray.size false).getD i false = false:=by
  intro i
  rw [Array.getD_eq_getD_getElem?,Array.getElem?_replicate]
  split <;> rfl
 refine sim (Q:=fun a w=>Q' .normal a w) hk a Q' (fun _ _ h=>h) _ _ a _ T ρ [] (List.range l.toArray.size) (by simp) (by simp) ?_ List.nodup_range e1 e2 e4 ?_ ?_ ?_ ?_ ?_ h0 ?_
 ·intro i hi
  rw [hfalse];simpa using hi
 ·intro i hi;rw [hfalse] at hi;cases hi
 ·intro x hx he;rw [e3 x hx] at he;cases he
 ·have : (T.map (·.1)).filter (fun i=>effs.contains i) = []:=by
   rw [List.filter_eq_nil_iff]
   intro x hx
   obtain ⟨y,hy,rfl⟩:=List.mem_map.1 hx
   rw [e3 y hy];exact Bool.false_ne_true
  rw [this];rfl
 ·intro i o _ hi;rw [hfalse] at hi;cases hi
 ·have : T.filter (fun x=>(Array.replicate l.toArray.size false).getD x.1 false) = []:=by
   rw [List.filter_eq_nil_iff]
   intro x _
   rw [hfalse];exact Bool.false_ne_true
  rw [this];rfl
 ·intro T1 i v T2 hT _
  exact e5 T1 i v T2 hT
end sim
section steps
variable {eff : Nat → Bool} {hi : Nat → Nat} {I : List Value → World → Prop} {Q : Act → World → Prop} {π : List Nat} {us : List Value} {a : Act} {i : Nat} {o : Oper}
theorem rs_nil (h : ∀ w,I us w → Q a w) : RSeq P ops eff hi I Q [] us a:=h
theorem rs_quiet (ho : ops[i]? = some o) (he : eff i = false) (hw : Region.wanted o (yielded ops a.tmps) = true) {v : Value}
  (hr : ∀ us' w,us <+: us' → us'.length ≤ hi i → I us' w → gives P o a w (fun v' w'=>v' = v ∧ I us' w')) (h : RSeq P ops eff hi I Q π us (a.put o.dst v)) : RSeq P ops eff hi I Q (i :: π) us a:=by
 unfold RSeq
 rw [if_neg (by rw [he];exact Bool.false_ne_true)]
 have hd : dstOf ops i = o.dst:=by simp [dstOf,ho]
 exact ⟨v,fun us' w h1 h2 h3=>⟨o,ho,by rw [if_pos hw];exact hr us' w h1 h2 h3⟩,by rw [hd];exact h⟩
theorem rs_read (ho : ops[i]? = some o) (he : eff i = false) (hw : Region.wanted o (yielded ops a.tmps) = true) {v : Value}
  (hr : ∀ us' w,us <+: us' → us'.length ≤ hi i → I us' w → (execOp a.eval o).run P w = .ok (.value v) w) (h : RSeq P ops eff hi I Q π us (a.put o.dst v)) : RSeq P ops eff hi I Q (i :: π) us a:=
 rs_quiet ho he hw (fun us' w h1 h2 h3=>gives_value (hr us' w h1 h2 h3) ⟨rfl,h3⟩) h
theorem rs_silent (ho : ops[i]? = some o) (he : eff i = false) (hw : Region.wanted o (yielded ops a.tmps) = true) {v : Value}
  (hr : ∀ w,(execOp a.eval o).run P w = .ok (.value v) w) (h : RSeq P ops eff hi I Q π us (a.put o.dst v)) : RSeq P ops eff hi I Q (i :: π) us a:=
 rs_read ho he hw (fun _ w _ _ _=>hr w) h
def sil (P : Program) (o : Oper) (a : Act) (K : Act → Prop) : Prop:=∃ v,(∀ w,(execOp a.eval o).run P w = .ok (.value v) w) ∧ K (a.put o.dst v)
attribute [go_sem] sil
theorem rs_sil (ho : ops[i]? = some o) (he : eff i = false) (hw : Region.wanted o (yielded ops a.tmps) = true)
  (h : ∀ K : Act → Prop,(∀ a,RSeq P ops eff hi I Q π us a → K a) → sil P o a K) : RSeq P ops eff hi I Q (i :: π) us a:=
 let ⟨_,h1,h2⟩:=h _ (fun _ h=>h)
 rs_silent ho he hw h1 h2
theorem rs_rd (ho : ops[i]? = some o) (he : eff i = false) (hw : Region.wanted o (yielded ops a.tmps) = true)
  (h : ∃ v,(∀ us' w,us <+: us' → us'.length ≤ hi i → I us' w → (execOp a.eval o).run P w = .ok (.value v) w) ∧ RSeq P ops eff hi I Q π us (a.put o.dst v)) : RSeq P ops eff hi I Q (i :: π) us a:=
 let ⟨_,h1,h2⟩:=h
 rs_read ho he hw h1 h2
theorem rs_qt (ho : ops[i]? = some o) (he : eff i = false) (hw : Region.wanted o (yielded ops a.tmps) = true)
  (h : ∃ v,(∀ us' w,us <+: us' → us'.length ≤ hi i → I us' w → gives P o a w (fun v' w'=>v' = v ∧ I us' w')) ∧ RSeq P ops eff hi I Q π us (a.put o.dst v)) : RSeq P ops eff hi I Q (i :: π) us a:=
 let ⟨_,h1,h2⟩:=h
 rs_quiet ho he hw h1 h2
theorem rs_skip (ho : ops[i]? = some o) (he : eff i = false) (hw : Region.wanted o (yielded ops a.tmps) = false) (h : RSeq P ops eff hi I Q π us (a.put o.dst undef)) : RSeq P ops eff hi I Q (i :: π) us a:=by
 unfold RSeq
 rw [if_neg (by rw [he];exact Bool.false_ne_true)]
 have hd : dstOf ops i = o.dst:=by simp [dstOf,ho]
 exact ⟨undef,fun us' w h1 h2 h3=>⟨o,ho,by rw [if_neg (by rw [hw];exact Bool.false_ne_true)];exact ⟨rfl,h3⟩⟩,by rw [hd];exact h⟩
theorem rs_eff (ho : ops[i]? = some o) (he : eff i = true) (hw : Region.wanted o (yielded ops a.tmps) = true)
  (hr : ∀ w,I us w → gives P o a w (fun v w'=>I (us ++ [v]) w')) (h : ∀ v,(∃ w,I (us ++ [v]) w) → RSeq P ops eff hi I Q π (us ++ [v]) (a.put o.dst v)) : RSeq P ops eff hi I Q (i :: π) us a:=by
 unfold RSeq
 rw [if_pos he]
 have hd : dstOf ops i = o.dst:=by simp [dstOf,ho]
 exact ⟨fun w hI=>⟨o,ho,by rw [if_pos hw];exact hr w hI⟩,fun v hv=>by rw [hd];exact h v hv⟩
end steps
end
end Go.Proofs.YtihfcjioilmmjaaGreat.Rt
namespace Go.Proofs.YtihfcjioilmmjaaGreat
open Go Go.RowKit
section
variable {κ : Type} [DecidableEq κ] {P : Program}
def entsFrom (enc : κ → Value) : Nat → List (κ × Value) → List MapEntry
 | _,[]=>[]
 | n,x :: r=>⟨enc x.1,x.2,n⟩ :: entsFrom enc (n + 1) r
theorem entsFrom_length (enc : κ → Value) : ∀ (n : Nat) (l : List (κ × Value)),(entsFrom enc n l).length = l.length
 | _,[]=>rfl
 | n,_ :: r=>by simp [entsFrom,entsFrom_length enc (n + 1) r]
theorem entsFrom_append (enc : κ → Value) : ∀ (n : Nat) (l m : List (κ × Value)),entsFrom enc n (l ++ m) = entsFrom enc n l ++ entsFrom enc (n + l.length) m
 | _,[],_=>by simp [entsFrom]
 | n,x :: r,m=>by simp [entsFrom,entsFrom_append enc (n + 1) r m,Nat.add_comm,Nat.add_left_comm]
theorem entsFrom_get (enc : κ → Value) : ∀ (n i : Nat) (l : List (κ × Value)),(entsFrom enc n l)[i]? = (l[i]?).map fun x=>⟨enc x.1,x.2,n + i⟩
 | _,_,[]=>by simp [entsFrom]
 | n,0,x :: r=>by simp [entsFrom]
 | n,i + 1,x :: r=>by simp [entsFrom,entsFrom_get enc (n + 1) i r,Nat.add_comm,Nat.add_left_comm]
def MapIs (enc : κ → Value) (w : World) (b : Nat) (l : List (κ × Value)) : Prop:=w.heap[b]? = some (.map (entsFrom enc 0 l).toArray l.length)
def lookAt : List (κ × Value) → κ → Nat → Option (Nat × Value)
 | [],_,_=>none
 | x :: r,k,i=>if x.1 = k then some (i,x.2) else lookAt r k (i + 1)
def look : List (κ × Value) → κ → Option Value
 | [],_=>none
 | x :: r,k=>if x.1 = k then some x.2 else look r k
def mput : List (κ × Value) → κ → Value → List (κ × Value)
 | [],k,v=>[(k,v)]
 | x :: r,k,v=>if x.1 = k then (k,v) :: r else x :: mput r k v
theorem lookAt_look : ∀ (l : List (κ × Value)) (k : κ) (i : Nat),(lookAt l k i).map (·.2) = look l k
 | [],_,_=>rfl
 | x :: r,k,i=>by
  unfold lookAt look
  split
  ·rfl
  ·exact lookAt_look r k (i + 1)
theorem lookAt_some : ∀ (l : List (κ × Value)) (k : κ) (i j : Nat) (v : Value),lookAt l k i = some (j,v) → ∃ n,j = i + n ∧ l[n]? = some (k,v) ∧ ∀ u,mput l k u = l.set n (k,u)
 | [],_,_,_,_,h=>by simp [lookAt] at h
 | x :: r,k,i,j,v,h=>by
  unfold lookAt at h
  split at h
  ·rename_i hk
   simp only [Option.some.injEq,Prod.mk.injEq] at h
   obtain ⟨rfl,rfl⟩:=h
   refine ⟨0,rfl,by simp [← hk],fun u=>by simp [mput,hk]⟩
  ·rename_i hk
   obtain ⟨n,h1,h2,h3⟩:=lookAt_some r k (i + 1) j v h
   exact ⟨n + 1,by omega,by simpa using h2,fun u=>by simp [mput,hk,h3]⟩
theorem lookAt_none : ∀ (l : List (κ × Value)) (k : κ) (i : Nat),lookAt l k i = none → ∀ u,mput l k u = l ++ [(k,u)]
 | [],_,_,_,_=>rfl
 | x :: r,k,i,h,u=>by
  unfold lookAt at h
  split at h
  ·cases h
  ·rename_i hk
   simp [mput,hk,lookAt_none r k (i + 1) h u]
theorem getMap {w : World} {r : Nat} {es : Array MapEntry} {clock : Nat} (hb : w.heap[r]? = some (.map es clock)) : (getObj r).run P w = .ok (.map es clock) w:=by
 simp [getObj,Sem.run,hb]
theorem setMap {w : World} {r : Nat} {es : Array MapEntry} {clock : Nat} (o : Obj) (hb : w.heap[r]? = some (.map es clock)) : (setObj r o).run P w = .ok () (w.putObj r o):=by
 simp [setObj,Sem.run,hb,World.putObj]
def Finds (P : Program) (K : TypeId) (enc : κ → Value) (w : World) (l : List (κ × Value)) (k : κ) : Prop:=
 (Instr.findKey K (enc k) (entsFrom enc 0 l)).run P w = .ok (lookAt l k 0) w ∧ (∀ b,(Instr.checkKey b 10000 K (enc k)).run P w = .ok () w) ∧ Instr.sameBits 10000 (enc k) (enc k) = true
theorem run_lookup2 {enc : κ → Value} {w : World} {b : Nat} {l : List (κ × Value)} {k : κ} {T K E : TypeId} {z : Value} (ht : P.underlying T = some (.map K E)) (hm : MapIs enc w b l) (hf : Finds P K enc w l k)
  (hz : (zeroValue E).run P w = .ok z w) :
  (Instr.lookup T (.map (some b)) (enc k) true).run P w = .ok (.tuple #[(look l k).getD z,.bool (look l k).isSome]) w:=by
 obtain ⟨h1,h2,_⟩:=hf
 rw [← lookAt_look l k 0]
 unfold MapIs at hm
 cases hl : lookAt l k 0 with
 | none=>rw [hl] at h1;simp [Instr.lookup,run_underlying ht,getMap hm,h2,h1,hz,Result.andThen]
 | some x=>rw [hl] at h1;simp [Instr.lookup,run_underlying ht,getMap hm,h2,h1,Result.andThen]
theorem run_lookup1 {enc : κ → Value} {w : World} {b : Nat} {l : List (κ × Value)} {k : κ} {T K E : TypeId} {z : Value} (ht : P.underlying T = some (.map K E)) (hm : MapIs enc w b l) (hf : Finds P K enc w l k)
  (hz : (zeroValue E).run P w = .ok z w) :
  (Instr.lookup T (.map (some b)) (enc k) false).run P w = .ok ((look l k).getD z) w:=by
 obtain ⟨h1,h2,_⟩:=hf
 rw [← lookAt_look l k 0]
 unfold MapIs at hm
 cases hl : lookAt l k 0 with
 | none=>rw [hl] at h1;simp [Instr.lookup,run_underlying ht,getMap hm,h2,h1,hz,Result.andThen]
 | some x=>rw [hl] at h1;simp [Instr.lookup,run_underlying ht,getMap hm,h2,h1,Result.andThen]
def wput (enc : κ → Value) (w : World) (b : Nat) (l : List (κ × Value)) : World:=w.putObj b (.map (entsFrom enc 0 l).toArray l.length)
theorem entsFrom_modify (enc : κ → Value) : ∀ (n i : Nat) (l : List (κ × Value)) (k : κ) (v u : Value),l[i]? = some (k,v) →
  (entsFrom enc n l).modify i (fun e=>{ e with key:=enc k,val:=u }) = entsFrom enc n (l.set i (k,u))
 | _,_,[],_,_,_,h=>by simp at h
 | n,0,x :: r,k,v,u,h=>by simp [entsFrom]
 | n,i + 1,x :: r,k,v,u,h=>by
  have:=entsFrom_modify enc (n + 1) i r k v u (by simpa using h)
  simp [entsFrom,this]
theorem run_mapUpdate {enc : κ → Value} {w : World} {b : Nat} {l : List (κ × Value)} {k : κ} {T K E : TypeId} {v : Value} (ht : P.underlying T = some (.map K E)) (hm : MapIs enc w b l) (hf : Finds P K enc w l k) :
  (Instr.mapUpdate T (.map (some b)) (enc k) v).run P w = .ok () (wput enc w b (mput l k v)):=by
 obtain ⟨h1,h2,h3⟩:=hf
 unfold MapIs at hm
 cases hl : lookAt l k 0 with
 | none=>
  rw [hl] at h1
  rw [lookAt_none l k 0 hl v]
  simp only [Instr.mapUpdate,Sem.run_bind,run_underlying ht,getMap hm,h2,h1,Result.andThen,setMap _ hm]
  unfold wput World.putObj
  rw [entsFrom_append]
  simp [entsFrom]
 | some x=>
  obtain ⟨j,u⟩:=x
  rw [hl] at h1
  obtain ⟨n,hj,hn,hput⟩:=lookAt_some l k 0 j u hl
  obtain rfl : j = n:=by omega
  have hget : ((entsFrom enc 0 l).toArray)[j]? = some ⟨enc k,u,j⟩:=by simp [entsFrom_get,hn]
  rw [hput v]
  simp only [Instr.mapUpdate,Sem.run_bind,run_underlying ht,getMap hm,h2,h1,Result.andThen,Instr.keyThatStays,hget,Option.map_some,Option.getD_some,h3,if_true,Sem.run_pure,setMap _ hm]
  unfold wput World.putObj
  have:=entsFrom_modify enc 0 j l k u v hn
  simp [this]
theorem look_mput_same : ∀ (l : List (κ × Value)) (k : κ) (v : Value),look (mput l k v) k = some v
 | [],k,v=>by simp [mput,look]
 | x :: r,k,v=>by
  unfold mput
  split
  ·simp [look]
  ·rename_i h;simp [look,h,look_mput_same r k v]
theorem look_mput_other : ∀ (l : List (κ × Value)) (k k' : κ) (v : Value),k' ≠ k → look (mput l k v) k' = look l k'
 | [],k,k',v,h=>by simp [mput,look,Ne.symm h]
 | x :: r,k,k',v,h=>by
  unfold mput
  split
  ·rename_i hx;simp [look,hx,Ne.symm h]
  ·simp [look,look_mput_other r k k' v h]
theorem mput_mem : ∀ (l : List (κ × Value)) (k : κ) (v : Value) (x : κ × Value),x ∈ mput l k v → x = (k,v) ∨ (x ∈ l ∧ True)
 | [],k,v,x,h=>by simp [mput] at h;exact .inl h
 | y :: r,k,v,x,h=>by
  unfold mput at h
  split at h
  ·rcases List.mem_cons.1 h with h | h
   ·exact .inl h
   ·exact .inr ⟨List.mem_cons_of_mem _ h,trivial⟩
  ·rcases List.mem_cons.1 h with h | h
   ·exact .inr ⟨by rw [h];exact List.mem_cons_self,trivial⟩
   ·rcases mput_mem r k v x h with h | ⟨h,_⟩
    ·exact .inl h
    ·exact .inr ⟨List.mem_cons_of_mem _ h,trivial⟩
theorem keys_mput : ∀ (l : List (κ × Value)) (k : κ) (v : Value),(mput l k v).map (·.1) = if k ∈ l.map (·.1) then l.map (·.1) else l.map (·.1) ++ [k]
 | [],k,v=>by simp [mput]
 | x :: r,k,v=>by
  unfold mput
  split
  ·rename_i h;simp [h]
  ·rename_i h
   simp only [List.map_cons,keys_mput r k v,List.mem_cons]
   by_cases hk : k ∈ r.map (·.1)
   ·simp [hk]
   ·simp [hk,Ne.symm h]
theorem nodup_mput {l : List (κ × Value)} (h : (l.map (·.1)).Nodup) (k : κ) (v : Value) : ((mput l k v).map (·.1)).Nodup:=by
 rw [keys_mput]
 split
 ·exact h
 ·rename_i hk
  rw [List.nodup_append]
  exact ⟨h,by simp,fun a ha b hb=>by rw [List.mem_singleton.1 hb];intro e;exact hk (e ▸ ha)⟩
theorem look_some_mem : ∀ {l : List (κ × Value)} {k : κ} {v : Value},look l k = some v → (k,v) ∈ l
 | [],_,_,h=>by simp [look] at h
 | x :: r,k,v,h=>by
  unfold look at h
  split at h
  ·rename_i hk
   obtain rfl:=Option.some.inj h
   rw [← hk];exact List.mem_cons_self
  ·exact List.mem_cons_of_mem _ (look_some_mem h)
theorem look_mem {l : List (κ × Value)} (hn : (l.map (·.1)).Nodup) : ∀ {k : κ} {v : Value},(k,v) ∈ l → look l k = some v:=by
 induction l with
 | nil=>intro k v h;cases h
 | cons x r ih=>
  intro k v h
  simp only [List.map_cons,List.nodup_cons] at hn
  unfold look
  rcases List.mem_cons.1 h with h | h
  ·rw [← h];simp
  ·split
   ·rename_i hk
    exact absurd (List.mem_map.2 ⟨_,h,rfl⟩) (by rw [← hk];exact hn.1)
   ·exact ih hn.2 h
theorem look_isSome_iff {l : List (κ × Value)} {k : κ} : (look l k).isSome = true ↔ k ∈ l.map (·.1):=by
 induction l with
 | nil=>simp [look]
 | cons x r ih=>
  unfold look
  split
  ·rename_i h;simp [h]
  ·rename_i h
   rw [ih];simp [Ne.symm h]
theorem look_none_iff {l : List (κ × Value)} {k : κ} : look l k = none ↔ k ∉ l.map (·.1):=by
 rw [← look_isSome_iff];cases look l k <;> simp
theorem bytes_beq (a b : ByteArray) : (a == b) = decide (a = b):=by
 show (a.data == b.data) = _
 rw [Bool.eq_iff_iff]
 simp [ByteArray.ext_iff]
theorem findNow_string : ∀ (l : List (ByteArray × Value)) (k : ByteArray) (n i : Nat),Instr.findNow .string (.string k) (entsFrom Value.string n l) i = some (lookAt l k i)
 | [],_,_,_=>rfl
 | x :: r,k,n,i=>by
  simp only [entsFrom,Instr.findNow,Instr.sameNow,lookAt]
  rw [bytes_beq]
  by_cases h : x.1 = k
  ·simp [h]
  ·have h' : decide (k = x.1) = false:=decide_eq_false fun e=>h e.symm
   rw [h']
   simp only [if_neg h]
   exact findNow_string r k (n + 1) (i + 1)
theorem findNow_int (q q' : IntKind) : ∀ (l : List (Int × Value)) (k : Int) (n i : Nat),Instr.findNow (.int q') (.int q k) (entsFrom (Value.int q) n l) i = some (lookAt l k i)
 | [],_,_,_=>rfl
 | x :: r,k,n,i=>by
  simp only [entsFrom,Instr.findNow,Instr.sameNow,lookAt,if_true]
  by_cases h : x.1 = k
  ·simp [h]
  ·have h' : (k == x.1) = false:=beq_eq_false_iff_ne.2 fun e=>h e.symm
   rw [h']
   simp only [if_neg h]
   exact findNow_int q q' r k (n + 1) (i + 1)
theorem finds_string {K : TypeId} (hK : P.underlying K = some .string) (w : World) (l : List (ByteArray × Value)) (k : ByteArray) : Finds P K Value.string w l k:=
 ⟨MapKept.run_findKey hK (findNow_string l k 0 0),fun b=>by unfold Instr.checkKey;simp [run_underlying hK,Result.andThen],by unfold Instr.sameBits;simp [bytes_beq]⟩
theorem finds_int {K : TypeId} {q : IntKind} (hK : P.underlying K = some (.int q)) (w : World) (l : List (Int × Value)) (k : Int) : Finds P K (Value.int q) w l k:=
 ⟨MapKept.run_findKey hK (findNow_int q q l k 0 0),fun b=>by unfold Instr.checkKey;simp [run_underlying hK,Result.andThen],by unfold Instr.sameBits;simp⟩
theorem findAsking_run {K : TypeId} {enc : κ → Value} {w : World} {k : κ} : ∀ (l : List (κ × Value)) (n i : Nat),(∀ x ∈ l,(Op.equal K (enc k) (enc x.1)).run P w = .ok (decide (x.1 = k)) w) →
  (Instr.findAsking K (enc k) (entsFrom enc n l) i).run P w = .ok (lookAt l k i) w
 | [],_,_,_=>by simp [entsFrom,Instr.findAsking,lookAt]
 | x :: r,n,i,h=>by
  simp only [entsFrom,Instr.findAsking,lookAt,Sem.run_bind,h x List.mem_cons_self,Result.andThen]
  by_cases hk : x.1 = k
  ·simp [hk]
  ·simp only [hk,decide_false,Bool.false_eq_true,if_false]
   exact findAsking_run r (n + 1) (i + 1) fun y hy=>h y (List.mem_cons_of_mem _ hy)
end
end Go.Proofs.YtihfcjioilmmjaaGreat
namespace Go.Proofs.YtihfcjioilmmjaaGreat
open Go Go.RowKit
def IsCol (w : World) (cb : Nat) : Prop:=∃ cs,w.heap[cb]? = some (.cells cs 104 (0,0))
def encP (cb : Nat) : Value:=.pointer (some ⟨cb,0,none⟩)
def encK (k : ByteArray × Nat) : Value:=.agg #[.string k.1,.pointer (some ⟨k.2,0,none⟩)]
theorem sizeOf104 (w : World) : (sizeOf 104).run Tryz.prog w = .ok 6 w:=by kernel_rfl
theorem eq101 (w : World) (d : Nat) (a b : Nat) (ha : IsCol w a) (hb : IsCol w b) : (Op.equalIn (d + 1) 101 (encP a) (encP b)).run Tryz.prog w = .ok (decide (b = a)) w:=by
 obtain ⟨ca,ha⟩:=ha
 obtain ⟨cb,hb⟩:=hb
 unfold encP
 simp only [Op.equalIn,Sem.run_bind,run_underlying Tryz.underlying101,Result.andThen_ok,sizeOf104]
 by_cases h : b = a
 ·subst h
  simp [run_sameAddr_same]
 ·simp [h,run_sameAddr_other w (a:=⟨a,0,none⟩) (b:=⟨b,0,none⟩) (fun e=>h (by injection e with e1;exact e1.symm)) ha hb]
theorem find_ask {κ : Type} [DecidableEq κ] {P : Program} {K : TypeId} {d : TypeDesc} (hK : P.underlying K = some d) (hd : ∀ a b,Instr.sameNow d a b = none) {enc : κ → Value} {w : World} {k : κ} {l : List (κ × Value)}
  (h : ∀ x ∈ l,(Op.equal K (enc k) (enc x.1)).run P w = .ok (decide (x.1 = k)) w) : (Instr.findKey K (enc k) (entsFrom enc 0 l)).run P w = .ok (lookAt l k 0) w:=by
 cases l with
 | nil=>simp [Instr.findKey,run_underlying hK,entsFrom,Instr.findNow,lookAt,Result.andThen]
 | cons x r=>
  have h0 : Instr.findNow d (enc k) (entsFrom enc 0 (x :: r)) 0 = none:=by simp [entsFrom,Instr.findNow,hd]
  simp only [Instr.findKey,Sem.run_bind,run_underlying hK,Result.andThen_ok,h0]
  exact findAsking_run (x :: r) 0 0 h
theorem finds_ptr (w : World) (l : List (Nat × Value)) (cb : Nat) (hc : IsCol w cb) (hl : ∀ x ∈ l,IsCol w x.1) : Finds Tryz.prog 101 encP w l cb:=
 ⟨find_ask Tryz.underlying101 (fun a b=>by cases a <;> cases b <;> rfl) fun x hx=>by
   unfold Op.equal Op.maxDepth
   exact eq101 w 9999 cb x.1 hc (hl x hx),
  fun b=>by unfold encP;kernel_rfl,by unfold encP;unfold Instr.sameBits;simp⟩
theorem stood131 : Tryz.prog.stoodInHeld 131 = false:=by kernel_rfl
theorem eq131 (w : World) (a b : ByteArray × Nat) (ha : IsCol w a.2) (hb : IsCol w b.2) : (Op.equal 131 (encK a) (encK b)).run Tryz.prog w = .ok (decide (b = a)) w:=by
 have hS : Tryz.prog.underlying 131 = some (.struct (Tryz.prog.fieldsOf 131)):=by kernel_rfl
 unfold Op.equal Op.maxDepth encK
 rw [show (10000 : Nat) = 9999 + 1 from rfl,run_equalIn_struct w 9999 131 _ _ hS stood131]
 have hp:=eq101 w 9998 a.2 b.2 ha hb
 unfold encP at hp
 have u9:=Tryz.underlying9
 have i9:=Tryz.isAgg9
 have i101:=Tryz.isAgg101
 obtain ⟨sa,na⟩:=a
 obtain ⟨sb,nb⟩:=b
 simp only [Program.fieldsOf,Tryz.underlying131]
 have e0 : ∀ (d : Nat) (x y : ByteArray) (w : World),(Op.equalIn (d + 1) 9 (.string x) (.string y)).run Tryz.prog w = .ok (decide (y = x)) w:=by
  intro d x y w
  simp only [Op.equalIn,Sem.run_bind,run_underlying u9,Result.andThen_ok,Sem.run_pure]
  rw [bytes_beq]
  by_cases h : x = y
  ·simp [h]
  ·simp [h,Ne.symm h]
 have e1 : ∀ (x y : ByteArray) (w : World),(Op.equalIn 9999 9 (.string x) (.string y)).run Tryz.prog w = .ok (decide (y = x)) w:=e0 9998
 have p1 : ∀ (x : ByteArray) (v : Value) (w : World),(part 9 #[.string x,v] 0).run Tryz.prog w = .ok (.string x) w:=fun x v w=>by simp [part,i9]
 have p2 : ∀ (x : ByteArray) (v : Value) (w : World),(part 101 #[.string x,v] 1).run Tryz.prog w = .ok v w:=fun x v w=>by simp [part,i101]
 simp only [Op.eqFields,Sem.run_ite,Sem.run_bind,p1,p2,Result.andThen_ok,e1,hp,Sem.run_pure]
 by_cases h1 : sb = sa <;> by_cases h2 : nb = na <;> simp [h1,h2]
theorem finds_key (w : World) (l : List ((ByteArray × Nat) × Value)) (k : ByteArray × Nat) (hc : IsCol w k.2) (hl : ∀ x ∈ l,IsCol w x.1.2) : Finds Tryz.prog 131 encK w l k:=
 ⟨find_ask (d:=(.struct (Tryz.prog.fieldsOf 131))) (by kernel_rfl) (fun a b=>by cases a <;> cases b <;> rfl) fun x hx=>eq131 w k x.1 hc (hl x hx),
  fun b=>by unfold encK;kernel_rfl,by
   have h : ∀ n,Instr.sameBits (n + 1) (encK k) (encK k) = true:=fun n=>by
    have h1 : Instr.sameBits n (.string k.1) (.string k.1) = true:=by
     have : Instr.sameBits n (.string k.1) (.string k.1) = (k.1 == k.1):=by cases n <;> rfl
     rw [this,bytes_beq];exact decide_eq_true rfl
    have h2 : Instr.sameBits n (.pointer (some ⟨k.2,0,none⟩)) (.pointer (some ⟨k.2,0,none⟩)) = true:=by
     have : Instr.sameBits n (.pointer (some ⟨k.2,0,none⟩)) (.pointer (some ⟨k.2,0,none⟩)) = ((some ⟨k.2,0,none⟩ : Option Addr) == some ⟨k.2,0,none⟩):=by cases n <;> rfl
     rw [this];exact beq_self_eq_true _
    show (true && (Instr.sameBits n (.string k.1) (.string k.1) && (Instr.sameBits n (.pointer (some ⟨k.2,0,none⟩)) (.pointer (some ⟨k.2,0,none⟩)) && true))) = true
    rw [h1,h2];rfl
   exact h 9999⟩
end Go.Proofs.YtihfcjioilmmjaaGreat
namespace Go.Proofs.YtihfcjioilmmjaaGreat
open Go Go.RowKit
abbrev Ext (w w' : World) : Prop:=Below w.heap.size w w'
theorem Ext.trans' {a b c : World} (h : Ext a b) (k : Ext b c) : Ext a c:=Below.trans h (Below.mono k h.size)
theorem ext_refl (w : World) : Ext w w:=Below.refl _ _
theorem cell_lt {w : World} {a : Addr} {v : Value} (h : w.cell? a = some v) : a.block < w.heap.size:=World.block_lt_of_cell? w a h
theorem Ext.cell' {w w' : World} (h : Ext w w') {a : Addr} {v : Value} (hc : w.cell? a = some v) : w'.cell? a = some v:=
 (Below.cell h (cell_lt hc)).trans hc
theorem heap_lt {w : World} {k : Nat} {o : Obj} (h : w.heap[k]? = some o) : k < w.heap.size:=(Array.getElem?_eq_some_iff.1 h).1
theorem Ext.obj {w w' : World} (h : Ext w w') {k : Nat} {o : Obj} (hk : w.heap[k]? = some o) : w'.heap[k]? = some o:=
 (h.block k (heap_lt hk)).trans hk
theorem cell_of {w : World} {b : Nat} {cs : Array Value} {T : TypeId} {fr : Nat × Nat} (h : w.heap[b]? = some (.cells cs T fr)) (j : Nat) : w.cell? ⟨b,j,none⟩ = cs[j]?:=by
 simp [World.cell?,h]
theorem frozen_of {w : World} {b : Nat} {cs : Array Value} {T : TypeId} (h : w.heap[b]? = some (.cells cs T (0,0))) (j : Nat) : w.frozen? ⟨b,j,none⟩ = false:=by
 simp [World.frozen?,h]
theorem MapIs.ext {κ : Type} [DecidableEq κ] {enc : κ → Value} {w w' : World} {b : Nat} {l : List (κ × Value)} (h : MapIs enc w b l) (he : Ext w w') : MapIs enc w' b l:=he.obj h
theorem heap_alloc_get (w : World) (o : Obj) (k : Nat) : (w.alloc o).heap[k]? = if k = w.heap.size then some o else w.heap[k]?:=by
 show (w.heap.push o)[k]? = _
 rw [Array.getElem?_push]
theorem heap_setCell_get (w : World) (b off : Nat) (v : Value) (k : Nat) : (w.setCell ⟨b,off,none⟩ v).heap[k]? = if k = b then (w.heap[k]?).map (fun o=>match o with | .cells c e f=>.cells (c.setIfInBounds off v) e f | o=>o) else w.heap[k]?:=by
 simp only [World.setCell,Array.getElem?_modify]
 by_cases h : b = k
 ·subst h
  rw [if_pos rfl,if_pos rfl]
  cases w.heap[b]? with
  | none=>rfl
  | some o=>cases o <;> rfl
 ·rw [if_neg h,if_neg (Ne.symm h)]
theorem heap_drew_get (w : World) (k : Nat) : w.drew.heap[k]? = w.heap[k]?:=rfl
theorem heap_drawn_get (w : World) (n : Nat) (k : Nat) : ({ w with drawn:=n } : World).heap[k]? = w.heap[k]?:=rfl
theorem size_drawn (w : World) (n : Nat) : ({ w with drawn:=n } : World).heap.size = w.heap.size:=rfl
theorem below_drawn {B : Nat} {a w : World} (h : Below B a w) (n : Nat) : Below B a { w with drawn:=n }:=⟨h.os,h.tape,h.output,h.size,h.block⟩
theorem putObj_get (w : World) (r : Nat) (o : Obj) (k : Nat) : (w.putObj r o).heap[k]? = if k = r then (if r < w.heap.size then some o else none) else w.heap[k]?:=by
 unfold World.putObj
 by_cases h : k = r
 ·subst h
  rw [if_pos rfl,Array.getElem?_setIfInBounds_self]
 ·rw [if_neg h,Array.getElem?_setIfInBounds_ne (Ne.symm h)]
theorem putObj_size (w : World) (r : Nat) (o : Obj) : (w.putObj r o).heap.size = w.heap.size:=by simp [World.putObj]
theorem below_putObj {B : Nat} {a w : World} (h : Below B a w) {r : Nat} (hr : B ≤ r) (o : Obj) : Below B a (w.putObj r o):=
 h.trans ⟨rfl,rfl,rfl,by rw [putObj_size];exact Nat.le_refl _,fun k hk=>by rw [putObj_get,if_neg (by omega)]⟩
def SlAt (w : World) (v : Value) (k n : Nat) (xs : List Value) : Prop:=
 ∃ a cap,v = .slice a n cap ∧ n ≤ cap ∧ n ≤ maxLen ∧ xs.length = n * k ∧ ∀ (j : Nat) u,xs[j]? = some u → ∃ b off,a = some ⟨b,off,none⟩ ∧ w.cell? ⟨b,off + j,none⟩ = some u
theorem SlAt.ext {w w' : World} {v : Value} {k n : Nat} {xs : List Value} (h : SlAt w v k n xs) (he : Ext w w') : SlAt w' v k n xs:=by
 obtain ⟨a,cap,h1,h2,h2',h3,h4⟩:=h
 exact ⟨a,cap,h1,h2,h2',h3,fun j u hu=>let ⟨b,off,e,hc⟩:=h4 j u hu;⟨b,off,e,he.cell' hc⟩⟩
theorem SlAt.form {w : World} {v : Value} {k n : Nat} {xs : List Value} (h : SlAt w v k n xs) (hk : 0 < k) :
  (n = 0 ∧ xs = [] ∧ ∃ a cap,v = .slice a 0 cap) ∨ (0 < n ∧ ∃ b off cap,v = .slice (some ⟨b,off,none⟩) n cap ∧ n ≤ cap ∧ ∀ (j : Nat) u,xs[j]? = some u → w.cell? ⟨b,off + j,none⟩ = some u):=by
 obtain ⟨a,cap,rfl,h2,_,h3,h4⟩:=h
 by_cases hn : n = 0
 ·subst hn
  exact .inl ⟨rfl,List.eq_nil_of_length_eq_zero (by simpa using h3),a,cap,rfl⟩
 ·have hpos : 0 < xs.length:=by rw [h3];exact Nat.mul_pos (by omega) hk
  obtain ⟨b,off,rfl,_⟩:=h4 0 xs[0] (List.getElem?_eq_getElem hpos)
  refine .inr ⟨by omega,b,off,cap,rfl,h2,fun j u hu=>?_⟩
  obtain ⟨b',off',e,hc⟩:=h4 j u hu
  simp only [Option.some.injEq,Addr.mk.injEq] at e
  obtain ⟨rfl,rfl,_⟩:=e
  exact hc
theorem SlAt.len {w : World} {v : Value} {k n : Nat} {xs : List Value} (h : SlAt w v k n xs) : n ≤ maxLen:=let ⟨_,_,_,_,h,_⟩:=h;h
theorem SlAt.of_owns {w : World} {base : Nat} {e : TypeId} {k : Nat} {v : Value} {n : Nat} {xs : List Value} (h : w.ownsRow base e k v n xs) : SlAt w v k n xs:=by
 obtain ⟨hl,h⟩:=h
 rcases h with ⟨rfl,rfl⟩ | ⟨g,cap,cur,rfl,hb,hg,hn,hm,hs,ht⟩
 ·exact ⟨none,0,rfl,Nat.le_refl _,Nat.zero_le _,hl,fun j u hu=>by have h0 : xs = []:=List.eq_nil_of_length_eq_zero (by simpa using hl);rw [h0] at hu;simp at hu⟩
 ·refine ⟨some ⟨g,0,none⟩,cap,rfl,hn,Nat.le_trans hn hm,hl,fun j u hu=>⟨g,0,rfl,?_⟩⟩
  rw [cell_of hg,Nat.zero_add]
  rw [← ht,List.getElem?_take] at hu
  split at hu
  ·simpa using hu
  ·cases hu
def StrsAt (w : World) (v : Value) (l : List ByteArray) : Prop:=SlAt w v 1 l.length (l.map Value.string) ∧ ∀ s ∈ l,s.size ≤ maxLen
def IntsAt (w : World) (v : Value) (l : List Int) : Prop:=SlAt w v 1 l.length (l.map (Value.int .i64))
theorem StrsAt.ext {w w' : World} {v : Value} {l : List ByteArray} (h : StrsAt w v l) (he : Ext w w') : StrsAt w' v l:=⟨h.1.ext he,h.2⟩
theorem IntsAt.ext {w w' : World} {v : Value} {l : List Int} (h : IntsAt w v l) (he : Ext w w') : IntsAt w' v l:=SlAt.ext h he
def i64ok (n : Int) : Prop:=-9223372036854775808 ≤ n ∧ n ≤ 9223372036854775807
structure Attr where
 name : ByteArray
 values : List ByteArray
 low : Int
 high : Int
structure Fct where
 subject : ByteArray
 attr : ByteArray
 values : List ByteArray
 low : Int
 high : Int
inductive Exp where
 | mk (op : Int) (attr : ByteArray) (values : List ByteArray) (low high : Int) (kids : List Exp)
def attrCells (a : Attr) (v : Value) : List Value:=[.string a.name,v,.int .i64 a.low,.int .i64 a.high]
def factCells (f : Fct) (v : Value) : List Value:=[.string f.subject,.string f.attr,v,.int .i64 f.low,.int .i64 f.high]
def AttrAt (w : World) (a : Attr) (v : Value) : Prop:=StrsAt w v a.values ∧ a.name.size ≤ maxLen ∧ i64ok a.low ∧ i64ok a.high
def FactAt (w : World) (f : Fct) (v : Value) : Prop:=StrsAt w v f.values ∧ f.subject.size ≤ maxLen ∧ f.attr.size ≤ maxLen ∧ i64ok f.low ∧ i64ok f.high
def RowsAt {α : Type} (cells : α → Value → List Value) (ok : World → α → Value → Prop) (k : Nat) (w : World) (v : Value) (l : List α) : Prop:=
 ∃ vs : List Value,vs.length = l.length ∧ SlAt w v k l.length ((l.zip vs).flatMap fun x=>cells x.1 x.2) ∧ ∀ x ∈ l.zip vs,ok w x.1 x.2
def AttrsAt:=RowsAt attrCells AttrAt 4
def FactsAt:=RowsAt factCells FactAt 5
theorem RowsAt.ext {α : Type} {cells : α → Value → List Value} {ok : World → α → Value → Prop} {k : Nat} (hok : ∀ w w' a v,Ext w w' → ok w a v → ok w' a v) {w w' : World} {v : Value} {l : List α}
  (h : RowsAt cells ok k w v l) (he : Ext w w') : RowsAt cells ok k w' v l:=by
 obtain ⟨vs,h1,h2,h3⟩:=h
 exact ⟨vs,h1,h2.ext he,fun x hx=>hok w w' _ _ he (h3 x hx)⟩
theorem AttrAt.ext (w w' : World) (a : Attr) (v : Value) (he : Ext w w') (h : AttrAt w a v) : AttrAt w' a v:=⟨h.1.ext he,h.2⟩
theorem FactAt.ext (w w' : World) (a : Fct) (v : Value) (he : Ext w w') (h : FactAt w a v) : FactAt w' a v:=⟨h.1.ext he,h.2⟩
theorem AttrsAt.ext {w w' : World} {v : Value} {l : List Attr} (h : AttrsAt w v l) (he : Ext w w') : AttrsAt w' v l:=RowsAt.ext AttrAt.ext h he
theorem FactsAt.ext {w w' : World} {v : Value} {l : List Fct} (h : FactsAt w v l) (he : Ext w w') : FactsAt w' v l:=RowsAt.ext FactAt.ext h he
theorem flatMap_get {α : Type} (f : α → List Value) (k : Nat) (hf : ∀ a,(f a).length = k) : ∀ (l : List α) (i j : Nat) (a : α),l[i]? = some a → j < k → (l.flatMap f)[i * k + j]? = (f a)[j]?
 | [],_,_,_,h,_=>by simp at h
 | x :: r,0,j,a,h,hj=>by
  obtain rfl : x = a:=by simpa using h
  simp only [List.flatMap_cons,Nat.zero_mul,Nat.zero_add]
  exact List.getElem?_append_left (by rw [hf];exact hj)
 | x :: r,i + 1,j,a,h,hj=>by
  simp only [List.flatMap_cons]
  rw [List.getElem?_append_right (by rw [hf];rw [Nat.add_mul];omega),hf]
  have : (i + 1) * k + j - k = i * k + j:=by rw [Nat.add_mul];omega
  rw [this]
  exact flatMap_get f k hf r i j a (by simpa using h) hj
theorem RowsAt.at {α : Type} {cells : α → Value → List Value} {ok : World → α → Value → Prop} {k : Nat} (hk : 0 < k) (hcells : ∀ a v,(cells a v).length = k) {w : World} {v : Value} {l : List α}
  (h : RowsAt cells ok k w v l) : ∃ a cap,v = .slice a l.length cap ∧ l.length ≤ cap ∧ ∀ (i : Nat) x,l[i]? = some x → ∃ b off u,a = some ⟨b,off,none⟩ ∧ ok w x u ∧ ∀ (j : Nat) c,(cells x u)[j]? = some c → w.cell? ⟨b,off + (i * k + j),none⟩ = some c:=by
 obtain ⟨vs,h1,⟨a,cap,rfl,h2,_,h4,h5⟩,h6⟩:=h
 refine ⟨a,cap,rfl,h2,fun i x hx=>?_⟩
 have hi : i < l.length:=(List.getElem?_eq_some_iff.1 hx).1
 have hv : vs[i]? = some vs[i]:=List.getElem?_eq_getElem (by omega)
 have hz : (l.zip vs)[i]? = some (x,vs[i]):=by rw [List.getElem?_zip_eq_some];exact ⟨hx,hv⟩
 have hg : ∀ j c,(cells x vs[i])[j]? = some c → ((l.zip vs).flatMap fun x=>cells x.1 x.2)[i * k + j]? = some c:=by
  intro j c hc
  have hj : j < k:=by rw [← hcells x vs[i]];exact (List.getElem?_eq_some_iff.1 hc).1
  rw [flatMap_get (fun x : α × Value=>cells x.1 x.2) k (fun a=>hcells _ _) _ i j _ hz hj]
  exact hc
 have h0 : (cells x vs[i])[0]? = some ((cells x vs[i])[0]'(by rw [hcells];exact hk)):=List.getElem?_eq_getElem _
 obtain ⟨b,off,rfl,_⟩:=h5 _ _ (hg 0 _ h0)
 refine ⟨b,off,vs[i],rfl,h6 _ (List.mem_of_getElem? hz),fun j c hc=>?_⟩
 obtain ⟨b',off',e,hcell⟩:=h5 _ _ (hg j c hc)
 simp only [Option.some.injEq,Addr.mk.injEq] at e
 obtain ⟨rfl,rfl,_⟩:=e
 exact hcell
def expCells (op : Int) (attr : ByteArray) (vv : Value) (lo hi : Int) (kv : Value) : List Value:=[.int .u8 op,.string attr,vv,.int .i64 lo,.int .i64 hi,kv]
inductive ExpAt (w : World) : List Value → Exp → Prop
 | mk {op : Int} {attr : ByteArray} {vv kv : Value} {lo hi : Int} {values : List ByteArray} {kids : List Exp} {css : List (List Value)}
  (hop : 0 ≤ op ∧ op ≤ 255) (hattr : attr.size ≤ maxLen) (hlo : i64ok lo) (hhi : i64ok hi) (hv : StrsAt w vv values) (hlen : css.length = kids.length)
  (hs : SlAt w kv 6 kids.length css.flatten) (h6 : ∀ c ∈ css,c.length = 6) (hk : ∀ (i : Nat) c k,css[i]? = some c → kids[i]? = some k → ExpAt w c k) :
  ExpAt w (expCells op attr vv lo hi kv) (.mk op attr values lo hi kids)
theorem ExpAt.ext {w w' : World} {cs : List Value} {e : Exp} (h : ExpAt w cs e) (he : Ext w w') : ExpAt w' cs e:=by
 induction h with
 | mk hop hattr hlo hhi hv hlen hs h6 hk ih=>exact .mk hop hattr hlo hhi (hv.ext he) hlen (hs.ext he) h6 fun i c k hc hkk=>ih i c k hc hkk
def ExpsAt (w : World) (v : Value) (l : List Exp) : Prop:=
 ∃ css : List (List Value),css.length = l.length ∧ SlAt w v 6 l.length css.flatten ∧ (∀ c ∈ css,c.length = 6) ∧ ∀ (i : Nat) c k,css[i]? = some c → l[i]? = some k → ExpAt w c k
theorem ExpsAt.ext {w w' : World} {v : Value} {l : List Exp} (h : ExpsAt w v l) (he : Ext w w') : ExpsAt w' v l:=by
 obtain ⟨css,h1,h2,h3,h4⟩:=h
 exact ⟨css,h1,h2.ext he,h3,fun i c k hc hk=>(h4 i c k hc hk).ext he⟩
theorem flatten_get (k : Nat) : ∀ (l : List (List Value)),(∀ c ∈ l,c.length = k) → ∀ (i j : Nat) (c : List Value),l[i]? = some c → j < k → l.flatten[i * k + j]? = c[j]?
 | [],_,_,_,_,h,_=>by simp at h
 | x :: r,hl,0,j,c,h,hj=>by
  obtain rfl : x = c:=by simpa using h
  simp only [List.flatten_cons,Nat.zero_mul,Nat.zero_add]
  exact List.getElem?_append_left (by rw [hl x List.mem_cons_self];exact hj)
 | x :: r,hl,i + 1,j,c,h,hj=>by
  simp only [List.flatten_cons]
  have hx:=hl x List.mem_cons_self
  rw [List.getElem?_append_right (by rw [hx];rw [Nat.add_mul];omega),hx]
  have : (i + 1) * k + j - k = i * k + j:=by rw [Nat.add_mul];omega
  rw [this]
  exact flatten_get k r (fun c hc=>hl c (List.mem_cons_of_mem _ hc)) i j c (by simpa using h) hj
theorem ExpsAt.at {w : World} {v : Value} {l : List Exp} (h : ExpsAt w v l) : ∃ a cap,v = .slice a l.length cap ∧ l.length ≤ cap ∧ ∀ (i : Nat) e,l[i]? = some e → ∃ b off cs,a = some ⟨b,off,none⟩ ∧ cs.length = 6 ∧ ExpAt w cs e ∧ ∀ (j : Nat) c,cs[j]? = some c → w.cell? ⟨b,off + (i * 6 + j),none⟩ = some c:=by
 obtain ⟨css,h1,⟨a,cap,rfl,h2,_,h4,h5⟩,h6,h7⟩:=h
 refine ⟨a,cap,rfl,h2,fun i x hx=>?_⟩
 have hi : i < l.length:=(List.getElem?_eq_some_iff.1 hx).1
 have hc : css[i]? = some css[i]:=List.getElem?_eq_getElem (by omega)
 have hc6:=h6 css[i] (List.getElem_mem _)
 have hg : ∀ j c,css[i][j]? = some c → css.flatten[i * 6 + j]? = some c:=by
  intro j c hcc
  have hj : j < 6:=by rw [← hc6];exact (List.getElem?_eq_some_iff.1 hcc).1
  rw [flatten_get 6 css h6 i j _ hc hj]
  exact hcc
 have h0 : css[i][0]? = some (css[i][0]'(by omega)):=List.getElem?_eq_getElem _
 obtain ⟨b,off,rfl,_⟩:=h5 _ _ (hg 0 _ h0)
 refine ⟨b,off,css[i],rfl,hc6,h7 i _ x hc hx,fun j c hcc=>?_⟩
 obtain ⟨b',off',e,hcell⟩:=h5 _ _ (hg j c hcc)
 simp only [Option.some.injEq,Addr.mk.injEq] at e
 obtain ⟨rfl,rfl,_⟩:=e
 exact hcell
end Go.Proofs.YtihfcjioilmmjaaGreat
namespace Go.Proofs.YtihfcjioilmmjaaGreat
open Go Go.RowKit
theorem zA {α : Type} {xs : List α} {i : Nat} (h : i < xs.toArray.size) : xs.toArray[i] = xs[i]'(by simpa using h) := rfl
theorem zB {α : Type} (a : α) (l : List α) (i : Nat) (h : i + 1 < (a :: l).length) : (a :: l)[i + 1] = l[i]'(Nat.lt_of_succ_lt_succ h) := rfl
theorem zC {α : Type} (a : α) (l : List α) (h : 0 < (a :: l).length) : (a :: l)[0] = a := rfl
theorem zD {α : Type} (l : List α) (i : Nat) (a : α) : l.toArray.setIfInBounds i a = (l.set i a).toArray := List.setIfInBounds_toArray l i a
theorem zE {α : Type} (a : α) (l : List α) (n : Nat) (b : α) : (a :: l).set (n + 1) b = a :: l.set n b := rfl
theorem zF {α : Type} (a : α) (l : List α) (b : α) : (a :: l).set 0 b = b :: l := rfl
theorem bel {B : Nat} {w w' : World} (h : Below B w w' := by repeat' (first | with_reducible exact Below.refl _ _ | with_reducible assumption | with_reducible apply Below.drew | with_reducible exact below_drewN (by with_reducible assumption) _ | (with_reducible refine Below.setCell ?_ (by first | exact Nat.le_refl _ | assumption | (simp; done) | omega | (simp; omega)) _) | (with_reducible refine Below.alloc ?_ (by first | exact Nat.le_refl _ | assumption | (simp; done) | omega | (simp; omega)) _) | (with_reducible refine below_putObj ?_ (by first | exact Nat.le_refl _ | assumption | (simp; done) | omega | (simp; omega)) _) | (with_reducible refine below_drawn ?_ _))) : Below B w w' := h
end Go.Proofs.YtihfcjioilmmjaaGreat
namespace Go.Proofs.YtihfcjioilmmjaaGreat
open Go.RowKit
def nmChar (i : Nat) (c : UInt8) : Bool:=
 (decide (97 ≤ c.toNat) && decide (c.toNat ≤ 122)) || (decide (0 < i) && (c.toNat == 95 || (decide (48 ≤ c.toNat) && decide (c.toNat ≤ 57))))
def nmAll (s : ByteArray) (k : Nat) : Bool:=(List.range k).all fun i=>nmChar i (s.data.toList.getD i 0)
def nm (s : ByteArray) : Bool:=nmAll s s.size && (decide (1 ≤ s.size) && decide (s.size ≤ 20))
theorem nm_at (s : ByteArray) (k : Nat) (h : k < s.size) : s.data.toList.getD k 0 = s[k]:=by
 have h' : k < s.data.size:=h
 simp [List.getD,Array.getElem?_eq_getElem h'];rfl
theorem nmChar_iff (i : Nat) (c : UInt8) : nmChar i c = true ↔ ((97 ≤ (c.toNat : Int) ∧ (c.toNat : Int) ≤ 122) ∨ (0 < i ∧ ((c.toNat : Int) = 95 ∨ (48 ≤ (c.toNat : Int) ∧ (c.toNat : Int) ≤ 57)))):=by
 simp [nmChar];omega
theorem nm_yes {s : ByteArray} {k : Nat} (h : k < s.size) (hr : Hid (nmAll s k = true)) (hc : (97 ≤ (s[k].toNat : Int) ∧ (s[k].toNat : Int) ≤ 122) ∨ (0 < k ∧ ((s[k].toNat : Int) = 95 ∨ (48 ≤ (s[k].toNat : Int) ∧ (s[k].toNat : Int) ≤ 57)))) : Hid (nmAll s (k + 1) = true):=by
 have hr:=hr.out
 unfold nmAll at hr
 unfold Hid nmAll
 rw [List.range_succ,List.all_append,hr]
 simp only [List.all_cons,List.all_nil,Bool.and_true,Bool.true_and]
 rw [nm_at s k h];exact (nmChar_iff k s[k]).2 hc
theorem nm_no {s : ByteArray} {k : Nat} (h : k < s.size) (hc : ¬ ((97 ≤ (s[k].toNat : Int) ∧ (s[k].toNat : Int) ≤ 122) ∨ (0 < k ∧ ((s[k].toNat : Int) = 95 ∨ (48 ≤ (s[k].toNat : Int) ∧ (s[k].toNat : Int) ≤ 57))))) : nm s = false:=by
 have h1 : nmAll s s.size = false:=by
  unfold nmAll
  rw [List.all_eq_false]
  exact ⟨k,by simpa using h,by rw [nm_at s k h,nmChar_iff];exact hc⟩
 unfold nm;rw [h1];rfl
theorem nm_end {s : ByteArray} {k : Nat} (hk : k ≤ s.size) (h : ¬ k < s.size) (hr : Hid (nmAll s k = true)) : nm s = (decide (1 ≤ s.size) && decide (s.size ≤ 20)):=by
 have : k = s.size:=by omega
 subst this
 unfold nm;rw [hr.out];rfl
theorem ret_bool {a b : Bool} (h : a = b) : Ending.returned (.bool a) = .returned (.bool b):=by rw [h]
set_option maxHeartbeats 400000 in
set_option maxRecDepth 100000 in
theorem isName_any (s : ByteArray) (w : World) (hs : s.size ≤ maxLen) :
  Calls Tryz.prog 30 #[.string s] w fun e w'=>e = .returned (.bool (nm s)) ∧ w = w':=by
 unfold maxLen at hs
 go_enter Tryz.func30,Tryz.ntmps30
 go_wp2
 go_loop [3,4,7] (fun _ _ i=>∃ k : Nat,k ≤ s.size ∧ i = .int .i64 k ∧ Hid (nmAll s k = true)) (fun _ _ i=>s.size - (intOf i).toNat)
 case atStart=>exact ⟨0,Nat.zero_le _,rfl,rfl⟩
 case round=>
  obtain ⟨k,hk,rfl,hr⟩:=hrel
  by_cases hlt : k < s.size
  ·go_wp2
   all_goals first
    | exact ⟨⟨k + 1,by omega,by go_num,nm_yes hlt hr (by (try simp only [beq_iff_eq,beq_eq_false_iff_ne] at *);omega)⟩,by simp [intOf];omega⟩
    | (go_ret;exact ⟨ret_bool (nm_no hlt (by (try simp only [beq_iff_eq,beq_eq_false_iff_ne] at *);omega)).symm,rfl⟩)
  ·have he:=nm_end hk hlt hr
   have He:=Lib.hid he
   clear he
   go_wp2
   all_goals (go_ret;exact ⟨ret_bool (by rw [He.out];by_cases h1 : 1 ≤ s.size <;> by_cases h2 : s.size ≤ 20 <;> simp [h1,h2] <;> omega),rfl⟩)
def ColAt (w : World) (cb : Nat) (a : Attr) : Prop:=
 ∃ vals at_ pb,w.heap[cb]? = some (.cells #[.string a.name,vals,.int .i64 a.low,.int .i64 a.high,.int .i64 at_,.map (some pb)] 104 (0,0)) ∧ StrsAt w vals a.values ∧
  MapIs Value.string w pb (a.values.zipIdx.map fun x=>(x.1,.int .i64 (x.2 : Int)))
theorem ColAt.ext {w w' : World} {cb : Nat} {a : Attr} (h : ColAt w cb a) (he : Ext w w') : ColAt w' cb a:=by
 obtain ⟨v,t,pb,h1,h2,h3⟩:=h
 exact ⟨v,t,pb,he.obj h1,h2.ext he,h3.ext he⟩
theorem ColAt.isCol {w : World} {cb : Nat} {a : Attr} (h : ColAt w cb a) : IsCol w cb:=let ⟨_,_,_,h,_⟩:=h;⟨_,h⟩
structure AttrOk (a : Attr) : Prop where
 name : nm a.name = true
 small : a.values.length ≤ 8
 names : ∀ v ∈ a.values,nm v = true
 nodup : a.values.Nodup
 low : -1000000 ≤ a.low
 ends : a.low ≤ a.high
 high : a.high ≤ 1000000
 zero : a.values ≠ [] → a.low = 0 ∧ a.high = 0
structure St where
 bits : Nat
 low : Int
 high : Int
def St.val (s : St) : Value:=.agg #[.int .u64 s.bits,.int .i64 s.low,.int .i64 s.high]
def allSt (a : Attr) : St:=⟨2 ^ a.values.length - 1,a.low,a.high⟩
def meetSt (s t : St) : St:=⟨s.bits &&& t.bits,max s.low t.low,min s.high t.high⟩
def meetOk (a : Attr) (r : St) : Bool:=decide (r.bits ≠ 0) || (decide (a.values = []) && decide (r.low ≤ r.high))
set_option maxHeartbeats 400000 in
set_option maxRecDepth 100000 in
theorem choice_any (cb : Nat) (a : Attr) (w : World) (h : ColAt w cb a) :
  Calls Tryz.prog 31 #[encP cb] w fun e w'=>e = .returned (.bool (decide (a.values ≠ []))) ∧ w = w':=by
 obtain ⟨vals,t,pb,h1,⟨⟨p,cap,rfl,_⟩,_⟩,_⟩:=h
 have hc : w.cell? ⟨cb,1,none⟩ = some (.slice p a.values.length cap):=by rw [cell_of h1];rfl
 have he : decide (a.values ≠ []) = decide (0 < a.values.length):=by
  rw [Bool.eq_iff_iff];simp [List.length_pos_iff]
 have He:=Lib.hid he
 clear he h1
 unfold encP
 go_enter Tryz.func31,Tryz.ntmps31
 go_wp2
 go_ret
 exact ⟨ret_bool (by rw [He.out]),rfl⟩
set_option maxHeartbeats 1000000 in
set_option maxRecDepth 100000 in
theorem all_any (cb : Nat) (a : Attr) (w : World) (h : ColAt w cb a) (ha : AttrOk a) :
  Calls Tryz.prog 62 #[encP cb] w fun e w'=>e = .returned (allSt a).val ∧ Ext w w':=by
 have h8:=ha.small
 obtain ⟨vals,t,pb,h1,⟨⟨p,cap,rfl,_⟩,_⟩,_⟩:=h
 have hb : cb < w.heap.size:=heap_lt h1
 have c1 : w.cell? ⟨cb,1,none⟩ = some (.slice p a.values.length cap):=by rw [cell_of h1];rfl
 have c2 : w.cell? ⟨cb,2,none⟩ = some (.int .i64 a.low):=by rw [cell_of h1];rfl
 have c3 : w.cell? ⟨cb,3,none⟩ = some (.int .i64 a.high):=by rw [cell_of h1];rfl
 clear h1
 have hpow : (2 : Int) ^ a.values.length = ((2 ^ a.values.length : Nat) : Int):=by simp
 have hle : 2 ^ a.values.length ≤ 2 ^ 8:=Nat.pow_le_pow_right (by omega) h8
 have hpos : 0 < 2 ^ a.values.length:=Nat.pow_pos (by omega)
 have hval : Value.agg #[.int .u64 (IntKind.u64.wrap (IntKind.u64.wrap (2 ^ a.values.length) - 1)),.int .i64 a.low,.int .i64 a.high] = (allSt a).val:=by
  unfold allSt St.val
  rw [hpow,IntWalk.u64_in ((2 ^ a.values.length : Nat) : Int) (by omega),IntWalk.u64_in _ (by omega)]
  simp only
  rw [show (((2 ^ a.values.length : Nat) : Int) - 1) = ((2 ^ a.values.length - 1 : Nat) : Int) by omega]
 have Hv:=Lib.hid hval
 clear hval hpow hle hpos
 unfold encP
 go_enter Tryz.func62,Tryz.ntmps62
 go_wp2
 go_region
 all_goals go_wp2
 refine bodyPost_ret (v:=(allSt a).val) ?_ rfl ⟨rfl,?_⟩
 ·rw [← Hv.out]
  simp [results,Tryz.results62,go_sem]
 ·exact bel
end Go.Proofs.YtihfcjioilmmjaaGreat
namespace Go.Proofs.YtihfcjioilmmjaaGreat
open Go Go.RowKit
def stCells (s : St) : Array Value:=#[.int .u64 s.bits,.int .i64 s.low,.int .i64 s.high]
def MeetI (w : World) (r : St) (us : List Value) (W : World) : Prop:=
 Below w.heap.size w W ∧ W.heap[w.heap.size]? = some (.cells (stCells r) 120 (0,0)) ∧ ∃ x y z,W.heap[w.heap.size + 1 + 1]? = some (.cells #[x,y,z] 120 (0,0)) ∧ (us ≠ [] → #[x,y,z] = stCells r)
theorem MeetI.reads {w : World} {r : St} {us : List Value} {W : World} (h : MeetI w r us W) :
  W.cell? ⟨w.heap.size,0,none⟩ = some (.int .u64 r.bits) ∧ W.cell? ⟨w.heap.size,1,none⟩ = some (.int .i64 r.low) ∧ W.cell? ⟨w.heap.size,2,none⟩ = some (.int .i64 r.high):=by
 obtain ⟨_,h,_⟩:=h
 exact ⟨by rw [cell_of h];rfl,by rw [cell_of h];rfl,by rw [cell_of h];rfl⟩
theorem choice_val (cb : Nat) (a : Attr) (w : World) {b : Bool} (h : ColAt w cb a) (hb : decide (a.values ≠ []) = b) :
  Calls Tryz.prog 31 #[encP cb] w fun e w'=>e = .returned (.bool b) ∧ w = w':=by
 subst hb;exact choice_any cb a w h
set_option maxHeartbeats 4000000 in
set_option maxRecDepth 100000 in
theorem meet_any (cb : Nat) (a : Attr) (s t : St) (w : World) (hcol : ColAt w cb a) (hs : s.bits < 256) (ht : t.bits < 256) :
  Calls Tryz.prog 63 #[encP cb,s.val,t.val] w fun e w'=>e = .returned (.tuple #[(meetSt s t).val,.bool (meetOk a (meetSt s t))]) ∧ Ext w w':=by
 have hand:=u64_and_nat s.bits t.bits (by omega) (by omega)
 have hlt : s.bits &&& t.bits ≤ s.bits:=Nat.and_le_left
 obtain ⟨sb,sl,sh⟩:=s
 obtain ⟨tb,tl,th⟩:=t
 simp only [St.val,meetSt] at *
 have hm1 : sl < tl → max sl tl = tl:=fun h=>by omega
 have hm2 : tl ≤ sl → max sl tl = sl:=fun h=>by omega
 have hm3 : sh ≤ th → min sh th = sh:=fun h=>by omega
 have hm4 : th < sh → min sh th = th:=fun h=>by omega
 have HM:=Lib.hid (And.intro hm1 (And.intro hm2 (And.intro hm3 hm4)))
 clear hm1 hm2 hm3 hm4
 have hmo : meetOk a ⟨sb &&& tb,max sl tl,min sh th⟩ = (decide ((sb &&& tb : Nat) ≠ 0) || (decide (a.values = []) && decide (max sl tl ≤ min sh th))):=rfl
 have Hmo:=Lib.hid hmo
 clear hmo
 unfold encP
 go_enter Tryz.func63,Tryz.ntmps63
 go_wp2
 all_goals
  refine Rt.wp_region_rt (by kernel_rfl) [0,1,2,3,4,5,6,7,8,9,10,11,12,13,14,15,16,17] [16] [0,0,0,0,0,0,0,0,0] [0,0,2,6,14,30,62,126,254,510,1022,510,2558,8190,16382,32766,511,131071] (by kernel_rfl) (MeetI w ⟨sb &&& tb,max sl tl,min sh th⟩) ?h0 ?_
  case h0=>
   obtain ⟨hm1,hm2,hm3,hm4⟩:=HM.out
   refine ⟨by exact bel,?_,.int .u64 0,.int .i64 0,.int .i64 0,?_,fun h=>absurd rfl h⟩
   ·simp only [heap_drawn_get,heap_drew_get,heap_setCell_get,heap_alloc_get,World.size_alloc,World.size_setCell,size_drawn,putObj_get,putObj_size];(repeat (first | rw [if_pos trivial] | rw [if_pos rfl] | rw [if_neg (by omega)] | rw [if_pos (by omega)]))
    simp only [stCells]
    all_goals first | rw [hm1 (by assumption)] | rw [hm2 (by assumption)]
    all_goals first | rw [hm3 (by assumption)] | rw [hm4 (by assumption)]
   ·simp only [heap_drawn_get,heap_drew_get,heap_setCell_get,heap_alloc_get,World.size_alloc,World.size_setCell,size_drawn,putObj_get,putObj_size];(repeat (first | rw [if_pos trivial] | rw [if_pos rfl] | rw [if_neg (by omega)] | rw [if_pos (by omega)]))
  (refine Rt.rs_rd rfl rfl rfl ?_;apply Exists.intro;refine ⟨fun us' W hp hl hI=>?_,?_⟩;· (obtain ⟨r1,r2,r3⟩:=hI.reads;go_simp;rfl));simp only [Act.put,zA,zB,zC,zD,zE,zF]
  (refine Rt.rs_sil rfl rfl rfl (fun K hK=>?_);go_simp;refine hK _ ?_;clear hK K)
  (refine Rt.rs_rd rfl rfl rfl ?_;apply Exists.intro;refine ⟨fun us' W hp hl hI=>?_,?_⟩;· (obtain ⟨r1,r2,r3⟩:=hI.reads;go_simp;rfl));simp only [Act.put,zA,zB,zC,zD,zE,zF]
  by_cases hz : sb &&& tb = 0
  ·have hz1 : (((sb &&& tb : Nat) : Int) == 0) = true:=by rw [beq_iff_eq];omega
   have hz2 : (((sb &&& tb : Nat) : Int) != 0) = false:=by rw [bne_eq_false_iff_eq];omega
   have HZ:=Lib.hid hz
   clear hz
   iterate 3 ((refine Rt.rs_sil rfl rfl rfl (fun K hK=>?_);go_simp;refine hK _ ?_;clear hK K))
   by_cases hv : a.values = []
   ·have hcv : decide (a.values ≠ []) = false:=by simp [hv]
    have HV:=Lib.hid hv
    clear hv
    refine Rt.rs_qt rfl rfl rfl ?_
    apply Exists.intro
    refine ⟨fun us' W hp hl hI=>?_,?_⟩
    ·refine Rt.gives_cal ?_
     apply Exists.intro
     apply Exists.intro
     apply Exists.intro
     refine ⟨by go_simp;exact ⟨⟨rfl,rfl⟩,rfl⟩,?_⟩
     exact (choice_val cb a W (hcol.ext hI.1) hcv).mono (by rintro e w' ⟨rfl,rfl⟩;exact ⟨_,rfl,rfl,hI⟩)
    simp only [Act.put,zA,zB,zC,zD,zE,zF]
    iterate 3 ((refine Rt.rs_sil rfl rfl rfl (fun K hK=>?_);go_simp;refine hK _ ?_;clear hK K))
    (refine Rt.rs_rd rfl rfl rfl ?_;apply Exists.intro;refine ⟨fun us' W hp hl hI=>?_,?_⟩;· (obtain ⟨r1,r2,r3⟩:=hI.reads;go_simp;rfl));simp only [Act.put,zA,zB,zC,zD,zE,zF]
    (refine Rt.rs_sil rfl rfl rfl (fun K hK=>?_);go_simp;refine hK _ ?_;clear hK K)
    (refine Rt.rs_rd rfl rfl rfl ?_;apply Exists.intro;refine ⟨fun us' W hp hl hI=>?_,?_⟩;· (obtain ⟨r1,r2,r3⟩:=hI.reads;go_simp;rfl));simp only [Act.put,zA,zB,zC,zD,zE,zF]
    iterate 3 (refine Rt.rs_sil rfl rfl rfl (fun K hK=>?_);go_simp;refine hK _ ?_;clear hK K)
    refine Rt.rs_eff rfl rfl rfl (fun W hI=>?_) (fun v hv=>?_)
    ·obtain ⟨hb,hr,x,y,z,hx,_⟩:=hI
     have f0:=frozen_of hx 0
     have f1:=frozen_of hx 1
     have f2:=frozen_of hx 2
     have c0 : W.cell? ⟨w.heap.size + 1 + 1,0,none⟩ = some x:=cell_of hx 0
     have c1 : W.cell? ⟨w.heap.size + 1 + 1,1,none⟩ = some y:=cell_of hx 1
     have c2 : W.cell? ⟨w.heap.size + 1 + 1,2,none⟩ = some z:=cell_of hx 2
     have HX:=Lib.hid hx
     have HR:=Lib.hid hr
     clear hx hr
     refine Rt.gives_skp ?_
     apply Exists.intro
     refine ⟨by go_simp;rfl,?_⟩
     refine ⟨by exact bel,?_,.int .u64 (sb &&& tb : Nat),.int .i64 (max sl tl),.int .i64 (min sh th),?_,fun _=>rfl⟩
     ·simp only [heap_drawn_get,heap_drew_get,heap_setCell_get,heap_alloc_get,World.size_alloc,World.size_setCell,size_drawn,putObj_get,putObj_size];(repeat (first | rw [if_pos trivial] | rw [if_pos rfl] | rw [if_neg (by omega)] | rw [if_pos (by omega)]))
      exact HR.out
     ·simp only [heap_drawn_get,heap_drew_get,heap_setCell_get,heap_alloc_get,World.size_alloc,World.size_setCell,size_drawn,putObj_get,putObj_size];(repeat (first | rw [if_pos trivial] | rw [if_pos rfl] | rw [if_neg (by omega)] | rw [if_pos (by omega)]))
      rw [HX.out];rfl
    clear hv
    simp only [Act.put,zA,zB,zC,zD,zE,zF]
    (refine Rt.rs_sil rfl rfl rfl (fun K hK=>?_);go_simp;refine hK _ ?_;clear hK K)
    refine Rt.rs_nil (fun W hI=>?_)
    obtain ⟨hb,hr,x,y,z,hx,hxyz⟩:=hI
    obtain hxyz:=hxyz (by simp)
    rw [hxyz] at hx
    go_wp2
    have c0 : W.cell? ⟨w.heap.size + 1 + 1,0,none⟩ = some (.int .u64 (sb &&& tb : Nat)):=cell_of hx 0
    have c1 : W.cell? ⟨w.heap.size + 1 + 1,1,none⟩ = some (.int .i64 (max sl tl)):=cell_of hx 1
    have c2 : W.cell? ⟨w.heap.size + 1 + 1,2,none⟩ = some (.int .i64 (min sh th)):=cell_of hx 2
    refine bodyPost_ret (v:=.tuple #[.agg #[.int .u64 (sb &&& tb : Nat),.int .i64 (max sl tl),.int .i64 (min sh th)],.bool (decide (max sl tl ≤ min sh th))]) (by clear hx hr;simp [results,Tryz.results63,go_sem,c0,c1,c2]) rfl ⟨?_,hb⟩
    rw [Hmo.out];simp [HZ.out , HV.out]
   ·have hcv : decide (a.values ≠ []) = true:=by simp [hv]
    have HV:=Lib.hid hv
    clear hv
    refine Rt.rs_qt rfl rfl rfl ?_
    apply Exists.intro
    refine ⟨fun us' W hp hl hI=>?_,?_⟩
    ·refine Rt.gives_cal ?_
     apply Exists.intro
     apply Exists.intro
     apply Exists.intro
     refine ⟨by go_simp;exact ⟨⟨rfl,rfl⟩,rfl⟩,?_⟩
     exact (choice_val cb a W (hcol.ext hI.1) hcv).mono (by rintro e w' ⟨rfl,rfl⟩;exact ⟨_,rfl,rfl,hI⟩)
    simp only [Act.put,zA,zB,zC,zD,zE,zF]
    iterate 2 ((refine Rt.rs_sil rfl rfl rfl (fun K hK=>?_);go_simp;refine hK _ ?_;clear hK K))
    iterate 5 (refine Rt.rs_skip rfl rfl rfl ?_;simp only [Act.put,zA,zB,zC,zD,zE,zF])
    iterate 2 ((refine Rt.rs_sil rfl rfl rfl (fun K hK=>?_);go_simp;refine hK _ ?_;clear hK K))
    refine Rt.rs_eff rfl rfl rfl (fun W hI=>?_) (fun v hv=>?_)
    ·obtain ⟨hb,hr,x,y,z,hx,_⟩:=hI
     have f0:=frozen_of hx 0
     have f1:=frozen_of hx 1
     have f2:=frozen_of hx 2
     have c0 : W.cell? ⟨w.heap.size + 1 + 1,0,none⟩ = some x:=cell_of hx 0
     have c1 : W.cell? ⟨w.heap.size + 1 + 1,1,none⟩ = some y:=cell_of hx 1
     have c2 : W.cell? ⟨w.heap.size + 1 + 1,2,none⟩ = some z:=cell_of hx 2
     have HX:=Lib.hid hx
     have HR:=Lib.hid hr
     clear hx hr
     refine Rt.gives_skp ?_
     apply Exists.intro
     refine ⟨by go_simp;rfl,?_⟩
     refine ⟨by exact bel,?_,.int .u64 (sb &&& tb : Nat),.int .i64 (max sl tl),.int .i64 (min sh th),?_,fun _=>rfl⟩
     ·simp only [heap_drawn_get,heap_drew_get,heap_setCell_get,heap_alloc_get,World.size_alloc,World.size_setCell,size_drawn,putObj_get,putObj_size];(repeat (first | rw [if_pos trivial] | rw [if_pos rfl] | rw [if_neg (by omega)] | rw [if_pos (by omega)]))
      exact HR.out
     ·simp only [heap_drawn_get,heap_drew_get,heap_setCell_get,heap_alloc_get,World.size_alloc,World.size_setCell,size_drawn,putObj_get,putObj_size];(repeat (first | rw [if_pos trivial] | rw [if_pos rfl] | rw [if_neg (by omega)] | rw [if_pos (by omega)]))
      rw [HX.out];rfl
    clear hv
    simp only [Act.put,zA,zB,zC,zD,zE,zF]
    (refine Rt.rs_sil rfl rfl rfl (fun K hK=>?_);go_simp;refine hK _ ?_;clear hK K)
    refine Rt.rs_nil (fun W hI=>?_)
    obtain ⟨hb,hr,x,y,z,hx,hxyz⟩:=hI
    obtain hxyz:=hxyz (by simp)
    rw [hxyz] at hx
    go_wp2
    have c0 : W.cell? ⟨w.heap.size + 1 + 1,0,none⟩ = some (.int .u64 (sb &&& tb : Nat)):=cell_of hx 0
    have c1 : W.cell? ⟨w.heap.size + 1 + 1,1,none⟩ = some (.int .i64 (max sl tl)):=cell_of hx 1
    have c2 : W.cell? ⟨w.heap.size + 1 + 1,2,none⟩ = some (.int .i64 (min sh th)):=cell_of hx 2
    refine bodyPost_ret (v:=.tuple #[.agg #[.int .u64 (sb &&& tb : Nat),.int .i64 (max sl tl),.int .i64 (min sh th)],.bool false]) (by clear hx hr;simp [results,Tryz.results63,go_sem,c0,c1,c2]) rfl ⟨?_,hb⟩
    rw [Hmo.out];simp [HZ.out , HV.out]
  ·have hz1 : (((sb &&& tb : Nat) : Int) == 0) = false:=by rw [beq_eq_false_iff_ne];omega
   have hz2 : (((sb &&& tb : Nat) : Int) != 0) = true:=by rw [bne_iff_ne];omega
   have HZ:=Lib.hid hz
   clear hz
   iterate 2 ((refine Rt.rs_sil rfl rfl rfl (fun K hK=>?_);go_simp;refine hK _ ?_;clear hK K))
   iterate 4 (refine Rt.rs_skip rfl rfl rfl ?_;simp only [Act.put,zA,zB,zC,zD,zE,zF])
   iterate 6 (refine Rt.rs_skip rfl rfl rfl ?_;simp only [Act.put,zA,zB,zC,zD,zE,zF])
   (refine Rt.rs_sil rfl rfl rfl (fun K hK=>?_);go_simp;refine hK _ ?_;clear hK K)
   refine Rt.rs_eff rfl rfl rfl (fun W hI=>?_) (fun v hv=>?_)
   ·obtain ⟨hb,hr,x,y,z,hx,_⟩:=hI
    have f0:=frozen_of hx 0
    have f1:=frozen_of hx 1
    have f2:=frozen_of hx 2
    have c0 : W.cell? ⟨w.heap.size + 1 + 1,0,none⟩ = some x:=cell_of hx 0
    have c1 : W.cell? ⟨w.heap.size + 1 + 1,1,none⟩ = some y:=cell_of hx 1
    have c2 : W.cell? ⟨w.heap.size + 1 + 1,2,none⟩ = some z:=cell_of hx 2
    have HX:=Lib.hid hx
    have HR:=Lib.hid hr
    clear hx hr
    refine Rt.gives_skp ?_
    apply Exists.intro
    refine ⟨by go_simp;rfl,?_⟩
    refine ⟨by exact bel,?_,.int .u64 (sb &&& tb : Nat),.int .i64 (max sl tl),.int .i64 (min sh th),?_,fun _=>rfl⟩
    ·simp only [heap_drawn_get,heap_drew_get,heap_setCell_get,heap_alloc_get,World.size_alloc,World.size_setCell,size_drawn,putObj_get,putObj_size];(repeat (first | rw [if_pos trivial] | rw [if_pos rfl] | rw [if_neg (by omega)] | rw [if_pos (by omega)]))
     exact HR.out
    ·simp only [heap_drawn_get,heap_drew_get,heap_setCell_get,heap_alloc_get,World.size_alloc,World.size_setCell,size_drawn,putObj_get,putObj_size];(repeat (first | rw [if_pos trivial] | rw [if_pos rfl] | rw [if_neg (by omega)] | rw [if_pos (by omega)]))
     rw [HX.out];rfl
   clear hv
   simp only [Act.put,zA,zB,zC,zD,zE,zF]
   (refine Rt.rs_sil rfl rfl rfl (fun K hK=>?_);go_simp;refine hK _ ?_;clear hK K)
   refine Rt.rs_nil (fun W hI=>?_)
   obtain ⟨hb,hr,x,y,z,hx,hxyz⟩:=hI
   obtain hxyz:=hxyz (by simp)
   rw [hxyz] at hx
   go_wp2
   have c0 : W.cell? ⟨w.heap.size + 1 + 1,0,none⟩ = some (.int .u64 (sb &&& tb : Nat)):=cell_of hx 0
   have c1 : W.cell? ⟨w.heap.size + 1 + 1,1,none⟩ = some (.int .i64 (max sl tl)):=cell_of hx 1
   have c2 : W.cell? ⟨w.heap.size + 1 + 1,2,none⟩ = some (.int .i64 (min sh th)):=cell_of hx 2
   refine bodyPost_ret (v:=.tuple #[.agg #[.int .u64 (sb &&& tb : Nat),.int .i64 (max sl tl),.int .i64 (min sh th)],.bool true]) (by clear hx hr;simp [results,Tryz.results63,go_sem,c0,c1,c2]) rfl ⟨?_,hb⟩
   rw [Hmo.out];simp [HZ.out]
end Go.Proofs.YtihfcjioilmmjaaGreat
