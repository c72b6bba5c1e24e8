/- Truth of the data: laws; attribute, real: contracts; premises as named. -/
import Derived.Test.YtihfcjioilmmjaaGreatRq1
import Derived.Test.YtihfcjioilmmjaaGreatRq19
import Derived.Test.YtihfcjioilmmjaaGreatRq18
set_option linter.all false
set_option maxRecDepth 100000
set_option maxHeartbeats 16000000
namespace Go.Proofs.YtihfcjioilmmjaaGreat.Rt
open Go
section
variable {P : Program} {ops : Array Oper}
def pairsOkF (ops : Array Oper) (effs cls : List Nat) (f : Nat) : List Nat → Bool
 | []=>true
 | x :: r=>(r.all fun y=>y != x && pairOk ops cls x y && (!(effs.contains x || x == f) || y == f || dep cls y x)) && pairsOkF ops effs cls f r
def okF (ops : Array Oper) (π effs his cls : List Nat) (f : Nat) : Bool:=
 noSel ops &&
 ((List.range ops.size).all fun i=>match ops[i]? with
  | some o=>(o.after.all fun e=>!Region.binds .any e || decide (e.on < i)) &&
   ((List.range ops.size).all fun j=>!dep cls i j || o.after.any fun e=>Region.binds .any e && (e.on == j || dep cls e.on j))
  | none=>true) &&
 (cls.length == ops.size) &&
 (π.all fun i=>decide (i < ops.size)) && ((List.range ops.size).all fun i=>π.contains i) && pairsOkF ops effs cls f π &&
 (π.filter (fun i=>effs.contains i) == effs) &&
 (π.all fun i=>effs.contains i || match effs[his.getD i 1000]? with | some e=>dep cls e i | none=>true) &&
 (match ops[f]? with | some o=>(o.looksAt ops).isEmpty && o.guard.isNone | none=>false) && !effs.contains f
structure OkF (ops : Array Oper) (π effs his cls : List Nat) (f : Nat) : Prop where
 sel : ∀ (i : Nat) o cs b,ops[i]? = some o → o.op ≠ .select cs b
 down : ∀ (i : Nat) o,ops[i]? = some o → ∀ e ∈ o.after,Region.binds .any e = true → e.on < i
 cl : ∀ (i : Nat) o j,ops[i]? = some o → dep cls i j = true → j < ops.size → ∃ e ∈ o.after,Region.binds .any e = true ∧ (e.on = j ∨ dep cls e.on j = true)
 all : ∀ i,i < ops.size → i ∈ π
 lt : ∀ i ∈ π,i < ops.size
 pairs : pairsOkF ops effs cls f π = true
 effsEq : π.filter (fun i=>effs.contains i) = effs
 hi : ∀ i ∈ π,effs.contains i = false → ∀ e,effs[his.getD i 1000]? = some e → dep cls e i = true
 fl : ∃ o,ops[f]? = some o ∧ o.looksAt ops = [] ∧ o.guard = none
 fe : effs.contains f = false
theorem okF_of {π effs his cls : List Nat} {f : Nat} (h : okF ops π effs his cls f = true) : OkF ops π effs his cls f:=by
 simp only [okF,Bool.and_eq_true] at h;obtain ⟨⟨⟨⟨⟨⟨⟨⟨⟨h1,h2⟩,_⟩,h3⟩,h4⟩,h5⟩,h6⟩,h7⟩,h8⟩,h9⟩:=h;refine ⟨?_,?_,?_,?_,?_,h5,by simpa using h6,?_,?_,by simpa using h9⟩
 ·intro i o cs b ho hs
  unfold noSel at h1;rw [Array.all_eq_true_iff_forall_mem] at h1;have:=h1 o (Array.mem_of_getElem? ho)
  rw [hs] at this;cases this
 ·intro i o ho e he hb
  have hlt : i < ops.size:=(Array.getElem?_eq_some_iff.1 ho).1;have:=List.all_eq_true.1 h2 i (by simpa using hlt)
  simp only [ho,Bool.and_eq_true] at this;have:=(Array.all_eq_true_iff_forall_mem.1 this.1) e he
  simpa [hb] using this
 ·intro i o j ho hd hj
  have hlt : i < ops.size:=(Array.getElem?_eq_some_iff.1 ho).1;have:=List.all_eq_true.1 h2 i (by simpa using hlt)
  simp only [ho,Bool.and_eq_true] at this;have:=List.all_eq_true.1 this.2 j (by simpa using hj)
  simp only [hd,Bool.not_true,Bool.false_or] at this;obtain ⟨e,he,hh⟩:=Array.any_eq_true'.1 this;simp only [Bool.and_eq_true,Bool.or_eq_true,beq_iff_eq] at hh;exact ⟨e,he,hh.1,hh.2⟩
 ·intro i hi
  have:=List.all_eq_true.1 h4 i (by simpa using hi)
  simpa using this
 ·intro i hi
  have:=List.all_eq_true.1 h3 i hi
  simpa using this
 ·intro i hi he e hee
  have:=List.all_eq_true.1 h7 i hi
  simp only [he,Bool.false_or,hee] at this;exact this
 ·cases ho : ops[f]? with
  | none=>rw [ho] at h8;cases h8
  | some o=>
   rw [ho] at h8;simp only [Bool.and_eq_true,List.isEmpty_iff,Option.isNone_iff_eq_none] at h8;exact ⟨o,rfl,h8.1,h8.2⟩
theorem pairsF_spec {effs cls : List Nat} {f : Nat} : ∀ {π l1 : List Nat} {x : Nat} {l2 : List Nat},pairsOkF ops effs cls f π = true → π = l1 ++ x :: l2 → ∀ y ∈ l2,y ≠ x ∧ pairOk ops cls x y = true ∧ (effs.contains x = true ∨ x = f → y ≠ f → dep cls y x = true)
 | [],l1,x,l2,_,h=>by simp at h
 | p :: r,[],x,l2,hp,h=>by
  obtain ⟨rfl,rfl⟩ : p = x ∧ r = l2:=by simpa using h
  simp only [pairsOkF,Bool.and_eq_true] at hp;intro y hy
  have:=List.all_eq_true.1 hp.1 y hy
  simp only [Bool.and_eq_true,bne_iff_ne,ne_eq,Bool.or_eq_true,Bool.not_eq_true',Bool.or_eq_false_iff,beq_iff_eq,beq_eq_false_iff_ne] at this;refine ⟨this.1.1,this.1.2,fun he hy=>?_⟩
  rcases this.2 with (h0 | h0) | h0
  ·rcases he with he | he
   ·rw [he] at h0;cases h0.1
   ·exact absurd he h0.2
  ·exact absurd h0 hy
  ·exact h0
 | p :: r,q :: l1,x,l2,hp,h=>by
  obtain ⟨rfl,rfl⟩ : p = q ∧ r = l1 ++ x :: l2:=by simpa using h
  simp only [pairsOkF,Bool.and_eq_true] at hp;exact pairsF_spec hp.2 rfl
theorem dep_listedF {π effs his cls : List Nat} {f : Nat} (hok : OkF ops π effs his cls f) {L : Nat → Bool}
  (hL : ∀ (i : Nat) o,ops[i]? = some o → L i = true → ∀ e ∈ o.after,Region.binds .any e = true → L e.on = true) :
  ∀ (n i : Nat) o,i < n → ops[i]? = some o → (∀ e ∈ o.after,Region.binds .any e = true → L e.on = true) → ∀ j,j < ops.size → dep cls i j = true → L j = true:=by
 intro n
 induction n with
 | zero=>intro i o h;omega
 | succ n ih=>
  intro i o hi ho he j hj hd
  obtain ⟨e,hm,hb,hh⟩:=hok.cl i o j ho hd hj;rcases hh with rfl | hh
  ·exact he e hm hb
  ·have hlt:=hok.down i o ho e hm hb;have hi' : i < ops.size:=(Array.getElem?_eq_some_iff.1 ho).1;have ho' : ops[e.on]? = some ops[e.on]:=Array.getElem?_eq_getElem (by omega)
   exact ih e.on _ (by omega) ho' (hL e.on _ ho' (he e hm hb)) j hj hh
def RSeqF (P : Program) (ops : Array Oper) (eff : Nat → Bool) (hi : Nat → Nat) (f : Nat) (J : Option Value → List Value → World → Prop) (Q : Act → World → Prop) : List Nat → List Value → Option Value → Act → Prop
 | [],us,fo,a=>∀ w,J fo us w → Q a w
 | i :: π,us,fo,a=>
  if i = f then ∀ v,(∃ us' w,J (some v) us' w) → RSeqF P ops eff hi f J Q π us (some v) (a.put (dstOf ops i) v)
  else if eff i = true then
   (∀ fo' w,(fo = none ∨ fo' = fo) → J fo' us w → stepAt P ops i a w (fun v w'=>J fo' (us ++ [v]) w')) ∧ ∀ v,(∃ fo' w,J fo' (us ++ [v]) w) → RSeqF P ops eff hi f J Q π (us ++ [v]) fo (a.put (dstOf ops i) v)
  else
   ∃ v,(∀ us' fo' w,us <+: us' → us'.length ≤ hi i → (fo = none ∨ fo' = fo) → J fo' us' w → stepAt P ops i a w (fun v' w'=>v' = v ∧ J fo' us' w')) ∧ RSeqF P ops eff hi f J Q π us fo (a.put (dstOf ops i) v)
variable {π effs his cls : List Nat} {f : Nat} {J : Option Value → List Value → World → Prop} {Q : Act → World → Prop}
def OblF (P : Program) (ops : Array Oper) (his : List Nat) (J : Option Value → List Value → World → Prop) (fi : Option Value) (us : List Value) (i : Nat) (v : Value) (a : Act) : Prop:=
 ∀ us' fo' w,us <+: us' → us'.length ≤ his.getD i 1000 → (fi = none ∨ fo' = fi) → J fo' us' w → stepAt P ops i a w (fun v' w'=>v' = v ∧ J fo' us' w')
theorem oblF_weaken {fi : Option Value} {us us' : List Value} {i : Nat} {v : Value} {a : Act} (h : OblF P ops his J fi us i v a) (hp : us <+: us') : OblF P ops his J fi us' i v a:=
 fun us2 fo' w h1 h2 h3 h4=>h us2 fo' w (hp.trans h1) h2 h3 h4
theorem segmentF (us : List Value) (fo : Option Value) : ∀ (ρ : List Nat) (a : Act),RSeqF P ops (fun i=>effs.contains i) (fun i=>his.getD i 1000) f J Q ρ us fo a →
  ∃ T ρ',ρ = T.map (·.1) ++ ρ' ∧ (ρ' = [] ∨ ∃ e r,ρ' = e :: r ∧ (effs.contains e = true ∨ e = f)) ∧ (∀ x ∈ T,effs.contains x.1 = false ∧ x.1 ≠ f) ∧
   RSeqF P ops (fun i=>effs.contains i) (fun i=>his.getD i 1000) f J Q ρ' us fo (puts ops a T) ∧ ∀ T1 i v T2,T = T1 ++ (i,v) :: T2 → OblF P ops his J fo us i v (puts ops a T1)
 | [],a,h=>⟨[],[],rfl,.inl rfl,by simp,h,fun T1 i v T2 e=>by simp at e⟩
 | i :: ρ,b,h=>by
  by_cases hif : i = f
  ·exact ⟨[],i :: ρ,rfl,.inr ⟨i,ρ,rfl,.inr hif⟩,by simp,h,fun T1 i v T2 e=>by simp at e⟩
  cases he : effs.contains i with
  | true=>exact ⟨[],i :: ρ,rfl,.inr ⟨i,ρ,rfl,.inl he⟩,by simp,h,fun T1 i v T2 e=>by simp at e⟩
  | false=>
   unfold RSeqF at h;rw [if_neg hif,if_neg (by simp only [he];exact Bool.false_ne_true)] at h
   obtain ⟨v,h1,h2⟩:=h;obtain ⟨T,ρ',e1,e2,e3,e4,e5⟩:=segmentF us fo ρ _ h2;refine ⟨(i,v) :: T,ρ',by rw [e1];rfl,e2,?_,e4,?_⟩
   ·intro x hx
    rcases List.mem_cons.1 hx with rfl | hx
    ·exact ⟨he,hif⟩
    ·exact e3 x hx
   ·intro T1 j u T2 e
    cases T1 with
    | nil=>
     obtain ⟨⟨rfl,rfl⟩,rfl⟩ : (i = j ∧ v = u) ∧ T = T2:=by simpa using e
     exact h1
    | cons y T1=>
     obtain ⟨rfl,rfl⟩ : (i,v) = y ∧ T = T1 ++ (j,u) :: T2:=by simpa using e
     exact e5 T1 j u T2 rfl
def Frm (ops : Array Oper) (a0 : Act) (T : List (Nat × Value)) (listed : Array Bool) (f : Nat) (fl : Option Value) : Act:=
 match fl with
 | none=>puts ops a0 (T.filter fun x=>listed.getD x.1 false)
 | some v=>if f ∈ T.map (·.1) then puts ops a0 (T.filter fun x=>listed.getD x.1 false) else (puts ops a0 (T.filter fun x=>listed.getD x.1 false)).put (dstOf ops f) v
structure St (P : Program) (ops : Array Oper) (π effs his : List Nat) (f : Nat) (J : Option Value → List Value → World → Prop) (Q : Act → World → Prop) (a0 : Act) (listed : Array Bool) (a : Act) (w : World) (T : List (Nat × Value)) (ρ : List Nat) (us : List Value) (fo fl : Option Value) : Prop where
 hπ : π = T.map (·.1) ++ ρ
 hρ : ρ = [] ∨ ∃ e r,ρ = e :: r ∧ (effs.contains e = true ∨ e = f)
 hR : RSeqF P ops (fun i=>effs.contains i) (fun i=>his.getD i 1000) f J Q ρ us fo (puts ops a0 T)
 hT : ∀ i,listed.getD i false = true → i ∈ T.map (·.1) ∨ i = f
 hTe : ∀ x ∈ T,effs.contains x.1 = true ∨ x.1 = f → listed.getD x.1 false = true
 hus : us.length = ((T.map (·.1)).filter (fun i=>effs.contains i)).length
 ha : a = Frm ops a0 T listed f fl
 hI : J fl us w
 hob : ∀ T1 i v T2,T = T1 ++ (i,v) :: T2 → listed.getD i false = false → ∃ fi,(fi = none ∨ fi = fl) ∧ OblF P ops his J fi us i v (puts ops a0 T1)
 hfl : listed.getD f false = fl.isSome
 hin : f ∈ T.map (·.1) → fo = fl
 hout : f ∉ T.map (·.1) → fo = none
theorem St.norm (hok : OkF ops π effs his cls f) {a0 : Act} {listed : Array Bool} {a : Act} {w : World} {T : List (Nat × Value)} {ρ : List Nat} {us : List Value} {fo fl : Option Value}
  (s : St P ops π effs his f J Q a0 listed a w T ρ us fo fl) : ∃ T' ρ' fo',St P ops π effs his f J Q a0 listed a w T' ρ' us fo' fl ∧ ∀ r,ρ' = f :: r → fl = none:=by
 cases hfl : fl with
 | none=>exact ⟨T,ρ,fo,by rw [← hfl];exact s,fun _ _=>rfl⟩
 | some v=>
  by_cases hr : ∃ r,ρ = f :: r
  rotate_left
  ·exact ⟨T,ρ,fo,by rw [← hfl];exact s,fun r e=>absurd ⟨r,e⟩ hr⟩
  obtain ⟨r,rfl⟩:=hr;have hπn : ∀ l1 x l2,π = l1 ++ x :: l2 → ∀ y ∈ l2,y ≠ x ∧ pairOk ops cls x y = true ∧ (effs.contains x = true ∨ x = f → y ≠ f → dep cls y x = true):=fun l1 x l2 h=>pairsF_spec hok.pairs h
  have hfT : f ∉ T.map (·.1):=fun hm=>by
   obtain ⟨l1,l2,hl⟩:=List.append_of_mem hm;exact (hπn l1 f (l2 ++ f :: r) (by rw [s.hπ,hl];simp) f (by simp)).1 rfl
  have hfo:=s.hout hfT;have hR:=s.hR;unfold RSeqF at hR;rw [if_pos rfl] at hR;have hI:=s.hI;rw [hfl] at hI;obtain ⟨T',ρ',e1,e2,e3,e4,e5⟩:=segmentF _ _ _ _ (hR v ⟨us,w,hI⟩);have hT'n : ∀ x ∈ T',x.1 ∉ T.map (·.1) ∧ x.1 ≠ f:=fun x hx=>by
   refine ⟨fun hm=>?_,(e3 x hx).2⟩
   obtain ⟨l1,l2,hl⟩:=List.append_of_mem hm;exact (hπn l1 x.1 (l2 ++ f :: r) (by rw [s.hπ,hl];simp) x.1 (by rw [e1];simp;exact .inr (.inr (.inl ⟨x.2,hx⟩)))).1 rfl
  have hT'l : ∀ x ∈ T',listed.getD x.1 false = false:=fun x hx=>by
   cases hl : listed.getD x.1 false with
   | false=>rfl
   | true=>
    rcases s.hT x.1 hl with h | h
    ·exact absurd h (hT'n x hx).1
    ·exact absurd h (hT'n x hx).2
  have hff : listed.getD f false = true:=by rw [s.hfl,hfl];rfl
  have hm2 : f ∈ (T ++ (f,v) :: T').map (·.1):=by simp
  refine ⟨T ++ (f,v) :: T',ρ',some v,⟨?_,e2,?_,?_,?_,?_,?_,?_,?_,?_,fun _=>rfl,fun h=>absurd hm2 h⟩,?_⟩
  ·rw [s.hπ,e1];simp
  ·rw [puts_append,puts_cons];exact e4
  ·intro i hi
   rcases s.hT i hi with h | h
   ·exact .inl (by rw [List.map_append];exact List.mem_append_left _ h)
   ·exact .inr h
  ·intro x hx he
   rcases List.mem_append.1 hx with hx | hx
   ·exact s.hTe x hx he
   ·rcases List.mem_cons.1 hx with rfl | hx
    ·exact hff
    ·rcases he with he | he
     ·rw [(e3 x hx).1] at he;cases he
     ·exact absurd he (e3 x hx).2
  ·have hT'0 : (T'.map (·.1)).filter (fun i=>effs.contains i) = []:=by
    rw [List.filter_eq_nil_iff];intro x hx
    obtain ⟨y,hy,rfl⟩:=List.mem_map.1 hx;rw [(e3 y hy).1];exact Bool.false_ne_true
   rw [s.hus,List.map_append,List.map_cons,List.filter_append,List.filter_cons_of_neg (by rw [hok.fe];exact Bool.false_ne_true),hT'0,List.append_nil]
  ·have f2 : T'.filter (fun x=>listed.getD x.1 false) = []:=by
    rw [List.filter_eq_nil_iff];intro x hx
    rw [hT'l x hx];exact Bool.false_ne_true
   rw [s.ha,hfl];unfold Frm;simp only [];rw [if_neg hfT,if_pos hm2,List.filter_append,List.filter_cons_of_pos (by exact hff),f2,puts_append,puts_cons,puts_nil]
  ·exact hI
  ·intro S1 j u S2 hS hj
   have hjf : j ≠ f:=fun e=>by rw [e,hff] at hj;cases hj
   rcases List.append_eq_append_iff.1 hS with ⟨c,hc1,hc2⟩ | ⟨c,hc1,hc2⟩
   ·cases c with
    | nil=>
     obtain ⟨⟨h1,_⟩,_⟩ : (f = j ∧ v = u) ∧ T' = S2:=by simpa using hc2
     exact absurd h1.symm hjf
    | cons y c=>
     obtain ⟨rfl,hc3⟩ : (f,v) = y ∧ T' = c ++ (j,u) :: S2:=by simpa using hc2
     have:=e5 c j u S2 hc3
     refine ⟨some v,.inr rfl,?_⟩
     rw [hc1,puts_append,puts_cons];exact this
   ·cases c with
    | nil=>
     obtain ⟨⟨h1,_⟩,_⟩ : (j = f ∧ u = v) ∧ S2 = T':=by simpa using hc2
     exact absurd h1 hjf
    | cons y c=>
     obtain ⟨rfl,_⟩ : (j,u) = y ∧ S2 = c ++ (f,v) :: T':=by simpa using hc2
     have:=s.hob S1 j u c hc1 hj
     rw [hfl] at this;exact this
  ·rw [s.hfl,hfl]
  ·intro r' e
   exfalso
   have hr' : f ∈ ρ':=by rw [e];simp
   exact (hπn (T.map (·.1)) f r s.hπ f (by rw [e1];exact List.mem_append_right _ hr')).1 rfl
theorem simF (hok : OkF ops π effs his cls f) (a0 : Act) (Q' : Exit → Act → World → Prop) (hQ : ∀ a w,Q a w → Q' .normal a w) (hF : ∀ us w,J none us w → stepAt P ops f a0 w (fun v w'=>J (some v) us w')) :
  ∀ (fuel : Nat) (listed : Array Bool) (a : Act) (w : World) (T : List (Nat × Value)) (ρ : List Nat) (us : List Value) (fo fl : Option Value) (U : List Nat),
   listed.size = ops.size → U.length = fuel → (∀ i,i < ops.size → (listed.getD i false = false ↔ i ∈ U)) → U.Nodup →
   (∀ (i : Nat) o,ops[i]? = some o → listed.getD i false = true → ∀ e ∈ o.after,Region.binds .any e = true → listed.getD e.on false = true) →
   St P ops π effs his f J Q a0 listed a w T ρ us fo fl → (∀ r,ρ = f :: r → fl = none) → wpAny P .any ops Q' fuel listed a w:=by
 have hπn : ∀ l1 x l2,π = l1 ++ x :: l2 → ∀ y ∈ l2,y ≠ x ∧ pairOk ops cls x y = true ∧ (effs.contains x = true ∨ x = f → y ≠ f → dep cls y x = true):=fun l1 x l2 h=>pairsF_spec hok.pairs h
 obtain ⟨of,hof,hlook,hgrd⟩:=hok.fl;have hfs : f < ops.size:=(Array.getElem?_eq_some_iff.1 hof).1;have fin : ∀ (listed : Array Bool) (a : Act) (w : World) (T : List (Nat × Value)) (ρ : List Nat) (us : List Value) (fo fl : Option Value),
   listed.size = ops.size → St P ops π effs his f J Q a0 listed a w T ρ us fo fl → (∀ r,ρ = f :: r → fl = none) → Region.ready .any ops listed = [] → Q' .normal a w:=by
  intro listed a w T ρ us fo fl hsz s hn hr
  have hall : ∀ n i,i < n → i < ops.size → listed.getD i false = true:=by
   intro n
   induction n with
   | zero=>intro i h;omega
   | succ n ih=>
    intro i hi hlt
    cases hl : listed.getD i false with
    | true=>rfl
    | false=>
     have ho : ops[i]? = some ops[i]:=Array.getElem?_eq_getElem hlt;have : i ∈ Region.ready .any ops listed:=by
      rw [mem_ready];refine ⟨?_,_,ho,fun e he hb=>?_⟩
      ·have hl' : i < listed.size:=by omega
       simp [hl'] at hl ⊢;exact hl
      ·have:=hok.down i _ ho e he hb
       exact ih e.on (by omega) (by omega)
     rw [hr] at this;cases this
  have hfl : fl.isSome = true:=by rw [← s.hfl];exact hall _ f (Nat.lt_succ_self f) hfs
  have hnil : ρ = []:=by
   rcases s.hρ with h | ⟨e,r,rfl,hee⟩
   ·exact h
   ·exfalso
    have he : e ∈ π:=by rw [s.hπ];simp
    by_cases hef : e = f
    ·subst hef;have:=hn r rfl
     rw [this] at hfl;cases hfl
    ·rcases s.hT e (hall _ e (Nat.lt_succ_self e) (hok.lt e he)) with hm | hm
     ·obtain ⟨l1,l2,hl⟩:=List.append_of_mem hm;have:=(hπn l1 e (l2 ++ e :: r) (by rw [s.hπ,hl];simp) e (by simp)).1
      exact this rfl
     ·exact hef hm
  subst hnil;have hfT : f ∈ T.map (·.1):=by
   have:=hok.all f hfs
   rw [s.hπ,List.append_nil] at this;exact this
  have hf : T.filter (fun x=>listed.getD x.1 false) = T:=by
   rw [List.filter_eq_self];intro x hx
   have : x.1 ∈ π:=by rw [s.hπ];simp;exact ⟨x.2,hx⟩
   exact hall _ x.1 (Nat.lt_succ_self _) (hok.lt _ this)
  have hR:=s.hR;have hI:=s.hI;rw [s.hin hfT] at hR;have ha : a = puts ops a0 T:=by
   rw [s.ha];unfold Frm;cases fl with
   | none=>simp only [];rw [hf]
   | some v=>simp only [];rw [if_pos hfT,hf]
  rw [ha];exact hQ _ _ (hR w hI)
 intro fuel
 induction fuel with
 | zero=>
  intro listed a w T ρ us fo fl U hsz hUl hU hUn hdc s hn
  have hr : Region.ready .any ops listed = []:=by
   rw [List.eq_nil_iff_forall_not_mem];intro i hi
   rw [mem_ready] at hi;obtain ⟨hl,o,ho,_⟩:=hi;have hlt : i < ops.size:=(Array.getElem?_eq_some_iff.1 ho).1;have hl' : i < listed.size:=by omega
   have : i ∈ U:=(hU i hlt).1 (by simp [hl'] at hl ⊢;exact hl)
   rw [List.eq_nil_of_length_eq_zero hUl] at this;cases this
  exact ⟨hr,fin listed a w T ρ us fo fl hsz s hn hr⟩
 | succ fuel ih=>
  intro listed a w T ρ us fo fl U hsz hUl hU hUn hdc s hn
  refine ⟨fun hr=>fin listed a w T ρ us fo fl hsz s hn hr,fun i hi=>?_⟩
  rw [mem_ready] at hi;obtain ⟨hl,o,ho,hedge⟩:=hi;have hlt : i < ops.size:=(Array.getElem?_eq_some_iff.1 ho).1;have hl' : i < listed.size:=by omega
  have hli : listed.getD i false = false:=by simp [hl'] at hl ⊢;exact hl
  have hdl : ∀ j,j < ops.size → dep cls i j = true → listed.getD j false = true:=dep_listedF hok hdc _ i o (Nat.lt_succ_self i) ho hedge;have hdl2 : ∀ x,listed.getD x false = true → x < ops.size → ∀ j,j < ops.size → dep cls x j = true → listed.getD j false = true:=fun x hx hxs=>
   dep_listedF hok hdc _ x _ (Nat.lt_succ_self x) (Array.getElem?_eq_getElem hxs) (hdc x _ (Array.getElem?_eq_getElem hxs) hx)
  have hiU : i ∈ U:=(hU i hlt).1 hli;have hset : ∀ j,(listed.setIfInBounds i true).getD j false = (if j = i then true else listed.getD j false):=by
   intro j
   by_cases hj : j = i
   ·subst hj;simp [hl']
   ·rw [if_neg hj,getD_set_ne false (Ne.symm hj)]
  have hsz' : (listed.setIfInBounds i true).size = ops.size:=by simpa using hsz
  have hU' : ∀ j,j < ops.size → ((listed.setIfInBounds i true).getD j false = false ↔ j ∈ U.erase i):=by
   intro j hj
   rw [hset,hUn.mem_erase_iff];by_cases hji : j = i
   ·subst hji;simp
   ·rw [if_neg hji,hU j hj];simp [hji]
  have hUl' : (U.erase i).length = fuel:=by rw [List.length_erase_of_mem hiU,hUl];rfl
  have hdc' : ∀ (x : Nat) o',ops[x]? = some o' → (listed.setIfInBounds i true).getD x false = true → ∀ e ∈ o'.after,Region.binds .any e = true → (listed.setIfInBounds i true).getD e.on false = true:=by
   intro x o' hx hxl e he hb
   rw [hset] at hxl ⊢
   by_cases hxi : x = i
   ·subst hxi;obtain rfl : o' = o:=Option.some.inj (hx.symm.trans ho);rw [hedge e he hb];simp
   ·rw [if_neg hxi] at hxl;rw [hdc x o' hx hxl e he hb];simp
  have hapart : ∀ x y,x < ops.size → y < ops.size → pairOk ops cls x y = true → dep cls y x = false → (ops[x]!).apart ops (ops[y]!) = true:=by
   intro x y hx hy hp hd
   unfold pairOk at hp;rw [hd,Array.getElem?_eq_getElem hx,Array.getElem?_eq_getElem hy] at hp
   simpa [hx,hy] using hp
  have hlk : ∀ x,x < ops.size → dstOf ops x = (ops[x]!).dst:=fun x hx=>by simp [dstOf,hx]
  have ho! : ops[i]! = o:=by
   have:=Array.getElem?_eq_getElem hlt
   rw [ho] at this;simp [hlt,Option.some.inj this]
  have next : ∀ (a' : Act) (w' : World) (T' : List (Nat × Value)) (ρ' : List Nat) (us' : List Value) (fo' fl' : Option Value),St P ops π effs his f J Q a0 (listed.setIfInBounds i true) a' w' T' ρ' us' fo' fl' → wpAny P .any ops Q' fuel (listed.setIfInBounds i true) a' w':=by
   intro a' w' T' ρ' us' fo' fl' s'
   obtain ⟨T2,ρ2,fo2,s2,h2⟩:=s'.norm hok;exact ih _ a' w' T2 ρ2 us' fo2 fl' (U.erase i) hsz' hUl' hU' (hUn.erase _) hdc' s2 h2
  by_cases hif : i = f
  ·
   subst hif;have hfl0 : fl = none:=by
    have:=s.hfl
    rw [hli] at this;cases fl with
    | none=>rfl
    | some v=>cases this
   subst hfl0;have hfT : i ∉ T.map (·.1):=fun hm=>by
    obtain ⟨x,hx,hxe⟩:=List.mem_map.1 hm;have:=s.hTe x hx (.inr hxe)
    rw [hxe,hli] at this;cases this
   obtain rfl : of = o:=Option.some.inj (hof.symm.trans ho);have hst : stepAt P ops i a w (fun v w'=>J (some v) us w'):=by
    obtain ⟨o',ho',hh⟩:=hF us w s.hI;obtain rfl : o' = of:=Option.some.inj (ho'.symm.trans ho);refine ⟨o',ho',?_⟩
    have hag : Agree ops o' a0 a:=fun t ht=>by rw [hlook] at ht;cases ht
    rw [agree_wanted hag] at hh
    split
    ·rename_i hw
     rw [if_pos hw] at hh;exact gives_congr (agree_exec (fun cs b=>hok.sel i o' cs b ho) hag) hh
    ·rename_i hw
     rw [if_neg hw] at hh;exact hh
   refine stepAt_wpOp hst ?_
   intro v w' hI'
   have hTn : ∀ x ∈ T,x.1 ≠ i:=fun x hx e=>hfT (by rw [← e];exact List.mem_map_of_mem hx)
   refine next _ w' T ρ us fo (some v) ⟨s.hπ,s.hρ,s.hR,?_,?_,s.hus,?_,hI',?_,?_,fun h=>absurd h hfT,s.hout⟩
   ·intro j hj
    rw [hset] at hj;by_cases hji : j = i
    ·exact .inr hji
    ·rw [if_neg hji] at hj;exact s.hT j hj
   ·intro x hx he
    rw [hset,if_neg (hTn x hx)];exact s.hTe x hx he
   ·have f1 : T.filter (fun x=>(listed.setIfInBounds i true).getD x.1 false) = T.filter (fun x=>listed.getD x.1 false):=
     List.filter_congr fun x hx=>by rw [hset,if_neg (hTn x hx)]
    rw [s.ha];unfold Frm;simp only [];rw [if_neg hfT,f1]
   ·intro S1 j u S2 hS hj
    rw [hset] at hj;by_cases hji : j = i
    ·subst hji;simp at hj
    ·rw [if_neg hji] at hj;obtain ⟨fi,h1,h2⟩:=s.hob S1 j u S2 hS hj;exact ⟨fi,.inl (h1.elim id id),h2⟩
   ·rw [hset];simp
  have hflo : ∀ {S : List Nat} {R : List Nat},π = S ++ i :: R → f ∉ T.map (·.1) → (f ∈ R) → fl.isSome = true → o.apart ops (ops[f]!) = true:=by
   intro S R hSR hfT hfR hfs'
   have hpr:=(hπn S i R hSR f hfR).2.1;have hnd : dep cls f i = false:=by
    cases hd : dep cls f i with
    | false=>rfl
    | true=>
     have:=hdl2 f (by rw [s.hfl];exact hfs') hfs i hlt hd
     rw [hli] at this;cases this
   have:=hapart _ _ hlt hfs hpr hnd
   rwa [ho!] at this
  have hfρ : f ∉ T.map (·.1) → f ∈ ρ:=fun h=>by
   have:=hok.all f hfs
   rw [s.hπ] at this;exact (List.mem_append.1 this).resolve_left h
  by_cases hiT : i ∈ T.map (·.1)
  ·obtain ⟨⟨i',v⟩,hm,hii⟩:=List.mem_map.1 hiT;obtain rfl : i' = i:=hii;obtain ⟨T1,T2,hTT⟩:=List.append_of_mem hm;obtain ⟨fi,hfi,hobl⟩:=s.hob T1 i' v T2 hTT hli;have heff : effs.contains i' = false:=by
    cases he : effs.contains i' with
    | false=>rfl
    | true=>have:=s.hTe _ hm (.inl he);rw [hli] at this;cases this
   have hπ1 : π = T1.map (·.1) ++ i' :: (T2.map (·.1) ++ ρ):=by rw [s.hπ,hTT];simp
   have hp : us.length ≤ his.getD i' 1000:=by
    refine Nat.le_of_not_lt fun hgt=>?_
    have hflt : (T.map (·.1)).filter (fun i=>effs.contains i) ++ ρ.filter (fun i=>effs.contains i) = effs:=by
     rw [← List.filter_append,← s.hπ];exact hok.effsEq
    have hus:=s.hus;have hlt2 : his.getD i' 1000 < ((T.map (·.1)).filter (fun i=>effs.contains i)).length:=by omega
    obtain ⟨e,he⟩ : ∃ e,((T.map (·.1)).filter (fun i=>effs.contains i))[his.getD i' 1000]? = some e:=⟨_,List.getElem?_eq_getElem hlt2⟩
    have he2 : effs[his.getD i' 1000]? = some e:=by
     rw [← hflt,List.getElem?_append_left hlt2];exact he
    have hem:=List.mem_filter.1 (List.mem_of_getElem? he);obtain ⟨x,hx,hxe⟩:=List.mem_map.1 hem.1;have hel : listed.getD e false = true:=by rw [← hxe];exact s.hTe x hx (.inl (by rw [hxe];exact hem.2))
    have heπ : e ∈ π:=by rw [s.hπ];exact List.mem_append_left _ hem.1
    have hd:=hok.hi i' (by rw [hπ1];simp) heff e he2
    have:=hdl2 e hel (hok.lt e heπ) i' hlt hd
    rw [hli] at this;cases this
   have hst:=hobl us fl w (List.prefix_refl _) hp (hfi.elim .inl fun h=>.inr h.symm) s.hI
   have hbefore : ∀ x ∈ T1,listed.getD x.1 false = false → ∀ t,dstOf ops x.1 = some t → t ∉ o.looksAt ops:=by
    intro x hx hxl t ht
    obtain ⟨l1,l2,hs⟩:=List.append_of_mem hx;have hxπ : x.1 ∈ π:=by rw [hπ1,hs];simp
    have hpr:=(hπn (l1.map (·.1)) x.1 (l2.map (·.1) ++ i' :: (T2.map (·.1) ++ ρ)) (by rw [hπ1,hs];simp) i' (by simp)).2.1
    have hnd : dep cls i' x.1 = false:=by
     cases hd : dep cls i' x.1 with
     | false=>rfl
     | true=>have:=hdl x.1 (hok.lt _ hxπ) hd;rw [hxl] at this;cases this
    have hap:=hapart _ _ (hok.lt _ hxπ) hlt hpr hnd;rw [ho!] at hap;exact (Oper.apart_spec hap).1 t (by rw [← hlk _ (hok.lt _ hxπ)];exact ht)
   have hafter : ∀ x ∈ T2,listed.getD x.1 false = true → o.apart ops (ops[x.1]!) = true:=by
    intro x hx hxl
    have hxπ : x.1 ∈ π:=by rw [hπ1];simp;exact .inr (.inr (.inl ⟨x.2,hx⟩))
    have hpr:=(hπn (T1.map (·.1)) i' (T2.map (·.1) ++ ρ) hπ1 x.1 (by simp;exact .inl ⟨x.2,hx⟩)).2.1
    have hnd : dep cls x.1 i' = false:=by
     cases hd : dep cls x.1 i' with
     | false=>rfl
     | true=>have:=hdl2 x.1 hxl (hok.lt _ hxπ) i' hlt hd;rw [hli] at this;cases this
    have hap:=hapart _ _ hlt (hok.lt _ hxπ) hpr hnd
    rwa [ho!] at hap
   have hxlt : ∀ x ∈ T2,x.1 < ops.size:=fun x hx=>hok.lt _ (by rw [hπ1];simp;exact .inr (.inr (.inl ⟨x.2,hx⟩)))
   have hTf : T.filter (fun x=>listed.getD x.1 false) = T1.filter (fun x=>listed.getD x.1 false) ++ T2.filter (fun x=>listed.getD x.1 false):=by
    rw [hTT,List.filter_append,List.filter_cons_of_neg (by simp only [hli];exact Bool.false_ne_true)]
   have hap3 : f ∉ T.map (·.1) → fl.isSome = true → o.apart ops (ops[f]!) = true:=fun h1 h2=>hflo hπ1 h1 (List.mem_append_right _ (hfρ h1)) h2
   have hag0 : Agree ops o (puts ops a0 T1) (puts ops a0 (T.filter fun x=>listed.getD x.1 false)):=by
    rw [hTf,puts_append];refine agree_apart _ _ _ (agree_filter (fun i=>listed.getD i false) T1 a0 a0 (fun _ _=>rfl) hbefore) ?_
    intro x hx t ht
    obtain ⟨hx2,hxl⟩:=List.mem_filter.1 hx;exact (Oper.apart_spec (hafter x hx2 hxl)).2.2 t (by rw [← hlk _ (hxlt x hx2)];exact ht)
   have hag : Agree ops o (puts ops a0 T1) a:=by
    rw [s.ha];unfold Frm;cases hfe : fl with
    | none=>exact hag0
    | some u=>
     simp only []
     split
     ·exact hag0
     ·rename_i hfT
      exact agree_right hag0 _ _ fun t ht=>(Oper.apart_spec (hap3 hfT (by rw [hfe];rfl))).2.2 t (by rw [← hlk _ hfs];exact ht)
   have hst' : stepAt P ops i' a w (fun v' w'=>v' = v ∧ J fl us w'):=by
    obtain ⟨o',ho',hh⟩:=hst;obtain rfl : o' = o:=Option.some.inj (ho'.symm.trans ho);refine ⟨o',ho',?_⟩
    rw [agree_wanted hag] at hh
    split
    ·rename_i hw
     rw [if_pos hw] at hh;exact gives_congr (agree_exec (fun cs b=>hok.sel i' o' cs b ho) hag) hh
    ·rename_i hw
     rw [if_neg hw] at hh;exact hh
   refine stepAt_wpOp hst' ?_
   rintro v' w' ⟨rfl,hI'⟩
   have hTn1 : ∀ x ∈ T1,x.1 ≠ i':=by
    intro x hx
    obtain ⟨l1,l2,hs⟩:=List.append_of_mem hx;exact fun e=>(hπn (l1.map (·.1)) x.1 (l2.map (·.1) ++ i' :: (T2.map (·.1) ++ ρ)) (by rw [hπ1,hs];simp) i' (by simp)).1 e.symm
   have hTn2 : ∀ x ∈ T2,x.1 ≠ i':=fun x hx=>
    (hπn (T1.map (·.1)) i' (T2.map (·.1) ++ ρ) hπ1 x.1 (by simp;exact .inl ⟨x.2,hx⟩)).1
   have e1 : T1.filter (fun x=>(listed.setIfInBounds i' true).getD x.1 false) = T1.filter (fun x=>listed.getD x.1 false):=
    List.filter_congr fun x hx=>by rw [hset,if_neg (hTn1 x hx)]
   have e2 : T2.filter (fun x=>(listed.setIfInBounds i' true).getD x.1 false) = T2.filter (fun x=>listed.getD x.1 false):=
    List.filter_congr fun x hx=>by rw [hset,if_neg (hTn2 x hx)]
   have hfr0 : (puts ops a0 (T.filter fun x=>listed.getD x.1 false)).put (dstOf ops i') v' = puts ops a0 (T.filter fun x=>(listed.setIfInBounds i' true).getD x.1 false):=by
    rw [hTf,puts_append];rw [hTT,List.filter_append,List.filter_cons_of_pos (by rw [hset];simp),e1,e2,puts_append,puts_cons]
    refine puts_put _ _ _ _ ?_
    intro x hx t ht
    obtain ⟨hx2,hxl⟩:=List.mem_filter.1 hx;have:=(Oper.apart_spec (hafter x hx2 hxl)).2.1
    intro hd
    have h1 : o.dst = some t:=by rw [← ho!,← hlk _ hlt];exact hd
    exact this t h1 (by rw [← hlk _ (hxlt x hx2)];exact ht)
   refine next _ w' T ρ us fo fl ⟨s.hπ,s.hρ,s.hR,?_,?_,s.hus,?_,hI',?_,?_,s.hin,s.hout⟩
   ·intro j hj
    rw [hset] at hj;by_cases hji : j = i'
    ·subst hji;exact .inl hiT
    ·rw [if_neg hji] at hj;exact s.hT j hj
   ·intro x hx he
    rw [hset,s.hTe x hx he];simp
   ·rw [s.ha];unfold Frm;cases hfe : fl with
    | none=>exact hfr0
    | some u=>
     simp only []
     split
     ·exact hfr0
     ·rename_i hfT
      rw [← hfr0];refine Act.put_comm _ _ _ fun t ht hd=>?_
      have:=(Oper.apart_spec (hap3 hfT (by rw [hfe];rfl))).2.1
      exact this t (by rw [← ho!,← hlk _ hlt];exact hd) (by rw [← hlk _ hfs];exact ht)
   ·intro S1 j u S2 hS hj
    rw [hset] at hj;by_cases hji : j = i'
    ·subst hji;simp at hj
    ·rw [if_neg hji] at hj;exact s.hob S1 j u S2 hS hj
   ·rw [hset,if_neg (Ne.symm hif)];exact s.hfl
  ·
   have hiρ : i ∈ ρ:=by
    have:=hok.all i hlt
    rw [s.hπ] at this;exact (List.mem_append.1 this).resolve_left hiT
   rcases s.hρ with rfl | ⟨e,r,rfl,hee⟩
   ·cases hiρ
   have hie : i = e:=by
    rcases List.mem_cons.1 hiρ with h | h
    ·exact h
    ·exfalso
     have hd:=(hπn (T.map (·.1)) e r s.hπ i h).2.2 hee hif
     have heπ : e ∈ π:=by rw [s.hπ];simp
     have hel:=hdl e (hok.lt e heπ) hd;by_cases hef : e = f
     ·subst hef;have h0:=hn r rfl;have:=s.hfl
      rw [hel,h0] at this;cases this
     ·rcases s.hT e hel with hm | hm
      ·obtain ⟨l1,l2,hs⟩:=List.append_of_mem hm;exact (hπn l1 e (l2 ++ e :: r) (by rw [s.hπ,hs];simp) e (by simp)).1 rfl
      ·exact hef hm
   subst hie;have hec : effs.contains i = true:=hee.resolve_right hif;have hR:=s.hR;unfold RSeqF at hR;rw [if_neg hif,if_pos hec] at hR;obtain ⟨hstep,hnext⟩:=hR;have hfofl : fo = none ∨ fl = fo:=by
    by_cases hfT : f ∈ T.map (·.1)
    ·exact .inr (s.hin hfT).symm
    ·exact .inl (s.hout hfT)
   have hst:=hstep fl w hfofl s.hI;have hbefore : ∀ x ∈ T,listed.getD x.1 false = false → ∀ t,dstOf ops x.1 = some t → t ∉ o.looksAt ops:=by
    intro x hx hxl t ht
    obtain ⟨l1,l2,hs⟩:=List.append_of_mem hx;have hxπ : x.1 ∈ π:=by rw [s.hπ,hs];simp
    have hpr:=(hπn (l1.map (·.1)) x.1 (l2.map (·.1) ++ i :: r) (by rw [s.hπ,hs];simp) i (by simp)).2.1
    have hnd : dep cls i x.1 = false:=by
     cases hd : dep cls i x.1 with
     | false=>rfl
     | true=>have:=hdl x.1 (hok.lt _ hxπ) hd;rw [hxl] at this;cases this
    have hap:=hapart _ _ (hok.lt _ hxπ) hlt hpr hnd;rw [ho!] at hap;exact (Oper.apart_spec hap).1 t (by rw [← hlk _ (hok.lt _ hxπ)];exact ht)
   have hap3 : f ∉ T.map (·.1) → fl.isSome = true → o.apart ops (ops[f]!) = true:=fun h1 h2=>hflo s.hπ h1 ((List.mem_cons.1 (hfρ h1)).resolve_left fun e=>hif e.symm) h2
   have hag0 : Agree ops o (puts ops a0 T) (puts ops a0 (T.filter fun x=>listed.getD x.1 false)):=agree_filter (fun i=>listed.getD i false) T a0 a0 (fun _ _=>rfl) hbefore
   have hag : Agree ops o (puts ops a0 T) a:=by
    rw [s.ha];unfold Frm;cases hfe : fl with
    | none=>exact hag0
    | some u=>
     simp only []
     split
     ·exact hag0
     ·rename_i hfT
      exact agree_right hag0 _ _ fun t ht=>(Oper.apart_spec (hap3 hfT (by rw [hfe];rfl))).2.2 t (by rw [← hlk _ hfs];exact ht)
   have hst' : stepAt P ops i a w (fun v w'=>J fl (us ++ [v]) w'):=by
    obtain ⟨o',ho',hh⟩:=hst;obtain rfl : o' = o:=Option.some.inj (ho'.symm.trans ho);refine ⟨o',ho',?_⟩
    rw [agree_wanted hag] at hh
    split
    ·rename_i hw
     rw [if_pos hw] at hh;exact gives_congr (agree_exec (fun cs b=>hok.sel i o' cs b ho) hag) hh
    ·rename_i hw
     rw [if_neg hw] at hh;exact hh
   refine stepAt_wpOp hst' ?_
   intro v w' hI'
   have hR':=hnext v ⟨fl,w',hI'⟩;obtain ⟨T',ρ',e1,e2,e3,e4,e5⟩:=segmentF _ _ _ _ hR';have hnotT' : ∀ x ∈ T',listed.getD x.1 false = false ∧ x.1 ≠ i:=by
    intro x hx
    have hxr : x.1 ∈ r:=by rw [e1];simp;exact .inl ⟨x.2,hx⟩
    have hne:=(hπn (T.map (·.1)) i r s.hπ x.1 hxr).1
    refine ⟨?_,hne⟩
    cases hl2 : listed.getD x.1 false with
    | false=>rfl
    | true=>
     rcases s.hT x.1 hl2 with hm | hm
     ·obtain ⟨l1,l2,hs⟩:=List.append_of_mem hm;exact absurd rfl (hπn l1 x.1 (l2 ++ i :: r) (by rw [s.hπ,hs];simp) x.1 (by simp [hxr])).1
     ·exact absurd hm (e3 x hx).2
   have hTn : ∀ x ∈ T,x.1 ≠ i:=by
    intro x hx e
    exact hiT (by rw [← e];exact List.mem_map_of_mem hx)
   have hfT2 : f ∈ (T ++ (i,v) :: T').map (·.1) ↔ f ∈ T.map (·.1):=by
    simp only [List.map_append,List.map_cons,List.mem_append,List.mem_cons];constructor
    ·rintro (h | h | h)
     ·exact h
     ·exact absurd h.symm hif
     ·obtain ⟨y,hy,hye⟩:=List.mem_map.1 h;exact absurd hye (e3 y hy).2
    ·exact .inl
   have f1 : T.filter (fun x=>(listed.setIfInBounds i true).getD x.1 false) = T.filter (fun x=>listed.getD x.1 false):=
    List.filter_congr fun x hx=>by rw [hset,if_neg (hTn x hx)]
   have f2 : T'.filter (fun x=>(listed.setIfInBounds i true).getD x.1 false) = []:=by
    rw [List.filter_eq_nil_iff];intro x hx
    rw [hset,if_neg (hnotT' x hx).2,(hnotT' x hx).1];exact Bool.false_ne_true
   have hfr0 : (puts ops a0 (T.filter fun x=>listed.getD x.1 false)).put (dstOf ops i) v = puts ops a0 ((T ++ (i,v) :: T').filter fun x=>(listed.setIfInBounds i true).getD x.1 false):=by
    rw [List.filter_append,List.filter_cons_of_pos (by rw [hset];simp),f1,f2,puts_append,puts_cons,puts_nil]
   refine next _ w' (T ++ (i,v) :: T') ρ' (us ++ [v]) fo fl ⟨?_,e2,?_,?_,?_,?_,?_,hI',?_,?_,fun h=>s.hin (hfT2.1 h),fun h=>s.hout fun h'=>h (hfT2.2 h')⟩
   ·rw [s.hπ,e1];simp
   ·rw [puts_append,puts_cons];exact e4
   ·intro j hj
    rw [hset] at hj;by_cases hji : j = i
    ·subst hji;exact .inl (by simp)
    ·rw [if_neg hji] at hj;refine (s.hT j hj).imp (fun h=>?_) id
     rw [List.map_append];exact List.mem_append_left _ h
   ·intro x hx he
    rw [hset];rcases List.mem_append.1 hx with hx | hx
    ·rw [s.hTe x hx he];simp
    ·rcases List.mem_cons.1 hx with rfl | hx
     ·simp
     ·rcases he with he | he
      ·rw [(e3 x hx).1] at he;cases he
      ·exact absurd he (e3 x hx).2
   ·have hT'0 : (T'.map (·.1)).filter (fun i=>effs.contains i) = []:=by
     rw [List.filter_eq_nil_iff];intro x hx
     obtain ⟨y,hy,rfl⟩:=List.mem_map.1 hx;rw [(e3 y hy).1];exact Bool.false_ne_true
    simp only [List.map_append,List.map_cons,List.filter_append,List.length_append,List.length_singleton];rw [List.filter_cons_of_pos (by exact hec),hT'0,s.hus]
    simp
   ·rw [s.ha];unfold Frm;cases hfe : fl with
    | none=>exact hfr0
    | some u=>
     simp only [];by_cases hfT : f ∈ T.map (·.1)
     ·rw [if_pos hfT,if_pos (hfT2.2 hfT)];exact hfr0
     ·rw [if_neg hfT,if_neg (fun h=>hfT (hfT2.1 h)),← hfr0]
      refine Act.put_comm _ _ _ fun t ht hd=>?_
      have:=(Oper.apart_spec (hap3 hfT (by rw [hfe];rfl))).2.1
      exact this t (by rw [← ho!,← hlk _ hlt];exact hd) (by rw [← hlk _ hfs];exact ht)
   ·intro S1 j u S2 hS hj
    rw [hset] at hj;by_cases hji : j = i
    ·subst hji;simp at hj
    ·rw [if_neg hji] at hj;rcases List.append_eq_append_iff.1 hS with ⟨c,hc1,hc2⟩ | ⟨c,hc1,hc2⟩
     ·cases c with
      | nil=>
       obtain ⟨⟨h1,_⟩,_⟩ : (i = j ∧ v = u) ∧ T' = S2:=by simpa using hc2
       exact absurd h1.symm hji
      | cons y c=>
       obtain ⟨rfl,hc3⟩ : (i,v) = y ∧ T' = c ++ (j,u) :: S2:=by simpa using hc2
       have:=e5 c j u S2 hc3
       refine ⟨fo,hfofl.imp id Eq.symm,?_⟩
       rw [hc1,puts_append,puts_cons];exact this
     ·cases c with
      | nil=>
       obtain ⟨⟨h1,_⟩,_⟩ : (j = i ∧ u = v) ∧ S2 = T':=by simpa using hc2
       exact absurd h1 hji
      | cons y c=>
       obtain ⟨rfl,_⟩ : (j,u) = y ∧ S2 = c ++ (i,v) :: T':=by simpa using hc2
       obtain ⟨fi,h1,h2⟩:=s.hob S1 j u c hc1 hj;exact ⟨fi,h1,oblF_weaken h2 (List.prefix_append _ _)⟩
   ·rw [hset,if_neg (Ne.symm hif)];exact s.hfl
theorem wp_region_rf {id : Nat} {l : List Oper} {a : Act} {w : World} {Q' : Exit → Act → World → Prop} (hm : P.follows .mixedOrders = true) (π effs his cls : List Nat) (f : Nat)
  (hok : okF l.toArray π effs his cls f = true) (J : Option Value → List Value → World → Prop) (h0 : J none [] { w with drawn:=w.drawn + 1 })
  (hF : ∀ o,l.toArray[f]? = some o → ∀ us w,J none us w → gives P o a w (fun v w'=>J (some v) us w'))
  (h : RSeqF P l.toArray (fun i=>effs.contains i) (fun i=>his.getD i 1000) f J (fun a w=>Q' .normal a w) π [] none a) : (Code.region id l.toArray true).wp P Q' a w:=by
 refine wp_region_any hm ?_
 have hk:=okF_of hok;obtain ⟨T,ρ,e1,e2,e3,e4,e5⟩:=segmentF _ _ _ _ h;have hfalse : ∀ i : Nat,(Array.replicate l.toArray.size false).getD i false = false:=by
  intro i
  rw [Array.getD_eq_getD_getElem?,Array.getElem?_replicate]
  split <;> rfl
 obtain ⟨of,hof,hlook,hgrd⟩:=hk.fl;have hfT : f ∉ T.map (·.1):=fun hm=>by
  obtain ⟨x,hx,hxe⟩:=List.mem_map.1 hm;exact (e3 x hx).2 hxe
 refine simF (Q:=fun a w=>Q' .normal a w) hk a Q' (fun _ _ h=>h) (fun us w hj=>⟨of,hof,?_⟩) _ _ a _ T ρ [] none none (List.range l.toArray.size) (by simp) (by simp) ?_ List.nodup_range ?_ ⟨e1,e2,e4,?_,?_,?_,?_,h0,?_,?_,fun h=>absurd h hfT,fun _=>rfl⟩ (fun _ _=>rfl)
 ·have hw : Region.wanted of (yielded l.toArray a.tmps) = true:=by unfold Region.wanted;rw [hgrd]
  rw [if_pos hw];exact hF of hof us w hj
 ·intro i hi
  rw [hfalse];simpa using hi
 ·intro i o _ hi;rw [hfalse] at hi;cases hi
 ·intro i hi;rw [hfalse] at hi;cases hi
 ·intro x hx he
  rcases he with he | he
  ·rw [(e3 x hx).1] at he;cases he
  ·exact absurd he (e3 x hx).2
 ·have : (T.map (·.1)).filter (fun i=>effs.contains i) = []:=by
   rw [List.filter_eq_nil_iff];intro x hx
   obtain ⟨y,hy,rfl⟩:=List.mem_map.1 hx;rw [(e3 y hy).1];exact Bool.false_ne_true
  rw [this];rfl
 ·have : T.filter (fun x=>(Array.replicate l.toArray.size false).getD x.1 false) = []:=by
   rw [List.filter_eq_nil_iff];intro x _
   rw [hfalse];exact Bool.false_ne_true
  unfold Frm;simp only [];rw [this];rfl
 ·intro T1 i v T2 hT _
  exact ⟨none,.inl rfl,e5 T1 i v T2 hT⟩
 ·rw [hfalse];rfl
section steps
variable {eff : Nat → Bool} {hi : Nat → Nat} {f : Nat} {J : Option Value → List Value → World → Prop} {Q : Act → World → Prop} {π : List Nat} {us : List Value} {fo : Option Value} {a : Act} {i : Nat} {o : Oper}
theorem rf_nil (h : ∀ w,J fo us w → Q a w) : RSeqF P ops eff hi f J Q [] us fo a:=h
theorem rf_quiet (ho : ops[i]? = some o) (hf : (i == f) = false) (he : eff i = false) (hw : Region.wanted o (yielded ops a.tmps) = true) {v : Value}
  (hr : ∀ us' fo' w,us <+: us' → us'.length ≤ hi i → (fo = none ∨ fo' = fo) → J fo' us' w → gives P o a w (fun v' w'=>v' = v ∧ J fo' us' w')) (h : RSeqF P ops eff hi f J Q π us fo (a.put o.dst v)) : RSeqF P ops eff hi f J Q (i :: π) us fo a:=by
 unfold RSeqF;rw [if_neg (by simpa using hf),if_neg (by rw [he];exact Bool.false_ne_true)]
 have hd : dstOf ops i = o.dst:=by simp [dstOf,ho]
 exact ⟨v,fun us' fo' w h1 h2 h3 h4=>⟨o,ho,by rw [if_pos hw];exact hr us' fo' w h1 h2 h3 h4⟩,by rw [hd];exact h⟩
theorem rf_sil (ho : ops[i]? = some o) (hf : (i == f) = false) (he : eff i = false) (hw : Region.wanted o (yielded ops a.tmps) = true)
  (h : ∀ K : Act → Prop,(∀ a,RSeqF P ops eff hi f J Q π us fo a → K a) → sil P o a K) : RSeqF P ops eff hi f J Q (i :: π) us fo a:=
 let ⟨_,h1,h2⟩:=h _ (fun _ h=>h)
 rf_quiet ho hf he hw (fun _ _ w _ _ _ h4=>gives_value (h1 w) ⟨rfl,h4⟩) h2
theorem rf_rd (ho : ops[i]? = some o) (hf : (i == f) = false) (he : eff i = false) (hw : Region.wanted o (yielded ops a.tmps) = true)
  (h : ∃ v,(∀ us' fo' w,us <+: us' → us'.length ≤ hi i → J fo' us' w → (execOp a.eval o).run P w = .ok (.value v) w) ∧ RSeqF P ops eff hi f J Q π us fo (a.put o.dst v)) : RSeqF P ops eff hi f J Q (i :: π) us fo a:=
 let ⟨_,h1,h2⟩:=h
 rf_quiet ho hf he hw (fun us' fo' w k1 k2 _ k4=>gives_value (h1 us' fo' w k1 k2 k4) ⟨rfl,k4⟩) h2
theorem rf_eff (ho : ops[i]? = some o) (hf : (i == f) = false) (he : eff i = true) (hw : Region.wanted o (yielded ops a.tmps) = true)
  (hr : ∀ fo' w,(fo = none ∨ fo' = fo) → J fo' us w → gives P o a w (fun v w'=>J fo' (us ++ [v]) w')) (h : ∀ v,(∃ fo' w,J fo' (us ++ [v]) w) → RSeqF P ops eff hi f J Q π (us ++ [v]) fo (a.put o.dst v)) : RSeqF P ops eff hi f J Q (i :: π) us fo a:=by
 unfold RSeqF;rw [if_neg (by simpa using hf),if_pos he]
 have hd : dstOf ops i = o.dst:=by simp [dstOf,ho]
 exact ⟨fun fo' w h1 h2=>⟨o,ho,by rw [if_pos hw];exact hr fo' w h1 h2⟩,fun v hv=>by rw [hd];exact h v hv⟩
theorem rf_fl (ho : ops[i]? = some o) (hf : (i == f) = true) (h : ∀ v,(∃ us' w,J (some v) us' w) → RSeqF P ops eff hi f J Q π us (some v) (a.put o.dst v)) : RSeqF P ops eff hi f J Q (i :: π) us fo a:=by
 unfold RSeqF;rw [if_pos (by simpa using hf)]
 have hd : dstOf ops i = o.dst:=by simp [dstOf,ho]
 exact fun v hv=>by rw [hd];exact h v hv
end steps
end
end Go.Proofs.YtihfcjioilmmjaaGreat.Rt
namespace Go.Proofs.YtihfcjioilmmjaaGreat
open Go Go.RowKit
section
open Go.Lib Go.Proofs
def Kc (W W' : World) : Prop:=∀ a v,W.cell? a = some v → W'.cell? a = some v
theorem SlAt.kc {W W' : World} (h : Kc W W') {v : Value} {k n : Nat} {xs : List Value} (hs : SlAt W v k n xs) : SlAt W' v k n xs:=by
 obtain ⟨a,cap,h1,h2,h2',h3,h4⟩:=hs;exact ⟨a,cap,h1,h2,h2',h3,fun j u hu=>let ⟨b,off,e,hc⟩:=h4 j u hu;⟨b,off,e,h _ _ hc⟩⟩
theorem FactsAt.kc {W W' : World} (h : Kc W W') {v : Value} {l : List Fct} (hs : FactsAt W v l) : FactsAt W' v l:=by
 obtain ⟨vs,h1,h2,h3⟩:=hs;exact ⟨vs,h1,h2.kc h,fun x hx=>⟨⟨(h3 x hx).1.1.kc h,(h3 x hx).1.2⟩,(h3 x hx).2⟩⟩
def EmptyAt (wr : World) (v : Value) (W : World) : Prop:=∃ b,v = .slice (some ⟨b,0,none⟩) 0 0 ∧ wr.heap.size ≤ b ∧ W.heap[b]? = some (.cells #[] 3 (0,0))
theorem EmptyAt.ext {wr : World} {v : Value} {W W' : World} (h : EmptyAt wr v W) (hx : Ext W W') : EmptyAt wr v W':=let ⟨b,h1,h2,h3⟩:=h;⟨b,h1,h2,hx.obj h3⟩
theorem EmptyAt.owns {wr : World} {v : Value} {W : World} (h : EmptyAt wr v W) : W.ownsRow wr.heap.size 3 1 v 0 []:=by
 obtain ⟨b,rfl,h2,h3⟩:=h;exact ⟨rfl,.inr ⟨b,0,#[],rfl,h2,h3,Nat.le_refl _,Nat.zero_le _,rfl,rfl⟩⟩
theorem EmptyAt.kc {wr : World} {v : Value} {W W' : World} (h : EmptyAt wr v W) (hg : W.grownBy W' v.ownBlock) : Kc W W':=fun a u hc=>by
 obtain ⟨b,rfl,h2,h3⟩:=h;have hlt:=cell_lt hc;have hne : a.block ≠ b:=fun e=>by
  unfold World.cell? at hc
  rw [e,h3] at hc;simp at hc
 have hk:=hg.block a.block hlt (fun e=>hne (by simpa [Value.ownBlock] using e))
 rw [World.cell?_of_block hk];exact hc
theorem EmptyAt.keep {wr : World} {v u : Value} {W W' : World} (h : EmptyAt wr v W) (hu : EmptyAt wr u W) (hne : v ≠ u) (hg : W.grownBy W' u.ownBlock) : EmptyAt wr v W':=by
 obtain ⟨b,rfl,h2,h3⟩:=h;obtain ⟨c,rfl,_,_⟩:=hu;refine ⟨b,rfl,h2,?_⟩
 have hbk:=hg.block b (heap_lt h3) (fun e=>hne (by simp only [Value.ownBlock,Option.some.injEq] at e;rw [e]))
 rw [hbk];exact h3
theorem EmptyAt.grown {wr : World} {u : Value} {W W' : World} (hx : Ext wr W) (hu : EmptyAt wr u W) (hg : W.grownBy W' u.ownBlock) : Ext wr W':=by
 obtain ⟨c,rfl,h2,_⟩:=hu;exact Below.grown hx hg hx.size fun j hj=>by simp [Value.ownBlock] at hj;omega
def MrJ (wr : World) (ps : List Int) (adds : List Fct) (ws : List Int) (Out : Value → World → Prop) (fo : Option Value) (us : List Value) (W : World) : Prop:=match us with
 | []=>Ext wr W ∧ (∀ v,fo = some v → EmptyAt wr v W)
 | [u1]=>Ext wr W ∧ (∀ v,fo = some v → EmptyAt wr v W) ∧ EmptyAt wr u1 W ∧ ∀ v,fo = some v → v ≠ u1
 | [_,u7]=>Ext wr W ∧ (∀ v,fo = some v → EmptyAt wr v W) ∧ IntsAt W u7 ps
 | [_,u7,u13]=>Ext wr W ∧ (∀ v,fo = some v → EmptyAt wr v W) ∧ IntsAt W u7 ps ∧ FactsAt W u13 adds
 | [_,u7,u13,u20]=>fo.isSome = true ∧ Ext wr W ∧ IntsAt W u7 ps ∧ FactsAt W u13 adds ∧ IntsAt W u20 ws
 | _ :: _ :: _ :: _ :: u21 :: _=>fo.isSome = true ∧ Out u21 W
theorem MrJ.pre {wr : World} {ps : List Int} {adds : List Fct} {ws : List Int} {Out : Value → World → Prop} {fo : Option Value} {us : List Value} {W : World} (h : MrJ wr ps adds ws Out fo us W) (hl : us.length ≤ 4) : Ext wr W:=by
 match us,h,hl with
 | [],h,_=>exact h.1
 | [_],h,_=>exact h.1
 | [_,_],h,_=>exact h.1
 | [_,_,_],h,_=>exact h.1
 | [_,_,_,_],h,_=>exact h.2.1
 | _ :: _ :: _ :: _ :: _ :: _,_,h=>simp at h
theorem MrJ.float {wr : World} {ps : List Int} {adds : List Fct} {ws : List Int} {Out : Value → World → Prop} {us : List Value} {W : World} (h : MrJ wr ps adds ws Out none us W) : MrJ wr ps adds ws Out (some (.slice (some ⟨W.heap.size,0,none⟩) 0 0)) us (W.alloc (.cells #[] 3 (0,0))):=by
 have hx : Ext W (W.alloc (.cells #[] 3 (0,0))):=by exact bel
 obtain ⟨W',hW⟩ : ∃ W',W' = W.alloc (.cells #[] 3 (0,0)):=⟨_,rfl⟩;have hb : W'.heap[W.heap.size]? = some (.cells #[] 3 (0,0)):=by rw [hW];simp only [zH,World.size_alloc,World.size_setCell];(repeat (first | rw [if_pos trivial] | rw [if_pos rfl] | rw [if_neg (by omega)] | rw [if_pos (by omega)]))
 rw [← hW] at hx ⊢
 clear hW;have he : wr.heap.size ≤ W.heap.size → ∀ v,some (Value.slice (some ⟨W.heap.size,0,none⟩) 0 0) = some v → EmptyAt wr v W':=fun hpre v hv=>by
  obtain rfl:=zI hv;exact ⟨W.heap.size,rfl,hpre,hb⟩
 match us,h with
 | [],h=>exact ⟨h.1.trans' hx,he h.1.size⟩
 | [_],h=>
  refine ⟨h.1.trans' hx,he h.1.size,h.2.2.1.ext hx,fun v hv=>?_⟩
  obtain rfl:=zI hv;obtain ⟨b,rfl,_,hb⟩:=h.2.2.1;have:=heap_lt hb
  intro e
  simp only [Value.slice.injEq,Option.some.injEq,Addr.mk.injEq] at e;omega
 | [_,_],h=>exact ⟨h.1.trans' hx,he h.1.size,h.2.2.ext hx⟩
 | [_,_,_],h=>exact ⟨h.1.trans' hx,he h.1.size,h.2.2.1.ext hx,h.2.2.2.ext hx⟩
 | [_,_,_,_],h=>cases h.1
 | _ :: _ :: _ :: _ :: _ :: _,h=>cases h.1
theorem MrJ.first {wr : World} {ps : List Int} {adds : List Fct} {ws : List Int} {Out : Value → World → Prop} {fo : Option Value} {W : World} (h : MrJ wr ps adds ws Out fo [] W) : MrJ wr ps adds ws Out fo [.slice (some ⟨W.heap.size,0,none⟩) 0 0] (W.alloc (.cells #[] 3 (0,0))):=by
 have hx : Ext W (W.alloc (.cells #[] 3 (0,0))):=by exact bel
 obtain ⟨W',hW⟩ : ∃ W',W' = W.alloc (.cells #[] 3 (0,0)):=⟨_,rfl⟩;have hb : W'.heap[W.heap.size]? = some (.cells #[] 3 (0,0)):=by rw [hW];simp only [zH,World.size_alloc,World.size_setCell];(repeat (first | rw [if_pos trivial] | rw [if_pos rfl] | rw [if_neg (by omega)] | rw [if_pos (by omega)]))
 rw [← hW] at hx ⊢
 clear hW;refine ⟨h.1.trans' hx,fun v hv=>(h.2 v hv).ext hx,⟨_,rfl,h.1.size,hb⟩,fun v hv=>?_⟩
 obtain ⟨b,rfl,_,hc⟩:=h.2 v hv;have:=heap_lt hc
 intro e
 simp only [Value.slice.injEq,Option.some.injEq,Addr.mk.injEq] at e;omega
theorem ext_keep {w W2 W3 : World} {B : Nat} (h1 : Ext w W2) (hs : w.heap.size ≤ B) (hK : Keep B W2 W3) : Ext w W3:=by
 refine ⟨hK.os.trans h1.os,hK.tape.trans h1.tape,hK.output.trans h1.output,Nat.le_trans h1.size hK.size,fun k hk=>?_⟩
 obtain ⟨o,ho⟩ : ∃ o,w.heap[k]? = some o:=⟨_,Array.getElem?_eq_getElem hk⟩;rw [ho];exact hK.block k o (h1.obj ho) (.inl (by omega))
theorem Keep.owns {B : Nat} {W W' : World} (hK : Keep B W W') {base : Nat} {T : TypeId} {k : Nat} {v : Value} {n : Nat} {xs : List Value} (h : W.ownsRow base T k v n xs) (hT : T ≠ 100 ∧ T ≠ 96 ∧ T ≠ 122) : W'.ownsRow base T k v n xs:=
 owns_keep h fun g cs _ hg=>(hK.block g _ hg (.inr fun cs' T' fr' e=>by
  injection e with e1 e2 e3
  subst e2;exact hT)).trans hg.symm
structure MgI (w : World) (N : Nat) (ops : List OpD) (rb : Nat) (pv : Value) (j : Nat) (R : Rec) (P : List (List Int)) (pvs : List Value) (cm : Nat) (vv fv : Value) (os : List (Option Nat × Option Nat)) (xs : List (List Value)) (B : Nat) (wr : World) : Prop where
 ext : Ext w wr
 base : w.heap.size ≤ B
 reco : RecAt B wr rb R cm vv fv os xs
 hist : Hist R P
 few : P.length ≤ j + 1
 one : 1 ≤ P.length
 row : wr.ownsRow N 35 1 pv P.length pvs
 low : w.heap.size ≤ N
 size : N ≤ wr.heap.size
 pars : ∀ (i : Nat) u ps,pvs[i]? = some u → P[i]? = some ps → IntsAt w u ps
 facts : R.facts.length ≤ 8 * j
theorem RecAt.frm {B : Nat} {w w' : World} {rb : Nat} {R : Rec} {cm : Nat} {vv fv : Value} {os : List (Option Nat × Option Nat)} {xs : List (List Value)} (h : RecAt B w rb R cm vv fv os xs) {e : TypeId} (hf : Frm e w w') (he : (100 : TypeId) ≠ e ∧ (96 : TypeId) ≠ e ∧ (122 : TypeId) ≠ e ∧ (104 : TypeId) ≠ e ∧ (9 : TypeId) ≠ e) : RecAt B w' rb R cm vv fv os xs:=
 {base:=h.base,blk:=hf.cells h.blk he.1,cols:=hf.map h.cols,colAt:=fun c hc=>(h.colAt c hc |> hf.colK he.2.2.2.1 he.2.2.2.2)
  vers:=hf.owns h.vers he.2.1
  verLen:=h.verLen
  verAt:=fun i o v ho hv=>⟨hf.mapV (h.verAt i o v ho hv).1,hf.mapV (h.verAt i o v ho hv).2⟩
  facts:=hf.owns h.facts he.2.2.1
  factLen:=h.factLen,four:=h.four,ok:=h.ok }
theorem MgI.stay {w : World} {N : Nat} {ops : List OpD} {rb : Nat} {pv : Value} {j : Nat} {R : Rec} {P : List (List Int)} {pvs : List Value} {cm : Nat} {vv fv : Value} {os : List (Option Nat × Option Nat)} {xs : List (List Value)} {B : Nat} {wr W : World} (h : MgI w N ops rb pv j R P pvs cm vv fv os xs B wr) (hx : Ext wr W) {j' : Nat} (hj : j ≤ j') : MgI w N ops rb pv j' R P pvs cm vv fv os xs B W:=
 {ext:=h.ext.trans' hx,base:=h.base,reco:=h.reco.ext hx,hist:=h.hist,few:=by have:=h.few;omega,one:=h.one
  row:=owns_keep h.row fun g cs _ hg=>hx.block g (heap_lt hg)
  low:=h.low,size:=Nat.le_trans h.size hx.size,pars:=h.pars,facts:=by have:=h.facts;omega }
theorem info35 : (Tryz.prog.info? 35).map (fun i=>(i.zero,i.size,i.bytes)) = some (some (.slice none 0 0),1,24):=by kernel_rfl
theorem MgI.step {w : World} {N : Nat} {ops : List OpD} {rb : Nat} {pv : Value} {j : Nat} {R : Rec} {P : List (List Int)} {pvs : List Value} {cm : Nat} {vv fv : Value} {os : List (Option Nat × Option Nat)} {xs : List (List Value)} {B : Nat} {wr W W0 : World} (h : MgI w N ops rb pv j R P pvs cm vv fv os xs B wr)
  {ps : List Int} {adds : List Fct} {ws : List Int} {frs : List FR} {la lw : List (Int × Value)} {v' f' : Value} {os' : List (Option Nat × Option Nat)} {xs' : List (List Value)} (hC : ComOk R ps adds ws frs la lw) (hR : RecAt B W rb (commitR R frs la lw) cm v' f' os' xs') (hx : Ext wr W0) (hK : Keep B W0 W) {u : Value} (hu : IntsAt w u ps) (h1 : u.oneCell' = true) (ha : adds.length ≤ 8) (hj : j ≤ 25) (hBN : B ≤ N) :
  ∃ pv' w',(Builtin.append_ #[71,71] 71 #[pv,.slice (some ⟨W.heap.size,0,none⟩) 1 1]).run Tryz.prog (W.alloc (.cells #[u] 35 (0,0))) = .ok pv' w' ∧ MgI w N ops rb pv' (j + 1) (commitR R frs la lw) (P ++ [ps]) (pvs ++ [u]) cm v' f' os' xs' B w':=by
 have hx0 : Ext w W:=ext_keep (h.ext.trans' hx) h.base hK;have hlen:=h.row.1;have hrow0 : W.ownsRow N 35 1 pv P.length pvs:=hK.owns (owns_keep h.row fun g cs _ hg=>hx.block g (heap_lt hg)) (by decide)
 obtain ⟨W9,hW9⟩ : ∃ W9,W9 = W.alloc (.cells #[u] 35 (0,0)):=⟨_,rfl⟩;have hx9 : Ext W W9:=by rw [hW9];exact bel
 have hb9 : W9.heap[W.heap.size]? = some (.cells #[u] 35 (0,0)):=by rw [hW9];exact zG
 have hrow9 : W9.ownsRow N 35 1 pv P.length pvs:=owns_keep hrow0 fun g cs _ hg=>hx9.block g (heap_lt hg)
 have hN : N ≤ W9.heap.size:=Nat.le_trans h.size (Nat.le_trans hx.size (Nat.le_trans hK.size hx9.size));rw [← hW9];have hml : (1000000 : Nat) ≤ maxLen:=by decide
 have hfew:=h.few;obtain ⟨i0,hi,hz0,hz1,hz2⟩:=info_parts info35;obtain ⟨pv',w',q1,q2,q3,_⟩:=run_append_own (P:=Tryz.prog) (w:=W9) N 71 71 35 i0 _ 1 24 (by kernel_rfl) hi hz0 hz1 hz2 rfl (by decide) pv P.length pvs hrow9 ⟨W.heap.size,0,none⟩ 1 1 [u] rfl (fun j u hj=>add_cell (by rw [Nat.zero_add,cell_of hb9 j,List.getElem?_toArray];exact hj)) (fun x hx=>by obtain rfl:=List.mem_singleton.1 hx;exact h1) (by omega) (by omega) hN
 have hfr:=frm_grown hrow9 q3;refine ⟨pv',w',q1,?_⟩
 exact
  {ext:=(hx0.trans' hx9).grown q3 (Nat.le_trans hx0.size hx9.size) fun k hk=>Nat.le_trans h.low (owns_block hrow9 hk).1
   base:=h.base
   reco:=(hR.ext hx9).frm hfr (by decide)
   hist:=h.hist.commit hC
   few:=by rw [List.length_append];simp;omega
   one:=by rw [List.length_append];simp
   row:=by rw [List.length_append];exact q2
   low:=h.low
   size:=Nat.le_trans hN q3.size
   pars:=fun i x ps' hxi hpi=>by
    have hpl : pvs.length = P.length:=by simpa using hlen
    by_cases hlt : i < P.length
    ·rw [List.getElem?_append_left (by omega)] at hxi
     rw [List.getElem?_append_left hlt] at hpi;exact h.pars i x ps' hxi hpi
    ·have hi2:=(List.getElem?_eq_some_iff.1 hpi).1;simp at hi2
     have e : i = P.length:=by omega
     subst e;rw [List.getElem?_append_right (by omega),hpl,Nat.sub_self] at hxi
     rw [List.getElem?_append_right (Nat.le_refl _),Nat.sub_self] at hpi;obtain rfl:=zI hxi;obtain rfl:=zI hpi;exact hu
   facts:=by
    have:=h.facts
    have:=hC.len
    unfold commitR;simp only [List.length_append];omega }
theorem nil_ints (w : World) : IntsAt w (.slice none 0 0) []:=⟨none,0,rfl,Nat.le_refl _,Nat.zero_le _,rfl,fun j u hu=>by simp at hu⟩
end
end Go.Proofs.YtihfcjioilmmjaaGreat
namespace Go.Proofs.YtihfcjioilmmjaaGreat
open Go Go.RowKit
open Go.Lib Go.Proofs
structure PatC (w : World) (o : Int) (at_ : ByteArray) (p : Option Addr) (n c : Nat) (l h : Int) (p2 : Option Addr) (n2 c2 : Nat) (p6 : Option Addr) (c6 : Nat) (own : Exp) (parts : List Exp) : Prop where
 own : ExpAt w [.int .u8 o,.string at_,.slice p n c,.int .i64 l,.int .i64 h,.slice p2 n2 c2] own
 parts : ExpsAt w (.slice p6 parts.length c6) parts
theorem PatC.ext {w w' : World} {o : Int} {at_ : ByteArray} {p : Option Addr} {n c : Nat} {l h : Int} {p2 : Option Addr} {n2 c2 : Nat} {p6 : Option Addr} {c6 : Nat} {own : Exp} {parts : List Exp} (k : PatC w o at_ p n c l h p2 n2 c2 p6 c6 own parts) (hx : Ext w w') : PatC w' o at_ p n c l h p2 n2 c2 p6 c6 own parts:=⟨k.own.ext hx,k.parts.ext hx⟩
theorem pat_form {w : World} {cs : List Value} {own : Exp} {parts : List Exp} (h : PatAt w cs own parts) : ∃ o at_ p n c l h p2 n2 c2 p6 c6,cs = [.int .u8 o,.string at_,.slice p n c,.int .i64 l,.int .i64 h,.slice p2 n2 c2,.slice p6 parts.length c6] ∧ PatC w o at_ p n c l h p2 n2 c2 p6 c6 own parts:=by
 obtain ⟨ec,v,rfl,h1,h2⟩:=h;obtain ⟨o,at_,p,n,c,l,h,p2,n2,c2,rfl⟩:=exp_form h1;obtain ⟨p6,c6,rfl,_⟩:=h2.at;exact ⟨o,at_,p,n,c,l,h,p2,n2,c2,p6,c6,rfl,h1,h2⟩
def opOf (adds : List Fct) (own : Exp) (parts : List Exp) : OpD:=⟨0,[],[],adds,0,0,⟨#[]⟩,⟨#[]⟩,own,parts⟩
theorem opOf_at {w : World} {av : Value} {adds : List Fct} (ha : FactsAt w av adds) (hb : ∀ f ∈ adds,FactBig f) {pc : List Value} {own : Exp} {parts : List Exp} (hp : PatAt w pc own parts) (hpb : PatBig own parts) : OpAt w ([.int .i64 0,.slice none 0 0,.slice none 0 0,av,.int .i64 0,.int .i64 0,.string ⟨#[]⟩,.string ⟨#[]⟩] ++ pc) (opOf adds own parts):=
 {cells:=⟨_,_,_,pc,rfl,nil_ints w,nil_ints w,ha,hp⟩,pok:=fun i hi=>(by cases hi),wok:=fun i hi=>(by cases hi),big:=hb,sub:=(show (⟨#[]⟩ : ByteArray).size ≤ maxLen by decide),att:=(show (⟨#[]⟩ : ByteArray).size ≤ maxLen by decide),nums:=(show i64ok 0 ∧ i64ok 0 from ⟨⟨by decide,by decide⟩,by decide,by decide⟩),pbig:=hpb }
theorem ops_one {w : World} {b : Nat} {c1 : List Value} {o1 : OpD} (h1 : OpAt w c1 o1) (l1 : c1.length = 15) (hb : w.heap[b]? = some (.cells c1.toArray 37 (0,0))) : OpsAt w (.slice (some ⟨b,0,none⟩) 1 1) [o1]:=by
 refine ⟨[c1],rfl,⟨some ⟨b,0,none⟩,1,rfl,Nat.le_refl _,(show (1 : Nat) ≤ maxLen by decide),by simp [l1],fun j u hu=>⟨b,0,rfl,?_⟩⟩,?_,?_⟩
 ·rw [Nat.zero_add,cell_of hb,List.getElem?_toArray]
  simpa using hu
 ·intro c hc
  rw [List.mem_singleton.1 hc];exact l1
 ·intro i c k hc hk
  match i,hc,hk with
  | 0,hc,hk=>
   obtain rfl:=zI hc;obtain rfl:=zI hk;exact h1
  | i + 1,hc,_=>simp at hc
theorem narrow_facts {l : List Fct} (h : wideFactsF l = false) : l.length ≤ 8 ∧ ∀ f ∈ l,f.values.length ≤ 10 ∧ f.subject.size ≤ 60:=by
 unfold wideFactsF at h;rw [Bool.or_eq_false_iff,decide_eq_false_iff_not] at h;refine ⟨by omega,fun f hf=>?_⟩
 have:=(List.any_eq_false.1 h.1) f hf
 unfold wideFact at this;simp only [Bool.or_eq_true,decide_eq_true_eq] at this;omega
theorem psum_ge : ∀ (l : List Exp) (n : Nat),n ≤ psum l n ∧ ∀ e ∈ l,countF 12 e ≤ psum l n
 | [],n=>⟨Nat.le_refl _,fun e he=>by cases he⟩
 | e :: r,n=>by
  obtain ⟨h1,h2⟩:=psum_ge r (n + countF 12 e)
  show n ≤ psum r (n + countF 12 e) ∧ _
  refine ⟨by omega,fun k hk=>?_⟩
  show countF 12 k ≤ psum r (n + countF 12 e)
  rcases List.mem_cons.1 hk with rfl | hk
  ·omega
  ·exact h2 k hk
theorem narrow_pat {own : Exp} {parts : List Exp} (h : widePatF own parts = false) : own.nodes ≤ 40 ∧ parts.length ≤ 6 ∧ ∀ e ∈ parts,e.nodes ≤ 40:=by
 unfold widePatF at h;simp only [Bool.or_eq_false_iff,decide_eq_false_iff_not] at h;have ht : parts.take 50 = parts:=List.take_of_length_le (by omega)
 rw [ht] at h;obtain ⟨h1,h2⟩:=psum_ge parts (countF 12 own);refine ⟨?_,by omega,fun e he=>?_⟩
 ·have:=countF_nodes 12 own (by omega);omega
 ·have:=h2 e he
  have:=countF_nodes 12 e (by omega);omega
theorem narrow_opOf {l : List Fct} {own : Exp} {parts : List Exp} (h : wideOp (opOf l own parts) = false) : wideFactsF l = false ∧ widePatF own parts = false:=by
 unfold wideOp opOf at h;simp only [Bool.or_eq_false_iff] at h;exact ⟨h.1,h.2.1⟩
def CoPost (B rb : Nat) (R : Rec) (cm : Nat) (ps : List Int) (adds : List Fct) (wr : World) (e : Ending) (W : World) : Prop:=
 ∃ n er : Int,e = .returned (.tuple #[.int .i64 n,.int .i64 er]) ∧ ((er ≠ 0 ∧ Ext wr W) ∨ (er = 0 ∧ n = (R.vers.length : Int) ∧ ∃ frs la lw v' f' os' xs',ComOk R ps adds [] frs la lw ∧ RecAt B W rb (commitR R frs la lw) cm v' f' os' xs' ∧ Keep B wr W))
theorem commit_gen {B : Nat} {w : World} {rb : Nat} {R : Rec} {cm : Nat} {vv fv : Value} {os : List (Option Nat × Option Nat)} {xs : List (List Value)} (h : RecAt B w rb R cm vv fv os xs) (hg : Glob w) (pv av : Value) (ps : List Int) (hps : IntsAt w pv ps) (hpl : ps.length ≤ 1000) (adds : List Fct) (hadds : FactsAt w av adds) (hal : adds.length ≤ 1000) (hok : ∀ f ∈ adds,f.subject.size ≤ 60 ∧ FactBig f) :
  Calls Tryz.prog 12 #[encP rb,pv,av,.slice none 0 0] w (CoPost B rb R cm ps adds w):=by
 refine commit_try h hg pv av _ ps hps (by omega) adds hadds hal (fun f hf=>⟨Nat.lt_of_le_of_lt (hok f hf).1 (by decide),(hok f hf).2⟩) [] (nil_ints w) _ ?_ ?_ ?_ ?_ ?_ ?_
 ·exact fun W hx _=>⟨0,2,rfl,.inl ⟨by decide,hx⟩⟩
 ·exact fun W hx _ _=>⟨0,110,rfl,.inl ⟨by decide,hx⟩⟩
 ·exact fun W hx _ _ _=>⟨0,112,rfl,.inl ⟨by decide,hx⟩⟩
 ·exact fun W hx _=>⟨0,7,rfl,.inl ⟨by decide,hx⟩⟩
 ·exact fun W hx _=>⟨0,8,rfl,.inl ⟨by decide,hx⟩⟩
 ·exact fun W frs la lw v' f' os' xs' hC hR hK=>⟨_,0,rfl,.inr ⟨rfl,rfl,frs,la,lw,v',f',os',xs',hC,hR,hK⟩⟩
theorem facts_one {w : World} {b off n c : Nat} {l : List Fct} (h : FactsAt w (.slice (some ⟨b,off,none⟩) n c) l) {i : Nat} {f : Fct} (hf : l[i]? = some f) (hn : 1 ≤ c - i) : FactsAt w (.slice (some ⟨b,off + i * 5,none⟩) 1 (c - i)) [f]:=by
 obtain ⟨a,cap,he,hcap,hel⟩:=RowsAt.at (cells:=factCells) (by decide) (fun _ _=>rfl) h
 simp only [Value.slice.injEq] at he;obtain ⟨rfl,rfl,rfl⟩:=he;obtain ⟨b',off',u,e,hu,hc⟩:=hel i f hf;simp only [Option.some.injEq,Addr.mk.injEq] at e;obtain ⟨rfl,rfl,_⟩:=e;refine ⟨[u],rfl,⟨_,_,rfl,hn,(show (1 : Nat) ≤ maxLen by decide),rfl,fun j v hv=>⟨b,off + i * 5,rfl,?_⟩⟩,fun x hx=>?_⟩
 ·rw [show off + i * 5 + j = off + (i * 5 + j) by omega]
  refine hc j v ?_
  simpa using hv
 ·rw [show [f].zip [u] = [(f,u)] from rfl,List.mem_singleton] at hx
  subst hx;exact hu
def knZero : Array Value:=#[.slice none 0 0,.int .i64 0,.int .i64 0,.slice none 0 0,.bool false]
def KnJ (wr : World) (D : Bool → Int → Prop) (fo : Option Value) (us : List Value) (W : World) : Prop:=
 Ext wr W ∧ match us with
 | []=>∀ v,fo = some v → ∃ b,v = .pointer (some ⟨b,0,none⟩) ∧ wr.heap.size ≤ b ∧ W.heap[b]? = some (.cells knZero 52 (0,0))
 | [u]=>(∀ v,fo = some v → ∃ b,v = .pointer (some ⟨b,0,none⟩) ∧ wr.heap.size ≤ b ∧ W.heap[b]? = some (.cells knZero 52 (0,0))) ∧
  ∃ (p1 : Option Addr) (n1 c1 : Nat) (lo hi : Int) (p2 : Option Addr) (n2 c2 : Nat) (d : Bool) (er : Int),u = .tuple #[.agg #[.slice p1 n1 c1,.int .i64 lo,.int .i64 hi,.slice p2 n2 c2,.bool d],.int .i64 er] ∧ D d er
 | u :: _ :: _=>∃ (b : Nat) (p1 : Option Addr) (n1 c1 : Nat) (lo hi : Int) (p2 : Option Addr) (n2 c2 : Nat) (d : Bool) (er : Int),fo = some (.pointer (some ⟨b,0,none⟩)) ∧ u = .tuple #[.agg #[.slice p1 n1 c1,.int .i64 lo,.int .i64 hi,.slice p2 n2 c2,.bool d],.int .i64 er] ∧ D d er ∧ wr.heap.size ≤ b ∧ W.heap[b]? = some (.cells #[.slice p1 n1 c1,.int .i64 lo,.int .i64 hi,.slice p2 n2 c2,.bool d] 52 (0,0))
theorem KnJ.ext {wr : World} {D : Bool → Int → Prop} {fo : Option Value} {us : List Value} {W : World} (h : KnJ wr D fo us W) : Ext wr W:=h.1
theorem KnJ.ptr {wr : World} {D : Bool → Int → Prop} {v : Value} {us : List Value} {W : World} (h : KnJ wr D (some v) us W) : ∃ b,v = .pointer (some ⟨b,0,none⟩) ∧ wr.heap.size ≤ b:=by
 obtain ⟨_,h⟩:=h
 match us,h with
 | [],h=>obtain ⟨b,h1,h2,_⟩:=h v rfl;exact ⟨b,h1,h2⟩
 | [_],h=>obtain ⟨b,h1,h2,_⟩:=h.1 v rfl;exact ⟨b,h1,h2⟩
 | _ :: _ :: _,h=>obtain ⟨b,_,_,_,_,_,_,_,_,_,_,h1,_,_,h2,_⟩:=h;exact ⟨b,zI h1,h2⟩
theorem KnJ.float {wr : World} {D : Bool → Int → Prop} {us : List Value} {W : World} (h : KnJ wr D none us W) : KnJ wr D (some (.pointer (some ⟨W.heap.size,0,none⟩))) us (W.alloc (.cells knZero 52 (0,0))):=by
 have hx : Ext W (W.alloc (.cells knZero 52 (0,0))):=by exact bel
 have hb : (W.alloc (.cells knZero 52 (0,0))).heap[W.heap.size]? = some (.cells knZero 52 (0,0)):=by simp only [zH,World.size_alloc,World.size_setCell];(repeat (first | rw [if_pos trivial] | rw [if_pos rfl] | rw [if_neg (by omega)] | rw [if_pos (by omega)]))
 obtain ⟨h0,h⟩:=h;refine ⟨h0.trans' hx,?_⟩
 match us,h with
 | [],_=>exact fun v hv=>⟨W.heap.size,(zI hv).symm,h0.size,hb⟩
 | [_],h=>exact ⟨fun v hv=>⟨W.heap.size,(zI hv).symm,h0.size,hb⟩,h.2⟩
 | _ :: _ :: _,h=>obtain ⟨b,_,_,_,_,_,_,_,_,_,_,h1,_⟩:=h;cases h1
theorem KnJ.call {wr : World} {D : Bool → Int → Prop} {fo : Option Value} {W W' : World} (h : KnJ wr D fo [] W) (hx : Ext W W') {p1 : Option Addr} {n1 c1 : Nat} {lo hi : Int} {p2 : Option Addr} {n2 c2 : Nat} {d : Bool} {er : Int} (hd : D d er) : KnJ wr D fo [.tuple #[.agg #[.slice p1 n1 c1,.int .i64 lo,.int .i64 hi,.slice p2 n2 c2,.bool d],.int .i64 er]] W':=
 ⟨h.1.trans' hx,fun v hv=>let ⟨b,h1,h2,h3⟩:=h.2 v hv;⟨b,h1,h2,hx.obj h3⟩,p1,n1,c1,lo,hi,p2,n2,c2,d,er,rfl,hd⟩
theorem KnJ.form {wr : World} {D : Bool → Int → Prop} {fo : Option Value} {u : Value} {W : World} (h : KnJ wr D fo ([] ++ [u]) W) : ∃ (p1 : Option Addr) (n1 c1 : Nat) (lo hi : Int) (p2 : Option Addr) (n2 c2 : Nat) (d : Bool) (er : Int),u = .tuple #[.agg #[.slice p1 n1 c1,.int .i64 lo,.int .i64 hi,.slice p2 n2 c2,.bool d],.int .i64 er]:=by
 obtain ⟨_,_,p1,n1,c1,lo,hi,p2,n2,c2,d,er,e,_⟩:=h;exact ⟨p1,n1,c1,lo,hi,p2,n2,c2,d,er,e⟩
theorem KnJ.zero {wr : World} {D : Bool → Int → Prop} {b : Nat} {u : Value} {W : World} (h : KnJ wr D (some (.pointer (some ⟨b,0,none⟩))) [u] W) : W.heap[b]? = some (.cells knZero 52 (0,0)):=by
 obtain ⟨b',e,_,h2⟩:=h.2.1 _ rfl;simp only [Value.pointer.injEq,Option.some.injEq,Addr.mk.injEq,and_true] at e;rw [e];exact h2
theorem KnJ.store {wr : World} {D : Bool → Int → Prop} {b : Nat} {p1 : Option Addr} {n1 c1 : Nat} {lo hi : Int} {p2 : Option Addr} {n2 c2 : Nat} {d : Bool} {er : Int} {W : World} (h : KnJ wr D (some (.pointer (some ⟨b,0,none⟩))) [.tuple #[.agg #[.slice p1 n1 c1,.int .i64 lo,.int .i64 hi,.slice p2 n2 c2,.bool d],.int .i64 er]] W) (v : Value) :
  KnJ wr D (some (.pointer (some ⟨b,0,none⟩))) [.tuple #[.agg #[.slice p1 n1 c1,.int .i64 lo,.int .i64 hi,.slice p2 n2 c2,.bool d],.int .i64 er],v]
   (((((W.setCell ⟨b,0,none⟩ (.slice p1 n1 c1)).setCell ⟨b,1,none⟩ (.int .i64 lo)).setCell ⟨b,2,none⟩ (.int .i64 hi)).setCell ⟨b,3,none⟩ (.slice p2 n2 c2)).setCell ⟨b,4,none⟩ (.bool d)):=by
 obtain ⟨b',e,hb,_⟩:=h.2.1 _ rfl;simp only [Value.pointer.injEq,Option.some.injEq,Addr.mk.injEq,and_true] at e;subst e;have hz:=h.zero;obtain ⟨hx,_,q1,m1,k1,lo',hi',q2,m2,k2,d',er',e2,hd⟩:=h;simp only [Value.tuple.injEq,Array.mk.injEq,List.cons.injEq,Value.agg.injEq,Value.bool.injEq,Value.int.injEq,and_true,true_and] at e2;obtain ⟨⟨_,_,_,_,rfl⟩,rfl⟩:=e2;refine ⟨by exact bel,b,p1,n1,c1,lo,hi,p2,n2,c2,d,er,rfl,rfl,hd,hb,?_⟩
 simp only [zH,World.size_alloc,World.size_setCell];(repeat (first | rw [if_pos trivial] | rw [if_pos rfl] | rw [if_neg (by omega)] | rw [if_pos (by omega)]))
 rw [hz];rfl
end Go.Proofs.YtihfcjioilmmjaaGreat
namespace Go.Proofs.YtihfcjioilmmjaaGreat
open Go Go.RowKit
open Go.Lib Go.Proofs
theorem filter_at {α : Type} (p : α → Bool) {l : List α} {i : Nat} {t : α} (h : l[i]? = some t) (hp : p t = true) : (l.filter p)[((l.take i).filter p).length]? = some t ∧ ((l.take (i + 1)).filter p).length = ((l.take i).filter p).length + 1:=by
 obtain ⟨hi,e⟩:=List.getElem?_eq_some_iff.1 h;have h1 : l.take (i + 1) = l.take i ++ [t]:=by rw [List.take_add_one,h];rfl
 constructor
 ·have h2 : l = l.take (i + 1) ++ l.drop (i + 1):=(List.take_append_drop _ _).symm
  generalize l.drop (i + 1) = r at h2
  conv=>lhs;arg 1;rw [h2,h1]
  rw [List.filter_append,List.filter_append,List.append_assoc,List.getElem?_append_right (Nat.le_refl _),Nat.sub_self];simp [hp]
 ·rw [h1,List.filter_append];simp [hp]
theorem filter_off {α : Type} (p : α → Bool) {l : List α} {i : Nat} {t : α} (h : l[i]? = some t) (hp : p t = false) : ((l.take (i + 1)).filter p).length = ((l.take i).filter p).length:=by
 have h1 : l.take (i + 1) = l.take i ++ [t]:=by rw [List.take_add_one,h];rfl
 rw [h1,List.filter_append];simp [hp]
theorem LikeN.fn (R : Rec) (hf : List (Int × FR)) (own : Exp) (parts : List Exp) : ∃ K : ByteArray → Int,∀ t k,LikeN R hf own parts t k → k = K t:=by
 classical
 refine ⟨fun t=>if h : ∃ k,LikeN R hf own parts t k then h.choose else 0,fun t k hk=>?_⟩
 have hex : ∃ k,LikeN R hf own parts t k:=⟨k,hk⟩
 show k = dite _ _ _
 rw [dif_pos hex];exact hk.uniq hex.choose_spec
theorem KsOk.map {L : ByteArray → Int → Prop} {l : List (List UInt8)} {ks : List Int} (h : KsOk L l ks) {K : ByteArray → Int} (hK : ∀ t k,L t k → k = K t) : ks = l.map fun t=>K (ofBytes t):=by
 refine List.ext_getElem? fun i=>?_
 rw [List.getElem?_map];cases ht : l[i]? with
 | none=>rw [List.getElem?_eq_none (by have:=List.getElem?_eq_none_iff.1 ht;rw [h.1];exact this)];rfl
 | some t=>
  have hi : i < ks.length:=by rw [h.1];exact (List.getElem?_eq_some_iff.1 ht).1
  have hk : ks[i]? = some ks[i]:=List.getElem?_eq_getElem hi;rw [hk];exact congrArg some (hK _ _ (h.2 i t _ ht hk).1)
theorem KsOk.get {L : ByteArray → Int → Prop} {l : List (List UInt8)} {ks : List Int} (h : KsOk L l ks) {t : List UInt8} (ht : t ∈ l) : ∃ k,L (ofBytes t) k:=by
 obtain ⟨i,hi⟩:=List.mem_iff_getElem?.1 ht;have hl : i < ks.length:=by rw [h.1];exact (List.getElem?_eq_some_iff.1 hi).1
 exact ⟨_,(h.2 i t _ hi (List.getElem?_eq_getElem hl)).1⟩
theorem sub_len {R : Rec} (hok : RecOk R) {ver : Ver} (hv : ver ∈ R.vers) {t : List UInt8} (ht : t ∈ subsV (heldF R ver)) : (ofBytes t).size < 4294967281 ∧ nm (wholeOf (ofBytes t)) = true:=by
 rw [subs_mem] at ht;unfold subsL at ht;obtain ⟨x,hx,hm⟩:=List.mem_flatMap.1 ht;obtain ⟨_,h2,h3,_⟩:=hok.fact _ (heldF_mem hok hv hx);unfold subj at h2;rw [Bool.and_eq_true] at h2;rcases List.mem_cons.1 hm with e | hm
 ·rw [e];exact ⟨h3,h2.1⟩
 ·rw [List.mem_singleton.1 hm];refine ⟨Nat.lt_of_le_of_lt (cut_sizes _).1 h3,?_⟩
  rw [(wholeOf_whole _).1];exact h2.1
theorem whole_self {s : ByteArray} (h : isPart s = false) : wholeOf s = s:=by
 rcases cut_cases s with ⟨_,h2,_⟩ | h2
 ·exact h2
 ·obtain ⟨_,h3,_⟩:=h2;rw [h3] at h;cases h
theorem like_sure {hf : List (Int × FR)} {s : ByteArray} {bad : Prop} {L : ByteArray → Int → Prop} {w w' : World} {r : Ending} (h : LikeRel hf s bad L w r w') (hnm : nm s = true) (hnb : ¬ bad) (htm : tooMany hf = false) {t : List UInt8} (ht : t ∈ subsV hf) (hs : ofBytes t = s) {K : ByteArray → Int} (hK : ∀ t k,L t k → k = K t) : Ext w w' ∧ r = .returned (.tuple #[.int .u8 (K s),.int .i64 0]):=by
 obtain ⟨hx,⟨h1,_⟩ | ⟨_,h1,_⟩ | ⟨_,h1,_⟩ | ⟨_,_,k,rfl,hk,_⟩⟩:=h
 ·rw [h1] at hnm;cases hnm
 ·exact absurd h1 hnb
 ·have:=(List.any_eq_false.1 htm) t ht
  rw [hs] at this;exact absurd (decide_eq_true h1) this
 ·exact ⟨hx,by rw [hK _ _ hk]⟩
end Go.Proofs.YtihfcjioilmmjaaGreat
namespace Go.Proofs.YtihfcjioilmmjaaGreat
open Go Go.RowKit
open Go.Lib Go.Proofs
end Go.Proofs.YtihfcjioilmmjaaGreat
namespace Go.Proofs.YtihfcjioilmmjaaGreat
open Go Go.RowKit
open Go.Lib Go.Proofs
theorem place_at {l : List ByteArray} {v : ByteArray} {n : Nat} (h : place l v = some n) : l[n]? = some v:=by
 obtain ⟨_,_,h3⟩:=placeFrom_lt l v 0 n h
 simpa using h3
theorem readLoop_bit {av : List ByteArray} (hn : av.Nodup) : ∀ (l : List ByteArray) (b : Nat) (last : Int) (r : Nat),readLoop av l b last = some r → ∀ i,r.testBit i = true ↔ b.testBit i = true ∨ ∃ v ∈ l,av[i]? = some v
 | [],b,_,r,h,i=>by
  obtain rfl:=zI h;simp
 | v :: l,b,last,r,h,i=>by
  unfold readLoop at h;cases hp : place av v with
  | none=>rw [hp] at h;cases h
  | some k=>
   rw [hp] at h;have hk:=place_at hp;have hlt : k < av.length:=(List.getElem?_eq_some_iff.1 hk).1;by_cases hl : (k : Int) ≤ last
   ·simp only [if_pos hl] at h;cases h
   ·simp only [if_neg hl] at h;rw [readLoop_bit hn l _ _ r h i,Nat.testBit_or,Bool.or_eq_true,Nat.testBit_two_pow,decide_eq_true_iff];have hki : k = i ↔ av[i]? = some v:=⟨fun e=>e ▸ hk,fun e=>(List.getElem?_inj hlt hn).1 (hk.trans e.symm)⟩
    rw [hki];constructor
    ·rintro ((h1 | h1) | ⟨u,hu,h1⟩)
     ·exact .inl h1
     ·exact .inr ⟨v,List.mem_cons_self,h1⟩
     ·exact .inr ⟨u,List.mem_cons_of_mem _ hu,h1⟩
    ·rintro (h1 | ⟨u,hu,h1⟩)
     ·exact .inl (.inl h1)
     ·rcases List.mem_cons.1 hu with rfl | hu
      ·exact .inl (.inr h1)
      ·exact .inr ⟨u,hu,h1⟩
def inT (a : Attr) (values : List ByteArray) (lo hi : Int) (r : Int) : Bool:=
 if a.values = [] then decide (lo ≤ r) && decide (r ≤ hi) else decide (∃ v ∈ values,a.values[r.toNat]? = some v)
theorem readF_mem {a : Attr} (ha : AttrOk a) {values : List ByteArray} {lo hi : Int} (hr : (readF a values lo hi).2 = true) {r : Int} (hm : memS a (allSt a) r) : memS a (readF a values lo hi).1 r ↔ inT a values lo hi r = true:=by
 unfold readF at hr ⊢
 unfold inT;by_cases hv : a.values = []
 ·rw [if_pos hv,if_pos hv];rw [Bool.and_eq_true,decide_eq_true_iff,decide_eq_true_iff];exact ⟨fun h=>h.1 hv,fun h=>⟨fun _=>h,fun h'=>absurd hv h'⟩⟩
 ·rw [if_neg hv] at hr ⊢
  rw [if_neg hv];cases hl : readLoop a.values values 0 (-1) with
  | none=>rw [hl] at hr;cases hr
  | some b=>
   have hb:=readLoop_bit ha.nodup values 0 (-1) b hl;have h2:=hm.2 hv;rw [decide_eq_true_iff];constructor
   ·intro h
    have:=(hb r.toNat).1 (h.2 hv).2.2
    rw [Nat.zero_testBit] at this;exact this.resolve_left (by decide)
   ·intro h
    exact ⟨fun h'=>absurd h' hv,fun _=>⟨h2.1,h2.2.1,(hb r.toNat).2 (.inr h)⟩⟩
theorem inQ_truth {a : Attr} (ha : AttrOk a) {c : Nat} {values : List ByteArray} {lo hi : Int} (hr : (readF a values lo hi).2 = true) {σ : Nat → Int} (hm : memS a (allSt a) (σ c)) : (inQ a c (readF a values lo hi).1 lo hi).φ σ = inT a values lo hi (σ c):=by
 rw [Bool.eq_iff_iff,← readF_mem ha hr hm]
 show (if a.values = [] then decide ((readF a values lo hi).1.low ≤ σ c) && decide (σ c ≤ (readF a values lo hi).1.high) else (readF a values lo hi).1.bits.testBit (σ c).toNat) = true ↔ _
 by_cases hv : a.values = []
 ·rw [if_pos hv,Bool.and_eq_true,decide_eq_true_iff,decide_eq_true_iff];exact ⟨fun h=>⟨fun _=>h,fun h'=>absurd hv h'⟩,fun h=>h.1 hv⟩
 ·rw [if_neg hv];have h2:=hm.2 hv;exact ⟨fun h=>⟨fun h'=>absurd h' hv,fun _=>⟨h2.1,h2.2.1,h⟩⟩,fun h=>(h.2 hv).2.2⟩
def TrueK (τ : ByteArray → Nat → Int) (hf : List (Int × FR)) : Prop:=∀ y ∈ hf,doubtK hf (keyOf y.2) = true ∨ memS y.2.attr y.2.st (τ y.2.subject y.2.col)
theorem TrueK.of {τ : ByteArray → Nat → Int} {hf : List (Int × FR)} (h : ∀ y ∈ hf,memS y.2.attr y.2.st (τ y.2.subject y.2.col)) : TrueK τ hf:=fun y hy=>.inr (h y hy)
theorem TrueK.snoc {τ : ByteArray → Nat → Int} {hf : List (Int × FR)} (h : TrueK τ hf) {x : Int × FR} (hd : doubtK (hf ++ [x]) (keyOf x.2) = true) : TrueK τ (hf ++ [x]):=fun y hy=>by
 by_cases hk : keyOf x.2 = keyOf y.2
 ·left;rw [← hk];exact hd
 ·rcases List.mem_append.1 hy with hy | hy
  ·rcases h y hy with h1 | h1
   ·left;rw [doubtK_snoc hk];exact h1
   ·exact .inr h1
  ·rw [List.mem_singleton.1 hy] at hk;exact absurd rfl hk
theorem TrueK.mem {τ : ByteArray → Nat → Int} {R : Rec} (hcn : (R.cols.map (·.2)).Nodup) {hf : List (Int × FR)} (hl : ∀ y ∈ hf,(y.2.attr,y.2.col) ∈ R.cols) (h : TrueK τ hf) (hτ : ∀ s a c,(a,c) ∈ R.cols → memS a (allSt a) (τ s c)) {a : Attr} {c : Nat} (hc : (a,c) ∈ R.cols) (s : ByteArray) : memS a (ofV hf (s,c) a) (τ s c):=by
 have hat:=held_attr hcn hl hc s;rw [ofV_mem hf hat];refine ⟨hτ s a c hc,?_⟩
 cases hd : doubtK hf (s,c) with
 | true=>exact .inl rfl
 | false=>
  right
  intro y hy hk
  have e1 : y.2.subject = s:=congrArg Prod.fst hk;have e2 : y.2.col = c:=congrArg Prod.snd hk;rcases h y hy with h1 | h1
  ·rw [hk,hd] at h1;cases h1
  ·rw [hat y hy hk,e1,e2] at h1;exact h1
theorem OutS.real {τ : ByteArray → Nat → Int} {R : Rec} (hcn : (R.cols.map (·.2)).Nodup) {hf : List (Int × FR)} (hl : ∀ y ∈ hf,(y.2.attr,y.2.col) ∈ R.cols) (h : TrueK τ hf) (hτ : ∀ s a c,(a,c) ∈ R.cols → memS a (allSt a) (τ s c)) (s : ByteArray) (qs : List Qn) : OutS R hf s qs (bitsK ((qs.map (·.φ)).map fun φ=>φ (τ s)) qs.length):=
 ⟨τ s,fun _ _ hc _=>h.mem hcn hl hτ hc s,rfl⟩
theorem SetsS.real {τ : ByteArray → Nat → Int} {R : Rec} (hcn : (R.cols.map (·.2)).Nodup) {hf : List (Int × FR)} (hl : ∀ y ∈ hf,(y.2.attr,y.2.col) ∈ R.cols) (h : TrueK τ hf) (hτ : ∀ s a c,(a,c) ∈ R.cols → memS a (allSt a) (τ s c)) (qs : List Qn) (ps : List (List UInt8)) : SetsS R hf qs ps ((ps.map fun p=>bitsK ((qs.map (·.φ)).map fun φ=>φ (τ (ofBytes p))) qs.length).foldl (· ||| ·) 0):=
 ⟨_,by rw [List.length_map],fun i p b hp hb=>by
  rw [List.getElem?_map,hp] at hb;obtain rfl:=zI hb;exact OutS.real hcn hl h hτ _ qs,rfl⟩
theorem foldl_or_bit (j : Nat) : ∀ (l : List Nat) (x : Nat),(l.foldl (· ||| ·) x).testBit j = (x.testBit j || l.any fun b=>b.testBit j)
 | [],x=>by simp
 | b :: l,x=>by
  rw [List.foldl_cons,foldl_or_bit j l,Nat.testBit_or,List.any_cons,Bool.or_assoc]
def likesT (τ : ByteArray → Nat → Int) (q : Qn) (qs : List Qn) (s : ByteArray) (ps : List (List UInt8)) : Bool:=q.φ (τ s) && qs.all fun x=>ps.any fun p=>x.φ (τ (ofBytes p))
theorem bitsK_bit (bs : List Bool) (j : Nat) : ∀ k,(bitsK bs k).testBit j = (decide (j < k) && bs.getD j false)
 | 0=>by simp [bitsK]
 | k + 1=>by
  have ih:=bitsK_bit bs j k;rw [bitsK_succ];by_cases hjk : j = k
  ·subst hjk;cases hb : bs.getD j false with
   | true=>simp [Nat.testBit_or,Nat.testBit_two_pow]
   | false=>
    have h2 : (bitsK bs j).testBit j = false:=Nat.testBit_lt_two_pow (bitsK_small bs j)
    simpa using h2
  ·have h1 : decide (j < k + 1) = decide (j < k):=by
    by_cases h : j < k
    ·rw [decide_eq_true h,decide_eq_true (by omega)]
    ·rw [decide_eq_false h,decide_eq_false (by omega)]
   rw [h1,← ih]
   split
   ·rw [Nat.testBit_or,Nat.testBit_two_pow,decide_eq_false (fun e=>hjk e.symm),Bool.or_false]
   ·rfl
theorem real_full {τ : ByteArray → Nat → Int} (qs : List Qn) (ps : List (List UInt8)) : (ps.map fun p=>bitsK ((qs.map (·.φ)).map fun φ=>φ (τ (ofBytes p))) qs.length).foldl (· ||| ·) 0 = 2 ^ qs.length - 1 ↔ (qs.all fun x=>ps.any fun p=>x.φ (τ (ofBytes p))) = true:=by
 have hbit : ∀ (j : Nat) (q : Qn),qs[j]? = some q → ∀ p : List UInt8,(bitsK ((qs.map (·.φ)).map fun φ=>φ (τ (ofBytes p))) qs.length).testBit j = q.φ (τ (ofBytes p)):=fun j q hq p=>by
  have hj:=(List.getElem?_eq_some_iff.1 hq).1;rw [bitsK_bit,decide_eq_true hj,Bool.true_and,List.getD_eq_getElem?_getD,List.getElem?_map,List.getElem?_map,hq]
  rfl
 constructor
 ·intro h
  rw [List.all_eq_true];intro q hq
  obtain ⟨j,hj⟩:=List.mem_iff_getElem?.1 hq;have hjl:=(List.getElem?_eq_some_iff.1 hj).1;have h1:=congrArg (fun x=>x.testBit j) h
  simp only [foldl_or_bit,Nat.zero_testBit,Bool.false_or,Nat.testBit_two_pow_sub_one,decide_eq_true hjl] at h1;obtain ⟨b,hb,hbb⟩:=List.any_eq_true.1 h1;obtain ⟨p,hp,rfl⟩:=List.mem_map.1 hb;rw [hbit j q hj p] at hbb;exact List.any_eq_true.2 ⟨p,hp,hbb⟩
 ·intro h
  refine Nat.eq_of_testBit_eq fun j=>?_
  rw [foldl_or_bit,Nat.zero_testBit,Bool.false_or,Nat.testBit_two_pow_sub_one];by_cases hj : j < qs.length
  ·rw [decide_eq_true hj];have hq : qs[j]? = some qs[j]:=List.getElem?_eq_getElem hj;obtain ⟨p,hp,hpp⟩:=List.any_eq_true.1 (List.all_eq_true.1 h _ (zM hq));exact List.any_eq_true.2 ⟨_,List.mem_map.2 ⟨p,hp,rfl⟩,by rw [hbit j _ hq p];exact hpp⟩
  ·rw [decide_eq_false hj];rw [List.any_eq_false];intro b hb
   obtain ⟨p,_,rfl⟩:=List.mem_map.1 hb;rw [bitsK_bit,decide_eq_false hj,Bool.false_and];exact Bool.false_ne_true
theorem like_law {τ : ByteArray → Nat → Int} {R : Rec} (hcn : (R.cols.map (·.2)).Nodup) {hf : List (Int × FR)} (hl : ∀ y ∈ hf,(y.2.attr,y.2.col) ∈ R.cols) (h : TrueK τ hf) (hτ : ∀ s a c,(a,c) ∈ R.cols → memS a (allSt a) (τ s c)) {q : Qn} {qs : List Qn} {s : ByteArray} {k : Int} (hk : LikeS R hf q qs s k) :
  (likesT τ q qs s (partsV hf s) = true → k ≠ 3) ∧ (likesT τ q qs s (partsV hf s) = false → k ≠ 1):=by
 have h1:=OutS.real hcn hl h hτ s [q];have h2:=SetsS.real hcn hl h hτ qs (partsV hf s);have e1 : bitsK (([q].map (·.φ)).map fun φ=>φ (τ s)) [q].length = if q.φ (τ s) then 1 else 0:=bitsK_one _
 rw [e1] at h1;have hfull:=real_full (τ:=τ) qs (partsV hf s);unfold likesT;constructor
 ·intro ht hk3
  rw [Bool.and_eq_true] at ht;refine hk.1.1 hk3 ⟨?_,?_⟩
  ·rw [if_pos ht.1] at h1;exact h1
  ·rw [hfull.2 ht.2] at h2;exact h2
 ·intro ht hk1
  obtain ⟨_,k1,k2⟩:=hk.2.1.1 hk1;have e3:=k1 _ h1;have e4:=hfull.1 (k2 _ h2);rw [e4,Bool.and_true] at ht;rw [ht] at e3;simp at e3
end Go.Proofs.YtihfcjioilmmjaaGreat
namespace Go.Proofs.YtihfcjioilmmjaaGreat
open Go Go.RowKit
open Go.Lib Go.Proofs
end Go.Proofs.YtihfcjioilmmjaaGreat
namespace Go.Proofs.YtihfcjioilmmjaaGreat
open Go Go.RowKit
open Go.Lib Go.Proofs
def AttrPost (schema : List Attr) (name : ByteArray) (w : World) (e : Ending) (W : World) : Prop:=
 Ext w W ∧ ((∃ a ∈ schema,a.name = name ∧ ∃ (p : Option Addr) (c : Nat),StrsAt w (.slice p a.values.length c) a.values ∧ e = .returned (.tuple #[.agg #[.string a.name,.slice p a.values.length c,.int .i64 a.low,.int .i64 a.high],.bool true])) ∨
  ((∀ a ∈ schema,a.name ≠ name) ∧ e = .returned (.tuple #[.agg #[.string ⟨#[]⟩,.slice none 0 0,.int .i64 0,.int .i64 0],.bool false])))
theorem attr_any {w : World} {v : Value} {schema : List Attr} (hs : AttrsAt w v schema) (name : ByteArray) : Calls Tryz.prog 32 #[v,.string name] w (AttrPost schema name w):=by
 obtain ⟨p,cap,rfl,hcap,hat⟩:=RowsAt.at (cells:=attrCells) (ok:=AttrAt) (k:=4) (by decide) (fun _ _=>rfl) hs
 have hml : schema.length ≤ maxLen:=by obtain ⟨_,_,h,_⟩:=hs;exact h.len
 unfold maxLen at hml;have HAT:=zQ hat;obtain ⟨W1,hW1⟩ : ∃ W1,W1 = w.alloc (.cells #[.string ⟨#[]⟩,.slice none 0 0,.int .i64 0,.int .i64 0] 90 (0,0)):=⟨_,rfl⟩;have hx1 : Ext w W1:=by rw [hW1];exact bel
 have hb1 : W1.heap[w.heap.size]? = some (.cells #[.string ⟨#[]⟩,.slice none 0 0,.int .i64 0,.int .i64 0] 90 (0,0)):=by rw [hW1];exact zG
 have HX1:=zQ hx1;have HB1:=zQ hb1;clear hx1 hb1 hat hs;go_enter Tryz.func32,Tryz.ntmps32;go_upto_region 1 with fail;rw [← hW1];clear hW1;go_wp2_with fail;go_loopw [6] (fun i wr=>∃ (k : Nat),k ≤ schema.length ∧ i = .int .i64 (k : Int) ∧ Hid (∀ a ∈ schema.take k,a.name ≠ name) ∧ wr = W1) (fun i _=>schema.length - (intOf i).toNat)
 case atStart=>exact ⟨0,Nat.zero_le _,rfl,(fun a ha=>by simp at ha),rfl⟩
 case round=>
  obtain ⟨k,hk,rfl,hno,rfl⟩:=hrel;by_cases hlt : k < schema.length
  ·obtain ⟨a,ha⟩ : ∃ a,schema[k]? = some a:=⟨_,List.getElem?_eq_getElem hlt⟩;obtain ⟨ab,aoff,u,rfl,hu,hc⟩:=HAT.out k a ha;have g0 : wr.cell? ⟨ab,aoff + k * 4,none⟩ = some (.string a.name):=HX1.out.cell' (hc 0 _ rfl);obtain ⟨up,ucap,rfl,hst⟩ : ∃ up ucap,u = .slice up a.values.length ucap ∧ StrsAt w (.slice up a.values.length ucap) a.values:=by
    obtain ⟨q,c,e,_⟩:=id hu.1.1;exact ⟨q,c,e,e ▸ hu.1⟩
   have g1 : wr.cell? ⟨ab,aoff + k * 4 + 1,none⟩ = some (.slice up a.values.length ucap):=HX1.out.cell' (hc 1 _ rfl);have g2 : wr.cell? ⟨ab,aoff + k * 4 + 2,none⟩ = some (.int .i64 a.low):=HX1.out.cell' (hc 2 _ rfl);have g3 : wr.cell? ⟨ab,aoff + k * 4 + 3,none⟩ = some (.int .i64 a.high):=HX1.out.cell' (hc 3 _ rfl);obtain ⟨c1,hc1⟩ : ∃ c1,(a.name.toList == name.toList) = c1:=⟨_,rfl⟩;have HU:=zQ hst;have HA:=zQ ha;cases c1 with
   | true=>
    have hn : a.name = name:=ByteArray.ext (by simpa [ByteArray.toList_eq] using hc1)
    have z0:=cell_of HB1.out 0;have z1:=cell_of HB1.out 1;have z2:=cell_of HB1.out 2;have z3:=cell_of HB1.out 3;have q0:=frozen_of HB1.out 0;have q1:=frozen_of HB1.out 1;have q2:=frozen_of HB1.out 2;have q3:=frozen_of HB1.out 3;clear hc hu ha;subst hn;go_wp2_with fail;obtain ⟨W2,hW2⟩ : ∃ W2,W2 = ((((wr.setCell ⟨w.heap.size,0,none⟩ (.string a.name)).setCell ⟨w.heap.size,1,none⟩ (.slice up a.values.length ucap)).setCell ⟨w.heap.size,2,none⟩ (.int .i64 a.low)).setCell ⟨w.heap.size,3,none⟩ (.int .i64 a.high)):=⟨_,rfl⟩;have hb2 : W2.heap[w.heap.size]? = some (.cells #[.string a.name,.slice up a.values.length ucap,.int .i64 a.low,.int .i64 a.high] 90 (0,0)):=by
     rw [hW2];simp only [zH,World.size_alloc,World.size_setCell];(repeat (first | rw [if_pos trivial] | rw [if_pos rfl] | rw [if_neg (by omega)] | rw [if_pos (by omega)]))
     rw [HB1.out];rfl
    have hx2 : Ext w W2:=by
     have hx1:=HX1.out;rw [hW2];exact bel
    rw [← hW2];have y0 : W2.cell? ⟨w.heap.size,0,none⟩ = some (.string a.name):=cell_of hb2 0;have y1 : W2.cell? ⟨w.heap.size,1,none⟩ = some (.slice up a.values.length ucap):=cell_of hb2 1;have y2 : W2.cell? ⟨w.heap.size,2,none⟩ = some (.int .i64 a.low):=cell_of hb2 2;have y3 : W2.cell? ⟨w.heap.size,3,none⟩ = some (.int .i64 a.high):=cell_of hb2 3;clear hW2 z0 z1 z2 z3 q0 q1 q2 q3;exact bodyPost_ret (v:=.tuple #[.agg #[.string a.name,.slice up a.values.length ucap,.int .i64 a.low,.int .i64 a.high],.bool true]) (by simp [results,Tryz.results32,go_sem,y0,y1,y2,y3]) rfl ⟨hx2,.inl ⟨a,zM HA.out,rfl,up,ucap,HU.out,rfl⟩⟩
   | false=>
    have hn : a.name ≠ name:=fun e=>by rw [e] at hc1;simp at hc1
    have HN:=zQ (show ∀ x ∈ schema.take (k + 1),x.name ≠ name from fun x hx=>by
     rw [List.take_add_one,ha] at hx;rcases List.mem_append.1 hx with hx | hx
     ·exact hno.out x hx
     ·have e : x = a:=by simpa using hx
      rw [e];exact hn)
    clear hc hu ha hn;go_wp2_with fail;exact ⟨⟨k + 1,by omega,rfl,HN.out,by first | rfl | trivial⟩,by simp [intOf];omega⟩
  ·obtain rfl : k = schema.length:=by omega
   have z0:=cell_of HB1.out 0;have z1:=cell_of HB1.out 1;have z2:=cell_of HB1.out 2;have z3:=cell_of HB1.out 3;have q0:=frozen_of HB1.out 0;have q1:=frozen_of HB1.out 1;have q2:=frozen_of HB1.out 2;have q3:=frozen_of HB1.out 3;go_wp2_with fail;obtain ⟨W2,hW2⟩ : ∃ W2,W2 = ((((wr.setCell ⟨w.heap.size,0,none⟩ (.string ⟨#[]⟩)).setCell ⟨w.heap.size,1,none⟩ (.slice none 0 0)).setCell ⟨w.heap.size,2,none⟩ (.int .i64 0)).setCell ⟨w.heap.size,3,none⟩ (.int .i64 0)):=⟨_,rfl⟩;have hb2 : W2.heap[w.heap.size]? = some (.cells #[.string ⟨#[]⟩,.slice none 0 0,.int .i64 0,.int .i64 0] 90 (0,0)):=by
    rw [hW2];simp only [zH,World.size_alloc,World.size_setCell];(repeat (first | rw [if_pos trivial] | rw [if_pos rfl] | rw [if_neg (by omega)] | rw [if_pos (by omega)]))
    rw [HB1.out];rfl
   have hx2 : Ext w W2:=by
    have hx1:=HX1.out;rw [hW2];exact bel
   rw [← hW2];have y0 : W2.cell? ⟨w.heap.size,0,none⟩ = some (.string ⟨#[]⟩):=cell_of hb2 0;have y1 : W2.cell? ⟨w.heap.size,1,none⟩ = some (.slice none 0 0):=cell_of hb2 1;have y2 : W2.cell? ⟨w.heap.size,2,none⟩ = some (.int .i64 0):=cell_of hb2 2;have y3 : W2.cell? ⟨w.heap.size,3,none⟩ = some (.int .i64 0):=cell_of hb2 3;clear hW2 z0 z1 z2 z3 q0 q1 q2 q3;exact bodyPost_ret (v:=.tuple #[.agg #[.string ⟨#[]⟩,.slice none 0 0,.int .i64 0,.int .i64 0],.bool false]) (by simp [results,Tryz.results32,go_sem,y0,y1,y2,y3]) rfl ⟨hx2,.inr ⟨fun a ha=>hno.out a (by rw [List.take_length];exact ha),rfl⟩⟩
end Go.Proofs.YtihfcjioilmmjaaGreat
namespace Go.Proofs.YtihfcjioilmmjaaGreat
open Go Go.RowKit
open Go.Lib Go.Proofs
def stepH (h : Int) (b : UInt8) : Int:=(h * 31 % 4294967296 + (b.toNat : Int) % 4294967296) % 4294967296
theorem stepH_ok (h : Int) (b : UInt8) : 0 ≤ stepH h b ∧ stepH h b ≤ 4294967295:=by unfold stepH;omega
def hashR (seed : Int) (s n : ByteArray) : Int:=n.data.toList.foldl stepH (s.data.toList.foldl stepH seed)
def mixR (h : Int) : Int:=bits .xor .u32 h (h / 8192)
theorem mixR_ok (h : Int) : 0 ≤ mixR h ∧ mixR h ≤ 4294967295:=⟨Go.bits_lo_u32 _ _ _,Go.bits_hi_u32 _ _ _⟩
def realF (seed : Int) (s : ByteArray) (a : Attr) : Int:=if a.values.length = 0 then a.low + mixR (hashR seed s a.name) % (a.high - a.low + 1) else mixR (hashR seed s a.name) % (a.values.length : Int)
theorem realF_mem {a : Attr} (ha : AttrOk a) (seed : Int) (s : ByteArray) : memS a (allSt a) (realF seed s a):=by
 obtain ⟨x,hx⟩ : ∃ x,mixR (hashR seed s a.name) = x:=⟨_,rfl⟩;unfold realF;rw [hx];constructor
 ·intro hv
  have h0 : a.values.length = 0:=by rw [hv];rfl
  rw [if_pos h0];have h1:=ha.ends;have h2:=Int.emod_nonneg x (b:=a.high - a.low + 1) (by omega)
  have h3:=Int.emod_lt_of_pos x (b:=a.high - a.low + 1) (by omega)
  show a.low ≤ _ ∧ _ ≤ a.high
  omega
 ·intro hv
  have h0 : a.values.length ≠ 0:=fun e=>hv (zN e)
  rw [if_neg h0];have h2:=Int.emod_nonneg x (b:=(a.values.length : Int)) (by omega)
  have h3:=Int.emod_lt_of_pos x (b:=(a.values.length : Int)) (by omega)
  refine ⟨h2,h3,?_⟩
  show (2 ^ a.values.length - 1).testBit _ = true
  rw [Nat.testBit_two_pow_sub_one,decide_eq_true_iff];omega
end Go.Proofs.YtihfcjioilmmjaaGreat
namespace Go.Proofs.YtihfcjioilmmjaaGreat
open Go Go.RowKit
open Go.Lib Go.Proofs
theorem real_any {w : World} (sv : Value) (seed : Int) (hseed : 0 ≤ seed ∧ seed ≤ 4294967295) (r0 r1 r2 r3 r4 r5 r6 r7 r8 : Value) (s : ByteArray) (hs : s.size ≤ maxLen) (a : Attr) (ha : AttrOk a) (p : Option Addr) (c : Nat) :
  Calls Tryz.prog 33 #[.agg #[sv,.int .u32 seed,r0,r1,r2,r3,r4,r5,r6,r7,r8],.string s,.agg #[.string a.name,.slice p a.values.length c,.int .i64 a.low,.int .i64 a.high]] w fun e W=>Ext w W ∧ e = .returned (.int .i64 (realF seed s a)):=by
 have hnm : a.name.size ≤ 20:=by
  have:=ha.name
  unfold nm at this;simp only [Bool.and_eq_true,decide_eq_true_eq] at this;exact this.2.2
 have h8:=ha.small;have hlo:=ha.low;have hhi:=ha.high;have hle:=ha.ends;unfold maxLen at hs;obtain ⟨W1,hW1⟩ : ∃ W1,W1 = w.alloc (.cells #[sv,.int .u32 seed,r0,r1,r2,r3,r4,r5,r6,r7,r8] 33 (0,0)):=⟨_,rfl⟩;obtain ⟨W2,hW2⟩ : ∃ W2,W2 = W1.alloc (.cells #[.string a.name,.slice p a.values.length c,.int .i64 a.low,.int .i64 a.high] 90 (0,0)):=⟨_,rfl⟩;have hs1 : W1.heap.size = w.heap.size + 1:=by rw [hW1];simp
 have hb1 : W1.heap[w.heap.size]? = some (.cells #[sv,.int .u32 seed,r0,r1,r2,r3,r4,r5,r6,r7,r8] 33 (0,0)):=by rw [hW1];exact zG
 have hb2 : W2.heap[w.heap.size + 1]? = some (.cells #[.string a.name,.slice p a.values.length c,.int .i64 a.low,.int .i64 a.high] 90 (0,0)):=by rw [← hs1,hW2];exact zG
 have hx1 : Ext w W1:=by rw [hW1];exact bel
 have hx2 : Ext W1 W2:=by rw [hW2];exact bel
 have d1 : W2.cell? ⟨w.heap.size,1,none⟩ = some (.int .u32 seed):=cell_of (hx2.obj hb1) 1;have b0 : W2.cell? ⟨w.heap.size + 1,0,none⟩ = some (.string a.name):=cell_of hb2 0;have HX:=zQ (hx1.trans' hx2);have HB2:=zQ hb2;have HA:=zQ ha;clear hb1 hb2 hx1 hx2 ha;go_enter Tryz.func33,Tryz.ntmps33;go_upto_region 1 with fail;rw [← hW1,← hW2];clear hW1 hW2;go_wp2_with fail;go_loopw [7,8] (fun h i wr=>∃ (k : Nat) (hv : Int),k ≤ s.size ∧ h = .int .u32 hv ∧ Hid (hv = (s.data.toList.take k).foldl stepH seed) ∧ i = .int .i64 (k : Int) ∧ Hid (0 ≤ hv ∧ hv ≤ 4294967295) ∧ wr = W2) (fun _ i _=>s.size - (intOf i).toNat)
 case atStart=>exact ⟨0,seed,Nat.zero_le _,rfl,rfl,rfl,hseed,rfl⟩
 case round=>
  obtain ⟨k,hv,hk,rfl,he,rfl,hr,rfl⟩:=hrel;by_cases hlt : k < s.size
  ·have HE:=zQ (show stepH hv s[k] = (s.data.toList.take (k + 1)).foldl stepH seed by
    rw [List.take_add_one,show s.data.toList[k]? = some s[k] from byte_at hlt,List.foldl_append,← he.out];rfl)
   go_wp2_with fail;exact ⟨⟨k + 1,stepH hv s[k],by omega,rfl,HE.out,rfl,stepH_ok _ _,by trivial⟩,by simp [intOf];omega⟩
  ·obtain rfl : k = s.size:=by omega
   have hes:=he.out;rw [List.take_of_length_le (by rw [Array.length_toList];exact Nat.le_refl _)] at hes
   have HES:=zQ hes;clear he hes;go_wp2_with fail;go_loopw [7,9] (fun h i wx=>∃ (k : Nat) (hn : Int),k ≤ a.name.size ∧ h = .int .u32 hn ∧ Hid (hn = (a.name.data.toList.take k).foldl stepH hv) ∧ i = .int .i64 (k : Int) ∧ Hid (0 ≤ hn ∧ hn ≤ 4294967295) ∧ wx = wr) (fun _ i _=>a.name.size - (intOf i).toNat)
   case atStart=>exact ⟨0,hv,Nat.zero_le _,rfl,rfl,rfl,hr.out,rfl⟩
   case round=>
    obtain ⟨k,hn,hk,rfl,he,rfl,hr,rfl⟩:=hrel;by_cases hlt : k < a.name.size
    ·have HE:=zQ (show stepH hn a.name[k] = (a.name.data.toList.take (k + 1)).foldl stepH hv by
      rw [List.take_add_one,show a.name.data.toList[k]? = some a.name[k] from byte_at hlt,List.foldl_append,← he.out];rfl)
     go_wp2_with fail;exact ⟨⟨k + 1,stepH hn a.name[k],by omega,rfl,HE.out,rfl,stepH_ok _ _,by trivial⟩,by simp [intOf];omega⟩
    ·obtain rfl : k = a.name.size:=by omega
     have hes:=he.out;rw [List.take_of_length_le (by rw [Array.length_toList];exact Nat.le_refl _),HES.out] at hes
     have hrf : realF seed s a = if a.values.length = 0 then a.low + mixR hn % (a.high - a.low + 1) else mixR hn % (a.values.length : Int):=by
      rw [hes];rfl
     have hmx:=mixR_ok hn;have hxe : bits .xor .u32 hn (hn / 8192) = mixR hn:=rfl;obtain ⟨x,hx⟩ : ∃ x,mixR hn = x:=⟨_,rfl⟩;rw [hx] at hrf hmx hxe;have d1' : wr.cell? ⟨w.heap.size + 1,1,none⟩ = some (.slice p a.values.length c):=cell_of HB2.out 1;have HRF:=zQ hrf;clear he hes hx hrf;by_cases hz : a.values.length = 0
     ·have d2' : wr.cell? ⟨w.heap.size + 1,2,none⟩ = some (.int .i64 a.low):=cell_of HB2.out 2;have d3' : wr.cell? ⟨w.heap.size + 1,3,none⟩ = some (.int .i64 a.high):=cell_of HB2.out 3;have hdd : 0 < a.high - a.low + 1:=by omega
      have hm1 : (a.high - a.low + 1) % 4294967296 = a.high - a.low + 1:=by omega
      have hm2:=Int.emod_nonneg x (b:=a.high - a.low + 1) (by omega)
      have hm3:=Int.emod_lt_of_pos x (b:=a.high - a.low + 1) hdd;have hw : IntKind.u32.wrap (IntKind.i64.wrap (IntKind.i64.wrap (a.high - a.low) + 1)) = a.high - a.low + 1:=by rw [IntKind.wrap_u32,IntKind.wrap_i64,IntKind.wrap_i64];omega
      have hne : ¬ (a.high - a.low + 1 = 0):=by omega
      have htm:=Int.tmod_eq_emod_of_nonneg (b:=a.high - a.low + 1) hmx.1;go_upto_region 13 with fail;refine Rt.wp_region_rt (by kernel_rfl) [0,1,2,3,4,5,6,7,8,9,10,11,12,13] [] [] [0,1,0,0,8,0,32,120,248,504,1020,2044,4095,8191] (by kernel_rfl) (fun _ W=>Ext wr W) ?_ ?_
      ·exact below_drawn (ext_refl _) _
      (refine Rt.zS fun K hK=>?_;go_simp;refine hK _ ?_;clear hK K);(refine Rt.zR ?_;constructor;constructor;· (intro us' W hp hl hI;have g0:=Ext.cell' hI d2';go_simp;rfl));simp only [Act.put,zP];(iterate 2 (refine Rt.zS fun K hK=>?_;go_simp;refine hK _ ?_;clear hK K));(refine Rt.zR ?_;constructor;constructor;· (intro us' W hp hl hI;have g0:=Ext.cell' hI d3';go_simp;rfl));simp only [Act.put,zP];(refine Rt.zS fun K hK=>?_;go_simp;refine hK _ ?_;clear hK K);(refine Rt.zR ?_;constructor;constructor;· (intro us' W hp hl hI;have g0:=Ext.cell' hI d2';go_simp;rfl));simp only [Act.put,zP];(iterate 7 (refine Rt.zS fun K hK=>?_;go_simp;refine hK _ ?_;clear hK K));refine Rt.rs_nil (fun W8 hI8=>?_)
      have HI8:=zQ hI8;clear hI8;go_wp2_with fail;go_ret
      refine ⟨HX.out.trans' HI8.out,?_⟩
      have hw2 : IntKind.i64.wrap (a.low + IntKind.i64.wrap (x % (a.high - a.low + 1))) = a.low + x % (a.high - a.low + 1):=by rw [IntKind.wrap_i64,IntKind.wrap_i64];omega
      rw [HRF.out,if_pos hz,← hw2]
      rfl
     ·have hp : (0 : Int) < (a.values.length : Int):=by omega
      have hm1 : (a.values.length : Int) % 4294967296 = (a.values.length : Int):=by omega
      have hm2:=Int.emod_nonneg x (b:=(a.values.length : Int)) (by omega)
      have hm3:=Int.emod_lt_of_pos x (b:=(a.values.length : Int)) hp;go_wp2_with fail;go_ret
      refine ⟨HX.out,?_⟩
      rw [HRF.out,if_neg hz]
      rfl
end Go.Proofs.YtihfcjioilmmjaaGreat
namespace Go.Proofs.YtihfcjioilmmjaaGreat
open Go Go.RowKit
open Go.Lib Go.Proofs
def sigF (cols : List (Attr × Nat)) (seed : Int) (s : ByteArray) (c : Nat) : Int:=match cols.find? fun x=>decide (x.2 = c) with
 | some x=>realF seed s x.1
 | none=>0
theorem find_col {a : Attr} {c : Nat} : ∀ (cols : List (Attr × Nat)),(cols.map (·.2)).Nodup → (a,c) ∈ cols → (cols.find? fun x=>decide (x.2 = c)) = some (a,c)
 | [],_,h=>by cases h
 | x :: r,hn,h=>by
  rw [List.map_cons,List.nodup_cons] at hn;rw [List.find?_cons];by_cases hx : x.2 = c
  ·rw [decide_eq_true hx];rcases List.mem_cons.1 h with h | h
   ·exact congrArg some h.symm
   ·exact absurd (List.mem_map.2 ⟨(a,c),h,hx.symm⟩) hn.1
  ·rw [decide_eq_false hx];rcases List.mem_cons.1 h with h | h
   ·rw [← h] at hx;exact absurd rfl hx
   ·exact find_col r hn.2 h
theorem sig_at {cols : List (Attr × Nat)} (hn : (cols.map (·.2)).Nodup) {a : Attr} {c : Nat} (h : (a,c) ∈ cols) (seed : Int) (s : ByteArray) : sigF cols seed s c = realF seed s a:=by
 unfold sigF;rw [find_col cols hn h]
theorem askL_phis (R : Rec) : ∀ (l : List Exp) (a b : Acc),askL R l a = some b → ∃ qs : List Qn,l.map (askF R) = qs.map some ∧ b.φs = a.φs ++ qs.map (·.φ)
 | [],a,b,h=>by
  rw [askL] at h;simp only [Option.some.injEq] at h;subst h;exact ⟨[],rfl,by simp⟩
 | k :: r,a,b,h=>by
  rw [askL] at h;cases hk : askF R k with
  | none=>rw [hk] at h;cases h
  | some q=>
   rw [hk] at h;simp only at h
   split at h
   ·obtain ⟨qs,h1,h2⟩:=askL_phis R r _ b h;exact ⟨q :: qs,by rw [List.map_cons,List.map_cons,hk,h1],by rw [h2];simp⟩
   ·cases h
theorem ask_kids {R : Rec} {op : Int} {attr : ByteArray} {values : List ByteArray} {lo hi : Int} {kids : List Exp} {q : Qn} (hop : op ≠ 1) (h : askF R (.mk op attr values lo hi kids) = some q) :
  ∃ qs : List Qn,kids.map (askF R) = qs.map some ∧ ((op = 2 ∧ ∃ x,qs = [x] ∧ ∀ ρ,q.φ ρ = !x.φ ρ) ∨ (op = 3 ∧ ∀ ρ,q.φ ρ = qs.all fun x=>x.φ ρ) ∨ (op = 4 ∧ ∀ ρ,q.φ ρ = qs.any fun x=>x.φ ρ)):=by
 cases hb : nodeBad attr values lo hi op kids.length with
 | true=>rw [askF_bad hop hb] at h;cases h
 | false=>
  rw [askF_node hop hb] at h;cases hl : askL R kids ⟨1,fun _=>none,[]⟩ with
  | none=>rw [hl] at h;cases h
  | some acc=>
   rw [hl] at h;simp only at h
   obtain ⟨qs,h1,h2⟩:=askL_phis R kids _ acc hl;rw [List.nil_append] at h2;refine ⟨qs,h1,?_⟩
   unfold closeQ at h;by_cases o2 : op = 2
   ·rw [if_pos o2] at h;obtain rfl:=zI h;have hk1 : kids.length = 1:=Classical.byContradiction fun hne=>by
     unfold nodeBad at hb;simp [o2,hne] at hb
    have hq1 : qs.length = 1:=by have:=congrArg List.length h1;simp at this;omega
    obtain ⟨x,rfl⟩:=List.length_eq_one_iff.1 hq1;refine .inl ⟨o2,x,rfl,fun ρ=>?_⟩
    show (match acc.φs with | φ :: _=>!φ ρ | []=>false) = _
    rw [h2];rfl
   ·rw [if_neg o2] at h;by_cases o3 : op = 3
    ·rw [if_pos o3] at h;obtain rfl:=zI h;refine .inr (.inl ⟨o3,fun ρ=>?_⟩)
     show (acc.φs.all fun φ=>φ ρ) = _
     rw [h2,List.all_map];rfl
    ·rw [if_neg o3] at h;by_cases o4 : op = 4
     ·rw [if_pos o4] at h;obtain rfl:=zI h;refine .inr (.inr ⟨o4,fun ρ=>?_⟩)
      show (acc.φs.any fun φ=>φ ρ) = _
      rw [h2,List.any_map];rfl
     ·rw [if_neg o4] at h;cases h
theorem ask_in_form {R : Rec} {attr : ByteArray} {values : List ByteArray} {lo hi : Int} {kids : List Exp} {q : Qn} (h : askF R (.mk 1 attr values lo hi kids) = some q) :
  ∃ c,colOf R attr = some c ∧ (readF c.1 values lo hi).2 = true ∧ q = inQ c.1 c.2 (readF c.1 values lo hi).1 lo hi:=by
 rw [askF,if_pos rfl] at h;cases hc : colOf R attr with
 | none=>rw [hc] at h;cases h
 | some c=>
  rw [hc] at h;simp only at h
  split at h
  ·split at h
   ·rename_i hr
    exact ⟨c,rfl,hr,(zI h).symm⟩
   ·cases h
  ·cases h
theorem ask_in_truth {R : Rec} (hok : ∀ c ∈ R.cols,AttrOk c.1) (hcn : (R.cols.map (·.2)).Nodup) {attr : ByteArray} {values : List ByteArray} {lo hi : Int} {kids : List Exp} {q : Qn} (h : askF R (.mk 1 attr values lo hi kids) = some q) (seed : Int) (s : ByteArray) :
  ∃ c,colOf R attr = some c ∧ q.φ (sigF R.cols seed s) = inT c.1 values lo hi (realF seed s c.1):=by
 obtain ⟨c,hc,hr,rfl⟩:=ask_in_form h;obtain ⟨h1,h2⟩:=colOf_mem hc;refine ⟨c,hc,?_⟩
 have hs:=sig_at hcn (a:=c.1) (c:=c.2) h1 seed s;have ha:=hok _ h1;rw [inQ_truth ha hr (σ:=sigF R.cols seed s) (by rw [hs];exact realF_mem ha seed s),hs]
end Go.Proofs.YtihfcjioilmmjaaGreat
