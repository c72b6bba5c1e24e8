/- Lemmas: worlds. -/
import Derived.Test.YtihfcjioilmmjaaGreatRm1
import Derived.Test.YtihfcjioilmmjaaGreatRm8
set_option linter.all false
namespace Go.Proofs.YtihfcjioilmmjaaGreat
open Go Go.RowKit
open Go.Lib
section
variable {H : Type} {enc : TypeId × Value → H}
def Rd (enc : TypeId × Value → H) (w : World) (n : Nat) (t : TypeId) (cs : List Value) : Prop:=
 ∃ x,DataW.trod enc Tryz.prog w 0 (fun _=>true) true n t cs = some x ∧ ∀ k ∈ x.1.weights Tryz.prog t,k ≤ reachBytes
theorem rd_int {w : World} {n : Nat} {t : TypeId} {k : IntKind} (ht : Tryz.prog.underlying t = some (.int k)) {cs : List Value} (h : Rd enc w n t cs) : ∃ i,cs = [.int k i] ∧ (Lit.int k i).wf = true:=by
 obtain ⟨x,h,_⟩:=h
 obtain ⟨i,rfl,_,hw⟩:=DataW.trod_int ht h
 exact ⟨i,rfl,hw⟩
theorem wf_i64 {i : Int} (h : (Lit.int .i64 i).wf = true) : i64ok i:=by
 simpa [Lit.wf,IntKind.min,IntKind.max,IntKind.signed,IntKind.bits,i64ok] using h
theorem wf_u8 {i : Int} (h : (Lit.int .u8 i).wf = true) : 0 ≤ i ∧ i ≤ 255:=by
 simpa [Lit.wf,IntKind.min,IntKind.max,IntKind.signed,IntKind.bits] using h
theorem rd_i64 {w : World} {n : Nat} {cs : List Value} (h : Rd enc w n 3 cs) : ∃ i,cs = [.int .i64 i] ∧ i64ok i:=
 let ⟨i,h1,h2⟩:=rd_int Tryz.underlying3 h;⟨i,h1,wf_i64 h2⟩
theorem rd_text {w : World} {n : Nat} {cs : List Value} (h : Rd enc w n 9 cs) : ∃ s : ByteArray,cs = [.string s] ∧ s.size ≤ maxLen:=by
 obtain ⟨x,h,_⟩:=h
 obtain ⟨s,rfl,_,hs⟩:=DataW.trod_string Tryz.underlying9 h
 exact ⟨s,rfl,hs⟩
theorem weightsEach_mem {P : Program} : ∀ (ts : List TypeId) (ds : List (DataW H)) (i : Nat) (t : TypeId) (d : DataW H),ts[i]? = some t → ds[i]? = some d → ∀ k ∈ d.weights P t,k ∈ DataW.weightsEach P ts ds
 | [],_,_,_,_,h,_,_,_=>by simp at h
 | _ :: _,[],_,_,_,_,h,_,_=>by simp at h
 | t :: ts,d :: ds,0,t',d',h,h',k,hk=>by
  obtain rfl:=Option.some.inj h
  obtain rfl:=Option.some.inj h'
  exact List.mem_append_left _ hk
 | t :: ts,d :: ds,i + 1,t',d',h,h',k,hk=>List.mem_append_right _ (weightsEach_mem ts ds i t' d' (by simpa using h) (by simpa using h') k hk)
theorem weightsAll_mem {P : Program} {e : TypeId} : ∀ (ds : List (DataW H)) (d : DataW H),d ∈ ds → ∀ k ∈ d.weights P e,k ∈ DataW.weightsAll P e ds
 | [],_,h,_,_=>by cases h
 | d :: ds,d',h,k,hk=>by
  rcases List.mem_cons.1 h with rfl | h
  ·exact List.mem_append_left _ hk
  ·exact List.mem_append_right _ (weightsAll_mem ds d' h k hk)
theorem rd_struct {w : World} {n : Nat} {t : TypeId} {fs : Array Field} (ht : Tryz.prog.underlying t = some (.struct fs)) {cs : List Value} (h : Rd enc w n t cs) :
  ∃ m,n = m + 1 ∧ cs.length = Tryz.prog.cellsOf t ∧ ∀ (i : Nat) (f : Field),fs[i]? = some f → Rd enc w m f.type ((cs.drop f.offset).take (Tryz.prog.cellsOf f.type)):=by
 obtain ⟨x,h,hw⟩:=h
 obtain ⟨xs,m,rfl,rfl,hl,hx,hf⟩:=DataW.trod_struct ht h
 refine ⟨m,rfl,hl,fun i f hi=>?_⟩
 have h1:=hf i f hi
 have hil : i < fs.size:=(Array.getElem?_eq_some_iff.1 hi).1
 have hxi : xs[i]? = some xs[i]:=List.getElem?_eq_getElem (by omega)
 rw [hxi] at h1
 refine ⟨_,h1,fun k hk=>hw k ?_⟩
 unfold DataW.weights
 rw [ht]
 refine weightsEach_mem (fs.toList.map (·.type)) (xs.map (·.1)) i f.type xs[i].1 ?_ ?_ k hk
 ·rw [List.getElem?_map,Array.getElem?_toList,hi];rfl
 ·rw [List.getElem?_map,hxi];rfl
theorem addr_add_add (b off q r : Nat) : ((⟨b,off,none⟩ : Addr).add q).add r = ⟨b,off + (q + r),none⟩:=by
 unfold Addr.add
 by_cases h1 : q = 0 <;> by_cases h2 : r = 0 <;> simp [h1,h2,Nat.add_assoc]
theorem addr_add_none {b off q r : Nat} (h : q = r) : (⟨b,off + q,none⟩ : Addr) = ⟨b,off + r,none⟩:=by rw [h]
theorem rd_slice {w : World} {n : Nat} {t e : TypeId} (ht : Tryz.prog.underlying t = some (.slice e)) {k : Nat} (hk : Tryz.prog.cellsOf e = k) (h0 : 0 < k) {cs : List Value} (h : Rd enc w n t cs) :
  ∃ (m : Nat) (v : Value) (css : List (List Value)),n = m + 1 ∧ cs = [v] ∧ SlAt w v k css.length css.flatten ∧ (∀ c ∈ css,c.length = k ∧ Rd enc w m e c) ∧ css.length * Tryz.prog.bytesOf e ≤ reachBytes:=by
 obtain ⟨x,h,hw⟩:=h
 have hn : ∃ m,n = m + 1:=by
  cases n with
  | zero=>simp [DataW.trod] at h
  | succ m=>exact ⟨m,rfl⟩
 rcases DataW.trod_slice ht h with ⟨rfl,rfl⟩ | ⟨a,len,cap,elems,rest,m,rfl,rfl,rfl,_,hl,hc,hlen,hel,_,_⟩
 ·obtain ⟨m,rfl⟩:=hn
  refine ⟨m,_,[],rfl,rfl,?_,?_,?_⟩
  ·exact ⟨none,0,rfl,Nat.le_refl _,Nat.zero_le _,by simp,fun j u hu=>by simp at hu⟩
  ·intro c hc;cases hc
  ·simp
 ·have hex : ∀ i : Fin len,∃ cs' y,w.cells? 0 (a.add (i.1 * k)) k = some cs' ∧ DataW.trod enc Tryz.prog w 0 (fun _=>true) true m e cs' = some y ∧ elems[i.1]? = some y:=fun i=>by
   have h1:=hel i.1 i.2
   rw [List.getElem?_eq_getElem (by omega),hk] at h1
   obtain ⟨cs',h2,h3⟩:=Option.bind_eq_some_iff.1 h1
   exact ⟨cs',_,h2,h3,List.getElem?_eq_getElem (by omega)⟩
  let css : List (List Value):=List.ofFn fun i : Fin len=>(hex i).choose
  have hcl : css.length = len:=List.length_ofFn
  have hcs : ∀ (i : Nat) (c : List Value),css[i]? = some c → ∃ y,w.cells? 0 (a.add (i * k)) k = some c ∧ DataW.trod enc Tryz.prog w 0 (fun _=>true) true m e c = some y ∧ elems[i]? = some y:=fun i c hi=>by
   have hil : i < len:=by rw [← hcl];exact (List.getElem?_eq_some_iff.1 hi).1
   have hi':=hi
   simp only [css,List.getElem?_ofFn,hil,dif_pos,Option.some.injEq] at hi'
   subst hi'
   exact (hex ⟨i,hil⟩).choose_spec
  have h6 : ∀ c ∈ css,c.length = k:=fun c hc=>by
   obtain ⟨i,hi⟩:=List.mem_iff_getElem?.1 hc
   obtain ⟨y,h1,_⟩:=hcs i c hi
   exact (World.cells?_some h1).2.1
  have hcells : ∀ (i j : Nat) (c : List Value) u,css[i]? = some c → c[j]? = some u → w.cell? ((a.add (i * k)).add j) = some u:=fun i j c u hi hj=>by
   obtain ⟨y,h1,_⟩:=hcs i c hi
   obtain ⟨_,h2,h3⟩:=World.cells?_some h1
   have hj' : j < k:=by rw [← h2];exact (List.getElem?_eq_some_iff.1 hj).1
   exact (h3 j hj').trans hj
  have hwt : ∀ c ∈ css,Rd enc w m e c:=fun c hc=>by
   obtain ⟨i,hi⟩:=List.mem_iff_getElem?.1 hc
   obtain ⟨y,_,h2,h3⟩:=hcs i c hi
   refine ⟨y,h2,fun q hq=>hw q ?_⟩
   unfold DataW.weights
   rw [ht]
   refine List.mem_cons_of_mem _ (List.mem_append_left _ (weightsAll_mem (elems.map (·.1)) y.1 (List.mem_map_of_mem (List.mem_of_getElem? h3)) q hq))
  have hsz : css.length * Tryz.prog.bytesOf e ≤ reachBytes:=by
   have:=hw ((elems.length + rest.length) * Tryz.prog.bytesOf e) (by
    unfold DataW.weights
    rw [ht]
    simp)
   rw [hcl,← hlen]
   exact Nat.le_trans (Nat.mul_le_mul_right _ (Nat.le_add_right _ _)) this
  refine ⟨m,_,css,rfl,rfl,⟨some a,cap,by rw [hcl],by omega,by omega,?_,fun j u hu=>?_⟩,fun c hc=>⟨h6 c hc,hwt c hc⟩,hsz⟩
  ·rw [List.length_flatten]
   have : css.map List.length = List.replicate css.length k:=List.eq_replicate_iff.2 ⟨by simp,fun b hb=>by
    obtain ⟨c,hc,rfl⟩:=List.mem_map.1 hb;exact h6 c hc⟩
   rw [this,List.sum_replicate_nat]
  ·have hjl : j < css.flatten.length:=(List.getElem?_eq_some_iff.1 hu).1
   have hfl : css.flatten.length = css.length * k:=by
    rw [List.length_flatten]
    have : css.map List.length = List.replicate css.length k:=List.eq_replicate_iff.2 ⟨by simp,fun b hb=>by
     obtain ⟨c,hc,rfl⟩:=List.mem_map.1 hb;exact h6 c hc⟩
    rw [this,List.sum_replicate_nat]
   have hi : j / k < css.length:=Nat.div_lt_of_lt_mul (by rw [Nat.mul_comm,← hfl];exact hjl)
   have hjk : j % k < k:=Nat.mod_lt _ h0
   have hci : css[j / k]? = some css[j / k]:=List.getElem?_eq_getElem hi
   have hfg:=flatten_get k css h6 (j / k) (j % k) _ hci hjk
   rw [Nat.div_add_mod' j k] at hfg
   rw [hfg] at hu
   have hce:=hcells _ _ _ _ hci hu
   obtain ⟨b,off,sp⟩:=a
   have hsp : sp = none:=by
    have hpos : 0 < css.length:=Nat.lt_of_le_of_lt (Nat.zero_le _) hi
    have h60 : 0 < (css[0]'hpos).length:=by rw [h6 (css[0]'hpos) (List.getElem_mem hpos)];exact h0
    have hc0:=hcells 0 0 (css[0]'hpos) ((css[0]'hpos)[0]'h60) (List.getElem?_eq_getElem hpos) (List.getElem?_eq_getElem h60)
    simp only [Nat.zero_mul,Addr.add,if_pos] at hc0
    cases sp with
    | none=>rfl
    | some _=>
     unfold World.cell? at hc0
     split at hc0 <;> simp at hc0
   subst hsp
   refine ⟨b,off,rfl,?_⟩
   have e1 : ((⟨b,off,none⟩ : Addr).add (j / k * k)).add (j % k) = ⟨b,off + j,none⟩:=by
    rw [addr_add_add]
    exact addr_add_none (Nat.div_add_mod' j k)
   rw [← e1];exact hce
theorem list_of {α : Type} {p : α → Prop} {f : α → List Value} : ∀ css : List (List Value),(∀ c ∈ css,∃ a,c = f a ∧ p a) → ∃ l : List α,css = l.map f ∧ ∀ a ∈ l,p a
 | [],_=>⟨[],rfl,fun _ h=>by cases h⟩
 | c :: r,h=>by
  obtain ⟨a,h1,h2⟩:=h c List.mem_cons_self
  obtain ⟨l,h3,h4⟩:=list_of r fun c hc=>h c (List.mem_cons_of_mem _ hc)
  refine ⟨a :: l,by rw [h1,h3];rfl,fun x hx=>?_⟩
  rcases List.mem_cons.1 hx with rfl | hx
  ·exact h2
  ·exact h4 x hx
theorem flatten_ones {α : Type} (g : α → Value) : ∀ l : List α,(l.map fun a=>[g a]).flatten = l.map g
 | []=>rfl
 | a :: r=>by rw [List.map_cons,List.flatten_cons,flatten_ones g r];rfl
theorem rd_texts {w : World} {n : Nat} {cs : List Value} (h : Rd enc w n 26 cs) : ∃ v l,cs = [v] ∧ StrsAt w v l ∧ l.length * 16 ≤ 140737488355328:=by
 obtain ⟨m,v,css,rfl,rfl,hs,hc,hsz⟩:=rd_slice (k:=1) Tryz.underlying26 (by kernel_rfl) (by decide) h
 obtain ⟨l,rfl,hl⟩:=list_of (p:=fun s : ByteArray=>s.size ≤ maxLen) (f:=fun s=>[Value.string s]) css fun c hcc=>rd_text (hc c hcc).2
 rw [flatten_ones] at hs
 rw [show Tryz.prog.bytesOf 9 = 16 by kernel_rfl] at hsz
 simp only [List.length_map] at hs hsz
 exact ⟨v,l,rfl,⟨hs,hl⟩,Nat.le_trans hsz (by unfold reachBytes;decide)⟩
theorem five {cs : List Value} (h : cs.length = 5) : ∃ a b c d e,cs = [a,b,c,d,e]:=by
 match cs,h with
 | [a,b,c,d,e],_=>exact ⟨a,b,c,d,e,rfl⟩
theorem four {cs : List Value} (h : cs.length = 4) : ∃ a b c d,cs = [a,b,c,d]:=by
 match cs,h with
 | [a,b,c,d],_=>exact ⟨a,b,c,d,rfl⟩
theorem six {cs : List Value} (h : cs.length = 6) : ∃ a b c d e f,cs = [a,b,c,d,e,f]:=by
 match cs,h with
 | [a,b,c,d,e,f],_=>exact ⟨a,b,c,d,e,f,rfl⟩
theorem seven {cs : List Value} (h : cs.length = 7) : ∃ a b c d e f g,cs = [a,b,c,d,e,f,g]:=by
 match cs,h with
 | [a,b,c,d,e,f,g],_=>exact ⟨a,b,c,d,e,f,g,rfl⟩
theorem eleven {cs : List Value} (h : cs.length = 11) : ∃ a b c d,∃ e : List Value,e.length = 7 ∧ cs = [a,b,c,d] ++ e:=by
 match cs,h with
 | a :: b :: c :: d :: e,h=>exact ⟨a,b,c,d,e,by simpa using h,rfl⟩
theorem cells3 : Tryz.prog.cellsOf 3 = 1:=by kernel_rfl
theorem cells9 : Tryz.prog.cellsOf 9 = 1:=by kernel_rfl
theorem cells22 : Tryz.prog.cellsOf 22 = 1:=by kernel_rfl
theorem cells23 : Tryz.prog.cellsOf 23 = 1:=by kernel_rfl
theorem cells24 : Tryz.prog.cellsOf 24 = 1:=by kernel_rfl
theorem cells25 : Tryz.prog.cellsOf 25 = 1:=by kernel_rfl
theorem cells26 : Tryz.prog.cellsOf 26 = 1:=by kernel_rfl
theorem cells27 : Tryz.prog.cellsOf 27 = 1:=by kernel_rfl
theorem cells29 : Tryz.prog.cellsOf 29 = 6:=by kernel_rfl
theorem cells31 : Tryz.prog.cellsOf 31 = 7:=by kernel_rfl
theorem rd_fld {w : World} {m off k : Nat} {t : TypeId} {cs : List Value} (hk : Tryz.prog.cellsOf t = k) (h : Rd enc w m t ((cs.drop off).take (Tryz.prog.cellsOf t))) : Rd enc w m t ((cs.drop off).take k):=hk ▸ h
def FactBig (f : Fct) : Prop:=f.values.length * 16 ≤ 140737488355328
theorem rd_fact {w : World} {n : Nat} {cs : List Value} (h : Rd enc w n 46 cs) : ∃ x : Fct × Value,cs = factCells x.1 x.2 ∧ FactAt w x.1 x.2 ∧ FactBig x.1:=by
 obtain ⟨m,rfl,hl,hf⟩:=rd_struct Tryz.underlying46 h
 obtain ⟨a,b,c,d,e,rfl⟩:=five (hl.trans (by kernel_rfl))
 have h0:=rd_fld cells9 (hf 0 _ rfl)
 have h1:=rd_fld cells9 (hf 1 _ rfl)
 have h2:=rd_fld cells26 (hf 2 _ rfl)
 have h3:=rd_fld cells3 (hf 3 _ rfl)
 have h4:=rd_fld cells3 (hf 4 _ rfl)
 obtain ⟨s,e0,hs⟩:=rd_text h0
 obtain ⟨t,e1,ht⟩:=rd_text h1
 obtain ⟨v,l,e2,hv,hb⟩:=rd_texts h2
 obtain ⟨lo,e3,hlo⟩:=rd_i64 h3
 obtain ⟨hi,e4,hhi⟩:=rd_i64 h4
 obtain rfl : a = .string s:=by simpa using e0
 obtain rfl : b = .string t:=by simpa using e1
 obtain rfl : c = v:=by simpa using e2
 obtain rfl : d = .int .i64 lo:=by simpa using e3
 obtain rfl : e = .int .i64 hi:=by simpa using e4
 exact ⟨(⟨s,t,l,lo,hi⟩,c),rfl,⟨hv,hs,ht,hlo,hhi⟩,hb⟩
theorem rd_attr {w : World} {n : Nat} {cs : List Value} (h : Rd enc w n 90 cs) : ∃ x : Attr × Value,cs = attrCells x.1 x.2 ∧ AttrAt w x.1 x.2 ∧ x.1.values.length * 16 ≤ 140737488355328:=by
 obtain ⟨m,rfl,hl,hf⟩:=rd_struct Tryz.underlying90 h
 obtain ⟨a,b,c,d,rfl⟩:=four (hl.trans (by kernel_rfl))
 have h0:=rd_fld cells9 (hf 0 _ rfl)
 have h1:=rd_fld cells26 (hf 1 _ rfl)
 have h2:=rd_fld cells3 (hf 2 _ rfl)
 have h3:=rd_fld cells3 (hf 3 _ rfl)
 obtain ⟨s,e0,hs⟩:=rd_text h0
 obtain ⟨v,l,e2,hv,hb⟩:=rd_texts h1
 obtain ⟨lo,e3,hlo⟩:=rd_i64 h2
 obtain ⟨hi,e4,hhi⟩:=rd_i64 h3
 obtain rfl : a = .string s:=by simpa using e0
 obtain rfl : b = v:=by simpa using e2
 obtain rfl : c = .int .i64 lo:=by simpa using e3
 obtain rfl : d = .int .i64 hi:=by simpa using e4
 exact ⟨(⟨s,l,lo,hi⟩,b),rfl,⟨hv,hs,hlo,hhi⟩,hb⟩
theorem rows_of {α : Type} {cells : α → Value → List Value} {ok : World → α → Value → Prop} {k : Nat} {w : World} {v : Value} {p : α → Prop} (L : List (α × Value)) (hs : SlAt w v k (L.map fun x=>cells x.1 x.2).length (L.map fun x=>cells x.1 x.2).flatten) (hL : ∀ x ∈ L,ok w x.1 x.2 ∧ p x.1) :
  RowsAt cells ok k w v (L.map (·.1)) ∧ ∀ a ∈ L.map (·.1),p a:=by
 have hz : (L.map (·.1)).zip (L.map (·.2)) = L:=by
  clear hs hL
  induction L with
  | nil=>rfl
  | cons a r ih=>simp only [List.map_cons,List.zip_cons_cons,ih]
 refine ⟨⟨L.map (·.2),by simp,?_,fun x hx=>?_⟩,fun a ha=>?_⟩
 ·rw [hz,List.flatMap_def]
  simpa using hs
 ·rw [hz] at hx;exact (hL x hx).1
 ·obtain ⟨x,hx,rfl⟩:=List.mem_map.1 ha
  exact (hL x hx).2
theorem rd_facts {w : World} {n : Nat} {cs : List Value} (h : Rd enc w n 24 cs) : ∃ v l,cs = [v] ∧ FactsAt w v l ∧ ∀ f ∈ l,FactBig f:=by
 obtain ⟨m,v,css,rfl,rfl,hs,hc,_⟩:=rd_slice (k:=5) Tryz.underlying24 (by kernel_rfl) (by decide) h
 obtain ⟨L,rfl,hL⟩:=list_of (p:=fun x : Fct × Value=>FactAt w x.1 x.2 ∧ FactBig x.1) (f:=fun x=>factCells x.1 x.2) css fun c hcc=>rd_fact (hc c hcc).2
 obtain ⟨h1,h2⟩:=rows_of (ok:=FactAt) (p:=FactBig) L hs hL
 exact ⟨v,_,rfl,h1,h2⟩
theorem rd_attrs {w : World} {n : Nat} {cs : List Value} (h : Rd enc w n 22 cs) : ∃ v l,cs = [v] ∧ AttrsAt w v l ∧ ∀ a ∈ l,a.values.length * 16 ≤ 140737488355328:=by
 obtain ⟨m,v,css,rfl,rfl,hs,hc,_⟩:=rd_slice (k:=4) Tryz.underlying22 (by kernel_rfl) (by decide) h
 obtain ⟨L,rfl,hL⟩:=list_of (p:=fun x : Attr × Value=>AttrAt w x.1 x.2 ∧ x.1.values.length * 16 ≤ 140737488355328) (f:=fun x=>attrCells x.1 x.2) css fun c hcc=>rd_attr (hc c hcc).2
 obtain ⟨h1,h2⟩:=rows_of (ok:=AttrAt) (p:=fun a=>a.values.length * 16 ≤ 140737488355328) L hs hL
 exact ⟨v,_,rfl,h1,h2⟩
mutual
def expBig : Exp → Prop
 | .mk _ _ values _ _ kids=>values.length * 16 ≤ 140737488355328 ∧ expsBig kids
def expsBig : List Exp → Prop
 | []=>True
 | k :: r=>expBig k ∧ expsBig r
end
theorem expsBig_iff : ∀ l : List Exp,expsBig l ↔ ∀ k ∈ l,expBig k
 | []=>by simp [expsBig]
 | k :: r=>by rw [expsBig,expsBig_iff r];simp
theorem exps_of {w : World} : ∀ css : List (List Value),(∀ c ∈ css,∃ e,ExpAt w c e ∧ expBig e) → ∃ l : List Exp,css.length = l.length ∧ (∀ (i : Nat) c k,css[i]? = some c → l[i]? = some k → ExpAt w c k) ∧ ∀ k ∈ l,expBig k
 | [],_=>⟨[],rfl,fun _ _ _ h=>by simp at h,fun _ h=>by cases h⟩
 | c :: r,h=>by
  obtain ⟨e,he,hb⟩:=h c List.mem_cons_self
  obtain ⟨l,h1,h2,h3⟩:=exps_of r fun c hc=>h c (List.mem_cons_of_mem _ hc)
  refine ⟨e :: l,by simp [h1],fun i c' k hc hk=>?_,fun k hk=>(List.mem_cons.1 hk).elim (fun h=>h ▸ hb) (h3 k)⟩
  cases i with
  | zero=>
   obtain rfl:=Option.some.inj hc
   obtain rfl:=Option.some.inj hk
   exact he
  | succ i=>exact h2 i c' k (by simpa using hc) (by simpa using hk)
theorem rd_exp {w : World} : ∀ (n : Nat) (cs : List Value),Rd enc w n 29 cs → ∃ e,ExpAt w cs e ∧ expBig e:=by
 intro n
 induction n using Nat.strongRecOn with
 | _ n ih=>
  intro cs h
  obtain ⟨m,rfl,hl,hf⟩:=rd_struct Tryz.underlying29 h
  obtain ⟨a,b,c,d,e,f,rfl⟩:=six (hl.trans (by kernel_rfl))
  have h0:=rd_fld cells25 (hf 0 _ rfl)
  have h1:=rd_fld cells9 (hf 1 _ rfl)
  have h2:=rd_fld cells26 (hf 2 _ rfl)
  have h3:=rd_fld cells3 (hf 3 _ rfl)
  have h4:=rd_fld cells3 (hf 4 _ rfl)
  have h5:=rd_fld cells27 (hf 5 _ rfl)
  obtain ⟨o,e0,ho⟩:=rd_int Tryz.underlying25 h0
  obtain ⟨t,e1,ht⟩:=rd_text h1
  obtain ⟨v,l,e2,hv,hb⟩:=rd_texts h2
  obtain ⟨lo,e3,hlo⟩:=rd_i64 h3
  obtain ⟨hi,e4,hhi⟩:=rd_i64 h4
  obtain ⟨q,kv,css,rfl,e5,hs,hc,_⟩:=rd_slice (k:=6) Tryz.underlying27 cells29 (by decide) h5
  obtain rfl : a = .int .u8 o:=by simpa using e0
  obtain rfl : b = .string t:=by simpa using e1
  obtain rfl : c = v:=by simpa using e2
  obtain rfl : d = .int .i64 lo:=by simpa using e3
  obtain rfl : e = .int .i64 hi:=by simpa using e4
  obtain rfl : f = kv:=by simpa using e5
  obtain ⟨kids,hkl,hk,hkb⟩:=exps_of (w:=w) css fun c hcc=>ih q (by omega) c (hc c hcc).2
  rw [hkl] at hs
  exact ⟨.mk o t l lo hi kids,.mk (wf_u8 ho) ht hlo hhi hv hkl hs (fun c hcc=>(hc c hcc).1) hk,by rw [expBig];exact ⟨hb,(expsBig_iff _).2 hkb⟩⟩
theorem rd_exps {w : World} {n : Nat} {cs : List Value} (h : Rd enc w n 27 cs) : ∃ v l,cs = [v] ∧ ExpsAt w v l ∧ ∀ k ∈ l,expBig k:=by
 obtain ⟨q,kv,css,rfl,rfl,hs,hc,_⟩:=rd_slice (k:=6) Tryz.underlying27 cells29 (by decide) h
 obtain ⟨l,hkl,hk,hkb⟩:=exps_of (w:=w) css fun c hcc=>rd_exp q c (hc c hcc).2
 rw [hkl] at hs
 exact ⟨kv,l,rfl,⟨css,hkl,hs,fun c hcc=>(hc c hcc).1,hk⟩,hkb⟩
def PatAt (w : World) (cs : List Value) (own : Exp) (parts : List Exp) : Prop:=∃ ec v,cs = ec ++ [v] ∧ ExpAt w ec own ∧ ExpsAt w v parts
theorem PatAt.ext {w w' : World} {cs : List Value} {own : Exp} {parts : List Exp} (h : PatAt w cs own parts) (hx : Ext w w') : PatAt w' cs own parts:=
 let ⟨ec,v,h1,h2,h3⟩:=h;⟨ec,v,h1,h2.ext hx,h3.ext hx⟩
def PatBig (own : Exp) (parts : List Exp) : Prop:=expBig own ∧ ∀ k ∈ parts,expBig k
theorem rd_pat {w : World} {n : Nat} {cs : List Value} (h : Rd enc w n 31 cs) : ∃ own parts,PatAt w cs own parts ∧ PatBig own parts:=by
 obtain ⟨m,rfl,hl,hf⟩:=rd_struct Tryz.underlying31 h
 obtain ⟨a,b,c,d,e,f,g,rfl⟩:=seven (hl.trans (by kernel_rfl))
 have h0:=rd_fld cells29 (hf 0 _ rfl)
 have h1:=rd_fld cells27 (hf 1 _ rfl)
 obtain ⟨own,ho,hob⟩:=rd_exp _ _ h0
 obtain ⟨v,l,e1,hx,hxb⟩:=rd_exps h1
 obtain rfl : g = v:=by simpa using e1
 exact ⟨own,l,⟨[a,b,c,d,e,f],g,rfl,ho,hx⟩,hob,hxb⟩
structure OpD where
 kind : Int
 parents : List Int
 withdraw : List Int
 add : List Fct
 version : Int
 other : Int
 subject : ByteArray
 attr : ByteArray
 own : Exp
 parts : List Exp
def opCells (o : OpD) (pv wv av : Value) (pc : List Value) : List Value:=[.int .i64 o.kind,pv,wv,av,.int .i64 o.version,.int .i64 o.other,.string o.subject,.string o.attr] ++ pc
structure OpAt (w : World) (cs : List Value) (o : OpD) : Prop where
 cells : ∃ pv wv av pc,cs = opCells o pv wv av pc ∧ IntsAt w pv o.parents ∧ IntsAt w wv o.withdraw ∧ FactsAt w av o.add ∧ PatAt w pc o.own o.parts
 pok : ∀ i ∈ o.parents,i64ok i
 wok : ∀ i ∈ o.withdraw,i64ok i
 big : ∀ f ∈ o.add,FactBig f
 sub : o.subject.size ≤ maxLen
 att : o.attr.size ≤ maxLen
 nums : i64ok o.version ∧ i64ok o.other
 pbig : PatBig o.own o.parts
theorem OpAt.ext {w w' : World} {cs : List Value} {o : OpD} (h : OpAt w cs o) (hx : Ext w w') : OpAt w' cs o:=
 {h with cells:=let ⟨pv,wv,av,pc,h1,h2,h3,h4,h5⟩:=h.cells;⟨pv,wv,av,pc,h1,h2.ext hx,h3.ext hx,h4.ext hx,h5.ext hx⟩ }
def OpsAt (w : World) (v : Value) (l : List OpD) : Prop:=
 ∃ css : List (List Value),css.length = l.length ∧ SlAt w v 15 l.length css.flatten ∧ (∀ c ∈ css,c.length = 15) ∧ ∀ (i : Nat) c k,css[i]? = some c → l[i]? = some k → OpAt w c k
theorem OpsAt.ext {w w' : World} {v : Value} {l : List OpD} (h : OpsAt w v l) (hx : Ext w w') : OpsAt w' v l:=
 let ⟨css,h1,h2,h3,h4⟩:=h;⟨css,h1,h2.ext hx,h3,fun i c k hc hk=>(h4 i c k hc hk).ext hx⟩
end
theorem exp_form {w : World} {cs : List Value} {e : Exp} (h : ExpAt w cs e) : ∃ o at_ p n c' l h p2 n2 c2,cs = [.int .u8 o,.string at_,.slice p n c',.int .i64 l,.int .i64 h,.slice p2 n2 c2]:=by
 cases h with
 | mk hop hattr hlo hhi hv hlen hs h6 hk=>
  obtain ⟨p,c,rfl,_⟩:=hv.1
  obtain ⟨p2,c2,rfl,_⟩:=hs
  exact ⟨_,_,_,_,_,_,_,_,_,_,rfl⟩
end Go.Proofs.YtihfcjioilmmjaaGreat
namespace Go.Proofs.YtihfcjioilmmjaaGreat
open Go Go.RowKit
open Go.Lib Go.Sort Go.Maps Go.Shelf Go.Proofs
theorem nodes_pos (e : Exp) : 1 ≤ e.nodes:=by cases e;rw [Exp.nodes];omega
theorem nodes_mem : ∀ (l : List Exp) (k : Exp),k ∈ l → k.nodes ≤ nodesL l
 | [],k,h=>by cases h
 | a :: r,k,h=>by
  rw [nodesL]
  rcases List.mem_cons.1 h with rfl | h
  ·omega
  ·have:=nodes_mem r k h;omega
theorem ask_all : ∀ (n : Nat) (e : Exp),e.nodes ≤ n → e.nodes ≤ 1000 → ∀ {B : Nat} {w : World} {rb : Nat} {R : Rec} {cm : Nat} {vv fv : Value} {os : List (Option Nat × Option Nat)} {xs : List (List Value)} (_ : RecAt B w rb R cm vv fv os xs) (cs : List Value),ExpAt w cs e →
  Calls Tryz.prog 64 #[encP rb,.agg cs.toArray] w fun r w'=>AskPost R e w r w'
 | 0,e,h,_,_,_,_,_,_,_,_,_,_,_,_,_=>by have:=nodes_pos e;omega
 | n + 1,e,hn,hk,B,w,rb,R,cm,vv,fv,os,xs,hrec,cs,he=>by
  cases he with
  | @mk op attr vv' kv lo hi values kids css hop hattr hlo hhi hv hlen hs h6 hkid=>
   by_cases h1 : op = 1
   ·subst h1
    exact ask_in hrec attr vv' values hv lo hi kv kids hs hlo hhi
   ·have hnl : nodesL kids ≤ n ∧ nodesL kids ≤ 1000:=by
     rw [Exp.nodes] at hn hk
     omega
    refine ask_node hrec op h1 attr vv' values hv lo hi kv kids css hs hlen h6 ?_ ?_ hnl.2
    ·intro c hc
     obtain ⟨i,hi'⟩:=List.mem_iff_getElem?.1 hc
     have hil : i < kids.length:=by rw [← hlen];exact (List.getElem?_eq_some_iff.1 hi').1
     exact exp_form (hkid i c _ hi' (List.getElem?_eq_getElem hil))
    ·intro i c k W hc hk' hW
     have hm:=nodes_mem kids k (List.mem_of_getElem? hk')
     exact ask_all n k (by omega) (by omega) (hrec.ext hW) c ((hkid i c k hc hk').ext hW)
theorem ask_any {B : Nat} {w : World} {rb : Nat} {R : Rec} {cm : Nat} {vv fv : Value} {os : List (Option Nat × Option Nat)} {xs : List (List Value)} (h : RecAt B w rb R cm vv fv os xs) {cs : List Value} {e : Exp} (he : ExpAt w cs e) (hn : e.nodes ≤ 1000) :
 Calls Tryz.prog 64 #[encP rb,.agg cs.toArray] w fun r w'=>AskPost R e w r w':=ask_all e.nodes e (Nat.le_refl _) hn h cs he
end Go.Proofs.YtihfcjioilmmjaaGreat
namespace Go.Proofs.YtihfcjioilmmjaaGreat
open Go Go.RowKit
open Go.Lib Go.Sort Go.Maps Go.Shelf Go.Proofs
theorem sortI_any (base : Nat) (v : Value) (zs : List Int) (w : World) (hrow : w.ownsRow base 3 1 v zs.length (zs.map (Value.int .i64))) (hlen : zs.length ≤ 1000000) :
  Calls Tryz.prog 57 #[v] w fun e w'=>e = .returned (.tuple #[]) ∧ w.grownBy w' v.ownBlock ∧ w'.ownsRow base 3 1 v zs.length ((sortedP zs).map (Value.int .i64)):=by
 have hsl : (sortedP zs).length = zs.length:=List.length_mergeSort _
 rcases hrow.2 with ⟨rfl,hz⟩ | ⟨gb,cap,cur,rfl,hbase,hgb,r1,r2,r3,r4⟩
 ·obtain rfl : zs = []:=List.eq_nil_of_length_eq_zero hz
  refine (Tryz.slices_Sort_int_none none 0 w).mono ?_
  rintro e w' ⟨rfl,rfl⟩
  have h0 : sortedP [] = []:=List.eq_nil_of_length_eq_zero hsl
  rw [h0]
  exact ⟨rfl,⟨rfl,rfl,rfl,Nat.le_refl _,fun _ _ _=>rfl⟩,World.ownsRow_nil _ _ _ _⟩
 ·have hH : Holds encZ w gb 0 zs.toArray:=holds_of_block_i hgb (by simpa using r4)
  refine (Tryz.slices_Sort_int gb 0 cap zs w hH (heap_lt hgb) (by omega)).mono ?_
  rintro e w' ⟨rfl,n,os,rfl⟩
  exact ⟨rfl,grownBy_sorted_i _,ownsRow_sorted_i hsl hbase hgb r1 r2 r3⟩
theorem compactI_any (base : Nat) (v : Value) (zs : List Int) (w : World) (hrow : w.ownsRow base 3 1 v zs.length (zs.map (Value.int .i64))) (hlen : zs.length ≤ 1000000) :
  Calls Tryz.prog 36 #[v] w fun e w'=>∃ v',e = .returned v' ∧ w.grownBy w' v.ownBlock ∧ w'.ownsRow base 3 1 v' (Lib.compact zs).length ((Lib.compact zs).map (Value.int .i64)):=by
 rcases hrow.2 with ⟨rfl,hz⟩ | ⟨gb,cap,cur,rfl,hbase,hgb,r1,r2,r3,r4⟩
 ·obtain rfl : zs = []:=List.eq_nil_of_length_eq_zero hz
  refine (Tryz.slices_Compact_int_empty none 0 w).mono ?_
  rintro e w' ⟨rfl,rfl⟩
  exact ⟨_,rfl,⟨rfl,rfl,rfl,Nat.le_refl _,fun _ _ _=>rfl⟩,World.ownsRow_nil _ _ _ _⟩
 ·have hH : Holds encZ w gb 0 zs.toArray:=holds_of_block_i hgb (by simpa using r4)
  refine (Tryz.slices_Compact_int gb 0 cap zs w hH (by omega) r1).mono ?_
  rintro e w' ⟨rfl,q,rfl⟩
  have hcl : (Lib.compact zs).length ≤ zs.length:=compact_le zs
  have hg:=grownBy_sorted_i (w:=w) (g:=gb) (n:=q) (os:=#[]) ((Lib.compact zs ++ List.replicate (zs.length - (Lib.compact zs).length) 0).toArray)
  have ho:=ownsRow_sorted_i (w:=w) (n:=q) (os:=#[]) (ss:=zs) (ts:=Lib.compact zs ++ List.replicate (zs.length - (Lib.compact zs).length) 0) (by simp;omega) hbase hgb r1 r2 r3
  rw [grow_empty] at hg ho
  refine ⟨_,rfl,hg,?_⟩
  obtain ⟨h1,h2⟩:=ho
  rcases h2 with ⟨h2,_⟩ | ⟨g,cap',cur',h2,h3,h4,h5,h6,h7,h8⟩
  ·cases h2
  ·simp only [Value.slice.injEq,Option.some.injEq,Addr.mk.injEq,and_true,true_and] at h2
   obtain ⟨rfl,rfl⟩:=h2
   refine ⟨by simp,.inr ⟨gb,cap,cur',rfl,h3,h4,by omega,h6,h7,?_⟩⟩
   have e1 : (cur'.toList.take (zs.length * 1)).take ((Lib.compact zs).length) = cur'.toList.take ((Lib.compact zs).length):=by
    rw [List.take_take,Nat.min_eq_left (by omega)]
   rw [Nat.mul_one,← e1,h8,List.map_append,List.take_left' (by simp)]
def inS (s : St) (n : Int) : Bool:=decide (s.low < n) && decide (n ≤ s.high)
def sampF (a : Attr) (s : St) (marks : List Int) : List Int:=
 if a.values = [] then Lib.compact (sortedP (s.low :: marks.filter (inS s)))
 else ((List.range a.values.length).filter fun i=>s.bits.testBit i).map fun i : Nat=>(i : Int)
def bitsL (s : St) (j : Nat) : List Int:=((List.range j).filter fun i=>s.bits.testBit i).map fun i : Nat=>(i : Int)
theorem bitsL_succ (s : St) (j : Nat) : bitsL s (j + 1) = if s.bits.testBit j then bitsL s j ++ [(j : Int)] else bitsL s j:=by
 unfold bitsL
 rw [List.range_succ,List.filter_append,List.map_append]
 by_cases h : s.bits.testBit j = true <;> simp [h]
theorem bitsL_le (s : St) (j : Nat) : (bitsL s j).length ≤ j:=by
 unfold bitsL
 rw [List.length_map]
 exact Nat.le_trans (List.length_filter_le _ _) (by simp)
set_option maxHeartbeats 4000000 in
set_option maxRecDepth 100000 in
theorem samples_any (c : Nat) (a : Attr) (s : St) (w : World) (hcol : ColAt w c a) (hok : AttrOk a) (hs : s.bits < 256) (mv : Value) (marks : List Int) (hm : IntsAt w mv marks) (hml : marks.length ≤ 100000) :
  Calls Tryz.prog 117 #[encP c,s.val,mv] w fun e w'=>∃ v,e = .returned v ∧ w'.ownsRow w.heap.size 3 1 v (sampF a s marks).length ((sampF a s marks).map (Value.int .i64)) ∧ Ext w w':=by
 obtain ⟨ma,mcap,rfl,hmcap,_,hmel⟩:=hm.form
 have HMEL:=Lib.hid hmel
 have h8:=hok.small
 obtain ⟨W1,hW1⟩ : ∃ W1,W1 = w.alloc (.cells #[.int .u64 s.bits,.int .i64 s.low,.int .i64 s.high] 120 (0,0)):=⟨_,rfl⟩
 have hx1 : Ext w W1:=by rw [hW1];exact bel
 have hs1 : W1.heap.size = w.heap.size + 1:=by rw [hW1];simp
 have hb1 : W1.heap[w.heap.size]? = some (.cells #[.int .u64 s.bits,.int .i64 s.low,.int .i64 s.high] 120 (0,0)):=by rw [hW1];simp only [heap_drawn_get,heap_drew_get,heap_setCell_get,heap_alloc_get,World.size_alloc,World.size_setCell,size_drawn,putObj_get,putObj_size];(repeat (first | rw [if_pos trivial] | rw [if_pos rfl] | rw [if_neg (by omega)] | rw [if_pos (by omega)]))
 have HX1:=Lib.hid hx1
 have HB1:=Lib.hid hb1
 have HS1:=Lib.hid hs1
 obtain ⟨bv,hbv⟩ : ∃ bv,decide (a.values ≠ []) = bv:=⟨_,rfl⟩
 have HBV:=Lib.hid hbv
 have hch:=choice_val c a W1 (hcol.ext hx1) hbv
 have HCH:=Lib.hid hch
 obtain ⟨vals,at_,pb,hcb,⟨⟨vp,vcap,hve,_,_,hbad,hbad2⟩,_⟩,_⟩:=hcol
 subst hve
 have HCB:=Lib.hid hcb
 clear hmel hm hx1 hb1 hcb hok hbv hch hs1 hbad hbad2
 unfold St.val encP at *
 go_enter Tryz.func117,Tryz.ntmps117
 go_upto_region 2 with fail
 rw [← hW1]
 clear hW1
 go_wp2_with fail
 refine HCH.out.mono ?_
 rintro e w2 ⟨rfl,rfl⟩
 cases bv with
 | true=>
  have hav : a.values ≠ []:=by have:=HBV.out;simpa using this
  have hsa : sampF a s marks = bitsL s a.values.length:=by unfold sampF;rw [if_neg hav];rfl
  have HSA:=Lib.hid hsa
  have hc1 : W1.cell? ⟨c,1,none⟩ = some (.slice vp a.values.length vcap):=HX1.out.cell' (cell_of HCB.out 1)
  clear hav hsa
  go_wp2_with fail
  go_loopw [7,19] (fun v i wr=>∃ j : Nat,j ≤ a.values.length ∧ i = .int .i64 j ∧ Ext W1 wr ∧ wr.ownsRow W1.heap.size 3 1 v (bitsL s j).length ((bitsL s j).map (Value.int .i64))) (fun _ i _=>a.values.length - (intOf i).toNat)
  case atStart=>exact ⟨0,Nat.zero_le _,rfl,ext_refl _,World.ownsRow_nil _ _ _ _⟩
  case round=>
   obtain ⟨j,hj,rfl,hx,hrow⟩:=hrel
   by_cases hlt : j < a.values.length
   ·obtain ⟨p,cp,rfl⟩:=owns_form hrow
    have c0 : wr.cell? ⟨w.heap.size,0,none⟩ = some (.int .u64 s.bits):=cell_of (hx.obj HB1.out) 0
    have hbit:=bit_test s.bits j hs
    have hbl:=bitsL_le s j
    have hsucc:=bitsL_succ s j
    obtain ⟨bt,hbt⟩ : ∃ bt,s.bits.testBit j = bt:=⟨_,rfl⟩
    rw [hbt] at hbit hsucc
    have HSU:=Lib.hid hsucc
    have HX:=Lib.hid hx
    have HROW:=Lib.hid hrow
    clear hbt hsucc hx hrow
    cases bt with
    | false=>
     go_wp2_with fail
     exact ⟨⟨j + 1,by omega,rfl,HX.out,by rw [HSU.out];exact HROW.out⟩,by simp [intOf];omega⟩
    | true=>
     obtain ⟨W9,hW9⟩ : ∃ W9,W9 = wr.alloc (.cells #[.int .i64 (j : Int)] 3 (0,0)):=⟨_,rfl⟩
     have hx9 : Ext wr W9:=by rw [hW9];exact bel
     have hb9 : W9.heap[wr.heap.size]? = some (.cells #[.int .i64 (j : Int)] 3 (0,0)):=by rw [hW9];simp only [heap_drawn_get,heap_drew_get,heap_setCell_get,heap_alloc_get,World.size_alloc,World.size_setCell,size_drawn,putObj_get,putObj_size];(repeat (first | rw [if_pos trivial] | rw [if_pos rfl] | rw [if_neg (by omega)] | rw [if_pos (by omega)]))
     have hrow9:=owns_keep HROW.out fun g cs _ hgg=>hx9.block g (heap_lt hgg)
     obtain ⟨v',w10,happ,hrow',hgrow,_⟩:=append_ints (row:=[.int .i64 (j : Int)]) hrow9 wr.heap.size 1 rfl (fun k u hj=>by rw [Nat.zero_add,cell_of hb9 k,List.getElem?_toArray];exact hj) (fun u hu=>by simp at hu;subst hu;rfl) (by omega) (Nat.le_trans HX.out.size hx9.size) 1
     have hx10 : Ext W1 w10:=(HX.out.trans' hx9).grown hgrow (Nat.le_trans HX.out.size hx9.size) fun k hk=>(owns_block hrow9 hk).1
     rw [hW9] at happ
     have HAPP:=Lib.hid happ
     have HX10:=Lib.hid hx10
     have HROW':=Lib.hid hrow'
     clear hW9 hx9 hb9 hrow9 happ hrow' hgrow hx10
     go_wp2_with (at_builtin;refine wpList_append_run rfl _ _ 35 rfl rfl rfl HAPP.out ?_)
     refine ⟨⟨j + 1,by omega,rfl,HX10.out,?_⟩,by simp [intOf];omega⟩
     rw [HSU.out]
     simp only [if_true,List.length_append,List.map_append]
     exact HROW'.out
   ·obtain rfl : j = a.values.length:=by omega
    have HX:=Lib.hid hx
    have HROW:=Lib.hid hrow
    clear hx hrow
    go_wp2_with fail
    go_ret
    refine ⟨_,rfl,?_,HX1.out.trans' HX.out⟩
    rw [HSA.out]
    exact owns_mono HROW.out HX1.out.size
 | false=>
  have hav : a.values = []:=by have:=HBV.out;simpa using this
  have hsa : sampF a s marks = Lib.compact (sortedP (s.low :: marks.filter (inS s))):=by unfold sampF;rw [if_pos hav]
  have HSA:=Lib.hid hsa
  have c1 : W1.cell? ⟨w.heap.size,1,none⟩ = some (.int .i64 s.low):=cell_of HB1.out 1
  obtain ⟨W9,hW9⟩ : ∃ W9,W9 = W1.alloc (.cells #[.int .i64 s.low] 3 (0,0)):=⟨_,rfl⟩
  have hx9 : Ext W1 W9:=by rw [hW9];exact bel
  have hb9 : W9.heap[W1.heap.size]? = some (.cells #[.int .i64 s.low] 3 (0,0)):=by rw [hW9];simp only [heap_drawn_get,heap_drew_get,heap_setCell_get,heap_alloc_get,World.size_alloc,World.size_setCell,size_drawn,putObj_get,putObj_size];(repeat (first | rw [if_pos trivial] | rw [if_pos rfl] | rw [if_neg (by omega)] | rw [if_pos (by omega)]))
  obtain ⟨v0,w10,happ,hrow0,hgrow,_⟩:=append_ints (W:=W9) (base:=W1.heap.size) (v:=.slice none 0 0) (k:=0) (xs:=[]) (row:=[.int .i64 s.low]) (World.ownsRow_nil _ _ _ _) W1.heap.size 1 rfl (fun k u hj=>by rw [Nat.zero_add,cell_of hb9 k,List.getElem?_toArray];exact hj) (fun u hu=>by simp at hu;subst hu;rfl) (by omega) hx9.size 1
  have hx10 : Ext W1 w10:=hx9.grown hgrow hx9.size fun k hk=>by cases hk
  rw [hW9] at happ
  have HAPP:=Lib.hid happ
  have HX10:=Lib.hid hx10
  have HROW0:=Lib.hid (show w10.ownsRow W1.heap.size 3 1 v0 (s.low :: (marks.take 0).filter (inS s)).length ((s.low :: (marks.take 0).filter (inS s)).map (Value.int .i64)) from hrow0)
  clear hW9 hx9 hb9 happ hrow0 hgrow hx10 hav hsa
  go_upto_region 11 with (at_builtin;refine wpList_append_run rfl _ _ 35 rfl rfl rfl HAPP.out ?_)
  clear c1
  go_wp2_with fail
  go_loopw [7,41] (fun v i wr=>∃ j : Nat,j ≤ marks.length ∧ i = .int .i64 j ∧ Ext W1 wr ∧ wr.ownsRow W1.heap.size 3 1 v (s.low :: (marks.take j).filter (inS s)).length ((s.low :: (marks.take j).filter (inS s)).map (Value.int .i64))) (fun _ i _=>marks.length - (intOf i).toNat)
  case atStart=>exact ⟨0,Nat.zero_le _,rfl,HX10.out,HROW0.out⟩
  case round=>
   obtain ⟨j,hj,rfl,hx,hrow⟩:=hrel
   by_cases hlt : j < marks.length
   ·obtain ⟨x,hxj⟩ : ∃ x,marks[j]? = some x:=⟨_,List.getElem?_eq_getElem hlt⟩
    obtain ⟨mb,mo,rfl,hc⟩:=HMEL.out j x hxj
    have m0:=Ext.cell' (HX1.out.trans' hx) hc
    have c1 : wr.cell? ⟨w.heap.size,1,none⟩ = some (.int .i64 s.low):=cell_of (hx.obj HB1.out) 1
    have c2 : wr.cell? ⟨w.heap.size,2,none⟩ = some (.int .i64 s.high):=cell_of (hx.obj HB1.out) 2
    have htk : (marks.take (j + 1)).filter (inS s) = if inS s x then (marks.take j).filter (inS s) ++ [x] else (marks.take j).filter (inS s):=by
     rw [List.take_add_one,hxj,List.filter_append]
     cases hi : inS s x <;> simp [hi]
    have hfl : ((marks.take j).filter (inS s)).length ≤ 100000:=by
     refine Nat.le_trans (List.length_filter_le _ _) ?_
     rw [List.length_take]
     omega
    obtain ⟨fl,hfl'⟩ : ∃ fl,(marks.take j).filter (inS s) = fl:=⟨_,rfl⟩
    rw [hfl'] at hrow hfl htk
    replace hrow : wr.ownsRow W1.heap.size 3 1 _ (fl.length + 1) ((s.low :: fl).map (Value.int .i64)):=hrow
    obtain ⟨p,cp,rfl⟩:=owns_form hrow
    have HTK:=Lib.hid htk
    have HX:=Lib.hid hx
    have HROW:=Lib.hid hrow
    have HFL:=Lib.hid hfl'
    clear htk hx hrow hc hxj hfl'
    by_cases h1 : s.low < x
    ·by_cases h2 : x ≤ s.high
     ·have hin : inS s x = true:=by unfold inS;simp [h1,h2]
      obtain ⟨W9,hW9⟩ : ∃ W9,W9 = wr.alloc (.cells #[.int .i64 x] 3 (0,0)):=⟨_,rfl⟩
      have hx9 : Ext wr W9:=by rw [hW9];exact bel
      have hb9 : W9.heap[wr.heap.size]? = some (.cells #[.int .i64 x] 3 (0,0)):=by rw [hW9];simp only [heap_drawn_get,heap_drew_get,heap_setCell_get,heap_alloc_get,World.size_alloc,World.size_setCell,size_drawn,putObj_get,putObj_size];(repeat (first | rw [if_pos trivial] | rw [if_pos rfl] | rw [if_neg (by omega)] | rw [if_pos (by omega)]))
      have hrow9:=owns_keep HROW.out fun g cs _ hgg=>hx9.block g (heap_lt hgg)
      obtain ⟨v',w11,happ,hrow',hgrow,_⟩:=append_ints (row:=[.int .i64 x]) hrow9 wr.heap.size 1 rfl (fun k u hj=>by rw [Nat.zero_add,cell_of hb9 k,List.getElem?_toArray];exact hj) (fun u hu=>by simp at hu;subst hu;rfl) (by omega) (Nat.le_trans HX.out.size hx9.size) 1
      have hx11 : Ext W1 w11:=(HX.out.trans' hx9).grown hgrow (Nat.le_trans HX.out.size hx9.size) fun k hk=>(owns_block hrow9 hk).1
      rw [hW9] at happ
      have HAPP:=Lib.hid happ
      have HX11:=Lib.hid hx11
      have HROW':=Lib.hid hrow'
      have HIN:=Lib.hid hin
      clear hW9 hx9 hb9 hrow9 happ hrow' hgrow hx11 hin
      go_wp2_with (at_builtin;refine wpList_append_run rfl _ _ 35 rfl rfl rfl HAPP.out ?_)
      refine ⟨⟨j + 1,by omega,rfl,HX11.out,?_⟩,by simp [intOf];omega⟩
      rw [HTK.out,HIN.out]
      have hq:=HROW'.out
      have he : s.low :: (fl ++ [x]) = (s.low :: fl) ++ [x]:=rfl
      simp only [if_true]
      rw [he,List.length_append,List.map_append]
      exact hq
     ·have hin : inS s x = false:=by unfold inS;simp [h2]
      have HIN:=Lib.hid hin
      clear hin
      go_wp2_with fail
      exact ⟨⟨j + 1,by omega,rfl,HX.out,by rw [HTK.out,HIN.out];exact HROW.out⟩,by simp [intOf];omega⟩
    ·have hin : inS s x = false:=by unfold inS;simp [h1]
     have HIN:=Lib.hid hin
     clear hin
     go_wp2_with fail
     exact ⟨⟨j + 1,by omega,rfl,HX.out,by rw [HTK.out,HIN.out];exact HROW.out⟩,by simp [intOf];omega⟩
   ·obtain rfl : j = marks.length:=by omega
    rw [List.take_length] at hrow
    obtain ⟨zs,hzs⟩ : ∃ zs,s.low :: marks.filter (inS s) = zs:=⟨_,rfl⟩
    rw [hzs] at hrow HSA
    have hzl : zs.length ≤ 200000:=by
     rw [← hzs,List.length_cons]
     have:=List.length_filter_le (inS s) marks
     omega
    obtain ⟨p,cp,rfl⟩:=owns_form hrow
    have HX:=Lib.hid hx
    have HROW:=Lib.hid hrow
    clear hx hrow hzs hlt hj
    go_wp2_with fail
    refine (sortI_any W1.heap.size _ zs wr HROW.out (by omega)).mono ?_
    rintro e w3 ⟨rfl,g1,r1⟩
    have hx3 : Ext W1 w3:=HX.out.grown g1 HX.out.size fun k hk=>(owns_block HROW.out hk).1
    have hsl : (sortedP zs).length = zs.length:=List.length_mergeSort _
    have r1' : w3.ownsRow W1.heap.size 3 1 (.slice p zs.length cp) (sortedP zs).length ((sortedP zs).map (Value.int .i64)):=by rw [hsl];exact r1
    have HX3:=Lib.hid hx3
    have HR1:=Lib.hid r1'
    have HSL:=Lib.hid hsl
    clear g1 r1 r1' hx3 hsl
    go_wp2_with fail
    refine (compactI_any W1.heap.size _ (sortedP zs) w3 HR1.out (by rw [HSL.out];omega)).mono ?_
    rintro e w4 ⟨v',rfl,g2,r2⟩
    have hx4 : Ext W1 w4:=HX3.out.grown g2 HX3.out.size fun k hk=>(owns_block HR1.out hk).1
    have HX4:=Lib.hid hx4
    have HR2:=Lib.hid r2
    clear g2 r2 hx4
    go_wp2_with fail
    go_ret
    refine ⟨_,rfl,?_,HX1.out.trans' HX4.out⟩
    rw [HSA.out]
    exact owns_mono HR2.out HX1.out.size
end Go.Proofs.YtihfcjioilmmjaaGreat
namespace Go.Proofs.YtihfcjioilmmjaaGreat
open Go Go.RowKit
open Go.Lib Go.Sort Go.Maps Go.Shelf Go.Proofs
def U64 (n : Nat) : Value:=.int .u64 (n : Int)
set_option maxHeartbeats 1000000 in
set_option maxRecDepth 100000 in
theorem indexU_any (w : World) (v : Value) (l : List Nat) (x : Nat) (hv : SlAt w v 1 l.length (l.map U64)) :
  Calls Tryz.prog 92 #[v,U64 x] w fun e w'=>e = .returned (.int .i64 (idxL (l.map fun y=>decide (x = y)) 0)) ∧ w = w':=by
 obtain ⟨a,cap,rfl,hcap,hml,hbad,hel⟩:=hv
 clear hbad
 have HEL:=Lib.hid hel
 clear hel
 unfold maxLen at hml
 unfold U64 at *
 go_enter Tryz.func92,Tryz.ntmps92
 go_wp2_with fail
 go_loopw [4,5,8] (fun _ _ i wr=>∃ k : Nat,k ≤ l.length ∧ i = .int .i64 k ∧ Hid (idxL (l.map fun y=>decide (x = y)) 0 = idxL ((l.drop k).map fun y=>decide (x = y)) k) ∧ wr = w) (fun _ _ i _=>l.length - (intOf i).toNat)
 case atStart=>exact ⟨0,Nat.zero_le _,rfl,rfl,rfl⟩
 case round=>
  obtain ⟨k,hk,rfl,hr,rfl⟩:=hrel
  by_cases hlt : k < l.length
  ·obtain ⟨y,hy⟩ : ∃ y,l[k]? = some y:=⟨_,List.getElem?_eq_getElem hlt⟩
   obtain ⟨b,off,rfl,hc⟩:=HEL.out k (.int .u64 (y : Int)) (by rw [List.getElem?_map,hy];rfl)
   have hd : l.drop k = y :: l.drop (k + 1):=by
    rw [List.drop_eq_getElem_cons hlt]
    congr 1
    rw [List.getElem?_eq_getElem hlt] at hy
    exact Option.some.inj hy
   have HD:=Lib.hid hd
   clear hd hy
   by_cases hxy : x = y
   ·subst hxy
    go_wp2_with fail
    go_ret
    refine ⟨?_,rfl⟩
    rw [hr.out,HD.out]
    simp [idxL]
   ·have hne : ((x : Int) == (y : Int)) = false:=by rw [beq_eq_false_iff_ne];omega
    have hne2 : ¬ ((x : Int) = (y : Int)):=by omega
    go_wp2_with fail
    refine ⟨⟨k + 1,by omega,rfl,?_,by first | rfl | trivial⟩,by simp [intOf];omega⟩
    refine hr.out.trans ?_
    rw [HD.out]
    simp [idxL,hxy]
  ·obtain rfl : k = l.length:=by omega
   go_wp2_with fail
   go_ret
   refine ⟨?_,rfl⟩
   rw [hr.out,List.drop_length];rfl
set_option maxHeartbeats 1000000 in
set_option maxRecDepth 100000 in
theorem containsU_any (w : World) (v : Value) (l : List Nat) (x : Nat) (hv : SlAt w v 1 l.length (l.map U64)) :
  Calls Tryz.prog 69 #[v,U64 x] w fun e w'=>e = .returned (.bool (decide (x ∈ l))) ∧ w = w':=by
 have hI:=indexU_any w v l x hv
 have hb:=idxL_any (l.map fun y=>decide (x = y)) 0
 have hb2 : ((l.map fun y=>decide (x = y)).any id) = decide (x ∈ l):=by
  rw [Bool.eq_iff_iff]
  simp
 rw [hb2] at hb
 obtain ⟨a,cap,rfl,hbad⟩:=hv
 clear hbad hb2
 have HB:=Lib.hid hb
 have HI:=Lib.hid hI
 clear hb hI
 unfold U64 at *
 go_enter Tryz.func69,Tryz.ntmps69
 go_wp2_with fail
 refine HI.out.mono ?_
 rintro e w' ⟨rfl,rfl⟩
 go_wp2_with fail
 go_ret
 exact ⟨by rw [← HB.out];rfl,rfl⟩
end Go.Proofs.YtihfcjioilmmjaaGreat
namespace Go.Proofs.YtihfcjioilmmjaaGreat
open Go Go.RowKit
open Go.Lib Go.Sort Go.Maps Go.Shelf Go.Proofs
def bitsK (bs : List Bool) : Nat → Nat
 | 0=>0
 | k + 1=>if bs.getD k false then bitsK bs k ||| 2 ^ k else bitsK bs k
theorem bitsK_succ (bs : List Bool) (k : Nat) : bitsK bs (k + 1) = if bs.getD k false then bitsK bs k ||| 2 ^ k else bitsK bs k:=rfl
theorem bitsK_lt (bs : List Bool) : ∀ k,k ≤ 8 → bitsK bs k < 256
 | 0,_=>Nat.zero_lt_succ _
 | k + 1,h=>by
  have:=bitsK_lt bs k (by omega)
  unfold bitsK
  split
  ·exact (or_pow (bitsK bs k) k this (by omega)).2
  ·exact this
def QsAt (R : Rec) (W : World) (v : Value) (qbs : List Nat) (φs : List ((Nat → Int) → Bool)) : Prop:=
 SlAt W v 1 qbs.length (qbs.map encP) ∧ qbs.length = φs.length ∧ ∀ (i : Nat) qb φ,qbs[i]? = some qb → φs[i]? = some φ → ∃ tv lo hi,W.cell? ⟨qb,0,none⟩ = some tv ∧ hi ≤ W.heap.size ∧ TestOk R lo hi W tv φ
theorem QsAt.ext {R : Rec} {W W' : World} {v : Value} {qbs : List Nat} {φs : List ((Nat → Int) → Bool)} (h : QsAt R W v qbs φs) (hx : Ext W W') : QsAt R W' v qbs φs:=
 ⟨h.1.ext hx,h.2.1,fun i qb φ hq hφ=>let ⟨tv,lo,hi,k1,k2,k3⟩:=h.2.2 i qb φ hq hφ;⟨tv,lo,hi,hx.cell' k1,Nat.le_trans k2 hx.size,k3.move (btw_ext k2 hx)⟩⟩
structure OutAt (Nf bl : Nat) (W : World) (l : List Nat) (lv : Value) : Prop where
 box : W.heap[bl]? = some (.cells #[lv] 171 (0,0))
 row : W.ownsRow Nf 118 1 lv l.length (l.map U64)
theorem OutAt.ext {Nf bl : Nat} {W W' : World} {l : List Nat} {lv : Value} (h : OutAt Nf bl W l lv) (hx : Ext W W') : OutAt Nf bl W' l lv:=⟨hx.obj h.box,owns_keep h.row fun g _ _ hg=>hx.block g (heap_lt hg)⟩
structure FrO (N bl : Nat) (W W' : World) : Prop where
 low : Below N W W'
 block : ∀ (k : Nat) (o : Obj),W.heap[k]? = some o → k ≠ bl → (∀ cs fr,o ≠ Obj.cells cs 118 fr) → W'.heap[k]? = some o
theorem FrO.ext {N bl : Nat} {W W' : World} (h : Ext W W') (hN : N ≤ W.heap.size) : FrO N bl W W':=⟨Below.mono h hN,fun _ _ hk _ _=>h.obj hk⟩
theorem FrO.trans {N bl : Nat} {a b c : World} (h : FrO N bl a b) (g : FrO N bl b c) : FrO N bl a c:=⟨Below.trans h.low g.low,fun k o hk h1 h2=>g.block k o (h.block k o hk h1 h2) h1 h2⟩
def updO (l : List Nat) (b : Nat) : List Nat:=if b ∈ l then l else l ++ [b]
theorem vinfo118 : (Tryz.prog.info? 118).map (fun i=>(i.zero,i.size,i.bytes)) = some (some (.int .u64 0),1,8):=by kernel_rfl
theorem append_uints {W : World} {base : Nat} {v : Value} {k : Nat} {xs row : List Value} (hown : W.ownsRow base 118 1 v k xs) (ab m : Nat) (hl : row.length = m) (hrow : ∀ j u,row[j]? = some u → W.cell? ⟨ab,0 + j,none⟩ = some u) (h1 : ∀ u ∈ row,u.oneCell' = true) (hk : k + m ≤ 1000000) (hb : base ≤ W.heap.size) (c : Nat) :
  ∃ v' w',(Builtin.append_ #[171,171] 171 #[v,.slice (some ⟨ab,0,none⟩) m c]).run Tryz.prog W = .ok v' w' ∧ w'.ownsRow base 118 1 v' (k + m) (xs ++ row) ∧ W.grownBy w' v.ownBlock ∧ (v'.ownBlock = v.ownBlock ∨ v'.ownBlock = some W.heap.size):=by
 have hml : (1000000 : Nat) ≤ maxLen:=by decide
 obtain ⟨i0,hi,hz0,hz1,hz2⟩:=info_parts vinfo118
 obtain ⟨v',w',q1,q2,q3,_,q5⟩:=Go.run_append_own_at (P:=Tryz.prog) (w:=W) base 171 171 118 i0 _ 1 8 (by kernel_rfl) hi hz0 hz1 hz2 rfl (by decide) v k xs hown ⟨ab,0,none⟩ m c row (by omega) (fun j u hj=>add_cell (hrow j u hj)) h1 (by omega) (by omega) hb
 exact ⟨v',w',q1,q2,q3,q5⟩
set_option maxHeartbeats 4000000 in
set_option maxRecDepth 100000 in
theorem out1_any {R : Rec} (N Nf bl b5 hb : Nat) (hNf : N ≤ Nf) (hbl : N ≤ bl) (W : World) {qv : Value} {qbs : List Nat} {φs : List ((Nat → Int) → Bool)} (h5 : W.cell? ⟨b5,0,none⟩ = some qv) (hq : QsAt R W qv qbs φs) (h8 : qbs.length ≤ 8) (hco : ColsAt R W) {lw : List (Nat × Value)} {ρ : Nat → Int} (hw : WorldAt W hb lw ρ) (hg : Good R ρ) {l : List Nat} {lv : Value} (ho : OutAt Nf bl W l lv) (hl : l.length ≤ 1000) (hNW : Nf ≤ W.heap.size) :
  Calls Tryz.prog 90 #[.map (some hb),.pointer (some ⟨b5,0,none⟩),.pointer (some ⟨bl,0,none⟩)] W fun e W'=>e = .returned (.tuple #[]) ∧ FrO N bl W W' ∧ ∃ lv',OutAt Nf bl W' (updO l (bitsK (φs.map fun φ=>φ ρ) qbs.length)) lv':=by
 obtain ⟨bs,hbs⟩ : ∃ bs,(φs.map fun φ=>φ ρ) = bs:=⟨_,rfl⟩
 rw [hbs]
 obtain ⟨⟨qa,qcap,rfl,hqcap,hqml,hbad,hqel⟩,hqlen,hqt⟩:=hq
 have HQEL:=Lib.hid hqel
 have HQT:=Lib.hid hqt
 have HQLEN:=Lib.hid hqlen
 have HBS:=Lib.hid hbs
 have HCO:=Lib.hid hco
 have HW:=Lib.hid hw
 have HO:=Lib.hid ho
 clear hbad hqel hqt hqlen hbs hco hw ho
 unfold maxLen at hqml
 go_enter Tryz.func90,Tryz.ntmps90
 go_wp2_with fail
 go_loopw [4,9] (fun v i wr=>∃ k : Nat,k ≤ qbs.length ∧ i = .int .i64 k ∧ v = .int .u64 ((bitsK bs k : Nat) : Int) ∧ Ext W wr) (fun _ i _=>qbs.length - (intOf i).toNat)
 case atStart=>exact ⟨0,Nat.zero_le _,rfl,rfl,ext_refl _⟩
 case round=>
  obtain ⟨k,hk,rfl,rfl,hx⟩:=hrel
  by_cases hlt : k < qbs.length
  ·obtain ⟨qb,hqb⟩ : ∃ qb,qbs[k]? = some qb:=⟨_,List.getElem?_eq_getElem hlt⟩
   obtain ⟨φ,hφ⟩ : ∃ φ,φs[k]? = some φ:=⟨_,List.getElem?_eq_getElem (by rw [← HQLEN.out];exact hlt)⟩
   obtain ⟨qab,qoff,rfl,hc⟩:=HQEL.out k (encP qb) (by rw [List.getElem?_map,hqb];rfl)
   unfold encP at hc
   have c0:=Ext.cell' hx hc
   obtain ⟨tv,lo,hi,ht1,ht2,g,lb,rfl,eg,ht3⟩:=HQT.out k qb φ hqb hφ
   have c1:=Ext.cell' hx ht1
   have hbk : bs.getD k false = φ ρ:=by rw [← HBS.out,List.getD_eq_getElem?_getD,List.getElem?_map,hφ];rfl
   have hcall:=ht3 wr hb lw ρ (btw_ext ht2 hx) (HCO.out.ext hx) (HW.out.ext hx) hg
   have HBK:=Lib.hid hbk
   have HX:=Lib.hid hx
   have HCALL:=Lib.hid hcall
   have HOR:=Lib.hid (or_pow (bitsK bs k) k (bitsK_lt bs k (by omega)) (by omega)).1
   clear hc ht1 ht3 hbk hx hcall hqb hφ
   go_wp2_with fail
   refine HCALL.out.mono ?_
   rintro e w2 ⟨rfl,hx2⟩
   obtain ⟨bφ,hbφ⟩ : ∃ bφ,φ ρ = bφ:=⟨_,rfl⟩
   rw [hbφ]
   have HBF:=Lib.hid (show bs.getD k false = bφ by rw [HBK.out,hbφ])
   have HX2:=Lib.hid (HX.out.trans' hx2)
   clear hbφ hx2
   cases bφ with
   | false=>
    go_wp2_with fail
    exact ⟨⟨k + 1,by omega,rfl,by rw [bitsK_succ,HBF.out];rfl,HX2.out⟩,by simp [intOf];omega⟩
   | true=>
    go_wp2_with fail
    refine ⟨⟨k + 1,by omega,rfl,?_,HX2.out⟩,by simp [intOf];omega⟩
    rw [bitsK_succ,HBF.out,if_pos rfl,← HOR.out]
  ·obtain rfl : k = qbs.length:=by omega
   obtain ⟨b,hbq⟩ : ∃ b,bitsK bs qbs.length = b:=⟨_,rfl⟩
   have HBQ:=Lib.hid hbq
   have hO:=HO.out.ext hx
   obtain ⟨lp,lc,rfl⟩:=owns_form hO.row
   have d0 : wr.cell? ⟨bl,0,none⟩ = some (.slice lp l.length lc):=cell_of hO.box 0
   have f0:=frozen_of hO.box 0
   have hcon:=containsU_any wr (.slice lp l.length lc) l b (SlAt.of_owns hO.row)
   unfold U64 at hcon
   rw [hbq]
   have HOO:=Lib.hid hO
   have HCON:=Lib.hid hcon
   have HX:=Lib.hid hx
   clear hO hcon hx hbq hlt hk
   go_wp2_with fail
   refine HCON.out.mono ?_
   rintro e w2 ⟨rfl,rfl⟩
   by_cases hm : b ∈ l
   ·have hd : decide (b ∈ l) = true:=decide_eq_true hm
    rw [hd]
    clear hd
    go_wp2_with fail
    go_end0
    refine ⟨rfl,FrO.ext HX.out (by omega),.slice lp l.length lc,?_⟩
    unfold updO
    rw [if_pos (by rw [HBQ.out];exact hm)]
    exact HOO.out
   ·have hd : decide (b ∈ l) = false:=decide_eq_false hm
    rw [hd]
    clear hd
    obtain ⟨W9,hW9⟩ : ∃ W9,W9 = wr.alloc (.cells #[.int .u64 (b : Int)] 118 (0,0)):=⟨_,rfl⟩
    have hx9 : Ext wr W9:=by rw [hW9];exact bel
    have hb9 : W9.heap[wr.heap.size]? = some (.cells #[.int .u64 (b : Int)] 118 (0,0)):=by rw [hW9];simp only [heap_drawn_get,heap_drew_get,heap_setCell_get,heap_alloc_get,World.size_alloc,World.size_setCell,size_drawn,putObj_get,putObj_size];(repeat (first | rw [if_pos trivial] | rw [if_pos rfl] | rw [if_neg (by omega)] | rw [if_pos (by omega)]))
    have hO9:=HOO.out.ext hx9
    have hs9 : Nf ≤ W9.heap.size:=Nat.le_trans hNW (HX.out.trans' hx9).size
    obtain ⟨v',w10,happ,hrow,hgrow,_⟩:=append_uints (row:=[.int .u64 (b : Int)]) hO9.row wr.heap.size 1 rfl (fun k u hj=>by rw [Nat.zero_add,cell_of hb9 k,List.getElem?_toArray];exact hj) (fun u hu=>by simp at hu;subst hu;rfl) (by omega) hs9 1
    have hbx:=(frm_grown hO9.row hgrow).cells hO9.box (by decide)
    have hlow : Below N W w10:=(Below.mono (HX.out.trans' hx9) (by omega)).grown hgrow (by omega) fun k hk=>Nat.le_trans hNf (owns_block hO9.row hk).1
    have hblk : ∀ (k : Nat) (o : Obj),W.heap[k]? = some o → (∀ cs fr,o ≠ Obj.cells cs 118 fr) → w10.heap[k]? = some o:=fun k o hk ho=>frm_grown hO9.row hgrow k o ((HX.out.trans' hx9).obj hk) ho
    rw [hW9] at happ
    obtain ⟨np,nc,rfl⟩:=owns_form hrow
    have g0:=cell_of hbx 0
    have g1:=frozen_of hbx 0
    have HAPP:=Lib.hid happ
    have HROW:=Lib.hid hrow
    have HBX:=Lib.hid hbx
    have HLOW:=Lib.hid hlow
    have HBLK:=Lib.hid hblk
    clear hW9 hx9 hb9 hO9 happ hrow hgrow hbx hlow hblk hs9
    go_wp2_with (at_builtin;refine wpList_append_run rfl _ _ 171 rfl rfl rfl HAPP.out ?_)
    go_end0
    refine ⟨rfl,⟨Below.setCell HLOW.out hbl _,fun k o hk h1 h2=>?_⟩,.slice np (l.length + 1) nc,?_,?_⟩
    ·rw [heap_setCell_get,if_neg h1];exact HBLK.out k o hk h2
    ·rw [heap_setCell_get,if_pos rfl,HBX.out];rfl
    ·unfold updO
     rw [HBQ.out,if_neg hm,List.length_append,List.map_append]
     exact (frm_set (off:=0) HBX.out _).owns HROW.out (by decide)
end Go.Proofs.YtihfcjioilmmjaaGreat
namespace Go.Proofs.YtihfcjioilmmjaaGreat
open Go Go.RowKit
open Go.Lib Go.Sort Go.Maps Go.Shelf Go.Proofs
def updR (ρ : Nat → Int) (c : Nat) (n : Int) : Nat → Int:=fun c'=>if c' = c then n else ρ c'
def runW (smp : Nat → List Int) (b : (Nat → Int) → Nat) : List Nat → (Nat → Int) × List Nat → (Nat → Int) × List Nat
 | [],st=>(st.1,updO st.2 (b st.1))
 | c :: r,st=>(smp c).foldl (fun st n=>runW smp b r (updR st.1 c n,st.2)) st
structure FrW (N bl hb : Nat) (W W' : World) : Prop where
 low : Below N W W'
 block : ∀ (k : Nat) (o : Obj),W.heap[k]? = some o → k ≠ bl → k ≠ hb → (∀ cs fr,o ≠ Obj.cells cs 118 fr) → W'.heap[k]? = some o
theorem FrW.ext {N bl hb : Nat} {W W' : World} (h : Ext W W') (hN : N ≤ W.heap.size) : FrW N bl hb W W':=⟨Below.mono h hN,fun _ _ hk _ _ _=>h.obj hk⟩
theorem FrW.trans {N bl hb : Nat} {a b c : World} (h : FrW N bl hb a b) (g : FrW N bl hb b c) : FrW N bl hb a c:=⟨Below.trans h.low g.low,fun k o hk h1 h2 h3=>g.block k o (h.block k o hk h1 h2 h3) h1 h2 h3⟩
theorem FrO.frW {N bl hb : Nat} {W W' : World} (h : FrO N bl W W') : FrW N bl hb W W':=⟨h.low,fun k o hk h1 _ h3=>h.block k o hk h1 h3⟩
theorem FrW.put {N bl hb : Nat} {W : World} (o : Obj) (hN : N ≤ hb) : FrW N bl hb W (W.putObj hb o):=⟨below_putObj (Below.refl _ _) hN _,fun k o' hk _ h2 _=>by rw [putObj_get,if_neg h2];exact hk⟩
theorem FrW.cells {N bl hb : Nat} {W W' : World} (h : FrW N bl hb W W') {x : Array Value} {f0 : Nat × Nat} (h1 : W.heap[bl]? = some (.cells x 171 f0)) {es : Array MapEntry} {cl : Nat} (h2 : W.heap[hb]? = some (.map es cl)) {k : Nat} {cs : Array Value} {T : TypeId} {fr : Nat × Nat} (hk : W.heap[k]? = some (.cells cs T fr)) (hT : T ≠ 171) (hT2 : T ≠ 118) : W'.heap[k]? = some (.cells cs T fr):=by
 refine h.block k _ hk (fun e=>?_) (fun e=>?_) (fun cs' fr' e=>?_)
 ·subst e
  rw [h1] at hk
  injection hk with e1
  injection e1 with e2 e3 e4
  exact hT e3.symm
 ·subst e
  rw [h2] at hk
  cases hk
 ·injection e with e2 e3 e4
  exact hT2 e3
theorem FrW.owns {N bl hb : Nat} {W W' : World} (h : FrW N bl hb W W') {x : Array Value} {f0 : Nat × Nat} (h1 : W.heap[bl]? = some (.cells x 171 f0)) {es : Array MapEntry} {cl : Nat} (h2 : W.heap[hb]? = some (.map es cl)) {base : Nat} {T : TypeId} {k : Nat} {v : Value} {n : Nat} {xs : List Value} (ho : W.ownsRow base T k v n xs) (hT : T ≠ 171) (hT2 : T ≠ 118) : W'.ownsRow base T k v n xs:=
 owns_keep ho fun _ _ _ hg=>(h.cells h1 h2 hg hT hT2).trans hg.symm
theorem cols_unique {B : Nat} {w : World} {rb : Nat} {R : Rec} {cm : Nat} {vv fv : Value} {os : List (Option Nat × Option Nat)} {xs : List (List Value)} (h : RecAt B w rb R cm vv fv os xs) {a a' : Attr} {c : Nat} (h1 : (a,c) ∈ R.cols) (h2 : (a',c) ∈ R.cols) : a = a':=by
 obtain ⟨v,t,p,k1,_⟩:=h.colAt _ h1
 obtain ⟨v',t',p',k2,_⟩:=h.colAt _ h2
 rw [k1] at k2
 simp at k2
 have hn : a.name = a'.name:=k2.1
 have hnd:=h.ok.names
 obtain ⟨i,hi⟩:=List.mem_iff_getElem?.1 h1
 obtain ⟨j,hj⟩:=List.mem_iff_getElem?.1 h2
 have e1 : (R.cols.map (·.1.name))[i]? = some a.name:=by rw [List.getElem?_map,hi];rfl
 have e2 : (R.cols.map (·.1.name))[j]? = some a.name:=by rw [List.getElem?_map,hj,hn];rfl
 have:=(List.getElem?_inj (List.getElem?_eq_some_iff.1 e1).1 hnd).1 (e1.trans e2.symm)
 subst this
 rw [hi] at hj
 exact (Prod.mk.inj (Option.some.inj hj)).1
theorem good_upd {B : Nat} {w : World} {rb : Nat} {R : Rec} {cm : Nat} {vv fv : Value} {os : List (Option Nat × Option Nat)} {xs : List (List Value)} (h : RecAt B w rb R cm vv fv os xs) {ρ : Nat → Int} (hg : Good R ρ) {a : Attr} {c : Nat} (hc : (a,c) ∈ R.cols) {s : St} {marks : List Int} {n : Int} (hn : n ∈ sampF a s marks) : Good R (updR ρ c n):=by
 intro x hx hv
 unfold updR
 split
 ·rename_i e
  obtain ⟨a',c'⟩:=x
  simp only at e hv ⊢
  subst e
  obtain rfl:=cols_unique h hc hx
  unfold sampF at hn
  rw [if_neg hv] at hn
  obtain ⟨i,hi,rfl⟩:=List.mem_map.1 hn
  have h1:=List.mem_range.1 (List.mem_filter.1 hi).1
  have h2 : a.values.length ≤ 8:=(h.ok.attrs _ hc).small
  omega
 ·exact hg x hx hv
theorem WorldAt.put {W : World} {hb : Nat} {lw : List (Nat × Value)} {ρ : Nat → Int} (h : WorldAt W hb lw ρ) {c : Nat} (hc : IsCol W c) (n : Int) : WorldAt (wput encP W hb (mput lw c (.int .i64 n))) hb (mput lw c (.int .i64 n)) (updR ρ c n):=by
 have hm:=h.map
 have hlt:=heap_lt hm
 unfold MapIs at hm
 refine ⟨wput_same hlt,fun x hx=>?_,fun c'=>?_⟩
 ·rcases mput_mem lw c _ x hx with rfl | ⟨hx,_⟩
  ·obtain ⟨cs,hc⟩:=hc
   exact ⟨cs,put_cells hm hc⟩
  ·obtain ⟨cs,hc⟩:=h.cols x hx
   exact ⟨cs,put_cells hm hc⟩
 ·rw [lookNat_set]
  unfold updR
  split
  ·rfl
  ·exact h.val c'
theorem updO_ok {l : List Nat} {b : Nat} (h : l.Nodup ∧ ∀ x ∈ l,x < 256) (hb : b < 256) : (updO l b).Nodup ∧ ∀ x ∈ updO l b,x < 256:=by
 unfold updO
 split
 ·exact h
 ·rename_i hm
  refine ⟨?_,fun x hx=>?_⟩
  ·rw [List.nodup_append]
   exact ⟨h.1,by simp,fun x hx y hy=>by rw [List.mem_singleton.1 hy];rintro rfl;exact hm hx⟩
  ·rcases List.mem_append.1 hx with hx | hx
   ·exact h.2 x hx
   ·rw [List.mem_singleton.1 hx];exact hb
theorem len256 {l : List Nat} (h : l.Nodup ∧ ∀ x ∈ l,x < 256) : l.length ≤ 256:=by
 have h1:=nodup_bound 256 (l.map fun j=>((j + 1 : Nat) : Int)) (List.pairwise_map.2 (List.Pairwise.imp (fun h e=>h (by omega)) h.1)) fun x hx=>by
  obtain ⟨j,hj,rfl⟩:=List.mem_map.1 hx
  have:=h.2 j hj
  omega
 simpa using h1
structure WS (R : Rec) (N bl hb vb mb b9 b7 b16 b4 b5 b8 b17 bq : Nat) (s : ByteArray) (qv cv : Value) (cols : List Nat) (lm : List (Nat × Value)) (μ : Nat → Option (List Int)) (W : World) : Prop where
 c9 : W.heap[b9]? = some (.cells #[cv] 209 (0,0))
 row : W.ownsRow N 101 1 cv cols.length (cols.map encP)
 c7 : W.heap[b7]? = some (.cells #[.func (.func 90) #[] #[.pointer (some ⟨bq,0,none⟩),.pointer (some ⟨bl,0,none⟩)]] 189 (0,0))
 c16 : W.heap[b16]? = some (.cells #[.map (some hb)] 182 (0,0))
 c4 : W.heap[b4]? = some (.cells #[.pointer (some ⟨vb,0,none⟩)] 128 (0,0))
 c5 : W.heap[b5]? = some (.cells #[.string s] 9 (0,0))
 c8 : W.heap[b8]? = some (.cells #[.map (some mb)] 166 (0,0))
 cq : W.heap[bq]? = some (.cells #[qv] 161 (0,0))
 c17 : W.heap[b17]? = some (.cells #[.func (.func 116) #[] #[.pointer (some ⟨b9,0,none⟩),.pointer (some ⟨b7,0,none⟩),.pointer (some ⟨b16,0,none⟩),.pointer (some ⟨b4,0,none⟩),.pointer (some ⟨b5,0,none⟩),.pointer (some ⟨b8,0,none⟩),.pointer (some ⟨b17,0,none⟩)]] 211 (0,0))
 marks : MarksAt N R W mb lm μ
 ne : mb ≠ hb
 hN : N ≤ hb ∧ N ≤ bl
theorem WS.fr {R : Rec} {N bl hb vb mb b9 b7 b16 b4 b5 b8 b17 bq : Nat} {s : ByteArray} {qv cv : Value} {cols : List Nat} {lm : List (Nat × Value)} {μ : Nat → Option (List Int)} {W W' : World} (h : WS R N bl hb vb mb b9 b7 b16 b4 b5 b8 b17 bq s qv cv cols lm μ W) (hf : FrW N bl hb W W') {x : Array Value} {f0 : Nat × Nat} (h1 : W.heap[bl]? = some (.cells x 171 f0)) {es : Array MapEntry} {cl : Nat} (h2 : W.heap[hb]? = some (.map es cl)) : WS R N bl hb vb mb b9 b7 b16 b4 b5 b8 b17 bq s qv cv cols lm μ W':=
 {c9:=hf.cells h1 h2 h.c9 (by decide) (by decide),row:=hf.owns h1 h2 h.row (by decide) (by decide),c7:=hf.cells h1 h2 h.c7 (by decide) (by decide),c16:=hf.cells h1 h2 h.c16 (by decide) (by decide),c4:=hf.cells h1 h2 h.c4 (by decide) (by decide),c5:=hf.cells h1 h2 h.c5 (by decide) (by decide),c8:=hf.cells h1 h2 h.c8 (by decide) (by decide),cq:=hf.cells h1 h2 h.cq (by decide) (by decide),c17:=hf.cells h1 h2 h.c17 (by decide) (by decide)
  marks:={ map:=hf.block mb _ h.marks.map (fun e=>by have:=h.marks.map;unfold MapIs at this;rw [e,h1] at this;cases this) h.ne (by simp),nodup:=h.marks.nodup,none_:=h.marks.none_,some_:=fun c v hv=>let ⟨l,k1,k2⟩:=h.marks.some_ c v hv;⟨l,k1,hf.owns h1 h2 k2 (by decide) (by decide)⟩,dis:=h.marks.dis,cols:=h.marks.cols }
  ne:=h.ne,hN:=h.hN }
end Go.Proofs.YtihfcjioilmmjaaGreat
namespace Go.Proofs.YtihfcjioilmmjaaGreat
open Go Go.RowKit
open Go.Lib Go.Sort Go.Maps Go.Shelf Go.Proofs
theorem WorldAt.fr {N bl hb : Nat} {W W' : World} {lw : List (Nat × Value)} {ρ : Nat → Int} (h : WorldAt W hb lw ρ) (hf : FrO N bl W W') {x : Array Value} {f0 : Nat × Nat} (h1 : W.heap[bl]? = some (.cells x 171 f0)) : WorldAt W' hb lw ρ:=by
 have hm:=h.map
 unfold MapIs at hm
 refine ⟨hf.block hb _ hm (fun e=>by rw [e,h1] at hm;cases hm) (by simp),fun y hy=>?_,h.val⟩
 obtain ⟨cs,hc⟩:=h.cols y hy
 exact ⟨cs,(hf.frW (hb:=hb)).cells h1 hm hc (by decide) (by decide)⟩
def SamI (N : Nat) (wq : World) (u0 : Value) (ns : List Int) (us : List Value) (W : World) : Prop:=
 match us with
 | []=>Ext wq W
 | [u]=>u = u0 ∧ Ext wq W
 | _ :: v :: _=>W.ownsRow N 3 1 v ns.length (ns.map (Value.int .i64)) ∧ Ext wq W
theorem SamI.pre {N : Nat} {wq : World} {u0 : Value} {ns : List Int} {us : List Value} {W : World} (h : SamI N wq u0 ns us W) : Ext wq W:=by
 match us,h with
 | [],h=>exact h
 | [_],⟨_,h⟩=>exact h
 | _ :: _ :: _,⟨_,h⟩=>exact h
set_option maxHeartbeats 4000000 in
set_option maxRecDepth 100000 in
theorem choose_any {B : Nat} {w0 : World} {rb : Nat} {R : Rec} {cm : Nat} {vv fv : Value} {os : List (Option Nat × Option Nat)} {xs : List (List Value)} (h : RecAt B w0 rb R cm vv fv os xs) {B2 : Nat} {vb : Nat} {hf : List (Int × FR)} {sv : Value} {mp mk mf md : Nat} {lp : List (ByteArray × Value)} {lk lf ld : List ((ByteArray × Nat) × Value)}
  (hV : ViewAt B2 w0 vb hf sv mp mk mf md lp lk lf ld) (hfc : ∀ y ∈ hf,(y.2.attr,y.2.col) ∈ R.cols) (hfb : ∀ y ∈ hf,y.2.st.bits < 256) {qv : Value} {qbs : List Nat} {φs : List ((Nat → Int) → Bool)} (hq : QsAt R w0 qv qbs φs) (h8 : qbs.length ≤ 8) (Nf bl hb mb b9 b7 b16 b4 b5 b8 b17 bq : Nat) (s : ByteArray) (cv : Value) (cols : List Nat) (lm : List (Nat × Value)) (μ : Nat → Option (List Int)) (smp : Nat → List Int)
  (hcl : cols.length ≤ 100) (hNf : w0.heap.size ≤ Nf) (hsmp : ∀ c ∈ cols,∃ a,(a,c) ∈ R.cols ∧ smp c = sampF a (ofV hf (s,c) a) ((μ c).getD []) ∧ ((μ c).getD []).length ≤ 100000) :
  ∀ (m i : Nat),i + m = cols.length → ∀ (W : World) (lw : List (Nat × Value)) (ρ : Nat → Int) (l : List Nat) (lv : Value),Below w0.heap.size w0 W → WS R w0.heap.size bl hb vb mb b9 b7 b16 b4 b5 b8 b17 bq s qv cv cols lm μ W → WorldAt W hb lw ρ → Good R ρ → OutAt Nf bl W l lv → (l.Nodup ∧ ∀ x ∈ l,x < 256) → Nf ≤ W.heap.size →
  Calls Tryz.prog 116 #[.int .i64 (i : Int),.pointer (some ⟨b9,0,none⟩),.pointer (some ⟨b7,0,none⟩),.pointer (some ⟨b16,0,none⟩),.pointer (some ⟨b4,0,none⟩),.pointer (some ⟨b5,0,none⟩),.pointer (some ⟨b8,0,none⟩),.pointer (some ⟨b17,0,none⟩)] W fun e W'=>e = .returned (.tuple #[]) ∧ FrW w0.heap.size bl hb W W' ∧
   ∃ lw' lv',WorldAt W' hb lw' (runW smp (fun ρ=>bitsK (φs.map fun φ=>φ ρ) qbs.length) (cols.drop i) (ρ,l)).1 ∧ Good R (runW smp (fun ρ=>bitsK (φs.map fun φ=>φ ρ) qbs.length) (cols.drop i) (ρ,l)).1 ∧ OutAt Nf bl W' (runW smp (fun ρ=>bitsK (φs.map fun φ=>φ ρ) qbs.length) (cols.drop i) (ρ,l)).2 lv' ∧ ((runW smp (fun ρ=>bitsK (φs.map fun φ=>φ ρ) qbs.length) (cols.drop i) (ρ,l)).2.Nodup ∧ ∀ x ∈ (runW smp (fun ρ=>bitsK (φs.map fun φ=>φ ρ) qbs.length) (cols.drop i) (ρ,l)).2,x < 256):=by
 obtain ⟨bf,hbf⟩ : ∃ bf,(fun ρ=>bitsK (φs.map fun φ=>φ ρ) qbs.length) = bf:=⟨_,rfl⟩
 have hbf1 : ∀ ρ,bitsK (φs.map fun φ=>φ ρ) qbs.length = bf ρ:=fun ρ=>by rw [← hbf]
 have hbf2 : ∀ ρ,bf ρ < 256:=fun ρ=>by rw [← hbf1];exact bitsK_lt _ _ h8
 rw [hbf]
 have HREC:=Lib.hid h
 have HV:=Lib.hid hV
 have HFC:=Lib.hid hfc
 have HFB:=Lib.hid hfb
 have HQ:=Lib.hid hq
 have HSMP:=Lib.hid hsmp
 have HBF1:=Lib.hid hbf1
 have HBF2:=Lib.hid hbf2
 clear hbf1 hbf2 hbf h hV hfc hfb hq hsmp
 intro m
 induction m with
 | zero=>
  intro i hi W lw ρ l lv hlow hws hw hg ho hok hNW
  have hin : i = cols.length:=by omega
  subst hin
  obtain ⟨cp,cc,rfl⟩:=owns_form hws.row
  have d9:=cell_of hws.c9 0
  have d7:=cell_of hws.c7 0
  have d16:=cell_of hws.c16 0
  have hcq : W.cell? ⟨bq,0,none⟩ = some qv:=cell_of hws.cq 0
  have e90:=enters_of Tryz.func90 (by kernel_rfl) rfl
  have hco : ColsAt R W:=fun x hx=>(HREC.out.ext hlow).isCol hx
  have hout:=out1_any w0.heap.size Nf bl bq hb hNf hws.hN.2 W hcq (HQ.out.ext hlow) h8 hco hw hg ho (Nat.le_trans (len256 hok) (by decide)) hNW
  rw [HBF1.out] at hout
  have hdr : cols.drop cols.length = []:=List.drop_length
  rw [hdr]
  have HOUT:=Lib.hid hout
  have HW:=Lib.hid hw
  have HO:=Lib.hid ho
  have HGD:=Lib.hid hg
  have HOK:=Lib.hid hok
  clear hout hw ho hg hok hws hlow hcq hco hdr
  go_enter Tryz.func116,Tryz.ntmps116
  go_wp2_with fail
  refine HOUT.out.mono ?_
  rintro e W' ⟨rfl,hfr,lv',ho'⟩
  have HFR:=Lib.hid hfr
  have HO':=Lib.hid ho'
  clear hfr ho'
  go_wp2_with fail
  refine bodyPost_ret (v:=.tuple #[]) (by simp [results,Tryz.results116,go_sem]) rfl ?_
  exact ⟨rfl,HFR.out.frW,lw,lv',HW.out.fr HFR.out HO.out.box,HGD.out,HO'.out,updO_ok HOK.out (HBF2.out ρ)⟩
 | succ m ih=>
  intro i hi W lw ρ l lv hlow hws hw hg ho hok hNW
  have hlt : i < cols.length:=by omega
  obtain ⟨c,hc⟩ : ∃ c,cols[i]? = some c:=⟨_,List.getElem?_eq_getElem hlt⟩
  have hdr : cols.drop i = c :: cols.drop (i + 1):=by
   rw [List.drop_eq_getElem_cons hlt]
   congr 1
   rw [List.getElem?_eq_getElem hlt] at hc
   exact Option.some.inj hc
  rw [hdr]
  obtain ⟨a,hcm,hsm,hml⟩:=HSMP.out c (List.mem_of_getElem? hc)
  have hco : ColsAt R W:=fun x hx=>(HREC.out.ext hlow).isCol hx
  obtain ⟨tb,tcap,rfl,hct⟩ : ∃ tb tcap,cv = .slice (some ⟨tb,0,none⟩) cols.length tcap ∧ W.cell? ⟨tb,i,none⟩ = some (.pointer (some ⟨c,0,none⟩)):=by
   rcases hws.row.2 with ⟨_,h0⟩ | ⟨g,cap,cur,rfl,_,hgg,_,_,_,ht⟩
   ·omega
   ·refine ⟨g,cap,rfl,?_⟩
    rw [cell_of hgg]
    have h2 : (cols.map encP)[i]? = some (.pointer (some ⟨c,0,none⟩)):=by rw [List.getElem?_map,hc];rfl
    rw [← ht,List.getElem?_take] at h2
    split at h2
    ·simpa using h2
    ·cases h2
  obtain ⟨mv,hmv⟩ : ∃ mv,(look lm c).getD (.slice none 0 0) = mv:=⟨_,rfl⟩
  have hmrow:=hws.marks.rowOld c
  rw [hmv] at hmrow
  have hlk : ∀ W',Ext W W' → (Instr.lookup 166 (.map (some mb)) (.pointer (some ⟨c,0,none⟩)) false).run Tryz.prog W' = .ok mv W':=fun W' hE=>by
   have hq0:=run_lookup1 (P:=Tryz.prog) (T:=166) (K:=101) (E:=35) (z:=.slice none 0 0) (k:=c) (by kernel_rfl) (hws.marks.map.ext hE) (finds_ptr W' lm c ((hco.ext hE) (a,c) hcm) (fun x hx=>let ⟨a',ha'⟩:=hws.marks.cols x hx;(hco.ext hE) (a',x.1) ha')) (by kernel_rfl)
   rw [hmv] at hq0
   exact hq0
  obtain ⟨st,hst⟩ : ∃ st,ofV hf (s,c) a = st:=⟨_,rfl⟩
  have hst8 : st.bits < 256:=by
   rw [← hst]
   unfold ofV knowV
   cases hkk : knowK hf (s,c) with
   | none=>exact allSt_bits (HREC.out.ok.attrs _ hcm)
   | some x=>
    show (if x.2.1 = true then allSt x.2.2 else x.1).bits < 256
    split
    ·obtain ⟨y,hy,_,e⟩:=knowK_some _ _ _ hkk
     rw [e]
     exact allSt_bits (HREC.out.ok.attrs _ (HFC.out y hy))
    ·exact knowK_bits (fun y hy=>HFB.out y hy) hkk
  obtain ⟨ns,hns⟩ : ∃ ns,smp c = ns:=⟨_,rfl⟩
  rw [hns,hst] at hsm
  have hof:=fun W' (hE : Ext W W')=>of_any (HREC.out.ext (Ext.trans' hlow hE)) (HV.out.ext (Ext.trans' hlow hE)) HFC.out s hcm
  rw [hst] at hof
  have hsam:=fun W' (hE : Ext W W')=>samples_any c a st W' ((HREC.out.ext (Ext.trans' hlow hE)).colAt _ hcm).colAt (HREC.out.ok.attrs _ hcm) hst8 mv ((μ c).getD []) ((SlAt.of_owns hmrow).ext hE) hml
  rw [← hsm] at hsam
  have HST8:=Lib.hid hst8
  have hml':=hml
  have HSM:=Lib.hid hsm
  have HNS:=Lib.hid hns
  have HOF:=Lib.hid hof
  have HSAM:=Lib.hid hsam
  have HLK:=Lib.hid hlk
  have HCO:=Lib.hid hco
  have HCM:=Lib.hid hcm
  have HWS:=Lib.hid hws
  have HW:=Lib.hid hw
  have HO:=Lib.hid ho
  have HGD:=Lib.hid hg
  have HOK:=Lib.hid hok
  have HLOW:=Lib.hid hlow
  have HIH:=Lib.hid ih
  have d9:=cell_of hws.c9 0
  have hne : ((i : Int) == (cols.length : Int)) = false:=by rw [beq_eq_false_iff_ne];omega
  have hsz : w0.heap.size ≤ W.heap.size:=hlow.size
  clear hst8 hsm hns hof hsam hlk hco hcm hws hw ho hg hok hlow ih hmrow hmv hst hml hdr hc
  unfold St.val at HOF
  unfold St.val encP at HSAM
  go_enter Tryz.func116,Tryz.ntmps116
  go_upto_region 3 with fail
  clear d9 hct
  refine Rt.wp_region_rt (by kernel_rfl) [0,1,2,3,4,6,7,8,11,5,9,10] [5,9] [1,0,0,0,0,1000,1,1,1] [0,0,0,0,12,30,0,0,192,511,1023,0] (by kernel_rfl) (SamI w0.heap.size W (.agg #[.int .u64 st.bits,.int .i64 st.low,.int .i64 st.high]) ns) ?_ ?_
  ·exact (below_drawn (ext_refl _) _ : Ext _ _)
  (refine Rt.rs_sil rfl rfl rfl (fun K hK=>?_);go_simp;refine hK _ ?_;clear hK K)
  (refine Rt.rs_rd rfl rfl rfl ?_;apply Exists.intro;refine ⟨fun us' W hp hl hI=>?_,?_⟩;· (have g1:=cell_of (hI.pre.obj HWS.out.c4) 0;go_simp;rfl));simp only [Act.put,zA,zB,zC,zD,zE,zF]
  (refine Rt.rs_rd rfl rfl rfl ?_;apply Exists.intro;refine ⟨fun us' W hp hl hI=>?_,?_⟩;· (have g1:=cell_of (hI.pre.obj HWS.out.c5) 0;go_simp;rfl));simp only [Act.put,zA,zB,zC,zD,zE,zF]
  iterate 2 (refine Rt.rs_sil rfl rfl rfl (fun K hK=>?_);go_simp;refine hK _ ?_;clear hK K)
  (refine Rt.rs_rd rfl rfl rfl ?_;apply Exists.intro;refine ⟨fun us' W hp hl hI=>?_,?_⟩;· (have g1:=cell_of (hI.pre.obj HWS.out.c8) 0;go_simp;rfl));simp only [Act.put,zA,zB,zC,zD,zE,zF]
  (refine Rt.rs_sil rfl rfl rfl (fun K hK=>?_);go_simp;refine hK _ ?_;clear hK K)
  (refine Rt.rs_rd rfl rfl rfl ?_;apply Exists.intro;refine ⟨fun us' W hp hl hI=>?_,?_⟩;· (have g1:=HLK.out _ hI.pre;go_simp;rfl));simp only [Act.put,zA,zB,zC,zD,zE,zF]
  (refine Rt.rs_sil rfl rfl rfl (fun K hK=>?_);go_simp;refine hK _ ?_;clear hK K)
  refine Rt.rs_eff rfl rfl rfl (fun W hI=>?_) (fun v hv=>?_)
  ·have hE:=hI.pre
   refine Rt.gives_cal ?_
   apply Exists.intro
   apply Exists.intro
   apply Exists.intro
   refine ⟨by go_simp;exact ⟨⟨rfl,rfl⟩,rfl⟩,?_⟩
   refine (HOF.out _ hE).mono ?_
   rintro e w5 ⟨rfl,hx5⟩
   exact ⟨_,rfl,rfl,hE.trans' hx5⟩
  obtain rfl : v = .agg #[.int .u64 st.bits,.int .i64 st.low,.int .i64 st.high]:=let ⟨W,hI⟩:=hv;hI.1
  clear hv
  simp only [Act.put,zA,zB,zC,zD,zE,zF]
  refine Rt.rs_eff rfl rfl rfl (fun W hI=>?_) (fun v hv=>?_)
  ·have hE:=hI.pre
   refine Rt.gives_cal ?_
   apply Exists.intro
   apply Exists.intro
   apply Exists.intro
   refine ⟨by go_simp;exact ⟨⟨rfl,rfl⟩,rfl⟩,?_⟩
   refine (HSAM.out _ hE).mono ?_
   rintro e w5 ⟨v',rfl,hrow,hx5⟩
   exact ⟨_,rfl,owns_mono hrow (Nat.le_trans hsz hE.size),hE.trans' hx5⟩
  obtain ⟨np,nc,rfl⟩ : ∃ p c,v = .slice p ns.length c:=let ⟨W,hI⟩:=hv;owns_form hI.1
  clear hv
  simp only [Act.put,zA,zB,zC,zD,zE,zF]
  (refine Rt.rs_sil rfl rfl rfl (fun K hK=>?_);go_simp;refine hK _ ?_;clear hK K)
  refine Rt.rs_nil (fun W3 hI=>?_)
  obtain ⟨hrow3,hx3⟩:=hI
  have hws3:=HWS.out.fr (FrW.ext (N:=w0.heap.size) (bl:=bl) (hb:=hb) hx3 hsz) HO.out.box HW.out.map
  have HR3:=Lib.hid hrow3
  have HX3:=Lib.hid hx3
  have HWS3:=Lib.hid hws3
  have hnl : ns.length ≤ 1000000:=by
   rw [HSM.out]
   unfold sampF
   split
   ·refine Nat.le_trans (compact_le _) ?_
    rw [show ∀ l,(sortedP l).length = l.length from fun l=>List.length_mergeSort _,List.length_cons]
    have:=List.length_filter_le (inS st) ((μ c).getD [])
    have:=hml'
    omega
   ·rw [List.length_map]
    refine Nat.le_trans (List.length_filter_le _ _) ?_
    rw [List.length_range]
    have h88 : a.values.length ≤ 8:=(HREC.out.ok.attrs _ HCM.out).small
    omega
  clear hrow3 hx3 hws3 hne
  go_wp2_with fail
  go_loopw [34] (fun i34 wr=>∃ (k : Nat) (lw' : List (Nat × Value)) (lv' : Value),k ≤ ns.length ∧ i34 = .int .i64 k ∧ FrW w0.heap.size bl hb W3 wr ∧ WorldAt wr hb lw' ((ns.take k).foldl (fun st n=>runW smp bf (cols.drop (i + 1)) (updR st.1 c n,st.2)) (ρ,l)).1 ∧ Good R ((ns.take k).foldl (fun st n=>runW smp bf (cols.drop (i + 1)) (updR st.1 c n,st.2)) (ρ,l)).1 ∧ OutAt Nf bl wr ((ns.take k).foldl (fun st n=>runW smp bf (cols.drop (i + 1)) (updR st.1 c n,st.2)) (ρ,l)).2 lv' ∧ (((ns.take k).foldl (fun st n=>runW smp bf (cols.drop (i + 1)) (updR st.1 c n,st.2)) (ρ,l)).2.Nodup ∧ ∀ x ∈ ((ns.take k).foldl (fun st n=>runW smp bf (cols.drop (i + 1)) (updR st.1 c n,st.2)) (ρ,l)).2,x < 256)) (fun i34 _=>ns.length - (intOf i34).toNat)
  case atStart=>exact ⟨0,lw,lv,Nat.zero_le _,rfl,⟨Below.refl _ _,fun _ _ hk _ _ _=>hk⟩,HW.out.ext HX3.out,HGD.out,HO.out.ext HX3.out,HOK.out⟩
  case round=>
   obtain ⟨k,lw',lv',hk,rfl,hfr,hwk,hgk,hok',hbk⟩:=hrel
   have hbox3:=(HO.out.ext HX3.out).box
   have hmap3:=(HW.out.ext HX3.out).map
   unfold MapIs at hmap3
   have hwsr:=HWS3.out.fr hfr hbox3 hmap3
   have hrowr:=hfr.owns hbox3 hmap3 HR3.out (by decide) (by decide)
   obtain ⟨S,hS⟩ : ∃ S,(ns.take k).foldl (fun st n=>runW smp bf (cols.drop (i + 1)) (updR st.1 c n,st.2)) (ρ,l) = S:=⟨_,rfl⟩
   rw [hS] at hwk hgk hok' hbk
   have hlowr : Below w0.heap.size w0 wr:=Below.trans (Below.trans HLOW.out (Below.mono HX3.out hsz)) hfr.low
   have HLOWR:=Lib.hid hlowr
   have HS:=Lib.hid hS
   have HFR:=Lib.hid hfr
   have HWK:=Lib.hid hwk
   have HGK:=Lib.hid hgk
   have HOK':=Lib.hid hok'
   have HBK:=Lib.hid hbk
   have HWSR:=Lib.hid hwsr
   have hNWr : Nf ≤ wr.heap.size:=Nat.le_trans hNW (Nat.le_trans HX3.out.size hfr.low.size)
   by_cases hlt2 : k < ns.length
   ·obtain ⟨n,hn⟩ : ∃ n,ns[k]? = some n:=⟨_,List.getElem?_eq_getElem hlt2⟩
    obtain ⟨sb,rfl,hcs⟩ : ∃ sb,np = some ⟨sb,0,none⟩ ∧ wr.cell? ⟨sb,k,none⟩ = some (.int .i64 n):=by
     rcases hrowr.2 with ⟨_,h0⟩ | ⟨g,cap,cur,he,_,hgg,_,_,_,ht⟩
     ·omega
     ·simp only [Value.slice.injEq] at he
      refine ⟨g,he.1,?_⟩
      rw [cell_of hgg]
      have h2 : (ns.map (Value.int .i64))[k]? = some (.int .i64 n):=by rw [List.getElem?_map,hn];rfl
      rw [← ht,List.getElem?_take] at h2
      split at h2
      ·simpa using h2
      ·cases h2
    have htk : (ns.take (k + 1)).foldl (fun st n=>runW smp bf (cols.drop (i + 1)) (updR st.1 c n,st.2)) (ρ,l) = runW smp bf (cols.drop (i + 1)) (updR S.1 c n,S.2):=by
     rw [List.take_add_one,hn,List.foldl_append,hS];rfl
    have hcor : ColsAt R wr:=fun x hx=>(HREC.out.ext hlowr).isCol hx
    have hup:=run_mapUpdate (P:=Tryz.prog) (T:=182) (K:=101) (E:=3) (k:=c) (v:=.int .i64 n) (by kernel_rfl) hwk.map (finds_ptr wr lw' c (hcor (a,c) HCM.out) hwk.cols)
    obtain ⟨W5,hW5⟩ : ∃ W5,W5 = wput encP wr hb (mput lw' c (.int .i64 n)):=⟨_,rfl⟩
    rw [← hW5] at hup
    replace hup : (Instr.mapUpdate 182 (.map (some hb)) (.pointer (some ⟨c,0,none⟩)) (.int .i64 n)).run Tryz.prog wr = .ok () W5:=hup
    have hfr5 : FrW w0.heap.size bl hb wr W5:=by rw [hW5];exact FrW.put _ HWS.out.hN.1
    have hmapr:=hwk.map
    unfold MapIs at hmapr
    have hws5:=hwsr.fr hfr5 hok'.box hmapr
    have hw5 : WorldAt W5 hb (mput lw' c (.int .i64 n)) (updR S.1 c n):=by rw [hW5];exact hwk.put (hcor (a,c) HCM.out) n
    have hg5 : Good R (updR S.1 c n):=good_upd HREC.out hgk HCM.out (s:=st) (marks:=(μ c).getD []) (by rw [← HSM.out];exact List.mem_of_getElem? hn)
    have ho5 : OutAt Nf bl W5 S.2 lv':=by
     refine ⟨?_,?_⟩
     ·rw [hW5];exact put_cells hmapr hok'.box
     ·rw [hW5];exact put_owns hmapr hok'.row
    have hs5 : W5.heap.size = wr.heap.size:=by rw [hW5];unfold wput;rw [putObj_size]
    have hcall:=HIH.out (i + 1) (by omega) W5 _ _ S.2 lv' (Below.trans hlowr hfr5.low) hws5 hw5 hg5 ho5 hbk (by rw [hs5];exact hNWr)
    have d16 : wr.cell? ⟨b16,0,none⟩ = some (.map (some hb)):=cell_of hwsr.c16 0
    have d17:=cell_of hws5.c17 0
    have e116:=enters_of Tryz.func116 (by kernel_rfl) rfl
    have HCALL:=Lib.hid hcall
    have HTK:=Lib.hid htk
    have HFR5:=Lib.hid hfr5
    clear hW5 hfr hwk hgk hok' hbk hwsr hrowr hS hlowr htk hcor hfr5 hmapr hws5 hw5 hg5 ho5 hs5 hcall hbox3 hmap3 hn
    go_wp2_with fail
    refine HCALL.out.mono ?_
    rintro e W6 ⟨rfl,hfr6,lw6,lv6,k1,k2,k3,k4⟩
    have HFR6:=Lib.hid hfr6
    have K1:=Lib.hid k1
    have K2:=Lib.hid k2
    have K3:=Lib.hid k3
    have K4:=Lib.hid k4
    clear hfr6 k1 k2 k3 k4
    go_wp2_with fail
    refine ⟨⟨k + 1,lw6,lv6,by omega,rfl,(HFR.out.trans HFR5.out).trans HFR6.out,?_⟩,by simp [intOf];omega⟩
    rw [HTK.out]
    exact ⟨K1.out,K2.out,K3.out,K4.out⟩
   ·obtain rfl : k = ns.length:=by omega
    rw [List.take_length] at HS
    have hrun : runW smp bf (c :: cols.drop (i + 1)) (ρ,l) = S:=by rw [← HS.out,← HNS.out];rfl
    have HRUN:=Lib.hid hrun
    have HFW:=Lib.hid ((FrW.ext (N:=w0.heap.size) (bl:=bl) (hb:=hb) HX3.out hsz).trans hfr)
    clear hfr hwk hgk hok' hbk hwsr hrowr hS hlowr hrun hbox3 hmap3 hlt2 hk
    go_wp2_with fail
    go_end0
    rw [HRUN.out]
    exact ⟨rfl,HFW.out,lw',lv',HWK.out,HGK.out,HOK'.out,HBK.out⟩
end Go.Proofs.YtihfcjioilmmjaaGreat
namespace Go.Proofs.YtihfcjioilmmjaaGreat
open Go Go.RowKit
open Go.Lib Go.Sort Go.Maps Go.Shelf Go.Proofs
theorem nodup_sub : ∀ {l m : List Nat},l.Nodup → (∀ x ∈ l,x ∈ m) → l.length ≤ m.length
 | [],m,_,_=>by simp
 | x :: r,m,hn,hs=>by
  have hx:=hs x List.mem_cons_self
  obtain ⟨h1,h2⟩:=List.nodup_cons.1 hn
  have h3:=nodup_sub (l:=r) (m:=m.erase x) h2 fun y hy=>by
   have hne : y ≠ x:=fun e=>h1 (e ▸ hy)
   exact (List.mem_erase_of_ne hne).2 (hs y (List.mem_cons_of_mem _ hy))
  rw [List.length_erase_of_mem hx] at h3
  have : 0 < m.length:=List.length_pos_of_mem hx
  simp only [List.length_cons]
  omega
structure WL (R : Rec) (w0 : World) (Nf bl vb mb b9 b7 b4 b5 b8 bq : Nat) (s : ByteArray) (qv lv : Value) (cv : Value) (cols : List Nat) (lm : List (Nat × Value)) (μ : Nat → Option (List Int)) (W : World) : Prop where
 below : Below w0.heap.size w0 W
 nf : w0.heap.size ≤ Nf ∧ Nf ≤ W.heap.size
 ge : w0.heap.size ≤ b9 ∧ w0.heap.size ≤ mb ∧ w0.heap.size ≤ bl
 c9 : W.heap[b9]? = some (.cells #[cv] 209 (0,0))
 row : W.ownsRow w0.heap.size 101 1 cv cols.length (cols.map encP)
 c7 : W.heap[b7]? = some (.cells #[.func (.func 90) #[] #[.pointer (some ⟨bq,0,none⟩),.pointer (some ⟨bl,0,none⟩)]] 189 (0,0))
 c4 : W.heap[b4]? = some (.cells #[.pointer (some ⟨vb,0,none⟩)] 128 (0,0))
 c5 : W.heap[b5]? = some (.cells #[.string s] 9 (0,0))
 c8 : W.heap[b8]? = some (.cells #[.map (some mb)] 166 (0,0))
 cq : W.heap[bq]? = some (.cells #[qv] 161 (0,0))
 out : OutAt Nf bl W [] lv
 marks : MarksAt w0.heap.size R W mb lm μ
section
variable {R : Rec} {w0 : World} {Nf bl vb mb b9 b7 b4 b5 b8 bq : Nat} {s : ByteArray} {qv lv cv : Value} {cols : List Nat} {lm : List (Nat × Value)} {μ : Nat → Option (List Int)} {W : World}
theorem WL.ext (h : WL R w0 Nf bl vb mb b9 b7 b4 b5 b8 bq s qv lv cv cols lm μ W) {W' : World} (hx : Ext W W') : WL R w0 Nf bl vb mb b9 b7 b4 b5 b8 bq s qv lv cv cols lm μ W':=
 {below:=Below.trans h.below (Below.mono hx h.below.size),nf:=⟨h.nf.1,Nat.le_trans h.nf.2 hx.size⟩,ge:=h.ge,c9:=hx.obj h.c9,row:=owns_keep h.row fun g _ _ hg=>hx.block g (heap_lt hg),c7:=hx.obj h.c7,c4:=hx.obj h.c4,c5:=hx.obj h.c5,c8:=hx.obj h.c8,cq:=hx.obj h.cq,out:=h.out.ext hx,marks:=h.marks.ext hx }
theorem WL.put (h : WL R w0 Nf bl vb mb b9 b7 b4 b5 b8 bq s qv lv cv cols lm μ W) {r : Nat} {o o' : Obj} (hr : w0.heap.size ≤ r) (ho : W.heap[r]? = some o) (h1 : ∀ cs T fr,o ≠ .cells cs T fr) (h2 : r ≠ mb) : WL R w0 Nf bl vb mb b9 b7 b4 b5 b8 bq s qv lv cv cols lm μ (W.putObj r o'):=by
 have hc : ∀ {g : Nat} {cs : Array Value} {T : TypeId} {fr : Nat × Nat},W.heap[g]? = some (.cells cs T fr) → (W.putObj r o').heap[g]? = some (.cells cs T fr):=fun hg=>by
  rw [putObj_get,if_neg]
  ·exact hg
  ·rintro rfl
   rw [ho] at hg
   exact h1 _ _ _ (Option.some.inj hg)
 have how : ∀ {base : Nat} {T : TypeId} {k : Nat} {v : Value} {n : Nat} {xs : List Value},W.ownsRow base T k v n xs → (W.putObj r o').ownsRow base T k v n xs:=fun hw=>owns_keep hw fun _ _ _ hg=>(hc hg).trans hg.symm
 exact
    {below:=below_putObj h.below hr _,nf:=⟨h.nf.1,by rw [putObj_size];exact h.nf.2⟩,ge:=h.ge,c9:=hc h.c9,row:=how h.row,c7:=hc h.c7,c4:=hc h.c4,c5:=hc h.c5,c8:=hc h.c8,cq:=hc h.cq,out:=⟨hc h.out.box,how h.out.row⟩
     marks:={ map:=by have:=h.marks.map;unfold MapIs at this ⊢;rw [putObj_get,if_neg (Ne.symm h2)];exact this,nodup:=h.marks.nodup,none_:=h.marks.none_,some_:=fun c v hv=>let ⟨l,k1,k2⟩:=h.marks.some_ c v hv;⟨l,k1,how k2⟩,dis:=h.marks.dis,cols:=h.marks.cols } }
theorem WL.colStep (h : WL R w0 Nf bl vb mb b9 b7 b4 b5 b8 bq s qv lv cv cols lm μ W) {c : Nat} {W1 : World} {cv' : Value} (hg : W.grownBy W1 cv.ownBlock) (hr : W1.ownsRow w0.heap.size 101 1 cv' (cols.length + 1) (cols.map encP ++ [encP c])) :
  WL R w0 Nf bl vb mb b9 b7 b4 b5 b8 bq s qv lv cv' (cols ++ [c]) lm μ (W1.setCell ⟨b9,0,none⟩ cv') ∧ W1.heap[b9]? = some (.cells #[cv] 209 (0,0)):=by
 have f1:=frm_grown h.row hg
 have hb:=f1.cells h.c9 (by decide)
 have f2 : Frm 209 W1 (W1.setCell ⟨b9,0,none⟩ cv'):=frm_set hb cv'
 have ff : ∀ {g : Nat} {cs : Array Value} {T : TypeId} {fr : Nat × Nat},W.heap[g]? = some (.cells cs T fr) → T ≠ 101 → T ≠ 209 → (W1.setCell ⟨b9,0,none⟩ cv').heap[g]? = some (.cells cs T fr):=fun hq h1 h2=>f2.cells (f1.cells hq h1) h2
 refine ⟨
   {below:=Below.setCell (h.below.grown hg h.below.size fun k hk=>(owns_block h.row hk).1) h.ge.1 _,nf:=⟨h.nf.1,by rw [World.size_setCell];exact Nat.le_trans h.nf.2 hg.size⟩,ge:=h.ge,c9:=?_,row:=by rw [List.length_append,List.map_append];exact f2.owns hr (by decide)
    c7:=ff h.c7 (by decide) (by decide),c4:=ff h.c4 (by decide) (by decide),c5:=ff h.c5 (by decide) (by decide),c8:=ff h.c8 (by decide) (by decide),cq:=ff h.cq (by decide) (by decide),out:=⟨ff h.out.box (by decide) (by decide),f2.owns (f1.owns h.out.row (by decide)) (by decide)⟩
    marks:={ map:=f2.map (f1.map h.marks.map),nodup:=h.marks.nodup,none_:=h.marks.none_,some_:=fun c v hv=>let ⟨l,k1,k2⟩:=h.marks.some_ c v hv;⟨l,k1,f2.owns (f1.owns k2 (by decide)) (by decide)⟩,dis:=h.marks.dis,cols:=h.marks.cols } },hb⟩
 rw [heap_setCell_get,if_pos rfl,hb];rfl
theorem WL.markStep (h : WL R w0 Nf bl vb mb b9 b7 b4 b5 b8 bq s qv lv cv cols lm μ W) (c : Nat) {a : Attr} (hc : (a,c) ∈ R.cols) (l : List Int) {W1 : World} {v' : Value}
  (hg : W.grownBy W1 ((look lm c).getD (.slice none 0 0)).ownBlock) (hr : W1.ownsRow w0.heap.size 3 1 v' (((μ c).getD []).length + l.length) (((μ c).getD []).map (Value.int .i64) ++ l.map (Value.int .i64)))
  (hat : v'.ownBlock = ((look lm c).getD (.slice none 0 0)).ownBlock ∨ v'.ownBlock = some W.heap.size) :
  WL R w0 Nf bl vb mb b9 b7 b4 b5 b8 bq s qv lv cv cols (mput lm c v') (fun c'=>if c' = c then some ((μ c).getD [] ++ l) else μ c') (wput encP W1 mb (mput lm c v')) ∧ MapIs encP W1 mb lm:=by
 obtain ⟨hm,hmap⟩:=h.marks.grow c hc l hg hr hat
 have hrow0:=h.marks.rowOld c
 have f1:=frm_grown hrow0 hg
 have hm':=hmap
 unfold MapIs at hm'
 have ff : ∀ {g : Nat} {cs : Array Value} {T : TypeId} {fr : Nat × Nat},W.heap[g]? = some (.cells cs T fr) → T ≠ 3 → (wput encP W1 mb (mput lm c v')).heap[g]? = some (.cells cs T fr):=fun hq h1=>put_cells hm' (f1.cells hq h1)
 exact ⟨{ below:=below_putObj (h.below.grown hg h.below.size fun k hk=>(owns_block hrow0 hk).1) h.ge.2.1 _,nf:=⟨h.nf.1,by unfold wput;rw [putObj_size];exact Nat.le_trans h.nf.2 hg.size⟩,ge:=h.ge,c9:=ff h.c9 (by decide),row:=put_owns hm' (f1.owns h.row (by decide)),c7:=ff h.c7 (by decide),c4:=ff h.c4 (by decide),c5:=ff h.c5 (by decide),c8:=ff h.c8 (by decide),cq:=ff h.cq (by decide),out:=⟨ff h.out.box (by decide),put_owns hm' (f1.owns h.out.row (by decide))⟩,marks:=hm },hmap⟩
end
theorem vinfo101 : (Tryz.prog.info? 101).map (fun i=>(i.zero,i.size,i.bytes)) = some (some (.pointer none),1,8):=by kernel_rfl
theorem append_cols {W : World} {base : Nat} {v : Value} {k : Nat} {xs row : List Value} (hown : W.ownsRow base 101 1 v k xs) (ab m : Nat) (hl : row.length = m) (hrow : ∀ j u,row[j]? = some u → W.cell? ⟨ab,0 + j,none⟩ = some u) (h1 : ∀ u ∈ row,u.oneCell' = true) (hk : k + m ≤ 1000000) (hb : base ≤ W.heap.size) (c : Nat) :
  ∃ v' w',(Builtin.append_ #[209,209] 209 #[v,.slice (some ⟨ab,0,none⟩) m c]).run Tryz.prog W = .ok v' w' ∧ w'.ownsRow base 101 1 v' (k + m) (xs ++ row) ∧ W.grownBy w' v.ownBlock:=by
 have hml : (1000000 : Nat) ≤ maxLen:=by decide
 obtain ⟨i0,hi,hz0,hz1,hz2⟩:=info_parts vinfo101
 obtain ⟨v',w',q1,q2,q3,_,q5⟩:=Go.run_append_own_at (P:=Tryz.prog) (w:=W) base 209 209 101 i0 _ 1 8 (by kernel_rfl) hi hz0 hz1 hz2 rfl (by decide) v k xs hown ⟨ab,0,none⟩ m c row (by omega) (fun j u hj=>add_cell (hrow j u hj)) h1 (by omega) (by omega) hb
 exact ⟨v',w',q1,q2,q3⟩
def allM (qs : List Qn) : Nat → Option (List Int):=qs.foldl (fun μ q=>mergeM μ q.marks) (fun _=>none)
theorem allM_snoc (qs : List Qn) (q : Qn) : allM (qs ++ [q]) = mergeM (allM qs) q.marks:=by unfold allM;rw [List.foldl_append];rfl
theorem allM_len {qs : List Qn} (h : ∀ q ∈ qs,∀ c l,q.marks c = some l → l.length ≤ 2000) (c : Nat) : ((allM qs c).getD []).length ≤ 2000 * qs.length:=by
 have hrev : ∀ r : List Qn,(∀ q ∈ r,∀ c l,q.marks c = some l → l.length ≤ 2000) → ((allM r.reverse c).getD []).length ≤ 2000 * r.length:=by
  intro r
  induction r with
  | nil=>intro _;simp [allM]
  | cons q r ih=>
   intro hr
   have h1:=ih fun q hq=>hr q (List.mem_cons_of_mem _ hq)
   rw [List.reverse_cons,allM_snoc,List.length_cons]
   unfold mergeM
   cases hq : q.marks c with
   | none=>simp only;omega
   | some l=>
    have:=hr q List.mem_cons_self c l hq
    simp only [Option.getD_some,List.length_append]
    omega
 have:=hrev qs.reverse fun q hq=>h q (List.mem_reverse.1 hq)
 rw [List.reverse_reverse,List.length_reverse] at this
 exact this
end Go.Proofs.YtihfcjioilmmjaaGreat
