/- Lemmas: commit. -/
import Derived.Test.YtihfcjioilmmjaaGreatRm1
import Derived.Test.YtihfcjioilmmjaaGreatRm2
set_option linter.all false
namespace Go.Proofs.YtihfcjioilmmjaaGreat
open Go Go.RowKit
def PredB (S : Int → Prop) (B : Nat) (W0 : World) (g : Nat) (lb : Array Value) (p : Int → Bool) : Prop:=
 (∀ args w,(callFunc g args).run Tryz.prog w = .ok (.enter g args) w) ∧ ∀ x W,S x → Below B W0 W → Calls Tryz.prog g (#[.int .i64 x] ++ lb) W fun e w'=>e = .returned (.bool (p x)) ∧ Ext W w'
def idxF (p : Int → Bool) : List Int → Nat → Int
 | [],_=>-1
 | x :: r,i=>if p x then (i : Int) else idxF p r (i + 1)
theorem IntsAt.form {w : World} {v : Value} {l : List Int} (h : IntsAt w v l) : ∃ a cap,v = .slice a l.length cap ∧ l.length ≤ cap ∧ l.length ≤ maxLen ∧ ∀ (j : Nat) x,l[j]? = some x → ∃ b off,a = some ⟨b,off,none⟩ ∧ w.cell? ⟨b,off + j,none⟩ = some (.int .i64 x):=by
 obtain ⟨a,cap,rfl,h1,h2,_,h3⟩:=h
 refine ⟨a,cap,rfl,h1,h2,fun j x hx=>h3 j _ (by simp [hx])⟩
set_option maxHeartbeats 1000000 in
set_option maxRecDepth 100000 in
theorem indexFunc_any (B : Nat) (W0 w : World) (v : Value) (zs : List Int) (g : Nat) (lb : Array Value) (p : Int → Bool) {S : Int → Prop} (hS : ∀ x ∈ zs,S x) (hv : IntsAt w v zs) (hp : PredB S B W0 g lb p) (hw : Below B W0 w) (hB : B ≤ w.heap.size) :
  Calls Tryz.prog 60 #[v,.func (.func g) #[] lb] w fun e w'=>e = .returned (.int .i64 (idxF p zs 0)) ∧ Ext w w':=by
 obtain ⟨a,cap,rfl,hcap,hml,hel⟩:=hv.form
 have HEL:=Lib.hid hel
 have eg:=hp.1
 have HP:=Lib.hid hp.2
 clear hel hp hv
 unfold maxLen at hml
 go_enter Tryz.func60,Tryz.ntmps60
 go_wp2_with fail
 go_loopw [4,5,8] (fun _ _ i wr=>∃ k : Nat,k ≤ zs.length ∧ i = .int .i64 k ∧ Hid (idxF p zs 0 = idxF p (zs.drop k) k) ∧ Ext w wr) (fun _ _ i _=>zs.length - (intOf i).toNat)
 case atStart=>exact ⟨0,Nat.zero_le _,rfl,rfl,ext_refl _⟩
 case round=>
  obtain ⟨k,hk,rfl,hr,hx⟩:=hrel
  by_cases hlt : k < zs.length
  ·obtain ⟨x,hz⟩ : ∃ x,zs[k]? = some x:=⟨_,List.getElem?_eq_getElem hlt⟩
   obtain ⟨b,off,rfl,hc⟩:=HEL.out k x hz
   have c0:=Ext.cell' hx hc
   have hd : zs.drop k = x :: zs.drop (k + 1):=by
    rw [List.drop_eq_getElem_cons hlt]
    congr 1
    rw [List.getElem?_eq_getElem hlt] at hz
    exact Option.some.inj hz
   have HD:=Lib.hid hd
   have hSx:=hS x (List.mem_of_getElem? hz)
   clear hd hc hz
   go_wp2_with fail
   refine (HP.out x wr hSx (Below.trans hw (Below.mono hx hB))).mono ?_
   rintro e w2 ⟨rfl,hx2⟩
   cases hpx : p x with
   | true=>
    go_wp2_with fail
    go_ret
    refine ⟨?_,Ext.trans' hx hx2⟩
    rw [hr.out,HD.out]
    unfold idxF
    rw [hpx];rfl
   | false=>
    go_wp2_with fail
    refine ⟨⟨k + 1,by omega,rfl,?_,Ext.trans' hx hx2⟩,by simp [intOf];omega⟩
    refine hr.out.trans ?_
    rw [HD.out]
    conv=>lhs;unfold idxF
    rw [hpx];rfl
  ·obtain rfl : k = zs.length:=by omega
   go_wp2_with fail
   go_ret
   refine ⟨?_,hx⟩
   rw [hr.out,List.drop_length];rfl
theorem idxF_spec (p : Int → Bool) : ∀ (l : List Int) (i : Nat),(idxF p l i = -1 ∧ ∀ x ∈ l,p x = false) ∨ ∃ k x,l[k]? = some x ∧ p x = true ∧ idxF p l i = ((i + k : Nat) : Int) ∧ ∀ y ∈ l.take k,p y = false
 | [],_=>.inl ⟨rfl,fun x h=>by cases h⟩
 | x :: r,i=>by
  cases h : p x with
  | true=>exact .inr ⟨0,x,rfl,h,by simp [idxF,h],fun y hy=>by simp at hy⟩
  | false=>
   rcases idxF_spec p r (i + 1) with ⟨e,ha⟩ | ⟨k,y,hk,hy,e,ha⟩
   ·refine .inl ⟨by simp [idxF,h,e],fun z hz=>?_⟩
    rcases List.mem_cons.1 hz with rfl | hz
    ·exact h
    ·exact ha z hz
   ·refine .inr ⟨k + 1,y,by simpa using hk,hy,by simp [idxF,h,e];omega,fun z hz=>?_⟩
    rw [List.take_succ_cons] at hz
    rcases List.mem_cons.1 hz with rfl | hz
    ·exact h
    ·exact ha z hz
set_option maxHeartbeats 1000000 in
set_option maxRecDepth 100000 in
theorem containsFunc_any (B : Nat) (W0 w : World) (v : Value) (zs : List Int) (g : Nat) (lb : Array Value) (p : Int → Bool) {S : Int → Prop} (hS : ∀ x ∈ zs,S x) (hv : IntsAt w v zs) (hp : PredB S B W0 g lb p) (hw : Below B W0 w) (hB : B ≤ w.heap.size) :
  Calls Tryz.prog 40 #[v,.func (.func g) #[] lb] w fun e w'=>e = .returned (.bool (zs.any p)) ∧ Ext w w':=by
 have hI:=indexFunc_any B W0 w v zs g lb p hS hv hp hw hB
 obtain ⟨a,cap,rfl,_⟩:=hv.form
 have hb : decide (0 ≤ idxF p zs 0) = zs.any p:=by
  rcases idxF_spec p zs 0 with ⟨e,ha⟩ | ⟨k,y,hk,hy,e,_⟩
  ·rw [e]
   symm
   rw [show decide ((0 : Int) ≤ -1) = false from rfl,List.any_eq_false]
   intro x hx
   simp [ha x hx]
  ·rw [e]
   symm
   rw [decide_eq_true (by omega),List.any_eq_true]
   exact ⟨y,List.mem_of_getElem? hk,hy⟩
 have HB:=Lib.hid hb
 have HI:=Lib.hid hI
 clear hb hI hp hv
 go_enter Tryz.func40,Tryz.ntmps40
 go_wp2_with fail
 refine HI.out.mono ?_
 rintro e w' ⟨rfl,hx⟩
 go_wp2_with fail
 go_ret
 exact ⟨(by rw [← HB.out];rfl),hx⟩
theorem setCells_row (b : Nat) (T : TypeId) : ∀ (vs : List Value) (o : Nat) (w : World) (cur : Array Value),w.heap[b]? = some (.cells cur T (0,0)) →
  (∃ cur',(w.setCells b o vs).heap[b]? = some (.cells cur' T (0,0)) ∧ cur'.size = cur.size ∧ ∀ t,t < o → cur'[t]? = cur[t]?) ∧ ∀ B,B ≤ b → Below B w (w.setCells b o vs)
 | [],o,w,cur,h=>⟨⟨cur,h,rfl,fun _ _=>rfl⟩,fun B _=>Below.refl _ _⟩
 | v :: vs,o,w,cur,h=>by
  have h1 : (w.setCell ⟨b,o,none⟩ v).heap[b]? = some (.cells (cur.setIfInBounds o v) T (0,0)):=by
   rw [heap_setCell_get,if_pos rfl,h];rfl
  obtain ⟨⟨cur',q1,q2,q3⟩,q4⟩:=setCells_row b T vs (o + 1) (w.setCell ⟨b,o,none⟩ v) _ h1
  refine ⟨⟨cur',q1,by rw [q2,Array.size_setIfInBounds],fun t ht=>?_⟩,fun B hB=>?_⟩
  ·rw [q3 t (by omega),Array.getElem?_setIfInBounds_ne (by omega)]
  ·exact Below.trans (Below.setCell (Below.refl _ _) hB _) (q4 B hB)
structure DelI (B' gb : Nat) (zs : List Int) (p : Int → Bool) (cap : Nat) (i j : Nat) (w wr : World) : Prop where
 below : Below B' w wr
 cells : ∃ cur,wr.heap[gb]? = some (.cells cur 3 (0,0)) ∧ cur.size = cap ∧ cur.toList.take i = ((zs.take j).filter fun x=>!p x).map (Value.int .i64) ∧ ∀ t x,j ≤ t → zs[t]? = some x → cur[t]? = some (.int .i64 x)
 len : i = ((zs.take j).filter fun x=>!p x).length
 lt : i < j
set_option maxHeartbeats 2000000 in
set_option maxRecDepth 100000 in
theorem deleteFunc_any (B B' : Nat) (W0 w : World) (v : Value) (zs : List Int) (g : Nat) (lb : Array Value) (p : Int → Bool) {S : Int → Prop} (hS : ∀ x ∈ zs,S x) (hv : w.ownsRow B' 3 1 v zs.length (zs.map (Value.int .i64))) (hp : PredB S B W0 g lb p) (hw : Below B W0 w) (hB : B ≤ B') (hB2 : B' ≤ w.heap.size) :
  Calls Tryz.prog 71 #[v,.func (.func g) #[] lb] w fun e w'=>∃ v',e = .returned v' ∧ w'.ownsRow B' 3 1 v' (zs.filter fun x=>!p x).length ((zs.filter fun x=>!p x).map (Value.int .i64)) ∧ Below B' w w':=by
 have hints : IntsAt w v zs:=SlAt.of_owns hv
 have hI:=indexFunc_any B W0 w v zs g lb p hS hints hp hw (Nat.le_trans hB hB2)
 have hml:=hints.len
 unfold maxLen at hml
 have eg:=hp.1
 have HP:=Lib.hid hp.2
 have HV:=Lib.hid hv
 clear hints hp
 rcases idxF_spec p zs 0 with ⟨e1,hall⟩ | ⟨k,y,hk,hy,e1,hall⟩
 ·rw [e1] at hI
  have hf : (zs.filter fun x=>!p x) = zs:=List.filter_eq_self.2 fun x hx=>by simp [hall x hx]
  rw [hf]
  have HI:=Lib.hid hI
  have HF:=Lib.hid hf
  clear hI hf hall e1 hv
  obtain ⟨a,cap,rfl⟩:=owns_form HV.out
  go_enter Tryz.func71,Tryz.ntmps71
  go_wp2_with fail
  refine HI.out.mono ?_
  rintro e w' ⟨rfl,hx⟩
  go_wp2_with fail
  go_ret
  exact ⟨_,rfl,owns_keep HV.out fun g cs hg hgc=>hx.block g (heap_lt hgc),Below.mono hx hB2⟩
 ·rw [e1,Nat.zero_add] at hI
  have hkl : k < zs.length:=(List.getElem?_eq_some_iff.1 hk).1
  obtain ⟨hvl,hv2⟩:=hv
  rcases hv2 with ⟨_,h0⟩ | ⟨gb,cap,cur,rfl,hgb,hcur,hnc,hcm,hcs,hct⟩
  ·omega
  have hgl : gb < w.heap.size:=heap_lt hcur
  have hst : DelI B' gb zs p cap k (k + 1) w w:=by
   have htk : (zs.take (k + 1)).filter (fun x=>!p x) = zs.take k:=by
    rw [List.take_add_one,hk,List.filter_append]
    have h1 : (zs.take k).filter (fun x=>!p x) = zs.take k:=List.filter_eq_self.2 fun x hx=>by simp [hall x hx]
    rw [h1]
    simp [hy]
   refine ⟨Below.refl _ _,⟨cur,hcur,by rw [hcs,Nat.mul_one],?_,?_⟩,by rw [htk,List.length_take];omega,by omega⟩
   ·rw [htk,List.map_take,← hct,Nat.mul_one,List.take_take,Nat.min_eq_left (by omega)]
   ·intro t x _ hx
    have h2 : (zs.map (Value.int .i64))[t]? = some (.int .i64 x):=by simp [hx]
    rw [← hct,List.getElem?_take] at h2
    split at h2
    ·simpa using h2
    ·cases h2
  have HST:=Lib.hid hst
  have HI:=Lib.hid hI
  clear hI hall e1 hvl hct hcur hst hk hy
  go_enter Tryz.func71,Tryz.ntmps71
  go_wp2_with fail
  refine HI.out.mono ?_
  rintro e w1 ⟨rfl,hx⟩
  have hst1 : DelI B' gb zs p cap k (k + 1) w w1:=by
   obtain ⟨q1,⟨cur,q2,q3⟩,q4,q5⟩:=HST.out
   exact ⟨Below.mono hx hB2,⟨cur,hx.obj q2,q3⟩,q4,q5⟩
  have hne : ((k : Int) == -1) = false:=beq_eq_false_iff_ne.2 (by omega)
  go_wp2_with fail
  go_loopw [5,6,7] (fun s5 s6 _ wr=>∃ i j : Nat,s5 = .int .i64 i ∧ s6 = .int .i64 j ∧ j ≤ zs.length ∧ DelI B' gb zs p cap i j w wr) (fun _ s6 _ _=>zs.length - (intOf s6).toNat)
  case atStart=>exact ⟨k,k + 1,rfl,by go_num,by omega,hst1⟩
  case round=>
   clear hst1 hne
   obtain ⟨i,j,rfl,rfl,hj,hD⟩:=hrel
   have hij:=hD.lt
   by_cases hlt : j < zs.length
   ·obtain ⟨x,hz⟩ : ∃ x,zs[j]? = some x:=⟨_,List.getElem?_eq_getElem hlt⟩
    obtain ⟨cu,q1,q2,q3,q4⟩:=hD.cells
    have c0 : wr.cell? ⟨gb,j,none⟩ = some (.int .i64 x):=(cell_of q1 j).trans (q4 j x (Nat.le_refl _) hz)
    have htk : (zs.take (j + 1)).filter (fun x=>!p x) = (zs.take j).filter (fun x=>!p x) ++ (if p x then [] else [x]):=by
     rw [List.take_add_one,hz,List.filter_append]
     cases hpx : p x <;> simp [hpx]
    have HD:=Lib.hid hD
    have Q1:=Lib.hid q1
    have Q3:=Lib.hid q3
    have Q4:=Lib.hid q4
    have HTK:=Lib.hid htk
    have hSx:=hS x (List.mem_of_getElem? hz)
    clear hD q1 q3 q4 htk hz
    go_wp2_with fail
    refine (HP.out x wr hSx (Below.trans hw (Below.mono HD.out.below hB))).mono ?_
    rintro e w2 ⟨rfl,hx2⟩
    have hr2 : w2.heap[gb]? = some (.cells cu 3 (0,0)):=hx2.obj Q1.out
    have hb2 : Below B' w w2:=Below.trans HD.out.below (Below.mono hx2 (Nat.le_trans hB2 HD.out.below.size))
    cases hpx : p x with
    | true=>
     have HR2:=Lib.hid hr2
     have HB2:=Lib.hid hb2
     clear hr2 hb2
     go_wp2_with fail
     refine ⟨⟨i,j + 1,rfl,rfl,by omega,HB2.out,⟨cu,HR2.out,q2,?_,fun t y ht hy=>Q4.out t y (by omega) hy⟩,?_,by omega⟩,by simp [intOf];omega⟩
     ·rw [HTK.out,if_pos hpx,List.append_nil];exact Q3.out
     ·rw [HTK.out,if_pos hpx,List.append_nil];exact HD.out.len
    | false=>
     have ci : w2.cell? ⟨gb,i,none⟩ = some (cu[i]'(by omega)):=(cell_of hr2 i).trans (Array.getElem?_eq_getElem _)
     have fi:=frozen_of hr2 i
     have HR2:=Lib.hid hr2
     have HB2:=Lib.hid hb2
     clear hr2 hb2
     generalize cu[i]'(by omega) = old at ci
     go_wp2_with fail
     refine ⟨⟨i + 1,j + 1,rfl,rfl,by omega,?_,⟨cu.setIfInBounds i (.int .i64 x),?_,by rw [Array.size_setIfInBounds];exact q2,?_,?_⟩,?_,by omega⟩,by simp [intOf];omega⟩
     ·exact Below.setCell HB2.out (by omega) _
     ·rw [heap_setCell_get,if_pos rfl,HR2.out];rfl
     ·rw [HTK.out,if_neg (by simp [hpx]),List.map_append,← Q3.out,List.take_add_one,Array.toList_setIfInBounds,List.take_set_of_le (Nat.le_refl _),List.getElem?_set_self (by rw [Array.length_toList];omega)]
      rfl
     ·intro t y ht hy
      rw [Array.getElem?_setIfInBounds_ne (by omega)]
      exact Q4.out t y (by omega) hy
     ·rw [HTK.out,if_neg (by simp [hpx]),List.length_append,← HD.out.len];rfl
   ·obtain rfl : j = zs.length:=by omega
    obtain ⟨cu,q1,q2,q3,q4⟩:=hD.cells
    have hcl : ∀ ty,(Builtin.clear_ #[35] ty #[.slice (some ⟨gb,i,none⟩) (zs.length - i) (cap - i)]).run Tryz.prog wr = .ok (.tuple #[]) (wr.setCells gb i (List.replicate (zs.length - i) (.int .i64 0))):=
     fun ty=>Lib.run_clear_slice wr 35 3 ty (.int .i64 0) (by kernel_rfl) (fun w=>by kernel_rfl) rfl rfl gb i _ _ (by omega) (fun t ht=>by rw [cell_of q1,Array.getElem?_eq_getElem (by omega)];rfl) (fun t ht=>frozen_of q1 _)
    have hrow:=setCells_row gb 3 (List.replicate (zs.length - i) (.int .i64 0)) i wr cu q1
    have HD:=Lib.hid hD
    have Q3:=Lib.hid q3
    have HROW:=Lib.hid hrow
    clear hD q1 q3 q4 hrow
    go_wp2_with fail
    go_ret
    obtain ⟨⟨cu',r1,r2,r3⟩,r4⟩:=HROW.out
    have hlen:=HD.out.len
    rw [List.take_length] at hlen
    refine ⟨_,rfl,⟨by simp,.inr ⟨gb,cap,cu',by rw [hlen];rfl,hgb,r1,by omega,hcm,by omega,?_⟩⟩,Below.trans HD.out.below (Below.mono (r4 B' hgb) (Nat.le_refl _))⟩
    rw [← hlen,Nat.mul_one]
    have h3:=Q3.out
    rw [List.take_length] at h3
    rw [← h3]
    apply List.ext_getElem?
    intro t
    rw [List.getElem?_take,List.getElem?_take]
    split
    ·rw [Array.getElem?_toList,Array.getElem?_toList];exact r3 t (by assumption)
    ·rfl
end Go.Proofs.YtihfcjioilmmjaaGreat
namespace Go.Proofs.YtihfcjioilmmjaaGreat
open Go Go.RowKit
theorem RecAt.version {B : Nat} {w : World} {rb : Nat} {R : Rec} {cm : Nat} {vv fv : Value} {os : List (Option Nat × Option Nat)} {xs : List (List Value)} (h : RecAt B w rb R cm vv fv os xs) {i : Nat} {ver : Ver} (hv : R.vers[i]? = some ver) :
  ∃ vb cap oa ow,vv = .slice (some ⟨vb,0,none⟩) R.vers.length cap ∧ B ≤ vb ∧ R.vers.length ≤ cap ∧ os[i]? = some (oa,ow) ∧ w.cell? ⟨vb,i * 2,none⟩ = some (.map oa) ∧ w.cell? ⟨vb,i * 2 + 1,none⟩ = some (.map ow) ∧ MapV w oa ver.added ∧ MapV w ow ver.wd:=by
 have hi : i < R.vers.length:=(List.getElem?_eq_some_iff.1 hv).1
 obtain ⟨o,ho⟩ : ∃ o,os[i]? = some o:=⟨_,List.getElem?_eq_getElem (by rw [h.verLen];exact hi)⟩
 obtain ⟨hl,hh⟩:=h.vers
 rcases hh with ⟨_,h0⟩ | ⟨g,cap,cur,rfl,hg,hc,hn,hm,hs,ht⟩
 ·omega
 ·have hget : ∀ j x,([Value.map o.1,Value.map o.2])[j]? = some x → w.cell? ⟨g,i * 2 + j,none⟩ = some x:=by
   intro j x hx
   have hj : j < 2:=(List.getElem?_eq_some_iff.1 hx).1
   have h2:=flatMap_get (fun o : Option Nat × Option Nat=>[Value.map o.1,Value.map o.2]) 2 (fun _=>rfl) os i j o ho hj
   rw [cell_of hc]
   rw [← ht,hx,List.getElem?_take] at h2
   split at h2
   ·simpa using h2
   ·cases h2
  obtain ⟨m1,m2⟩:=h.verAt i o ver ho hv
  exact ⟨g,cap,o.1,o.2,rfl,hg,hn,ho,hget 0 _ rfl,hget 1 _ rfl,m1,m2⟩
def CallI (w : World) (v : Value) (us : List Value) (W : World) : Prop:=Ext w W ∧ ∀ u ∈ us,u = v
set_option maxHeartbeats 1000000 in
set_option maxRecDepth 100000 in
theorem held1_any (b2 b3 rb vb i n cap : Nat) (oa ow : Option Nat) (ver : Ver) (x : Int) (w : World) (h2 : w.cell? ⟨b2,0,none⟩ = some (encP rb)) (h3 : w.cell? ⟨b3,0,none⟩ = some (.int .i64 (i : Int)))
  (hr : w.cell? ⟨rb,1,none⟩ = some (.slice (some ⟨vb,0,none⟩) n cap)) (hi : i < n) (hn : n ≤ 1000) (hc : n ≤ cap) (ha : w.cell? ⟨vb,i * 2,none⟩ = some (.map oa)) (hd : w.cell? ⟨vb,i * 2 + 1,none⟩ = some (.map ow)) (hma : MapV w oa ver.added) (hmd : MapV w ow ver.wd) :
  Calls Tryz.prog 72 #[.int .i64 x,.pointer (some ⟨b2,0,none⟩),.pointer (some ⟨b3,0,none⟩)] w fun e w'=>e = .returned (.bool (!ver.holds x)) ∧ Ext w w':=by
 have H2:=Lib.hid h2
 have H3:=Lib.hid h3
 have HR:=Lib.hid hr
 have HA:=Lib.hid ha
 have HD:=Lib.hid hd
 unfold encP at H2
 clear h2 h3 hr ha hd
 go_enter Tryz.func72,Tryz.ntmps72
 go_wp2_with fail
 refine Rt.wp_region_rt (by kernel_rfl) [0,1,2,3,4,5,6,7,8,9,10] [8] [0,0,0,0,0,0,0,0] [0,1,3,7,0,31,63,0,255,511,1023] (by kernel_rfl) (CallI w (.bool (ver.holds x))) ?_ ?_
 ·exact ⟨below_drawn (ext_refl _) _,fun u hu=>by cases hu⟩
 (refine Rt.rs_rd rfl rfl rfl ?_;apply Exists.intro;refine ⟨fun us' W hp hl hI=>?_,?_⟩;· (have c:=Ext.cell' hI.1 H2.out;go_simp;rfl));simp only [Act.put,zA,zB,zC,zD,zE,zF]
 iterate 2 (refine Rt.rs_sil rfl rfl rfl (fun K hK=>?_);go_simp;refine hK _ ?_;clear hK K)
 (refine Rt.rs_rd rfl rfl rfl ?_;apply Exists.intro;refine ⟨fun us' W hp hl hI=>?_,?_⟩;· (have c:=Ext.cell' hI.1 HR.out;go_simp;rfl));simp only [Act.put,zA,zB,zC,zD,zE,zF]
 (refine Rt.rs_rd rfl rfl rfl ?_;apply Exists.intro;refine ⟨fun us' W hp hl hI=>?_,?_⟩;· (have c:=Ext.cell' hI.1 H3.out;go_simp;rfl));simp only [Act.put,zA,zB,zC,zD,zE,zF]
 (refine Rt.rs_rd rfl rfl rfl ?_;apply Exists.intro;refine ⟨fun us' W hp hl hI=>?_,?_⟩;· (skip;go_simp;rfl));simp only [Act.put,zA,zB,zC,zD,zE,zF]
 (refine Rt.rs_rd rfl rfl rfl ?_;apply Exists.intro;refine ⟨fun us' W hp hl hI=>?_,?_⟩;· (have c:=Ext.cell' hI.1 HA.out;have d:=Ext.cell' hI.1 HD.out;go_simp;rfl));simp only [Act.put,zA,zB,zC,zD,zE,zF]
 (refine Rt.rs_sil rfl rfl rfl (fun K hK=>?_);go_simp;refine hK _ ?_;clear hK K)
 refine Rt.rs_eff rfl rfl rfl (fun W hI=>?_) (fun v hv=>?_)
 ·refine Rt.gives_cal ?_
  apply Exists.intro
  apply Exists.intro
  apply Exists.intro
  refine ⟨by go_simp;exact ⟨⟨rfl,rfl⟩,rfl⟩,?_⟩
  refine (holds_any oa ow ver x W (hma.ext hI.1) (hmd.ext hI.1)).mono ?_
  rintro e w5 ⟨rfl,hx5⟩
  exact ⟨_,rfl,hI.1.trans' hx5,fun u hu=>by simpa using hu⟩
 obtain rfl : v = .bool (ver.holds x):=let ⟨W,hI⟩:=hv;hI.2 v (by simp)
 clear hv
 simp only [Act.put,zA,zB,zC,zD,zE,zF]
 iterate 2 (refine Rt.rs_sil rfl rfl rfl (fun K hK=>?_);go_simp;refine hK _ ?_;clear hK K)
 refine Rt.rs_nil (fun W hI=>?_)
 go_wp2_with fail
 go_ret
 exact ⟨rfl,hI.1⟩
theorem nodup_bound : ∀ (m : Nat) (l : List Int),l.Nodup → (∀ n ∈ l,1 ≤ n ∧ n ≤ (m : Int)) → l.length ≤ m
 | 0,l,_,h=>by
  cases l with
  | nil=>simp
  | cons x r=>have:=h x List.mem_cons_self;omega
 | m + 1,l,hn,h=>by
  by_cases hm : ((m + 1 : Nat) : Int) ∈ l
  ·have h1:=nodup_bound m (l.erase ((m + 1 : Nat) : Int)) (hn.erase _) fun n hx=>by
    have h2:=(List.Nodup.mem_erase_iff hn).1 hx
    have:=h n h2.2
    have:=h2.1
    omega
   rw [List.length_erase_of_mem hm] at h1
   omega
  ·have h1:=nodup_bound m l hn fun n hx=>by
    have:=h n hx
    have : n ≠ ((m + 1 : Nat) : Int):=fun e=>hm (e ▸ hx)
    omega
   omega
def heldV (ver : Ver) : List Int:=((ver.added.map (·.1)).mergeSort (fun x y=>decide (x ≤ y))).filter ver.holds
def HeldI (W1 : World) (oa : Option Nat) (l : List Int) (us : List Value) (W : World) : Prop:=
 Ext W1 W ∧ match us with
 | []=>True
 | [u]=>∃ bm,u = .func (.func 93) #[] #[.pointer (some ⟨bm,0,none⟩)] ∧ bm < W.heap.size ∧ W.cell? ⟨bm,0,none⟩ = some (.map oa)
 | _ :: s :: _=>W.ownsRow W1.heap.size 3 1 s l.length (l.map (Value.int .i64))
set_option maxHeartbeats 1000000 in
set_option maxRecDepth 100000 in
theorem held_any {B : Nat} {w : World} {rb : Nat} {R : Rec} {cm : Nat} {vv fv : Value} {os : List (Option Nat × Option Nat)} {xs : List (List Value)} (h : RecAt B w rb R cm vv fv os xs) {i : Nat} {ver : Ver} (hv : R.vers[i]? = some ver) :
  Calls Tryz.prog 51 #[encP rb,.int .i64 (i : Int)] w fun e w'=>∃ v,e = .returned v ∧ w'.ownsRow w.heap.size 3 1 v (heldV ver).length ((heldV ver).map (Value.int .i64)) ∧ Ext w w':=by
 obtain ⟨vb,cap,oa,ow,rfl,hB,hcap,_,ha,hd,hma,hmd⟩:=h.version hv
 have hi : i < R.vers.length:=(List.getElem?_eq_some_iff.1 hv).1
 have hn:=h.ok.vers
 obtain ⟨k1,_,k3⟩:=h.ok.keys ver (List.mem_of_getElem? hv)
 have hlen : ver.added.length ≤ 300:=by
  have:=nodup_bound R.facts.length (ver.added.map (·.1)) k1 k3
  have:=h.ok.facts
  simp at *
  omega
 have hok : ∀ x ∈ ver.added,i64ok x.1:=fun x hx=>by
  have:=k3 x.1 (List.mem_map.2 ⟨x,hx,rfl⟩)
  have:=h.ok.facts
  unfold i64ok
  omega
 have hr : w.cell? ⟨rb,1,none⟩ = some (.slice (some ⟨vb,0,none⟩) R.vers.length cap):=cell_of h.blk 1
 have HR:=Lib.hid hr
 have HA:=Lib.hid ha
 have HD:=Lib.hid hd
 have hall : ∃ W1,W1 = (w.alloc (.cells #[.pointer (some ⟨rb,0,none⟩)] 41 (0,0))).alloc (.cells #[.int .i64 (i : Int)] 3 (0,0)):=⟨_,rfl⟩
 obtain ⟨W1,hW1⟩:=hall
 have hx1 : Ext w W1:=by rw [hW1];exact bel
 have hs1 : w.heap.size ≤ W1.heap.size:=hx1.size
 have g2 : W1.cell? ⟨w.heap.size,0,none⟩ = some (encP rb):=by
  have : W1.heap[w.heap.size]? = some (.cells #[.pointer (some ⟨rb,0,none⟩)] 41 (0,0)):=by rw [hW1];simp only [heap_drawn_get,heap_drew_get,heap_setCell_get,heap_alloc_get,World.size_alloc,World.size_setCell,size_drawn,putObj_get,putObj_size];(repeat (first | rw [if_pos trivial] | rw [if_pos rfl] | rw [if_neg (by omega)] | rw [if_pos (by omega)]))
  exact cell_of this 0
 have g3 : W1.cell? ⟨w.heap.size + 1,0,none⟩ = some (.int .i64 (i : Int)):=by
  have : W1.heap[w.heap.size + 1]? = some (.cells #[.int .i64 (i : Int)] 3 (0,0)):=by rw [hW1];simp only [heap_drawn_get,heap_drew_get,heap_setCell_get,heap_alloc_get,World.size_alloc,World.size_setCell,size_drawn,putObj_get,putObj_size];(repeat (first | rw [if_pos trivial] | rw [if_pos rfl] | rw [if_neg (by omega)] | rw [if_pos (by omega)]))
  exact cell_of this 0
 have hpred : PredB (fun _=>True) W1.heap.size W1 72 #[.pointer (some ⟨w.heap.size,0,none⟩),.pointer (some ⟨w.heap.size + 1,0,none⟩)] (fun n=>!ver.holds n):=by
  refine ⟨enters_of Tryz.func72 (by kernel_rfl) rfl,fun x W _ hW=>?_⟩
  have hW' : Ext W1 W:=hW
  have hwW:=hx1.trans' hW'
  exact held1_any _ _ rb vb i _ cap oa ow ver x W (hW'.cell' g2) (hW'.cell' g3) (hwW.cell' hr) hi (by omega) hcap (hwW.cell' ha) (hwW.cell' hd) (hma.ext hwW) (hmd.ext hwW)
 have HP:=Lib.hid hpred
 have HG2:=Lib.hid g2
 have HG3:=Lib.hid g3
 have K1:=Lib.hid k1
 clear hr ha hd g2 g3 hpred k1 k3 h hv
 unfold encP at *
 go_enter Tryz.func51,Tryz.ntmps51
 go_upto_region 1 with fail
 rw [← hW1]
 have HW:=Lib.hid hW1
 clear hW1
 refine Rt.wp_region_rt (by kernel_rfl) [0,1,2,3,4,5,6,7,8,9,10] [8,9] [0,0,0,0,0,0,0,0] [0,1,3,7,0,31,63,127,255,511,1023] (by kernel_rfl) (HeldI W1 oa ((ver.added.map (·.1)).mergeSort (fun x y=>decide (x ≤ y)))) ?_ ?_
 ·exact ⟨below_drawn (ext_refl _) _,trivial⟩
 (refine Rt.rs_rd rfl rfl rfl ?_;apply Exists.intro;refine ⟨fun us' W hp hl hI=>?_,?_⟩;· (have c:=Ext.cell' hI.1 HG2.out;go_simp;rfl));simp only [Act.put,zA,zB,zC,zD,zE,zF]
 iterate 2 (refine Rt.rs_sil rfl rfl rfl (fun K hK=>?_);go_simp;refine hK _ ?_;clear hK K)
 (refine Rt.rs_rd rfl rfl rfl ?_;apply Exists.intro;refine ⟨fun us' W hp hl hI=>?_,?_⟩;· (have c:=Ext.cell' (hx1.trans' hI.1) HR.out;go_simp;rfl));simp only [Act.put,zA,zB,zC,zD,zE,zF]
 (refine Rt.rs_rd rfl rfl rfl ?_;apply Exists.intro;refine ⟨fun us' W hp hl hI=>?_,?_⟩;· (have c:=Ext.cell' hI.1 HG3.out;go_simp;rfl));simp only [Act.put,zA,zB,zC,zD,zE,zF]
 (refine Rt.rs_rd rfl rfl rfl ?_;apply Exists.intro;refine ⟨fun us' W hp hl hI=>?_,?_⟩;· (skip;go_simp;rfl));simp only [Act.put,zA,zB,zC,zD,zE,zF]
 (refine Rt.rs_sil rfl rfl rfl (fun K hK=>?_);go_simp;refine hK _ ?_;clear hK K)
 (refine Rt.rs_rd rfl rfl rfl ?_;apply Exists.intro;refine ⟨fun us' W hp hl hI=>?_,?_⟩;· (have c:=Ext.cell' (hx1.trans' hI.1) HA.out;go_simp;rfl));simp only [Act.put,zA,zB,zC,zD,zE,zF]
 refine Rt.rs_eff rfl rfl rfl (fun W hI=>?_) (fun v hv=>?_)
 ·refine Rt.gives_cal ?_
  apply Exists.intro
  apply Exists.intro
  apply Exists.intro
  refine ⟨by go_simp;exact ⟨⟨rfl,rfl⟩,rfl⟩,?_⟩
  refine (keys_any oa W).mono ?_
  rintro e w5 ⟨rfl,rfl⟩
  have hxx : Ext W (W.alloc (.cells #[.map oa] 94 (0,0))):=by exact bel
  refine ⟨_,rfl,hI.1.trans' hxx,W.heap.size,rfl,by rw [World.size_alloc];omega,?_⟩
  have hq : (W.alloc (.cells #[.map oa] 94 (0,0))).heap[W.heap.size]? = some (.cells #[.map oa] 94 (0,0)):=by simp only [heap_drawn_get,heap_drew_get,heap_setCell_get,heap_alloc_get,World.size_alloc,World.size_setCell,size_drawn,putObj_get,putObj_size];(repeat (first | rw [if_pos trivial] | rw [if_pos rfl] | rw [if_neg (by omega)] | rw [if_pos (by omega)]))
  exact cell_of hq 0
 obtain ⟨bm,rfl⟩ : ∃ bm,v = .func (.func 93) #[] #[.pointer (some ⟨bm,0,none⟩)]:=let ⟨W,hI⟩:=hv;let ⟨bm,hb,_⟩:=hI.2;⟨bm,hb⟩
 clear hv
 simp only [Act.put,zA,zB,zC,zD,zE,zF]
 refine Rt.rs_eff rfl rfl rfl (fun W hI=>?_) (fun v hv=>?_)
 ·obtain ⟨hxW,bm',he,hlt,hcell⟩:=hI
  simp only [Value.func.injEq,Array.mk.injEq,List.cons.injEq,Value.pointer.injEq,Option.some.injEq,Addr.mk.injEq,and_true,true_and] at he
  subst he
  refine Rt.gives_cal ?_
  apply Exists.intro
  apply Exists.intro
  apply Exists.intro
  refine ⟨by go_simp;exact ⟨⟨rfl,rfl⟩,rfl⟩,?_⟩
  refine (sorted_any bm oa ver.added W hlt hcell (hma.ext (hx1.trans' hxW)) K1.out hok (by omega)).mono ?_
  rintro e w5 ⟨v',rfl,hrow,hx5⟩
  refine ⟨_,rfl,hxW.trans' hx5,?_⟩
  have hl : ((ver.added.map (·.1)).mergeSort (fun x y=>decide (x ≤ y))).length = ver.added.length:=by rw [List.length_mergeSort,List.length_map]
  rw [hl]
  exact owns_mono hrow hxW.size
 clear hv
 simp only [Act.put,zA,zB,zC,zD,zE,zF]
 (refine Rt.rs_sil rfl rfl rfl (fun K hK=>?_);go_simp;refine hK _ ?_;clear hK K)
 refine Rt.rs_nil (fun W hI=>?_)
 obtain ⟨hxW,hrow0⟩:=hI
 have hl : ((ver.added.map (·.1)).mergeSort (fun x y=>decide (x ≤ y))).length = ver.added.length:=by rw [List.length_mergeSort,List.length_map]
 have hrow : W.ownsRow W1.heap.size 3 1 v ver.added.length (((ver.added.map (·.1)).mergeSort (fun x y=>decide (x ≤ y))).map (Value.int .i64)):=by rw [← hl];exact hrow0
 clear hrow0
 obtain ⟨p,c,rfl⟩:=owns_form hrow
 have HL:=Lib.hid hl
 clear hl
 have HROW:=Lib.hid hrow
 have HXW:=Lib.hid hxW
 clear hrow hxW
 go_wp2_with fail
 refine (deleteFunc_any W1.heap.size W1.heap.size W1 W _ ((ver.added.map (·.1)).mergeSort (fun x y=>decide (x ≤ y))) 72 _ (fun n=>!ver.holds n) (fun _ _=>trivial) (by rw [HL.out];exact HROW.out) HP.out HXW.out (Nat.le_refl _) HXW.out.size).mono ?_
 rintro e w5 ⟨v',rfl,hrow,hx5⟩
 have hq : (((ver.added.map (·.1)).mergeSort (fun x y=>decide (x ≤ y))).filter fun x=>!!ver.holds x) = heldV ver:=by unfold heldV;simp
 rw [hq] at hrow
 go_wp2_with fail
 go_ret
 exact ⟨_,rfl,owns_mono hrow hs1,Below.trans (Below.trans hx1 (Below.mono HXW.out hs1)) (Below.mono hx5 hs1)⟩
end Go.Proofs.YtihfcjioilmmjaaGreat
namespace Go.Proofs.YtihfcjioilmmjaaGreat
open Go Go.RowKit
open Go.ChangeMaps (setBlock)
theorem setBlock_put (w : World) (r : Nat) (o : Obj) : setBlock w r o = w.putObj r o:=rfl
def IterAt (W : World) (it b n : Nat) (seen : List Nat) : Prop:=W.heap[it]? = some (.mapIter (some b) n seen.toArray n)
section
variable {κ : Type} [DecidableEq κ] {enc : κ → Value}
theorem range_law {w : World} {b : Nat} {l : List (κ × Value)} {T K E : TypeId} (ht : Tryz.prog.underlying T = some (.map K E)) (hm : MapIs enc w b l) :
 (Instr.range T (.map (some b))).run Tryz.prog w = .ok (.pointer (some ⟨w.heap.size,0,none⟩)) (w.alloc (.mapIter (some b) l.length #[] l.length)):=run_range_map w T K E b _ _ ht hm
theorem entsFrom_mem {n : Nat} {l : List (κ × Value)} {e : MapEntry} (h : e ∈ entsFrom enc n l) : ∃ i k v,l[i]? = some (k,v) ∧ e = ⟨enc k,v,n + i⟩:=by
 obtain ⟨i,hi⟩:=List.mem_iff_getElem?.1 h
 rw [entsFrom_get] at hi
 cases hl : l[i]? with
 | none=>rw [hl] at hi;simp at hi
 | some x=>
  rw [hl] at hi
  exact ⟨i,x.1,x.2,hl,(Option.some.inj hi).symm⟩
theorem next_law {W : World} {it b : Nat} {l : List (κ × Value)} {seen : List Nat} (hm : MapIs enc W b l) (hi : IterAt W it b l.length seen) (ty : TypeId) :
  ((∀ i,i < l.length → i ∈ seen) ∧ (Instr.next (.pointer (some ⟨it,0,none⟩)) false ty).run Tryz.prog W = .ok (.tuple #[.bool false]) W) ∨
  ∃ i k v,l[i]? = some (k,v) ∧ i ∉ seen ∧ ∃ w1 : World,(w1 = W ∨ w1 = W.drew) ∧ (Instr.next (.pointer (some ⟨it,0,none⟩)) false ty).run Tryz.prog W = .ok (.tuple #[.bool true,enc k,v]) (w1.putObj it (.mapIter (some b) l.length (seen ++ [i]).toArray l.length)):=by
 have hold : ∀ x ∈ (entsFrom enc 0 l).toArray.toList,x.born < l.length:=by
  intro x hx
  obtain ⟨i,k,v,hl,rfl⟩:=entsFrom_mem hx
  have:=(List.getElem?_eq_some_iff.1 hl).1
  simp only;omega
 rcases run_next_at (P:=Tryz.prog) W ty it b l.length l.length seen.toArray (entsFrom enc 0 l).toArray l.length hi hm hold (Nat.le_refl _) with ⟨h0,hrun⟩ | ⟨e,he,w1,hw,hrun⟩
 ·refine .inl ⟨fun i hil=>?_,hrun⟩
  have hnil : (leftOf (entsFrom enc 0 l).toArray seen.toArray) = #[]:=Array.eq_empty_of_size_eq_zero h0
  unfold leftOf at hnil
  rw [Array.filter_eq_empty_iff] at hnil
  have hmem : (⟨enc l[i].1,l[i].2,0 + i⟩ : MapEntry) ∈ (entsFrom enc 0 l).toArray:=by
   rw [List.mem_toArray]
   refine List.mem_iff_getElem?.2 ⟨i,?_⟩
   rw [entsFrom_get,List.getElem?_eq_getElem hil];rfl
  have:=hnil _ hmem
  simpa using this
 ·right
  unfold leftOf at he
  simp only [Array.toList_filter,List.mem_filter] at he
  obtain ⟨h1,h2⟩:=he
  obtain ⟨i,k,v,hl,rfl⟩:=entsFrom_mem h1
  refine ⟨i,k,v,hl,by simpa using h2,w1,hw,?_⟩
  rw [hrun,setBlock_put]
  simp
theorem entry_law {W : World} {it b : Nat} {l : List (κ × Value)} {seen : List Nat} {i : Nat} {k : κ} {v : Value} (hm : MapIs enc W b l) (hi : IterAt W it b l.length (seen ++ [i])) (hl : l[i]? = some (k,v)) :
  (Instr.entry (.pointer (some ⟨it,0,none⟩))).run Tryz.prog W = .ok (.tuple #[enc k,v]) W:=by
 have hmem : (⟨enc k,v,i⟩ : MapEntry) ∈ (entsFrom enc 0 l).toArray.toList:=by
  refine List.mem_iff_getElem?.2 ⟨i,?_⟩
  show (entsFrom enc 0 l)[i]? = _
  rw [entsFrom_get,hl];simp
 have hnd : ((entsFrom enc 0 l).toArray.toList.map (·.born)).Nodup:=by
  show ((entsFrom enc 0 l).map (·.born)).Nodup
  rw [entsFrom_born];exact List.nodup_range'
 refine run_entry_at W it b l.length seen.toArray _ l.length ⟨enc k,v,i⟩ ?_ hm hmem hnd
 unfold IterAt at hi
 rw [hi];simp
end
theorem seen_lt {n i : Nat} {seen : List Nat} (hn : seen.Nodup) (hs : ∀ j ∈ seen,j < n) (hi : i < n) (hni : i ∉ seen) : seen.length < n:=by
 have h:=nodup_bound n ((i :: seen).map fun j=>((j + 1 : Nat) : Int)) (List.pairwise_map.2 (List.Pairwise.imp (fun h e=>h (by omega)) (List.nodup_cons.2 ⟨hni,hn⟩))) fun x hx=>by
  obtain ⟨j,hj,rfl⟩:=List.mem_map.1 hx
  rcases List.mem_cons.1 hj with rfl | hj
  ·omega
  ·have:=hs j hj;omega
 simp at h
 omega
end Go.Proofs.YtihfcjioilmmjaaGreat
namespace Go.Proofs.YtihfcjioilmmjaaGreat
open Go Go.RowKit
structure But (b : Nat) (w w' : World) : Prop where
 os : w'.os = w.os
 tape : w'.tape = w.tape
 output : w'.output = w.output
 size : w.heap.size ≤ w'.heap.size
 block : ∀ k,k < w.heap.size → k ≠ b → w'.heap[k]? = w.heap[k]?
theorem But.refl (b : Nat) (w : World) : But b w w:=⟨rfl,rfl,rfl,Nat.le_refl _,fun _ _ _=>rfl⟩
theorem But.trans {b : Nat} {x y z : World} (h : But b x y) (g : But b y z) : But b x z:=
 ⟨g.os.trans h.os,g.tape.trans h.tape,g.output.trans h.output,Nat.le_trans h.size g.size,fun k hk hn=>(g.block k (Nat.lt_of_lt_of_le hk h.size) hn).trans (h.block k hk hn)⟩
theorem But.ext {b : Nat} {x y : World} (h : Ext x y) : But b x y:=⟨h.os,h.tape,h.output,h.size,fun k hk _=>h.block k hk⟩
theorem But.put {b : Nat} {x y : World} (h : But b x y) {r : Nat} (o : Obj) (hr : r = b ∨ x.heap.size ≤ r) : But b x (y.putObj r o):=
 ⟨h.os,h.tape,h.output,by rw [putObj_size];exact h.size,fun k hk hn=>by
  rw [putObj_get,if_neg (by rcases hr with hr | hr <;> omega)];exact h.block k hk hn⟩
theorem But.drew {b : Nat} {x y : World} (h : But b x y) : But b x y.drew:=⟨h.os,h.tape,h.output,h.size,h.block⟩
theorem But.below {b B : Nat} {x y : World} (h : But b x y) (hB : B ≤ b) (hs : B ≤ x.heap.size) : Below B x y:=⟨h.os,h.tape,h.output,h.size,fun k hk=>h.block k (by omega) (by omega)⟩
theorem MapV.but {b : Nat} {w w' : World} {o : Option Nat} {l : List (Int × Value)} (h : MapV w o l) (hb : But b w w') (hne : o ≠ some b) : MapV w' o l:=by
 rcases h with h | ⟨c,rfl,h2⟩
 ·exact .inl h
 ·exact .inr ⟨c,rfl,(hb.block c (heap_lt h2) (fun e=>hne (by rw [e]))).trans h2⟩
structure CopyI (w : World) (bd bs : Nat) (ld ls : List (Int × Value)) (seen : List Nat) (l' : List (Int × Value)) (wr : World) : Prop where
 but : But bd w wr
 iter : IterAt wr w.heap.size bs ls.length seen
 nodup : seen.Nodup
 few : ∀ j ∈ seen,j < ls.length
 map : MapIs (Value.int .i64) wr bd l'
 src : MapIs (Value.int .i64) wr bs ls
 has : ∀ k,(look l' k).isSome = true ↔ ((look ld k).isSome = true ∨ ∃ j ∈ seen,∃ v,ls[j]? = some (k,v))
 keys : (ld.map (·.1)).Nodup → (l'.map (·.1)).Nodup
theorem look_has {l : List (Int × Value)} {k : Int} : (look l k).isSome = true ↔ ∃ (j : Nat) (v : Value),l[j]? = some (k,v):=by
 rw [look_isSome_iff]
 constructor
 ·intro h
  obtain ⟨x,hx,rfl⟩:=List.mem_map.1 h
  obtain ⟨j,hj⟩:=List.mem_iff_getElem?.1 hx
  exact ⟨j,x.2,hj⟩
 ·rintro ⟨j,v,h⟩
  exact List.mem_map.2 ⟨(k,v),List.mem_of_getElem? h,rfl⟩
set_option maxHeartbeats 1000000 in
set_option maxRecDepth 100000 in
theorem copy_map (bd bs : Nat) (ld ls : List (Int × Value)) (w : World) (hd : MapIs (Value.int .i64) w bd ld) (hs : MapIs (Value.int .i64) w bs ls) (hne : bs ≠ bd) :
  Calls Tryz.prog 38 #[.map (some bd),.map (some bs)] w fun e w'=>e = .returned (.tuple #[]) ∧ But bd w w' ∧ ∃ l',MapIs (Value.int .i64) w' bd l' ∧ (∀ k,(look l' k).isSome = ((look ld k).isSome || (look ls k).isSome)) ∧ ((ld.map (·.1)).Nodup → (l'.map (·.1)).Nodup):=by
 have hbd:=heap_lt hd
 have hbs:=heap_lt hs
 have hrg:=range_law (T:=94) (K:=3) (E:=3) (by kernel_rfl) hs
 have hI : CopyI w bd bs ld ls [] ld (w.alloc (.mapIter (some bs) ls.length #[] ls.length)):=by
  refine ⟨But.ext (by exact bel),?_,List.nodup_nil,fun j h=>(by cases h),?_,?_,fun k=>?_,id⟩
  ·unfold IterAt;simp only [heap_drawn_get,heap_drew_get,heap_setCell_get,heap_alloc_get,World.size_alloc,World.size_setCell,size_drawn,putObj_get,putObj_size];(repeat (first | rw [if_pos trivial] | rw [if_pos rfl] | rw [if_neg (by omega)] | rw [if_pos (by omega)]))
  ·unfold MapIs;simp only [heap_drawn_get,heap_drew_get,heap_setCell_get,heap_alloc_get,World.size_alloc,World.size_setCell,size_drawn,putObj_get,putObj_size];(repeat (first | rw [if_pos trivial] | rw [if_pos rfl] | rw [if_neg (by omega)] | rw [if_pos (by omega)]));exact hd
  ·unfold MapIs;simp only [heap_drawn_get,heap_drew_get,heap_setCell_get,heap_alloc_get,World.size_alloc,World.size_setCell,size_drawn,putObj_get,putObj_size];(repeat (first | rw [if_pos trivial] | rw [if_pos rfl] | rw [if_neg (by omega)] | rw [if_pos (by omega)]));exact hs
  ·simp
 have HI:=Lib.hid hI
 clear hI hd hs
 go_enter Tryz.func38,Tryz.ntmps38
 go_wp2_with fail
 go_loopw [4,5,8,9] (fun _ _ _ _ wr=>∃ (seen : List Nat) (l' : List (Int × Value)),CopyI w bd bs ld ls seen l' wr) (fun _ _ _ _ wr=>ls.length - (wr.iterSeen w.heap.size).size)
 case atStart=>exact ⟨[],ld,HI.out⟩
 case round=>
  obtain ⟨seen,l',hC⟩:=hrel
  rcases next_law hC.src hC.iter 0 with ⟨hall,hn⟩ | ⟨i,k,v,hl,hni,w1,hw1,hn⟩
  ·have hn' : ∀ ty,(Instr.next (.pointer (some ⟨w.heap.size,0,none⟩)) false ty).run Tryz.prog wr = _:=fun ty=>hn
   have HC:=Lib.hid hC
   have HALL:=Lib.hid hall
   clear hC hn hall
   go_wp2_with fail
   go_end0
   refine ⟨rfl,HC.out.but,l',HC.out.map,fun k=>?_,HC.out.keys⟩
   rw [Bool.eq_iff_iff,Bool.or_eq_true,HC.out.has k,look_has (l:=ls)]
   constructor
   ·rintro (h | ⟨j,_,v,hj⟩)
    ·exact .inl h
    ·exact .inr ⟨j,v,hj⟩
   ·rintro (h | ⟨j,v,hj⟩)
    ·exact .inl h
    ·exact .inr ⟨j,HALL.out j (List.getElem?_eq_some_iff.1 hj).1,v,hj⟩
  ·have hil : i < ls.length:=(List.getElem?_eq_some_iff.1 hl).1
   have hlt:=seen_lt hC.nodup hC.few hil hni
   have hn' : ∀ ty,(Instr.next (.pointer (some ⟨w.heap.size,0,none⟩)) false ty).run Tryz.prog wr = _:=fun ty=>hn
   obtain ⟨W2,hW2⟩ : ∃ W2,W2 = w1.putObj w.heap.size (.mapIter (some bs) ls.length (seen ++ [i]).toArray ls.length):=⟨_,rfl⟩
   rw [← hW2] at hn'
   have hits : wr.iterSeen w.heap.size = seen.toArray:=by
    have:=hC.iter
    unfold IterAt at this
    unfold World.iterSeen
    rw [this]
   have hitl : w.heap.size < wr.heap.size:=heap_lt hC.iter
   have hh1 : ∀ q : Nat,w1.heap[q]? = wr.heap[q]?:=fun q=>by rcases hw1 with rfl | rfl <;> rfl
   have hs1 : w1.heap.size = wr.heap.size:=by rcases hw1 with rfl | rfl <;> rfl
   have hb1 : But bd w w1:=by
    rcases hw1 with rfl | rfl
    ·exact hC.but
    ·exact hC.but.drew
   have hput : ∀ q : Nat,q ≠ w.heap.size → W2.heap[q]? = wr.heap[q]?:=fun q hq=>by rw [hW2,putObj_get,if_neg hq,hh1]
   have hit2 : IterAt W2 w.heap.size bs ls.length (seen ++ [i]):=by
    unfold IterAt;rw [hW2,putObj_get,if_pos rfl,if_pos (by omega)]
   have hm2 : MapIs (Value.int .i64) W2 bd l':=(hput bd (by omega)).trans hC.map
   have hs2 : MapIs (Value.int .i64) W2 bs ls:=(hput bs (by omega)).trans hC.src
   have hb2 : But bd w W2:=by rw [hW2];exact hb1.put _ (.inr (Nat.le_refl _))
   have hent:=entry_law hs2 hit2 hl
   have hup:=run_mapUpdate (P:=Tryz.prog) (T:=94) (K:=3) (E:=3) (k:=k) (v:=v) (by kernel_rfl) hm2 (finds_int (by kernel_rfl) W2 _ _)
   have HC:=Lib.hid hC
   have HIT2:=Lib.hid hit2
   have HM2:=Lib.hid hm2
   have HS2:=Lib.hid hs2
   have HB2:=Lib.hid hb2
   have HITS:=Lib.hid hits
   have HL:=Lib.hid hl
   clear hC hn hit2 hm2 hs2 hb2 hput hW2 hits hl hh1 hs1 hb1 hw1
   go_wp2_with fail
   have hbdW : bd < W2.heap.size:=heap_lt HM2.out
   have hit3 : IterAt (wput (Value.int .i64) W2 bd (mput l' k v)) w.heap.size bs ls.length (seen ++ [i]):=by
    unfold IterAt wput;rw [putObj_get,if_neg (by omega)];exact HIT2.out
   refine ⟨⟨seen ++ [i],mput l' k v,HB2.out.put _ (.inl rfl),hit3,?_,?_,?_,?_,?_,fun hq=>nodup_mput (HC.out.keys hq) k v⟩,?_⟩
   ·rw [List.nodup_append]
    exact ⟨HC.out.nodup,by simp,fun x hx y hy=>by rw [List.mem_singleton.1 hy];rintro rfl;exact hni hx⟩
   ·intro j hj
    rcases List.mem_append.1 hj with hj | hj
    ·exact HC.out.few j hj
    ·rw [List.mem_singleton.1 hj];exact hil
   ·unfold MapIs wput;rw [putObj_get,if_pos rfl,if_pos hbdW]
   ·unfold MapIs wput;rw [putObj_get,if_neg hne];exact HS2.out
   ·intro k'
    by_cases hk : k' = k
    ·subst hk
     rw [look_mput_same]
     simp only [Option.isSome_some,true_iff]
     exact .inr ⟨i,by simp,v,HL.out⟩
    ·rw [look_mput_other _ _ _ _ hk,HC.out.has k']
     constructor
     ·rintro (h | ⟨j,hj,u,hu⟩)
      ·exact .inl h
      ·exact .inr ⟨j,List.mem_append_left _ hj,u,hu⟩
     ·rintro (h | ⟨j,hj,u,hu⟩)
      ·exact .inl h
      ·rcases List.mem_append.1 hj with hj | hj
       ·exact .inr ⟨j,hj,u,hu⟩
       ·rw [List.mem_singleton.1 hj,HL.out] at hu
        simp only [Option.some.injEq,Prod.mk.injEq] at hu
        exact absurd hu.1.symm hk
   ·have e1 : (wput (Value.int .i64) W2 bd (mput l' k v)).iterSeen w.heap.size = (seen ++ [i]).toArray:=by
     unfold IterAt at hit3
     unfold World.iterSeen
     rw [hit3]
    rw [e1,HITS.out]
    simp
    omega
theorem run_range_nil (w : World) : (Instr.range 94 (.map none)).run Tryz.prog w = .ok (.pointer (some ⟨w.heap.size,0,none⟩)) (w.alloc (.mapIter none 0 #[] 0)):=run_range_nilMap w 94 3 3 (by kernel_rfl)
set_option maxHeartbeats 1000000 in
set_option maxRecDepth 100000 in
theorem copy_nil (od : Option Nat) (w : World) : Calls Tryz.prog 38 #[.map od,.map none] w fun e w'=>e = .returned (.tuple #[]) ∧ Ext w w':=by
 have hrg:=run_range_nil w
 have hnx : ∀ ty,(Instr.next (.pointer (some ⟨w.heap.size,0,none⟩)) false ty).run Tryz.prog (w.alloc (.mapIter none 0 #[] 0)) = _:=fun ty=>run_next_nilMap _ ty 0 0 #[]
 go_enter Tryz.func38,Tryz.ntmps38
 go_wp2_with fail
 refine wp_loop_rounds 1 ?_
 rw [rounds_succ]
 go_wp2_with fail
 go_end0
 exact ⟨rfl,by exact bel⟩
theorem copy_any (bd : Nat) (o : Option Nat) (ld ls : List (Int × Value)) (w : World) (hd : MapIs (Value.int .i64) w bd ld) (hs : MapV w o ls) (hne : o ≠ some bd) :
  Calls Tryz.prog 38 #[.map (some bd),.map o] w fun e w'=>e = .returned (.tuple #[]) ∧ But bd w w' ∧ ∃ l',MapIs (Value.int .i64) w' bd l' ∧ (∀ k,(look l' k).isSome = ((look ld k).isSome || (look ls k).isSome)) ∧ ((ld.map (·.1)).Nodup → (l'.map (·.1)).Nodup):=by
 rcases hs with ⟨rfl,rfl⟩ | ⟨b,rfl,hb⟩
 ·refine (copy_nil (some bd) w).mono ?_
  rintro e w' ⟨rfl,hx⟩
  exact ⟨rfl,But.ext hx,ld,hd.ext hx,fun k=>by simp [look],id⟩
 ·exact copy_map bd b ld ls w hd hb (fun e=>hne (by rw [e]))
end Go.Proofs.YtihfcjioilmmjaaGreat
namespace Go.Proofs.YtihfcjioilmmjaaGreat
open Go Go.RowKit
open Go.Maps Go.Sort Go.Shelf Go.Proofs
attribute [local go_sem] Oper.semAt_some
def Vals.upto {α : Type} (f : Nat → α) (k : Nat) : List α:=(List.range k).map f
theorem Vals.upto_succ {α : Type} (f : Nat → α) (k : Nat) : Vals.upto f (k + 1) = Vals.upto f k ++ [f k]:=by simp [Vals.upto,List.range_succ]
theorem Vals.upto_length {α : Type} (f : Nat → α) (k : Nat) : (Vals.upto f k).length = k:=by simp [Vals.upto]
theorem Vals.upto_all (zs : List Int) : Vals.upto (fun j=>zs[j]?.getD 0) zs.length = zs:=by
 apply List.ext_getElem
 ·simp [Vals.upto]
 ·intro i h1 h2
  simp [Vals.upto,h2]
set_option maxRecDepth 100000 in
set_option maxHeartbeats 2000000 in
theorem Vals.values1_in (F : Fence) (n : Nat) (h7 : F.fn 58) (hro : F.round = none) (hn : 1 ≤ n) (l Bs n₀ b off len cap : Nat) (zs : List Int) (hreach : len * 8 ≤ 140737488351232) (hb : b < n₀) (J Jx : List Int → World → Prop)
  (hY : ∀ pre x W,J pre W → pre.length < len → YieldAt F (n - 1) Tryz.prog l #[.int .i64 x] W fun e W'=>
   (e = .returned (.bool true) ∧ J (pre ++ [x]) W' ∧ Below n₀ W W') ∨ (e = .returned (.bool false) ∧ Jx (pre ++ [x]) W'))
  (W : World) (hBs : W.cell? ⟨Bs,0,none⟩ = some (.slice (some ⟨b,off,none⟩) len cap)) (hc : ∀ j,j < len → W.cell? ⟨b,off + j,none⟩ = some (.int .i64 (zs[j]?.getD 0))) (h0 : J [] W) :
  CallsIn F n Tryz.prog 58 #[.func (.yield l) #[] #[],.pointer (some ⟨Bs,0,none⟩)] W fun e W'=>(∃ v,e = .returned v) ∧
   ((∃ ys,ys = Vals.upto (fun j=>zs[j]?.getD 0) len ∧ J ys W') ∨ (∃ pre,(∃ k,k ≤ len ∧ pre = Vals.upto (fun j=>zs[j]?.getD 0) k) ∧ Jx pre W')):=by
 refine callsIn_of_wp Tryz.func58 rfl h7 ?_ hro
 simp only [Tryz.ntmps58,List.size_toArray,List.length_cons,List.length_nil,Nat.reduceAdd,Nat.reduceSub,Array.replicate_succ,Array.replicate_zero,List.push_toArray,List.append_toArray,List.nil_append,List.cons_append]
 gi_wp2
 gi_loopw [7] (fun i wr=>∃ k : Nat,k ≤ len ∧ i = .int .i64 k ∧ J (Vals.upto (fun j=>zs[j]?.getD 0) k) wr ∧ Below n₀ W wr)
  (fun i _=>len - (intOf i).toNat)
 case atStart=>exact ⟨0,Nat.zero_le _,rfl,h0,Below.refl _ _⟩
 case round=>
  obtain ⟨k,hk,rfl,hJs,hnx⟩:=hrel
  have hcx : k < len → wr.cell? ⟨b,off + k,none⟩ = some (.int .i64 (zs[k]?.getD 0)):=fun h=>(hnx.cell (p:=⟨b,off + k,none⟩) hb).trans (hc k h)
  by_cases hlt : k < len
  ·obtain ⟨fn,tmps,assign,body,hy,hR⟩:=hY _ (zs[k]?.getD 0) wr hJs (by rw [Vals.upto_length];exact hlt)
   have hcx':=hcx hlt
   gi_wp2
   refine hR.mono ?_
   rintro e W3 (⟨rfl,hJ3,hk3⟩ | ⟨rfl,hJx3⟩)
   ·
    gi_wp2
    go_roundw
    case rel=>exact ⟨k + 1,by omega,by simp,by rw [Vals.upto_succ];exact hJ3,hnx.trans hk3⟩
    case measure=>simp [intOf];omega
   ·gi_wp2
    refine bodyPost_ret (results_none rfl _ _ _) rfl ?_
    exact ⟨⟨_,rfl⟩,.inr ⟨_,⟨k + 1,by omega,(Vals.upto_succ _ _).symm⟩,hJx3⟩⟩
  ·obtain rfl : k = len:=by omega
   gi_wp2
   go_end0
   exact ⟨⟨_,rfl⟩,.inl ⟨_,rfl,hJs⟩⟩
theorem Vals.upto_take (zs : List Int) {k : Nat} (hk : k ≤ zs.length) : Vals.upto (fun j=>zs[j]?.getD 0) k = zs.take k:=by
 apply List.ext_getElem
 ·simp [Vals.upto,hk]
 ·intro i h1 h2
  have : i < zs.length:=by simp [Vals.upto] at h1;omega
  simp [Vals.upto,this]
def Vals.Ints (n₀ : Nat) (W : World) (sv : Value) (zs : List Int) : Prop:=
 (zs = [] ∧ ∃ a cap,sv = .slice a 0 cap) ∨ ∃ b off cap,sv = .slice (some ⟨b,off,none⟩) zs.length cap ∧ b < n₀ ∧ ∀ j,j < zs.length → W.cell? ⟨b,off + j,none⟩ = some (.int .i64 (zs[j]?.getD 0))
theorem Vals.Ints.below {n₀ : Nat} {A B : World} (h : Below n₀ A B) {sv : Value} {zs : List Int} : Vals.Ints n₀ A sv zs → Vals.Ints n₀ B sv zs
 | .inl e=>.inl e
 | .inr ⟨b,off,cap,e,hb,hc⟩=>.inr ⟨b,off,cap,e,hb,fun j hj=>(h.cell (p:=⟨b,off + j,none⟩) hb).trans (hc j hj)⟩
set_option maxRecDepth 100000 in
set_option maxHeartbeats 1000000 in
theorem Vals.values1_nil_in (F : Fence) (n : Nat) (h7 : F.fn 58) (hro : F.round = none) (l Bs : Nat) (J : List Int → World → Prop) (W : World) (a0 : Option Addr) (cap0 : Nat) (hBs : W.cell? ⟨Bs,0,none⟩ = some (.slice a0 0 cap0)) (h0 : J [] W) :
  CallsIn F n Tryz.prog 58 #[.func (.yield l) #[] #[],.pointer (some ⟨Bs,0,none⟩)] W fun e W'=>(∃ v,e = .returned v) ∧ J [] W':=by
 refine callsIn_of_wp Tryz.func58 rfl h7 ?_ hro
 simp only [Tryz.ntmps58,List.size_toArray,List.length_cons,List.length_nil,Nat.reduceAdd,Nat.reduceSub,Array.replicate_succ,Array.replicate_zero,List.push_toArray,List.append_toArray,List.nil_append,List.cons_append]
 gi_wp2
 gi_loopw [7] (fun i wr=>i = .int .i64 0 ∧ J [] wr) (fun _ _=>0)
 case atStart=>exact ⟨rfl,h0⟩
 case round=>
  obtain ⟨rfl,hJs⟩:=hrel
  gi_wp2
  go_end0
  exact ⟨⟨_,rfl⟩,hJs⟩
set_option maxHeartbeats 1000000 in
theorem Vals.values_in (F : Fence) (n : Nat) (h5 : F.fn 35) (hro : F.round = none) (a : Option Addr) (len cap : Nat) (w : World) :
  CallsIn F n Tryz.prog 35 #[.slice a len cap] w fun e w'=>e = .returned (.func (.func 58) #[] #[.pointer (some ⟨w.heap.size,0,none⟩)]) ∧ w' = w.alloc (.cells #[.slice a len cap] 35):=by
 refine callsIn_of_wp Tryz.func35 rfl h5 ?_ hro
 simp only [Tryz.ntmps35,List.size_toArray,List.length_cons,List.length_nil,Nat.reduceAdd,Nat.reduceSub,Array.replicate_succ,Array.replicate_zero,List.push_toArray,List.append_toArray,List.nil_append,List.cons_append]
 gi_wp2
 go_ret
 exact ⟨rfl,rfl⟩
theorem Vals.values_stops (F : Fence) (n : Nat) (h7 : F.fn 58) (hro : F.round = none) (hn : 1 ≤ n) (Bs n₀ : Nat) (sv : Value) (zs : List Int) (hreach : zs.length * 8 ≤ 140737488351232) (w : World) (hBs : Bs < w.heap.size) (hn₀ : n₀ ≤ w.heap.size)
  (hc : w.cell? ⟨Bs,0,none⟩ = some sv) (hI : Vals.Ints n₀ w sv zs) :
  SeqStopsK F n Tryz.prog 58 #[.pointer (some ⟨Bs,0,none⟩)] (fun x : Int=>#[Value.int .i64 x]) (Below n₀) (fun ys=>ys = zs) (fun pre=>pre <+: zs) zs.length w:=fun l J Jx W hW _ _ hY h0=>by
 have hc':=(hW.cell (p:=⟨Bs,0,none⟩) hBs).trans hc
 rcases hI.below (hW.mono hn₀) with ⟨rfl,a0,cap0,rfl⟩ | ⟨b,off,cap,rfl,hb,hcs⟩
 ·exact (Vals.values1_nil_in F n h7 hro l Bs J W a0 cap0 hc' h0).mono fun e W' ⟨he,hj⟩=>⟨he,.inl ⟨_,rfl,hj⟩⟩
 ·refine (Vals.values1_in F n h7 hro hn l Bs n₀ b off zs.length cap zs hreach hb J Jx hY W hc' hcs h0).mono ?_
  rintro e W' ⟨he,⟨ys,rfl,hj⟩ | ⟨pre,⟨k,hk,rfl⟩,hj⟩⟩
  ·exact ⟨he,.inl ⟨_,Vals.upto_all zs,hj⟩⟩
  ·exact ⟨he,.inr ⟨_,by rw [Vals.upto_take zs hk];exact List.take_prefix _ _,hj⟩⟩
theorem info3 : (Tryz.prog.info? 3).map (fun i=>(i.zero,i.size,i.bytes)) = some (some (.int .i64 0),1,8):=by kernel_rfl
set_option maxRecDepth 100000 in
set_option maxHeartbeats 2000000 in
theorem appendSeq_in (F : Fence) (n : Nat) (h75 : F.fn 75) (h58 : F.fn 58) (hro : F.round = none) (hn : 3 ≤ n) (bm : Nat) (sv : Value) (zs : List Int) (hlen : zs.length ≤ maxLen) (hbytes : zs.length * 8 ≤ 140737488351232) (w : World) (hbm : bm < w.heap.size) (hc0 : w.cell? ⟨bm,0,none⟩ = some sv) (hI0 : Vals.Ints w.heap.size w sv zs) :
  CallsIn F n Tryz.prog 75 #[.slice none 0 0,.func (.func 58) #[] #[.pointer (some ⟨bm,0,none⟩)]] w fun e W'=>∃ v,e = .returned v ∧ W'.ownsRow w.heap.size 3 1 v zs.length (zs.map (Value.int .i64)) ∧ Below w.heap.size w W':=by
 have h1 : 1 ≤ n:=by omega
 obtain ⟨i0,hi,hz0,hz1,hz2⟩:=info_parts info3
 refine callsIn_of_wp_marks Tryz.func75 rfl h75 ?_ hro
 simp only [Tryz.ntmps75,List.size_toArray,List.length_cons,List.length_nil,Nat.reduceAdd,Nat.reduceSub,Array.replicate_succ,Array.replicate_zero,List.push_toArray,List.append_toArray,List.nil_append,List.cons_append]
 gi_wp2
 have bO:=Boxed.new w 35 (.slice none 0 0)
 have hB0 : Below w.heap.size w (w.alloc (.cells #[.slice none 0 0] 35)):=(Below.refl _ w).alloc (Nat.le_refl _) _
 refine wpIn_rangeFunc_ownG hro h1 (gf:=58) (lb:=#[.pointer (some ⟨bm,0,none⟩)]) rfl h58 (enters_of Tryz.func58 (by kernel_rfl) rfl)
  (Vals.values_stops F (n - 1) h58 hro (by omega) bm w.heap.size sv zs hbytes _ (by simp;omega) (by simp) ((hB0.cell (p:=⟨bm,0,none⟩) hbm).trans hc0) (hI0.below hB0)) belowK_t (belowK_b (by simp)) (Below.refl _ _) (fun _=>rfl)
  (fun pre W=>(∃ v,Boxed W w.heap.size 35 v ∧ W.ownsRow w.heap.size 3 1 v pre.length (pre.map (Value.int .i64)) ∧ True) ∧ Below w.heap.size w W)
  (fun _ _ _=>False)
  (OwnFrom.and (Own.from (holdsRow_own w.heap.size w.heap.size 35 3 1 (fun pre : List Int=>pre.length) (fun pre=>pre.map (Value.int .i64)) (fun pre v=>True)) _) (ownFrom_below (Nat.le_refl _) (by simp)))
  (fun _ _ _ _ _ hs _ _=>hs)
  ⟨⟨_,bO,World.ownsRow_nil _ _ _ _,trivial⟩,hB0⟩
  (fun x=>{ tmps:=#[.slice none 0 0,.func (.func 58) #[] #[.pointer (some ⟨bm,0,none⟩)],.pointer (some ⟨w.heap.size,0,none⟩),undef,.slice none 0 0,.int .i64 x,.func (.func 58) #[] #[.pointer (some ⟨bm,0,none⟩)],.int .i64 x,undef,undef,undef,undef,undef],defers:=[] }) ?assign ?body ?done ?stop
 case assign=>
  intro l x W K hK
  gi_wp2
  exact hK
 case body=>
  rintro l pre x W ⟨⟨v,hv,hrow,_⟩,hB⟩ hlt
  have hc:=hv.cell
  gi_wp2_with (gi_at_builtin;refine wpListIn_append_own _ rfl _ _ 35 rfl w.heap.size 3 i0 (.int .i64 0) 1 8 Tryz.underlying35 hi hz0 hz1 hz2 rfl (by decide) _ _ _ rfl (hrow.alloc _) ⟨W.heap.size,0,none⟩ 1 1 [.int .i64 x] rfl rfl (cell_one_new _ _ _) (by simp [Value.oneCell']) (by omega) (by omega) (by have:=hB.size;simp;omega) ?_;intro v' w1 hown' hgrow _;obtain ⟨g',cap',rfl⟩:=ownsRow_succ hown';obtain ⟨hv1,hv2,hr2,hk2,hb2⟩:=hv.appended (by decide) hrow hB.size (Nat.le_refl _) hown' hgrow;have hc1:=hv1.cell;have hf1:=hv1.frozen)
  exact ⟨hk2.from _,hb2,⟨_,hv2,by simpa using hr2,trivial⟩,hB.trans hb2⟩
 case done=>
  rintro D ys W hD rfl ⟨⟨v,hv,hrow,_⟩,hB⟩ hK
  have hc:=hv.cell
  gi_wp2
  refine ⟨by simp,.inl ⟨_,_,rfl,run_takeDeferred hK,?_⟩⟩
  exact ⟨_,results_tmp rfl _ _ _,v,rfl,ownsRow_putObj hrow _ hK rfl,hB.trans (belowK_b (w:=w) (Nat.le_refl _) W D _ _ (by simp at hD;omega) hK rfl rfl)⟩
 case stop=>
  rintro D c pre W _ _ h _
  exact h.elim
theorem collect_vals (bm : Nat) (sv : Value) (zs : List Int) (hlen : zs.length ≤ 1000000) (w : World) (hbm : bm < w.heap.size) (hc0 : w.cell? ⟨bm,0,none⟩ = some sv) (hI0 : Vals.Ints w.heap.size w sv zs) :
  Calls Tryz.prog 56 #[.func (.func 58) #[] #[.pointer (some ⟨bm,0,none⟩)]] w fun e W'=>∃ v,e = .returned v ∧ W'.ownsRow w.heap.size 3 1 v zs.length (zs.map (Value.int .i64)) ∧ Ext w W':=by
 have hml : (1000000 : Nat) ≤ maxLen:=by decide
 have hA:=callsIn_wide.1 (appendSeq_in Fence.wide 5 trivial trivial rfl (by omega) bm sv zs (by omega) (by omega) w hbm hc0 hI0)
 have HA:=Lib.hid hA
 clear hA hI0 hc0
 go_enter Tryz.func56,Tryz.ntmps56
 go_wp2_with fail
 refine HA.out.mono ?_
 rintro e w1 ⟨v,rfl,hrow,hx⟩
 go_wp2_with fail
 go_ret
 exact ⟨_,rfl,hrow,hx⟩
set_option maxHeartbeats 1000000 in
theorem sorted_vals (bm : Nat) (sv : Value) (zs : List Int) (hlen : zs.length ≤ 1000000) (w : World) (hbm : bm < w.heap.size) (hc0 : w.cell? ⟨bm,0,none⟩ = some sv) (hI0 : Vals.Ints w.heap.size w sv zs) :
  Calls Tryz.prog 34 #[.func (.func 58) #[] #[.pointer (some ⟨bm,0,none⟩)]] w fun e W'=>∃ v,e = .returned v ∧ W'.ownsRow w.heap.size 3 1 v zs.length ((zs.mergeSort (fun x y=>decide (x ≤ y))).map (Value.int .i64)) ∧ Ext w W':=by
 have hA:=collect_vals bm sv zs hlen w hbm hc0 hI0
 have HA:=Lib.hid hA
 clear hA hI0 hc0
 go_enter Tryz.func34,Tryz.ntmps34
 go_wp2_with fail
 refine HA.out.mono ?_
 rintro e w1 ⟨v,rfl,hrow,hx⟩
 rcases hrow.2 with ⟨rfl,hz⟩ | ⟨gb,cap,cur,rfl,hbase,hgb,r1,r2,r3,r4⟩
 ·obtain rfl : zs = []:=List.eq_nil_of_length_eq_zero hz
  have HROW:=Lib.hid hrow
  clear hrow
  go_wp2_with fail
  refine (Tryz.slices_Sort_int_none none 0 w1).mono ?_
  rintro e w2 ⟨rfl,rfl⟩
  go_wp2_with fail
  go_ret
  exact ⟨_,rfl,by simpa using HROW.out,hx⟩
 ·have hH : Holds encZ w1 gb 0 zs.toArray:=holds_of_block_i hgb (by simpa using r4)
  have hgl : gb < w1.heap.size:=heap_lt hgb
  have cS:=Tryz.slices_Sort_int gb 0 cap zs w1 hH hgl (by omega)
  have CS:=Lib.hid cS
  have HROW:=Lib.hid hrow
  have HGB:=Lib.hid hgb
  clear hrow hgb cS hH r4
  go_wp2_with fail
  refine CS.out.mono ?_
  rintro e w2 ⟨rfl,nn,os,rfl⟩
  go_wp2_with fail
  go_ret
  exact ⟨_,rfl,ownsRow_sorted_i (by simp) hbase HGB.out r1 r2 r3,hx.grown (grownBy_sorted_i _) hx.size (fun j hj=>by cases hj;exact hbase)⟩
theorem IntsAt.vals {w : World} {v : Value} {l : List Int} (h : IntsAt w v l) : Vals.Ints w.heap.size w v l:=by
 obtain ⟨a,cap,rfl,_,_,hel⟩:=h.form
 by_cases hl : l = []
 ·subst hl;exact .inl ⟨rfl,a,cap,rfl⟩
 ·have h0 : 0 < l.length:=List.length_pos_iff.2 hl
  obtain ⟨b,off,rfl,hc⟩:=hel 0 l[0] (List.getElem?_eq_getElem h0)
  refine .inr ⟨b,off,cap,rfl,cell_lt hc,fun j hj=>?_⟩
  obtain ⟨b',off',e,hcell⟩:=hel j l[j] (List.getElem?_eq_getElem hj)
  simp only [Option.some.injEq,Addr.mk.injEq] at e
  obtain ⟨rfl,rfl,_⟩:=e
  rw [hcell,List.getElem?_eq_getElem hj];rfl
theorem values_any (a : Option Addr) (n cap : Nat) (w : World) : Calls Tryz.prog 35 #[.slice a n cap] w fun e w'=>e = .returned (.func (.func 58) #[] #[.pointer (some ⟨w.heap.size,0,none⟩)]) ∧ w' = w.alloc (.cells #[.slice a n cap] 35):=
 callsIn_wide.1 (Vals.values_in Fence.wide 5 trivial rfl a n cap w)
theorem Vals.Ints.up {n₀ : Nat} {W W' : World} {sv : Value} {zs : List Int} (h : Vals.Ints n₀ W sv zs) (hx : Below n₀ W W') (hn : n₀ ≤ W'.heap.size) : Vals.Ints W'.heap.size W' sv zs:=by
 rcases h.below hx with h | ⟨b,off,cap,e,hb,hc⟩
 ·exact .inl h
 ·exact .inr ⟨b,off,cap,e,by omega,hc⟩
end Go.Proofs.YtihfcjioilmmjaaGreat
namespace Go.Proofs.YtihfcjioilmmjaaGreat
open Go Go.RowKit
open Go.Lib
section
variable {α : Type} [Inhabited α] [DecidableEq α] {le : α → α → Prop}
theorem get!_toArray (zs : List α) {j : Nat} {x : α} (h : zs[j]? = some x) : zs.toArray[j]! = x:=by
 have hj : j < zs.length:=(List.getElem?_eq_some_iff.1 h).1
 rw [getElem!_pos zs.toArray j (by simpa using hj)]
 rw [List.getElem?_eq_getElem hj] at h
 simpa using h
theorem cU_spec (zs : List α) (hs : zs.Pairwise le) (ha : ∀ a b,le a b → le b a → a = b) (ht : ∀ a b c,le a b → le b c → le a c) : ∀ m,m ≤ zs.length →
  (compactUpTo zs.toArray m).Pairwise (fun a b=>le a b ∧ a ≠ b) ∧ (∀ x,x ∈ compactUpTo zs.toArray m ↔ x ∈ zs.take m) ∧ (∀ y,zs[m - 1]? = some y → ∀ x ∈ compactUpTo zs.toArray m,x = y ∨ le x y)
 | 0,_=>by
  have h0 : compactUpTo zs.toArray 0 = []:=rfl
  rw [h0]
  exact ⟨List.Pairwise.nil,fun x=>by simp,fun y _ x hx=>by cases hx⟩
 | m + 1,hm=>by
  obtain ⟨h1,h2,h3⟩:=cU_spec zs hs ha ht m (by omega)
  obtain ⟨y,hy⟩ : ∃ y,zs[m]? = some y:=⟨_,List.getElem?_eq_getElem (by omega)⟩
  have hym : zs.toArray[m]! = y:=get!_toArray zs hy
  have htk : zs.take (m + 1) = zs.take m ++ [y]:=by rw [List.take_add_one,hy];rfl
  rw [compactUpTo_succ,hym]
  have hprev : ∀ p,zs[m - 1]? = some p → 0 < m → le p y:=by
   intro p hp hm0
   rw [List.pairwise_iff_getElem] at hs
   rw [List.getElem?_eq_getElem (by omega)] at hp hy
   have:=hs (m - 1) m (by omega) (by omega) (by omega)
   rw [Option.some.inj hp,Option.some.inj hy] at this
   exact this
  by_cases hk : keeps zs.toArray m = true
  ·rw [if_pos hk]
   have hle : ∀ x ∈ compactUpTo zs.toArray m,le x y ∧ x ≠ y:=by
    intro x hx
    by_cases hm0 : m = 0
    ·subst hm0
     exact absurd hx (by simp [compactUpTo])
    ·obtain ⟨p,hp⟩ : ∃ p,zs[m - 1]? = some p:=⟨_,List.getElem?_eq_getElem (by omega)⟩
     have hpm : zs.toArray[m - 1]! = p:=get!_toArray zs hp
     have hne : y ≠ p:=by
      unfold keeps at hk
      rw [hym,hpm] at hk
      simpa [hm0] using hk
     have hpy:=hprev p hp (by omega)
     rcases h3 p hp x hx with rfl | hxp
     ·exact ⟨hpy,fun e=>hne e.symm⟩
     ·refine ⟨ht _ _ _ hxp hpy,fun e=>hne ?_⟩
      subst e
      exact ha _ _ hxp hpy
   refine ⟨?_,fun x=>?_,?_⟩
   ·rw [List.pairwise_append]
    refine ⟨h1,List.pairwise_singleton _ _,fun a ha' b hb=>?_⟩
    rw [List.mem_singleton.1 hb]
    exact hle a ha'
   ·rw [htk]
    simp only [List.mem_append,List.mem_singleton,h2 x]
   ·intro y' hy' x hx
    rw [Nat.add_sub_cancel,hy] at hy'
    obtain rfl:=Option.some.inj hy'
    rcases List.mem_append.1 hx with hx | hx
    ·exact .inr (hle x hx).1
    ·exact .inl (List.mem_singleton.1 hx)
  ·rw [if_neg hk,List.append_nil]
   have hm0 : 0 < m:=by
    rcases Nat.eq_zero_or_pos m with h | h
    ·subst h;exact absurd (keeps_lt_one _ 0 (by omega)) hk
    ·exact h
   obtain ⟨p,hp⟩ : ∃ p,zs[m - 1]? = some p:=⟨_,List.getElem?_eq_getElem (by omega)⟩
   have hpm : zs.toArray[m - 1]! = p:=get!_toArray zs hp
   have he : y = p:=by
    unfold keeps at hk
    rw [hym,hpm] at hk
    simp at hk
    exact hk.2
   subst he
   refine ⟨h1,fun x=>?_,?_⟩
   ·rw [htk,h2 x]
    simp only [List.mem_append,List.mem_singleton]
    constructor
    ·exact .inl
    ·rintro (h | rfl)
     ·exact h
     ·exact List.mem_of_getElem? (i:=m - 1) (by rw [List.getElem?_take,if_pos (by omega)];exact hp)
   ·intro y' hy' x hx
    rw [Nat.add_sub_cancel,hy] at hy'
    obtain rfl:=Option.some.inj hy'
    exact h3 _ hp x hx
theorem compact_spec (zs : List α) (hs : zs.Pairwise le) (ha : ∀ a b,le a b → le b a → a = b) (ht : ∀ a b c,le a b → le b c → le a c) :
  (compact zs).Pairwise (fun a b=>le a b ∧ a ≠ b) ∧ ∀ x,x ∈ compact zs ↔ x ∈ zs:=by
 obtain ⟨h1,h2,_⟩:=cU_spec zs hs ha ht zs.length (Nat.le_refl _)
 rw [List.take_length] at h2
 exact ⟨h1,h2⟩
theorem compact_len (zs : List α) (hs : zs.Pairwise le) (ha : ∀ a b,le a b → le b a → a = b) (ht : ∀ a b c,le a b → le b c → le a c) : (compact zs).length = zs.length ↔ zs.Nodup:=by
 constructor
 ·intro h
  have hall : ∀ j,j < zs.length → keeps zs.toArray j = true:=by
   unfold compact compactUpTo at h
   rw [List.length_map] at h
   have h2 : ((List.range zs.length).filter (keeps zs.toArray)).length = (List.range zs.length).length:=by rw [h,List.length_range]
   have h3:=List.length_filter_eq_length_iff.1 h2
   exact fun j hj=>h3 j (List.mem_range.2 hj)
  have h1:=(compact_spec zs hs ha ht).1
  rw [compact_all zs hall] at h1
  exact List.Pairwise.imp (fun h=>h.2) h1
 ·intro hn
  rw [compact_all zs ?_]
  intro j hj
  by_cases h0 : j = 0
  ·subst h0;exact keeps_lt_one _ 0 (by omega)
  ·refine keeps_pos ?_
   rw [get!_toArray zs (List.getElem?_eq_getElem hj),get!_toArray zs (List.getElem?_eq_getElem (show j - 1 < zs.length by omega))]
   intro e
   have:=(List.getElem_inj hn).1 e
   omega
end
end Go.Proofs.YtihfcjioilmmjaaGreat
namespace Go.Proofs.YtihfcjioilmmjaaGreat
open Go Go.RowKit
open Go.Lib Go.Sort Go.Maps Go.Shelf Go.Proofs
theorem compact_any (base : Nat) (v : Value) (zs : List Int) (w : World) (hrow : w.ownsRow base 3 1 v zs.length (zs.map (Value.int .i64))) (hb : base ≤ w.heap.size) (hlen : zs.length ≤ 1000000) :
  Calls Tryz.prog 36 #[v] w fun e w'=>∃ a cap,e = .returned (.slice a (Lib.compact zs).length cap) ∧ Below base w w':=by
 rcases hrow.2 with ⟨rfl,hz⟩ | ⟨gb,cap,cur,rfl,hbase,hgb,r1,r2,r3,r4⟩
 ·obtain rfl : zs = []:=List.eq_nil_of_length_eq_zero hz
  refine (Tryz.slices_Compact_int_empty none 0 w).mono ?_
  rintro e w' ⟨rfl,rfl⟩
  exact ⟨none,0,rfl,Below.refl _ _⟩
 ·have hH : Holds encZ w gb 0 zs.toArray:=holds_of_block_i hgb (by simpa using r4)
  refine (Tryz.slices_Compact_int gb 0 cap zs w hH (by omega) r1).mono ?_
  rintro e w' ⟨rfl,q,rfl⟩
  refine ⟨_,_,rfl,?_⟩
  have:=(Below.refl base w).grown (grownBy_sorted_i (w:=w) (g:=gb) (n:=q) (os:=#[]) ((Lib.compact zs ++ List.replicate (zs.length - (Lib.compact zs).length) 0).toArray)) hb (fun j hj=>by cases hj;exact hbase)
  rw [grow_empty] at this
  exact this
def sortedP (ps : List Int) : List Int:=ps.mergeSort (fun x y=>decide (x ≤ y))
theorem sortedP_len (ps : List Int) : (Lib.compact (sortedP ps)).length = ps.length ↔ ps.Nodup:=by
 have hp : (sortedP ps).Perm ps:=List.mergeSort_perm _ _
 have hs : (sortedP ps).Pairwise (fun a b : Int=>a ≤ b):=by
  have:=List.pairwise_mergeSort (le:=fun x y : Int=>decide (x ≤ y)) (fun a b c h1 h2=>by simp at *;omega) (fun a b=>by simp;omega) ps
  exact List.Pairwise.imp (fun h=>by simpa using h) this
 have h:=compact_len (sortedP ps) hs (fun a b h1 h2=>by omega) (fun a b c h1 h2=>by omega)
 rw [hp.length_eq] at h
 rw [h]
 exact hp.nodup_iff
def parOk (ps : List Int) : Bool:=decide (1 ≤ ps.length) && (decide (ps.length ≤ 4) && decide ps.Nodup)
def hasV (R : Rec) (v : Int) : Bool:=decide (0 ≤ v) && decide (v < (R.vers.length : Int))
def rowsF (R : Rec) : List Fct → Option (List FR)
 | []=>some []
 | f :: r=>match checkF R f with
  | none=>none
  | some x=>(rowsF R r).map (x :: ·)
def verOf (R : Rec) (p : Int) : Option Ver:=if 0 ≤ p then R.vers[p.toNat]? else none
theorem verOf_has {R : Rec} {p : Int} (h : hasV R p = true) : ∃ (i : Nat) (ver : Ver),p = (i : Int) ∧ R.vers[i]? = some ver ∧ verOf R p = some ver:=by
 unfold hasV at h
 simp only [Bool.and_eq_true,decide_eq_true_eq] at h
 have hi : p.toNat < R.vers.length:=by omega
 refine ⟨p.toNat,R.vers[p.toNat],by omega,List.getElem?_eq_getElem hi,?_⟩
 unfold verOf
 rw [if_pos h.1,List.getElem?_eq_getElem hi]
structure ComC (w3 : World) (R : Rec) (ps : List Int) (k : Nat) (la lw : List (Int × Value)) (W : World) : Prop where
 below : Below w3.heap.size w3 W
 box : W.heap[w3.heap.size + 1 + 1]? = some (.cells #[.map (some w3.heap.size),.map (some (w3.heap.size + 1))] 96 (0,0))
 m1 : MapIs (Value.int .i64) W w3.heap.size la
 m2 : MapIs (Value.int .i64) W (w3.heap.size + 1) lw
 n1 : (la.map (·.1)).Nodup
 n2 : (lw.map (·.1)).Nodup
 k1 : ∀ n,(look la n).isSome = true ↔ ∃ p ∈ ps.take k,∃ ver,verOf R p = some ver ∧ (look ver.added n).isSome = true
 k2 : ∀ n,(look lw n).isSome = true ↔ ∃ p ∈ ps.take k,∃ ver,verOf R p = some ver ∧ (look ver.wd n).isSome = true
def CpI (wr : World) (m : Nat) (ld ls : List (Int × Value)) (us : List Value) (W : World) : Prop:=
 match us with
 | []=>Ext wr W
 | _=>But m wr W ∧ ∃ l',MapIs (Value.int .i64) W m l' ∧ (∀ k,(look l' k).isSome = ((look ld k).isSome || (look ls k).isSome)) ∧ ((ld.map (·.1)).Nodup → (l'.map (·.1)).Nodup)
theorem CpI.pre {wr : World} {m : Nat} {ld ls : List (Int × Value)} {us : List Value} {W : World} (h : CpI wr m ld ls us W) (hl : us.length ≤ 0) : Ext wr W:=by
 have : us = []:=List.eq_nil_of_length_eq_zero (by omega)
 subst this;exact h
theorem ColK.ext {w w' : World} {cb : Nat} {a : Attr} (h : ColK w cb a) (he : Ext w w') : ColK w' cb a:=by
 obtain ⟨v,t,pb,h1,⟨B,h2⟩,h3,h4⟩:=h
 exact ⟨v,t,pb,he.obj h1,⟨B,owns_keep h2 fun g cs _ hg=>he.block g (heap_lt hg)⟩,h3,h4.ext he⟩
theorem RecAt.ext {B : Nat} {w w' : World} {rb : Nat} {R : Rec} {cm : Nat} {vv fv : Value} {os : List (Option Nat × Option Nat)} {xs : List (List Value)} (h : RecAt B w rb R cm vv fv os xs) (he : Ext w w') : RecAt B w' rb R cm vv fv os xs:=
 {base:=h.base,blk:=he.obj h.blk,cols:=h.cols.ext he,colAt:=fun c hc=>(h.colAt c hc).ext he
  vers:=owns_keep h.vers fun g cs _ hg=>he.block g (heap_lt hg)
  verLen:=h.verLen
  verAt:=fun i o v ho hv=>⟨(h.verAt i o v ho hv).1.ext he,(h.verAt i o v ho hv).2.ext he⟩
  facts:=owns_keep h.facts fun g cs _ hg=>he.block g (heap_lt hg)
  factLen:=h.factLen,four:=h.four,ok:=h.ok }
theorem info122 : (Tryz.prog.info? 122).map (fun i=>(i.zero,i.size,i.bytes)) = some (some (.agg #[.string ⟨#[]⟩,.string ⟨#[]⟩,.slice none 0 0,.int .i64 0,.int .i64 0,.pointer none,.int .u64 0,.int .i64 0,.int .i64 0]),9,104):=by kernel_rfl
theorem info96 : (Tryz.prog.info? 96).map (fun i=>(i.zero,i.size,i.bytes)) = some (some (.agg #[.map none,.map none]),2,16):=by kernel_rfl
theorem append_fact {W : World} {base : Nat} {v : Value} {k : Nat} {xs row : List Value} (hown : W.ownsRow base 122 9 v k xs) (ab m : Nat) (hl : row.length = m * 9) (hrow : ∀ j u,row[j]? = some u → W.cell? ⟨ab,0 + j,none⟩ = some u) (h1 : ∀ u ∈ row,u.oneCell' = true) (hk : k + m ≤ 1000000) (hb : base ≤ W.heap.size) (c : Nat) :
  ∃ v' w',(Builtin.append_ #[98,98] 98 #[v,.slice (some ⟨ab,0,none⟩) m c]).run Tryz.prog W = .ok v' w' ∧ w'.ownsRow base 122 9 v' (k + m) (xs ++ row) ∧ W.grownBy w' v.ownBlock:=by
 have hml : (1000000 : Nat) ≤ maxLen:=by decide
 obtain ⟨i0,hi,hz0,hz1,hz2⟩:=info_parts info122
 obtain ⟨v',w',q1,q2,q3,_⟩:=run_append_own (P:=Tryz.prog) (w:=W) base 98 98 122 i0 _ 9 104 (by kernel_rfl) hi hz0 hz1 hz2 rfl (by decide) v k xs hown ⟨ab,0,none⟩ m c row hl (fun j u hj=>by
  have:=hrow j u hj
  by_cases h0 : j = 0
  ·subst h0;simpa [Addr.add] using this
  ·simpa [Addr.add,h0] using this) h1 (by omega) (by omega) hb
 exact ⟨v',w',q1,q2,q3⟩
structure ComF (w3 : World) (R : Rec) (adds : List Fct) (la lw : List (Int × Value)) (k : Nat) (frs : List FR) (xs' : List (List Value)) (la' : List (Int × Value)) (fsv : Value) (W : World) : Prop where
 below : Below w3.heap.size w3 W
 size : w3.heap.size + 3 ≤ W.heap.size
 box : W.heap[w3.heap.size + 1 + 1]? = some (.cells #[.map (some w3.heap.size),.map (some (w3.heap.size + 1))] 96 (0,0))
 m1 : MapIs (Value.int .i64) W w3.heap.size la'
 m2 : MapIs (Value.int .i64) W (w3.heap.size + 1) lw
 n1 : (la'.map (·.1)).Nodup
 rows : W.ownsRow w3.heap.size 122 9 fsv k ((frs.zip xs').flatMap fun x=>frCells x.1 x.2)
 len : frs.length = k
 xlen : xs'.length = k
 four : ∀ x ∈ xs',FourOk x
 eq : rowsF R (adds.take k) = some frs
 keys : ∀ n,(look la' n).isSome = true ↔ ((look la n).isSome = true ∨ ((R.facts.length : Int) + 1 ≤ n ∧ n ≤ (R.facts.length : Int) + k))
theorem rowsF_snoc (R : Rec) (f : Fct) : ∀ (l : List Fct),rowsF R (l ++ [f]) = match rowsF R l with | none=>none | some frs=>(checkF R f).map fun x=>frs ++ [x]
 | []=>by
  simp only [List.nil_append,rowsF]
  cases checkF R f <;> rfl
 | g :: r=>by
  simp only [List.cons_append,rowsF]
  cases checkF R g with
  | none=>rfl
  | some x=>
   simp only [rowsF_snoc R f r]
   cases rowsF R r with
   | none=>rfl
   | some frs=>cases checkF R f <;> rfl
theorem rowsF_take_none {R : Rec} {l : List Fct} {k : Nat} (h : rowsF R (l.take k) = none) : rowsF R l = none:=by
 have : ∀ (a b : List Fct),rowsF R a = none → rowsF R (a ++ b) = none:=by
  intro a
  induction a with
  | nil=>intro b h;simp [rowsF] at h
  | cons g r ih=>
   intro b h
   simp only [List.cons_append,rowsF] at h ⊢
   cases hg : checkF R g with
   | none=>rfl
   | some x=>
    rw [hg] at h
    simp only [Option.map_eq_none_iff] at h ⊢
    exact ih b h
 rw [← List.take_append_drop k l]
 exact this _ _ h
end Go.Proofs.YtihfcjioilmmjaaGreat
namespace Go.Proofs.YtihfcjioilmmjaaGreat
open Go Go.RowKit
open Go.Lib Go.Sort Go.Maps Go.Shelf Go.Proofs
theorem owns_block {w : World} {base : Nat} {e : TypeId} {k : Nat} {v : Value} {n : Nat} {xs : List Value} (h : w.ownsRow base e k v n xs) {g : Nat} (hg : v.ownBlock = some g) : base ≤ g ∧ ∃ cs fr,w.heap[g]? = some (.cells cs e fr):=by
 rcases h.2 with ⟨rfl,_⟩ | ⟨b,cap,cur,rfl,hb,hgg,_⟩
 ·simp [Value.ownBlock] at hg
 ·simp only [Value.ownBlock,Option.some.injEq] at hg
  subst hg
  exact ⟨hb,_,_,hgg⟩
theorem grown_keep {w w' : World} {base : Nat} {e : TypeId} {k : Nat} {v : Value} {n : Nat} {xs : List Value} (h : w.ownsRow base e k v n xs) (hg : w.grownBy w' v.ownBlock) {b : Nat} {o : Obj} (hb : w.heap[b]? = some o) (ho : ∀ cs fr,o ≠ .cells cs e fr) : w'.heap[b]? = some o:=by
 refine (hg.block b (heap_lt hb) (fun e'=>?_)).trans hb
 obtain ⟨_,cs,fr,hc⟩:=owns_block h e'.symm
 rw [hb] at hc
 exact ho cs fr (Option.some.inj hc)
theorem ComF.ext {w3 : World} {R : Rec} {adds : List Fct} {la lw : List (Int × Value)} {k : Nat} {frs : List FR} {xs' : List (List Value)} {la' : List (Int × Value)} {fsv : Value} {W W' : World} (h : ComF w3 R adds la lw k frs xs' la' fsv W) (hx : Ext W W') : ComF w3 R adds la lw k frs xs' la' fsv W':=
 {below:=Below.trans h.below (Below.mono hx h.below.size),size:=Nat.le_trans h.size hx.size,box:=hx.obj h.box,m1:=h.m1.ext hx,m2:=h.m2.ext hx,n1:=h.n1
  rows:=owns_keep h.rows fun g cs _ hg=>hx.block g (heap_lt hg),len:=h.len,xlen:=h.xlen,four:=h.four,eq:=h.eq,keys:=h.keys }
theorem ComF.step {w3 : World} {R : Rec} {adds : List Fct} {la lw : List (Int × Value)} {k : Nat} {frs : List FR} {xs' : List (List Value)} {la' : List (Int × Value)} {fsv : Value} {W w' W2 : World} (h : ComF w3 R adds la lw k frs xs' la' fsv W)
  {f : Fct} {fr : FR} {x : List Value} {v' : Value} (u : Value) (hf : adds[k]? = some f) (hc : checkF R f = some fr) (hx4 : FourOk x) (hg : W.grownBy w' fsv.ownBlock)
  (hrow : w'.ownsRow w3.heap.size 122 9 v' (k + 1) (((frs.zip xs').flatMap fun x=>frCells x.1 x.2) ++ frCells fr x)) (hx : Ext w' W2) :
  ComF w3 R adds la lw (k + 1) (frs ++ [fr]) (xs' ++ [x]) (mput la' ((R.facts.length : Int) + 1 + (k : Int)) u) v' (wput (Value.int .i64) W2 w3.heap.size (mput la' ((R.facts.length : Int) + 1 + (k : Int)) u)):=by
 have hsz : w3.heap.size + 3 ≤ w'.heap.size:=Nat.le_trans h.size hg.size
 have hsz2 : w3.heap.size + 3 ≤ W2.heap.size:=Nat.le_trans hsz hx.size
 have hbox:=hx.obj (grown_keep h.rows hg h.box (by simp))
 have hm1 : MapIs (Value.int .i64) W2 w3.heap.size la':=hx.obj (grown_keep h.rows hg h.m1 (by simp))
 have hm2 : MapIs (Value.int .i64) W2 (w3.heap.size + 1) lw:=hx.obj (grown_keep h.rows hg h.m2 (by simp))
 have hb : Below w3.heap.size w3 W2:=Below.trans (h.below.grown hg h.below.size fun k hk=>(owns_block h.rows hk).1) (Below.mono hx (by omega))
 refine { below:=?_,size:=?_,box:=?_,m1:=?_,m2:=?_,n1:=nodup_mput h.n1 _ _,rows:=?_,len:=by simp [h.len],xlen:=by simp [h.xlen],four:=?_,eq:=?_,keys:=fun n=>?_ }
 ·unfold wput
  exact below_putObj hb (Nat.le_refl _) _
 ·unfold wput;rw [putObj_size];exact hsz2
 ·unfold wput;rw [putObj_get,if_neg (by omega)];exact hbox
 ·unfold MapIs wput;rw [putObj_get,if_pos rfl,if_pos (by omega)]
 ·unfold MapIs wput;rw [putObj_get,if_neg (by omega)];exact hm2
 ·rw [List.zip_append (by rw [h.len,h.xlen])]
  simp only [List.flatMap_append,List.zip_cons_cons,List.zip_nil_left,List.flatMap_cons,List.flatMap_nil,List.append_nil]
  refine owns_keep hrow fun g cs hgb hgg=>?_
  unfold wput
  rw [putObj_get]
  by_cases hgm : g = w3.heap.size
  ·have hm:=grown_keep h.rows hg h.m1 (by simp)
   subst hgm
   rw [hm] at hgg
   cases hgg
  ·rw [if_neg hgm];exact hx.block g (heap_lt hgg)
 ·intro y hy
  rcases List.mem_append.1 hy with hy | hy
  ·exact h.four y hy
  ·rw [List.mem_singleton.1 hy];exact hx4
 ·have htk : adds.take (k + 1) = adds.take k ++ [f]:=by rw [List.take_add_one,hf];rfl
  rw [htk,rowsF_snoc,h.eq,hc];rfl
 ·by_cases hn : n = (R.facts.length : Int) + 1 + (k : Int)
  ·subst hn
   rw [look_mput_same]
   simp only [Option.isSome_some,true_iff]
   exact .inr ⟨by omega,by omega⟩
  ·rw [look_mput_other _ _ _ _ hn,h.keys n]
   constructor
   ·rintro (h1 | h1)
    ·exact .inl h1
    ·exact .inr ⟨h1.1,by omega⟩
   ·rintro (h1 | h1)
    ·exact .inl h1
    ·exact .inr ⟨h1.1,by omega⟩
def F28 (w3 : World) (R : Rec) (adds : List Fct) (la lw : List (Int × Value)) (k : Nat) (frs : List FR) (xs' : List (List Value)) (la' : List (Int × Value)) (v' : Value) (W10 : World) (us : List Value) (W : World) : Prop:=
 match us with
 | []=>Ext W10 W
 | _=>ComF w3 R adds la lw (k + 1) frs xs' la' v' W
theorem F28.pre {w3 : World} {R : Rec} {adds : List Fct} {la lw : List (Int × Value)} {k : Nat} {frs : List FR} {xs' : List (List Value)} {la' : List (Int × Value)} {v' : Value} {W10 : World} {us : List Value} {W : World} (h : F28 w3 R adds la lw k frs xs' la' v' W10 us W) (hl : us.length ≤ 0) : Ext W10 W:=by
 have : us = []:=List.eq_nil_of_length_eq_zero (by omega)
 subst this;exact h
theorem wpList_append_run {P : Program} {w : World} {ops : Array Oper} {rest : List Oper} {o : Oper} {a : Act} {Q : Exit → Act → World → Prop} (hgd : o.guard = none) (s x : Operand) (t : TypeId)
  (ho : o.op = .call { callee:=.builtin .append,args:=#[s,x],argTypes:=#[t,t] }) {u v v' : Value} {w' : World} (hs : a.eval s = u) (hx : a.eval x = v) (hr : (Builtin.append_ #[t,t] o.type #[u,v]).run P w = .ok v' w')
  (h : wpList P ops Q rest (a.put o.dst v') w') : wpList P ops Q (o :: rest) a w:=by
 refine wpList_plain hgd fun K hK=>?_
 unfold Oper.wp execOp
 simp only [ho,resolve,invoke,builtin,Sem.run_bind,Sem.run_pure,Result.andThen_ok,List.map_toArray,List.map_cons,List.map_nil,hs,hx,hr]
 exact hK _ _ h
theorem wrap_id {x : Int} (h1 : -9223372036854775808 ≤ x) (h2 : x ≤ 9223372036854775807) : IntKind.i64.wrap x = x:=by rw [IntKind.wrap_i64];omega
set_option maxHeartbeats 1000000 in
set_option maxRecDepth 100000 in
theorem commit1_any (b2 b3 rb vb i n cap : Nat) (oa ow : Option Nat) (ver : Ver) (x : Int) (w : World) (h2 : w.cell? ⟨b2,0,none⟩ = some (encP rb)) (h3 : w.cell? ⟨b3,0,none⟩ = some (.int .i64 x))
  (hr : w.cell? ⟨rb,1,none⟩ = some (.slice (some ⟨vb,0,none⟩) n cap)) (hi : i < n) (hn : n ≤ 1000) (hc : n ≤ cap) (ha : w.cell? ⟨vb,i * 2,none⟩ = some (.map oa)) (hd : w.cell? ⟨vb,i * 2 + 1,none⟩ = some (.map ow)) (hma : MapV w oa ver.added) (hmd : MapV w ow ver.wd) :
  Calls Tryz.prog 41 #[.int .i64 (i : Int),.pointer (some ⟨b2,0,none⟩),.pointer (some ⟨b3,0,none⟩)] w fun e w'=>e = .returned (.bool (ver.holds x)) ∧ Ext w w':=by
 have H2:=Lib.hid h2
 have H3:=Lib.hid h3
 have HR:=Lib.hid hr
 have HA:=Lib.hid ha
 have HD:=Lib.hid hd
 unfold encP at H2
 clear h2 h3 hr ha hd
 go_enter Tryz.func41,Tryz.ntmps41
 go_wp2_with fail
 refine Rt.wp_region_rt (by kernel_rfl) [0,1,2,3,4,5,6,7,8,9] [8] [0,0,0,0,0,0,0,0] [0,1,3,7,0,31,63,0,255,511] (by kernel_rfl) (CallI w (.bool (ver.holds x))) ?_ ?_
 ·exact ⟨below_drawn (ext_refl _) _,fun u hu=>by cases hu⟩
 (refine Rt.rs_rd rfl rfl rfl ?_;apply Exists.intro;refine ⟨fun us' W hp hl hI=>?_,?_⟩;· (have c:=Ext.cell' hI.1 H2.out;go_simp;rfl));simp only [Act.put,zA,zB,zC,zD,zE,zF]
 iterate 2 (refine Rt.rs_sil rfl rfl rfl (fun K hK=>?_);go_simp;refine hK _ ?_;clear hK K)
 (refine Rt.rs_rd rfl rfl rfl ?_;apply Exists.intro;refine ⟨fun us' W hp hl hI=>?_,?_⟩;· (have c:=Ext.cell' hI.1 HR.out;go_simp;rfl));simp only [Act.put,zA,zB,zC,zD,zE,zF]
 (refine Rt.rs_sil rfl rfl rfl (fun K hK=>?_);go_simp;refine hK _ ?_;clear hK K)
 (refine Rt.rs_rd rfl rfl rfl ?_;apply Exists.intro;refine ⟨fun us' W hp hl hI=>?_,?_⟩;· (skip;go_simp;rfl));simp only [Act.put,zA,zB,zC,zD,zE,zF]
 (refine Rt.rs_rd rfl rfl rfl ?_;apply Exists.intro;refine ⟨fun us' W hp hl hI=>?_,?_⟩;· (have c:=Ext.cell' hI.1 HA.out;have d:=Ext.cell' hI.1 HD.out;go_simp;rfl));simp only [Act.put,zA,zB,zC,zD,zE,zF]
 (refine Rt.rs_rd rfl rfl rfl ?_;apply Exists.intro;refine ⟨fun us' W hp hl hI=>?_,?_⟩;· (have c:=Ext.cell' hI.1 H3.out;go_simp;rfl));simp only [Act.put,zA,zB,zC,zD,zE,zF]
 refine Rt.rs_eff rfl rfl rfl (fun W hI=>?_) (fun v hv=>?_)
 ·refine Rt.gives_cal ?_
  apply Exists.intro
  apply Exists.intro
  apply Exists.intro
  refine ⟨by go_simp;exact ⟨⟨rfl,rfl⟩,rfl⟩,?_⟩
  refine (holds_any oa ow ver x W (hma.ext hI.1) (hmd.ext hI.1)).mono ?_
  rintro e w5 ⟨rfl,hx5⟩
  exact ⟨_,rfl,hI.1.trans' hx5,fun u hu=>by simpa using hu⟩
 obtain rfl : v = .bool (ver.holds x):=let ⟨W,hI⟩:=hv;hI.2 v (by simp)
 clear hv
 simp only [Act.put,zA,zB,zC,zD,zE,zF]
 (refine Rt.rs_sil rfl rfl rfl (fun K hK=>?_);go_simp;refine hK _ ?_;clear hK K)
 refine Rt.rs_nil (fun W hI=>?_)
 go_wp2_with fail
 go_ret
 exact ⟨rfl,hI.1⟩
def anyHolds (R : Rec) (p n : Int) : Bool:=match verOf R p with | some v=>v.holds n | none=>false
theorem commit1_pred {B : Nat} {w : World} {rb : Nat} {R : Rec} {cm : Nat} {vv fv : Value} {os : List (Option Nat × Option Nat)} {xs : List (List Value)} (h : RecAt B w rb R cm vv fv os xs) {W : World} (hW : Ext w W) {b2 b3 : Nat} {n : Int} (h2 : W.cell? ⟨b2,0,none⟩ = some (encP rb)) (h3 : W.cell? ⟨b3,0,none⟩ = some (.int .i64 n)) :
  PredB (fun p=>hasV R p = true) W.heap.size W 41 #[.pointer (some ⟨b2,0,none⟩),.pointer (some ⟨b3,0,none⟩)] (fun p=>anyHolds R p n):=by
 refine ⟨enters_of Tryz.func41 (by kernel_rfl) rfl,fun p W' hp hW'=>?_⟩
 obtain ⟨i,ver,rfl,hv1,hv2⟩:=verOf_has hp
 obtain ⟨vb,cap,oa,ow,rfl,_,hcap,_,ha,hd,hma,hmd⟩:=h.version hv1
 have hn:=h.ok.vers
 have hx' : Ext W W':=hW'
 have hx:=hW.trans' hx'
 have hr : w.cell? ⟨rb,1,none⟩ = some (.slice (some ⟨vb,0,none⟩) R.vers.length cap):=cell_of h.blk 1
 have he : anyHolds R (i : Int) n = ver.holds n:=by unfold anyHolds;rw [hv2]
 show Calls _ _ _ _ (fun e w'=>e = .returned (.bool (anyHolds R (i : Int) n)) ∧ Ext W' w')
 rw [he]
 exact commit1_any b2 b3 rb vb i _ cap oa ow ver n W' (hx'.cell' h2) (hx'.cell' h3) (hx.cell' hr) (List.getElem?_eq_some_iff.1 hv1).1 (by omega) hcap (hx.cell' ha) (hx.cell' hd) (hma.ext hx) (hmd.ext hx)
structure ComW (w3 : World) (R : Rec) (adds : List Fct) (la lw : List (Int × Value)) (wds : List Int) (frs : List FR) (xs' : List (List Value)) (la' : List (Int × Value)) (fsv : Value) (q : Nat) (k : Nat) (seen lw' : List (Int × Value)) (W : World) : Prop where
 f : ComF w3 R adds la lw' adds.length frs xs' la' fsv W
 hq : w3.heap.size + 3 ≤ q
 seen : MapIs (Value.int .i64) W q seen
 n2 : (lw'.map (·.1)).Nodup
 kw : ∀ n,(look lw' n).isSome = true ↔ ((look lw n).isSome = true ∨ n ∈ wds.take k)
theorem ComF.putNew {w3 : World} {R : Rec} {adds : List Fct} {la lw : List (Int × Value)} {k : Nat} {frs : List FR} {xs' : List (List Value)} {la' : List (Int × Value)} {fsv : Value} {W : World} (h : ComF w3 R adds la lw k frs xs' la' fsv W) {q : Nat} {o : Obj} (hq : w3.heap.size + 3 ≤ q) (ho : ∀ cs fr,W.heap[q]? ≠ some (.cells cs 122 fr)) : ComF w3 R adds la lw k frs xs' la' fsv (W.putObj q o):=by
 refine { below:=below_putObj h.below (by omega) _,size:=by rw [putObj_size];exact h.size,box:=?_,m1:=?_,m2:=?_,n1:=h.n1,rows:=?_,len:=h.len,xlen:=h.xlen,four:=h.four,eq:=h.eq,keys:=h.keys }
 ·rw [putObj_get,if_neg (by omega)];exact h.box
 ·unfold MapIs;rw [putObj_get,if_neg (by omega)];exact h.m1
 ·unfold MapIs;rw [putObj_get,if_neg (by omega)];exact h.m2
 ·refine owns_keep h.rows fun g cs hgb hgg=>?_
  rw [putObj_get,if_neg (fun e=>ho _ _ (e ▸ hgg))]
theorem ComF.putWd {w3 : World} {R : Rec} {adds : List Fct} {la lw : List (Int × Value)} {k : Nat} {frs : List FR} {xs' : List (List Value)} {la' : List (Int × Value)} {fsv : Value} {W : World} (h : ComF w3 R adds la lw k frs xs' la' fsv W) (lw' : List (Int × Value)) : ComF w3 R adds la lw' k frs xs' la' fsv (wput (Value.int .i64) W (w3.heap.size + 1) lw'):=by
 have hs:=h.size
 unfold wput
 refine { below:=below_putObj h.below (by omega) _,size:=by rw [putObj_size];exact h.size,box:=?_,m1:=?_,m2:=?_,n1:=h.n1,rows:=?_,len:=h.len,xlen:=h.xlen,four:=h.four,eq:=h.eq,keys:=h.keys }
 ·rw [putObj_get,if_neg (by omega)];exact h.box
 ·unfold MapIs;rw [putObj_get,if_neg (by omega)];exact h.m1
 ·unfold MapIs;rw [putObj_get,if_pos rfl,if_pos (by omega)]
 ·refine owns_keep h.rows fun g cs hgb hgg=>?_
  rw [putObj_get,if_neg (fun e=>?_)]
  have hm:=h.m2
  unfold MapIs at hm
  rw [← e,hgg] at hm
  cases hm
theorem ComW.ext {w3 : World} {R : Rec} {adds : List Fct} {la lw : List (Int × Value)} {wds : List Int} {frs : List FR} {xs' : List (List Value)} {la' : List (Int × Value)} {fsv : Value} {q k : Nat} {seen lw' : List (Int × Value)} {W W' : World} (h : ComW w3 R adds la lw wds frs xs' la' fsv q k seen lw' W) (hx : Ext W W') : ComW w3 R adds la lw wds frs xs' la' fsv q k seen lw' W':=
 ⟨h.f.ext hx,h.hq,h.seen.ext hx,h.n2,h.kw⟩
theorem ComW.step {w3 : World} {R : Rec} {adds : List Fct} {la lw : List (Int × Value)} {wds : List Int} {frs : List FR} {xs' : List (List Value)} {la' : List (Int × Value)} {fsv : Value} {q k : Nat} {seen lw' : List (Int × Value)} {W : World} (h : ComW w3 R adds la lw wds frs xs' la' fsv q k seen lw' W) {n : Int} (hn : wds[k]? = some n) (u u' : Value) :
  ComW w3 R adds la lw wds frs xs' la' fsv q (k + 1) (mput seen n u) (mput lw' n u') (wput (Value.int .i64) (wput (Value.int .i64) W q (mput seen n u)) (w3.heap.size + 1) (mput lw' n u')):=by
 have hm:=h.seen
 have hq:=h.hq
 have hql : q < W.heap.size:=heap_lt hm
 have htk : wds.take (k + 1) = wds.take k ++ [n]:=by rw [List.take_add_one,hn];rfl
 have h1 : ComF w3 R adds la lw' adds.length frs xs' la' fsv (wput (Value.int .i64) W q (mput seen n u)):=by
  refine h.f.putNew hq fun cs fr e=>?_
  unfold MapIs at hm
  rw [hm] at e
  cases e
 refine ⟨h1.putWd _,hq,?_,nodup_mput h.n2 _ _,fun m=>?_⟩
 ·unfold MapIs
  rw [show ∀ l',(wput (Value.int .i64) (wput (Value.int .i64) W q (mput seen n u)) (w3.heap.size + 1) l').heap[q]? = (wput (Value.int .i64) W q (mput seen n u)).heap[q]? from fun l'=>by
   unfold wput;rw [putObj_get,if_neg (by omega)]]
  unfold wput;rw [putObj_get,if_pos rfl,if_pos hql]
 ·rw [htk]
  by_cases hmn : m = n
  ·subst hmn
   rw [look_mput_same]
   simp
  ·rw [look_mput_other _ _ _ _ hmn,h.kw m]
   simp [hmn]
end Go.Proofs.YtihfcjioilmmjaaGreat
namespace Go.Proofs.YtihfcjioilmmjaaGreat
open Go Go.RowKit
open Go.Lib Go.Sort Go.Maps Go.Shelf Go.Proofs
structure Keep (B : Nat) (w w' : World) : Prop where
 os : w'.os = w.os
 tape : w'.tape = w.tape
 output : w'.output = w.output
 size : w.heap.size ≤ w'.heap.size
 block : ∀ (k : Nat) (o : Obj),w.heap[k]? = some o → (k < B ∨ ∀ cs T fr,o = Obj.cells cs T fr → T ≠ 100 ∧ T ≠ 96 ∧ T ≠ 122) → w'.heap[k]? = some o
theorem Keep.refl (B : Nat) (w : World) : Keep B w w:=⟨rfl,rfl,rfl,Nat.le_refl _,fun _ _ h _=>h⟩
theorem Keep.trans {B : Nat} {x y z : World} (h : Keep B x y) (g : Keep B y z) : Keep B x z:=
 ⟨g.os.trans h.os,g.tape.trans h.tape,g.output.trans h.output,Nat.le_trans h.size g.size,fun k o hk ho=>g.block k o (h.block k o hk ho) ho⟩
theorem Keep.ext {B : Nat} {x y : World} (h : Ext x y) : Keep B x y:=⟨h.os,h.tape,h.output,h.size,fun _ _ hk _=>h.obj hk⟩
def Frm (e : TypeId) (W W' : World) : Prop:=∀ (k : Nat) (o : Obj),W.heap[k]? = some o → (∀ cs fr,o ≠ Obj.cells cs e fr) → W'.heap[k]? = some o
theorem frm_grown {W W' : World} {base : Nat} {e : TypeId} {k : Nat} {v : Value} {n : Nat} {xs : List Value} (h : W.ownsRow base e k v n xs) (hg : W.grownBy W' v.ownBlock) : Frm e W W':=fun _ _ hk ho=>grown_keep h hg hk ho
theorem frm_set {W : World} {b off : Nat} {cs : Array Value} {e : TypeId} {fr : Nat × Nat} (h : W.heap[b]? = some (.cells cs e fr)) (v : Value) : Frm e W (W.setCell ⟨b,off,none⟩ v):=fun k o hk ho=>by
 rw [heap_setCell_get,if_neg (fun e'=>?_)]
 ·exact hk
 ·subst e'
  rw [h] at hk
  exact ho cs fr (Option.some.inj hk).symm
theorem Frm.map {e : TypeId} {W W' : World} (h : Frm e W W') {κ : Type} [DecidableEq κ] {enc : κ → Value} {b : Nat} {l : List (κ × Value)} (hm : MapIs enc W b l) : MapIs enc W' b l:=h _ _ hm (by simp)
theorem Frm.mapV {e : TypeId} {W W' : World} (h : Frm e W W') {o : Option Nat} {l : List (Int × Value)} (hm : MapV W o l) : MapV W' o l:=by
 rcases hm with h1 | ⟨b,h1,h2⟩
 ·exact .inl h1
 ·exact .inr ⟨b,h1,h.map h2⟩
theorem Frm.cells {e : TypeId} {W W' : World} (h : Frm e W W') {b : Nat} {cs : Array Value} {T : TypeId} {fr : Nat × Nat} (hb : W.heap[b]? = some (.cells cs T fr)) (hT : T ≠ e) : W'.heap[b]? = some (.cells cs T fr):=h _ _ hb (fun cs' fr' e'=>by
 injection e' with e1 e2 e3
 exact hT e2)
theorem Frm.owns {e : TypeId} {W W' : World} (h : Frm e W W') {base : Nat} {T : TypeId} {k : Nat} {v : Value} {n : Nat} {xs : List Value} (ho : W.ownsRow base T k v n xs) (hT : T ≠ e) : W'.ownsRow base T k v n xs:=
 owns_keep ho fun _ _ _ hg=>(h.cells hg hT).trans hg.symm
theorem Frm.colK {e : TypeId} {W W' : World} (h : Frm e W W') (h1 : (104 : TypeId) ≠ e) (h2 : (9 : TypeId) ≠ e) {cb : Nat} {a : Attr} (hc : ColK W cb a) : ColK W' cb a:=by
 obtain ⟨v,t,pb,k1,⟨B,k2⟩,k3,k4⟩:=hc
 exact ⟨v,t,pb,h.cells k1 h1,⟨B,h.owns k2 h2⟩,k3,h.map k4⟩
theorem Keep.of_frm {B : Nat} {e : TypeId} {W W' : World} (h : Frm e W W') (he : e = 100 ∨ e = 96 ∨ e = 122) (hb : Below B W W') : Keep B W W':=
 ⟨hb.os,hb.tape,hb.output,hb.size,fun k o hk ho=>by
  rcases ho with ho | ho
  ·exact (hb.block k ho).trans hk
  ·refine h k o hk fun cs fr eq=>?_
   have:=ho cs e fr eq
   rcases he with rfl | rfl | rfl
   ·exact this.1 rfl
   ·exact this.2.1 rfl
   ·exact this.2.2 rfl⟩
structure Mid (B : Nat) (w : World) (rb : Nat) (R : Rec) (cm : Nat) (v' fv : Value) (os : List (Option Nat × Option Nat)) (xs : List (List Value)) (q : Nat) (la' lw' : List (Int × Value)) (m : Nat) (fsv : Value) (news : List Value) (W : World) : Prop where
 base : B ≤ rb
 blk : W.heap[rb]? = some (.cells #[.map (some cm),v',fv] 100 (0,0))
 cols : MapIs Value.string W cm (R.cols.map fun c=>(c.1.name,encP c.2))
 colAt : ∀ c ∈ R.cols,ColK W c.2 c.1
 vers : W.ownsRow B 96 2 v' (R.vers.length + 1) ((os.flatMap fun o=>[.map o.1,.map o.2]) ++ [.map (some q),.map (some (q + 1))])
 verAt : ∀ (i : Nat) o v,os[i]? = some o → R.vers[i]? = some v → MapV W o.1 v.added ∧ MapV W o.2 v.wd
 m1 : MapIs (Value.int .i64) W q la'
 m2 : MapIs (Value.int .i64) W (q + 1) lw'
 facts : W.ownsRow B 122 9 fv R.facts.length ((R.facts.zip xs).flatMap fun x=>frCells x.1 x.2)
 news : W.ownsRow q 122 9 fsv m news
 keep : Keep B w W
theorem Mid.ext {B : Nat} {w : World} {rb : Nat} {R : Rec} {cm : Nat} {v' fv : Value} {os : List (Option Nat × Option Nat)} {xs : List (List Value)} {q : Nat} {la' lw' : List (Int × Value)} {m : Nat} {fsv : Value} {news : List Value} {W W' : World} (h : Mid B w rb R cm v' fv os xs q la' lw' m fsv news W) (hx : Ext W W') : Mid B w rb R cm v' fv os xs q la' lw' m fsv news W':=
 {base:=h.base,blk:=hx.obj h.blk,cols:=h.cols.ext hx,colAt:=fun c hc=>(h.colAt c hc).ext hx,vers:=owns_keep h.vers fun g _ _ hg=>hx.block g (heap_lt hg)
  verAt:=fun i o v ho hv=>⟨(h.verAt i o v ho hv).1.ext hx,(h.verAt i o v ho hv).2.ext hx⟩,m1:=h.m1.ext hx,m2:=h.m2.ext hx
  facts:=owns_keep h.facts fun g _ _ hg=>hx.block g (heap_lt hg),news:=owns_keep h.news fun g _ _ hg=>hx.block g (heap_lt hg),keep:=h.keep.trans (Keep.ext hx) }
theorem mid_of {B : Nat} {w : World} {rb : Nat} {R : Rec} {cm : Nat} {vv fv : Value} {os : List (Option Nat × Option Nat)} {xs : List (List Value)} (h : RecAt B w rb R cm vv fv os xs) {w3 : World} (h3 : Ext w w3) {adds : List Fct} {la la' lw' : List (Int × Value)} {frs : List FR} {xs' : List (List Value)} {fsv : Value} {W0 W1 : World}
  (hF : ComF w3 R adds la lw' adds.length frs xs' la' fsv W0) {v' : Value} (hg : W0.grownBy W1 vv.ownBlock) (hrow : W1.ownsRow B 96 2 v' (R.vers.length + 1) ((os.flatMap fun o=>[.map o.1,.map o.2]) ++ [.map (some w3.heap.size),.map (some (w3.heap.size + 1))])) :
  Mid B w rb R cm v' fv os xs w3.heap.size la' lw' adds.length fsv ((frs.zip xs').flatMap fun x=>frCells x.1 x.2) (W1.setCell ⟨rb,1,none⟩ v'):=by
 have hx : Ext w W0:=h3.trans' hF.below
 have h0:=h.ext hx
 have hBw : B ≤ w.heap.size:=Nat.le_trans h.base (Nat.le_of_lt (heap_lt h.blk))
 have hBW0 : B ≤ W0.heap.size:=Nat.le_trans hBw hx.size
 have f1:=frm_grown h0.vers hg
 have b1 : W1.heap[rb]? = some (.cells #[.map (some cm),vv,fv] 100 (0,0)):=f1.cells h0.blk (by decide)
 have f2 : Frm 100 W1 (W1.setCell ⟨rb,1,none⟩ v'):=frm_set b1 v'
 have k1 : Keep B W0 W1:=Keep.of_frm f1 (by simp) ((Below.refl B W0).grown hg hBW0 fun k hk=>(owns_block h0.vers hk).1)
 have k2 : Keep B W1 (W1.setCell ⟨rb,1,none⟩ v'):=Keep.of_frm f2 (by simp) (Below.setCell (Below.refl B W1) h.base v')
 refine { base:=h.base,blk:=?_,cols:=f2.map (f1.map h0.cols),colAt:=fun c hc=>f2.colK (by decide) (by decide) (f1.colK (by decide) (by decide) (h0.colAt c hc)),vers:=f2.owns hrow (by decide),verAt:=fun i o v ho hv=>⟨f2.mapV (f1.mapV (h0.verAt i o v ho hv).1),f2.mapV (f1.mapV (h0.verAt i o v ho hv).2)⟩,m1:=f2.map (f1.map hF.m1),m2:=f2.map (f1.map hF.m2),facts:=f2.owns (f1.owns h0.facts (by decide)) (by decide),news:=f2.owns (f1.owns hF.rows (by decide)) (by decide),keep:=(Keep.ext hx).trans (k1.trans k2) }
 rw [heap_setCell_get,if_pos rfl,b1]
 rfl
def commitR (R : Rec) (frs : List FR) (la lw : List (Int × Value)) : Rec:=⟨R.cols,R.vers ++ [⟨la,lw⟩],R.facts ++ frs⟩
theorem mid_done {B : Nat} {w : World} {rb : Nat} {R : Rec} {cm : Nat} {v' fv : Value} {os : List (Option Nat × Option Nat)} {xs : List (List Value)} {q : Nat} {la' lw' : List (Int × Value)} {m : Nat} {fsv : Value} {frs : List FR} {xs' : List (List Value)} {W W1 : World}
  (h : Mid B w rb R cm v' fv os xs q la' lw' m fsv ((frs.zip xs').flatMap fun x=>frCells x.1 x.2) W) (hBW : B ≤ W.heap.size) (hos : os.length = R.vers.length) (hxs : xs.length = R.facts.length) (hfour : ∀ x ∈ xs,FourOk x) (hlen : frs.length = m) (hxl : xs'.length = m) (hfour' : ∀ x ∈ xs',FourOk x) {f' : Value} (hg : W.grownBy W1 fv.ownBlock)
  (hrow : W1.ownsRow B 122 9 f' (R.facts.length + m) (((R.facts.zip xs).flatMap fun x=>frCells x.1 x.2) ++ ((frs.zip xs').flatMap fun x=>frCells x.1 x.2))) (hok : RecOk (commitR R frs la' lw')) :
  RecAt B (W1.setCell ⟨rb,2,none⟩ f') rb (commitR R frs la' lw') cm v' f' (os ++ [(some q,some (q + 1))]) (xs ++ xs') ∧ Keep B w (W1.setCell ⟨rb,2,none⟩ f'):=by
 have f1:=frm_grown h.facts hg
 have b1 : W1.heap[rb]? = some (.cells #[.map (some cm),v',fv] 100 (0,0)):=f1.cells h.blk (by decide)
 have f2 : Frm 100 W1 (W1.setCell ⟨rb,2,none⟩ f'):=frm_set b1 f'
 have k1 : Keep B W W1:=Keep.of_frm f1 (by simp) ((Below.refl B W).grown hg hBW fun k hk=>(owns_block h.facts hk).1)
 have k2 : Keep B W1 (W1.setCell ⟨rb,2,none⟩ f'):=Keep.of_frm f2 (by simp) (Below.setCell (Below.refl B W1) h.base f')
 refine ⟨{ base:=h.base,blk:=?_,cols:=f2.map (f1.map h.cols),colAt:=fun c hc=>f2.colK (by decide) (by decide) (f1.colK (by decide) (by decide) (h.colAt c hc)),vers:=?_,verLen:=by simp [commitR,hos],verAt:=?_,facts:=?_,factLen:=by simp [commitR,hxs,hlen,hxl],four:=?_,ok:=hok },h.keep.trans (k1.trans k2)⟩
 ·rw [heap_setCell_get,if_pos rfl,b1];rfl
 ·have:=f2.owns (f1.owns h.vers (by decide)) (by decide)
  simpa [commitR] using this
 ·intro i o v ho hv
  simp only [commitR] at hv
  by_cases hi : i < os.length
  ·rw [List.getElem?_append_left hi] at ho
   rw [List.getElem?_append_left (by omega)] at hv
   have:=h.verAt i o v ho hv
   exact ⟨f2.mapV (f1.mapV this.1),f2.mapV (f1.mapV this.2)⟩
  ·rw [List.getElem?_append_right (by omega)] at ho
   rw [List.getElem?_append_right (by omega)] at hv
   have hi0 : i - os.length = 0:=by
    have:=(List.getElem?_eq_some_iff.1 ho).1
    simp at this
    omega
   rw [← hos,hi0] at hv
   rw [hi0] at ho
   simp at ho hv
   subst ho
   subst hv
   exact ⟨.inr ⟨_,rfl,f2.map (f1.map h.m1)⟩,.inr ⟨_,rfl,f2.map (f1.map h.m2)⟩⟩
 ·have:=f2.owns hrow (by decide)
  have e : ((commitR R frs la' lw').facts.zip (xs ++ xs')).flatMap (fun x=>frCells x.1 x.2) = ((R.facts.zip xs).flatMap fun x=>frCells x.1 x.2) ++ ((frs.zip xs').flatMap fun x=>frCells x.1 x.2):=by
   unfold commitR
   rw [List.zip_append (by simp [hxs]),List.flatMap_append]
  rw [e]
  simpa [commitR,hlen] using this
 ·intro x hx
  rcases List.mem_append.1 hx with hx | hx
  ·exact hfour x hx
  ·exact hfour' x hx
theorem readLoop_lt {av : List ByteArray} (hav : av.length ≤ 8) : ∀ (vs : List ByteArray) (b : Nat) (last : Int) (r : Nat),b < 256 → readLoop av vs b last = some r → r < 256
 | [],b,_,r,hb,h=>by
  simp only [readLoop,Option.some.injEq] at h
  omega
 | v :: vs,b,last,r,hb,h=>by
  simp only [readLoop] at h
  cases hp : place av v with
  | none=>rw [hp] at h;cases h
  | some i=>
   rw [hp] at h
   simp only at h
   split at h
   ·cases h
   ·have hi:=(placeFrom_lt av v 0 i hp).2.1
    exact readLoop_lt hav vs _ _ r (or_pow b i hb (by omega)).2 h
theorem readF_ok {a : Attr} (ha : AttrOk a) (values : List ByteArray) (lo hi : Int) (hl : i64ok lo) (hh : i64ok hi) : (readF a values lo hi).1.bits < 256 ∧ i64ok (readF a values lo hi).1.low ∧ i64ok (readF a values lo hi).1.high:=by
 unfold readF
 split
 ·exact ⟨Nat.zero_lt_succ _,hl,hh⟩
 ·cases hr : readLoop a.values values 0 (-1) with
  | none=>exact ⟨Nat.zero_lt_succ _,by unfold i64ok;simp,by unfold i64ok;simp⟩
  | some b=>exact ⟨readLoop_lt ha.small values 0 (-1) b (by decide) hr,by unfold i64ok;simp,by unfold i64ok;simp⟩
theorem checkF_ok {R : Rec} (hok : RecOk R) {f : Fct} {fr : FR} (h : checkF R f = some fr) (hs : f.subject.size < 4294967281) (hl : i64ok f.low) (hh : i64ok f.high) : (fr.attr,fr.col) ∈ R.cols ∧ subj fr.subject = true ∧ fr.subject.size < 4294967281 ∧ fr.st.bits < 256 ∧ i64ok fr.st.low ∧ i64ok fr.st.high:=by
 unfold checkF at h
 cases hc : colOf R f.attr with
 | none=>rw [hc] at h;cases h
 | some c=>
  rw [hc] at h
  simp only at h
  split at h
  ·rename_i h1
   split at h
   ·rename_i h2
    simp only [Option.some.injEq] at h
    subst h
    obtain ⟨hm,_⟩:=colOf_mem hc
    obtain ⟨b1,b2,b3⟩:=readF_ok (hok.attrs c hm) f.values f.low f.high hl hh
    exact ⟨hm,h1,hs,b1,b2,b3⟩
   ·cases h
  ·cases h
theorem rowsF_all {R : Rec} : ∀ {l : List Fct} {frs : List FR},rowsF R l = some frs → ∀ fr ∈ frs,∃ f ∈ l,checkF R f = some fr
 | [],_,h,fr,hfr=>by
  simp only [rowsF,Option.some.injEq] at h
  subst h;cases hfr
 | f :: r,frs,h,fr,hfr=>by
  simp only [rowsF] at h
  cases hc : checkF R f with
  | none=>rw [hc] at h;cases h
  | some x=>
   rw [hc] at h
   simp only [Option.map_eq_some_iff] at h
   obtain ⟨l',h1,rfl⟩:=h
   rcases List.mem_cons.1 hfr with rfl | hfr
   ·exact ⟨f,List.mem_cons_self,hc⟩
   ·obtain ⟨g,hg,hg2⟩:=rowsF_all h1 fr hfr
    exact ⟨g,List.mem_cons_of_mem _ hg,hg2⟩
theorem commitR_ok {R : Rec} (h : RecOk R) {adds : List Fct} {frs : List FR} (hrows : rowsF R adds = some frs) (hlen : frs.length = adds.length) (hadd : ∀ f ∈ adds,f.subject.size < 4294967281 ∧ i64ok f.low ∧ i64ok f.high) {la' lw' : List (Int × Value)} (n1 : (la'.map (·.1)).Nodup) (n2 : (lw'.map (·.1)).Nodup)
  (hk : ∀ n,(look la' n).isSome = true → 1 ≤ n ∧ n ≤ ((R.facts.length + adds.length : Nat) : Int)) (hv : R.vers.length < 200) (hf : R.facts.length + adds.length ≤ 300) : RecOk (commitR R frs la' lw'):=by
 refine { vers:=by simp [commitR];omega,facts:=by simp [commitR,hlen];omega,one:=by simp [commitR],attrs:=h.attrs,names:=h.names,few:=h.few,keys:=?_,fact:=?_ }
 ·intro v hv
  simp only [commitR,List.length_append,hlen] at hv ⊢
  rcases List.mem_append.1 hv with hv | hv
  ·obtain ⟨k1,k2,k3⟩:=h.keys v hv
   refine ⟨k1,k2,fun n hn=>?_⟩
   have:=k3 n hn
   exact ⟨this.1,by omega⟩
  ·rw [List.mem_singleton.1 hv]
   refine ⟨n1,n2,fun n hn=>?_⟩
   exact hk n (look_isSome_iff.2 hn)
 ·intro f hf
  simp only [commitR] at hf ⊢
  rcases List.mem_append.1 hf with hf | hf
  ·exact h.fact f hf
  ·obtain ⟨g,hg,hg2⟩:=rowsF_all hrows f hf
   obtain ⟨g1,g2,g3⟩:=hadd g hg
   exact checkF_ok h hg2 g1 g2 g3
theorem append_ver {W : World} {base : Nat} {v : Value} {k : Nat} {xs row : List Value} (hown : W.ownsRow base 96 2 v k xs) (ab m : Nat) (hl : row.length = m * 2) (hrow : ∀ j u,row[j]? = some u → W.cell? ⟨ab,0 + j,none⟩ = some u) (h1 : ∀ u ∈ row,u.oneCell' = true) (hk : k + m ≤ 1000000) (hb : base ≤ W.heap.size) (c : Nat) :
  ∃ v' w',(Builtin.append_ #[97,97] 97 #[v,.slice (some ⟨ab,0,none⟩) m c]).run Tryz.prog W = .ok v' w' ∧ w'.ownsRow base 96 2 v' (k + m) (xs ++ row) ∧ W.grownBy w' v.ownBlock:=by
 have hml : (1000000 : Nat) ≤ maxLen:=by decide
 obtain ⟨i0,hi,hz0,hz1,hz2⟩:=info_parts info96
 obtain ⟨v',w',q1,q2,q3,_⟩:=run_append_own (P:=Tryz.prog) (w:=W) base 97 97 96 i0 _ 2 16 (by kernel_rfl) hi hz0 hz1 hz2 rfl (by decide) v k xs hown ⟨ab,0,none⟩ m c row hl (fun j u hj=>by
  have:=hrow j u hj
  by_cases h0 : j = 0
  ·subst h0;simpa [Addr.add] using this
  ·simpa [Addr.add,h0] using this) h1 (by omega) (by omega) hb
 exact ⟨v',w',q1,q2,q3⟩
theorem append_facts {W : World} {base b2 : Nat} {v u : Value} {k m : Nat} {xs row : List Value} (hown : W.ownsRow base 122 9 v k xs) (hu : W.ownsRow b2 122 9 u m row) (h1 : ∀ u ∈ row,u.oneCell' = true) (hk : k + m ≤ 1000000) (hb : base ≤ W.heap.size) :
  ∃ v' w',(Builtin.append_ #[98,98] 98 #[v,u]).run Tryz.prog W = .ok v' w' ∧ w'.ownsRow base 122 9 v' (k + m) (xs ++ row) ∧ W.grownBy w' v.ownBlock:=by
 rcases hu.2 with ⟨rfl,rfl⟩ | ⟨g,cap,cur,rfl,hgb,hgg,r1,r2,r3,r4⟩
 ·have h0 : row = []:=List.eq_nil_of_length_eq_zero (by simpa using hu.1)
  subst h0
  obtain ⟨i0,hi,hz0,hz1,hz2⟩:=info_parts info122
  refine ⟨v,W,run_append_owned_none (P:=Tryz.prog) (w:=W) base 98 98 122 i0 9 (by kernel_rfl) hi v k xs hown,by simpa using hown,⟨rfl,rfl,rfl,Nat.le_refl _,fun _ _ _=>rfl⟩⟩
 ·refine append_fact hown g m hu.1 (fun j u hj=>?_) h1 hk hb cap
  rw [cell_of hgg]
  rw [← r4,List.getElem?_take] at hj
  split at hj
  ·simpa using hj
  ·cases hj
theorem one_frCells {frs : List FR} {xs' : List (List Value)} (h : ∀ x ∈ xs',FourOk x) : ∀ u ∈ (frs.zip xs').flatMap (fun x=>frCells x.1 x.2),u.oneCell' = true:=by
 intro u hu
 obtain ⟨x,hx,hux⟩:=List.mem_flatMap.1 hu
 unfold frCells encP at hux
 rcases List.mem_append.1 hux with h1 | h1
 ·rcases List.mem_append.1 h1 with h2 | h2
  ·rw [List.mem_singleton.1 h2];rfl
  ·obtain ⟨s,p,n,c,lo,hi,e⟩:=h x.2 (List.of_mem_zip hx).2
   rw [e] at h2
   simp at h2
   rcases h2 with rfl | rfl | rfl | rfl <;> rfl
 ·simp at h1
  rcases h1 with rfl | rfl | rfl | rfl <;> rfl
def V42 (wq : World) (B rb : Nat) (vv : Value) (k : Nat) (xs : List Value) (x1 x2 : Value) (us : List Value) (W : World) : Prop:=
 match us with
 | []=>Ext wq W
 | [u]=>∃ ab,u = .slice (some ⟨ab,0,none⟩) 1 1 ∧ W.heap[ab]? = some (.cells #[x1,x2] 96 (0,0)) ∧ Ext wq W
 | [_,v']=>∃ W0,Ext wq W0 ∧ W0.grownBy W vv.ownBlock ∧ W.ownsRow B 96 2 v' (k + 1) (xs ++ [x1,x2])
 | _ :: v' :: _=>∃ W0 W1,Ext wq W0 ∧ W0.grownBy W1 vv.ownBlock ∧ W1.ownsRow B 96 2 v' (k + 1) (xs ++ [x1,x2]) ∧ W = W1.setCell ⟨rb,1,none⟩ v'
def V43 (wq : World) (B rb : Nat) (fv : Value) (k : Nat) (xs : List Value) (us : List Value) (W : World) : Prop:=
 match us with
 | []=>Ext wq W
 | [v']=>∃ W0,Ext wq W0 ∧ W0.grownBy W fv.ownBlock ∧ W.ownsRow B 122 9 v' k xs
 | v' :: _=>∃ W0 W1,Ext wq W0 ∧ W0.grownBy W1 fv.ownBlock ∧ W1.ownsRow B 122 9 v' k xs ∧ W = W1.setCell ⟨rb,2,none⟩ v'
theorem V42.pre {wq : World} {B rb : Nat} {vv : Value} {k : Nat} {xs : List Value} {x1 x2 : Value} {us : List Value} {W : World} (h : V42 wq B rb vv k xs x1 x2 us W) (hl : us.length ≤ 1) : Ext wq W:=by
 match us,h,hl with
 | [],h,_=>exact h
 | [_],⟨_,_,_,h⟩,_=>exact h
theorem V42.keep {wq : World} {B rb : Nat} {vv : Value} {k : Nat} {xs : List Value} {x1 x2 : Value} {us : List Value} {W : World} (h : V42 wq B rb vv k xs x1 x2 us W) (hl : us.length ≤ 2) (hvv : wq.ownsRow B 96 2 vv k xs) {b : Nat} {o : Obj} (hb : wq.heap[b]? = some o) (ho : ∀ cs fr,o ≠ .cells cs 96 fr) : W.heap[b]? = some o:=by
 match us,h,hl with
 | [],h,_=>exact Ext.obj h hb
 | [_],⟨_,_,_,h⟩,_=>exact h.obj hb
 | [_,_],⟨W0,hx,hg,_⟩,_=>exact grown_keep (owns_keep hvv fun g _ _ hgg=>hx.block g (heap_lt hgg)) hg (hx.obj hb) ho
theorem V43.pre {wq : World} {B rb : Nat} {fv : Value} {k : Nat} {xs : List Value} {us : List Value} {W : World} (h : V43 wq B rb fv k xs us W) (hl : us.length ≤ 0) : Ext wq W:=by
 have : us = []:=List.eq_nil_of_length_eq_zero (by omega)
 subst this;exact h
theorem V43.keep {wq : World} {B rb : Nat} {fv : Value} {k n : Nat} {xs ys : List Value} {us : List Value} {W : World} (h : V43 wq B rb fv k xs us W) (hl : us.length ≤ 1) (hvv : wq.ownsRow B 122 9 fv n ys) {b : Nat} {o : Obj} (hb : wq.heap[b]? = some o) (ho : ∀ cs fr,o ≠ .cells cs 122 fr) : W.heap[b]? = some o:=by
 match us,h,hl with
 | [],h,_=>exact Ext.obj h hb
 | [_],⟨W0,hx,hg,_⟩,_=>exact grown_keep (owns_keep hvv fun g _ _ hgg=>hx.block g (heap_lt hgg)) hg (hx.obj hb) ho
theorem gives_append_run {P : Program} {w : World} {o : Oper} {a : Act} {J : Value → World → Prop} (s x : Operand) (t : TypeId)
  (ho : o.op = .call { callee:=.builtin .append,args:=#[s,x],argTypes:=#[t,t] }) {u v v' : Value} {w' : World} (hs : a.eval s = u) (hx : a.eval x = v) (hr : (Builtin.append_ #[t,t] o.type #[u,v]).run P w = .ok v' w') (hj : J v' w') : Rt.gives P o a w J:=by
 refine Rt.gives_value ?_ hj
 unfold execOp
 simp only [ho,resolve,invoke,builtin,Sem.run_bind,Sem.run_pure,Result.andThen_ok,List.map_toArray,List.map_cons,List.map_nil,hs,hx,hr]
structure ComOk (R : Rec) (ps : List Int) (adds : List Fct) (wds : List Int) (frs : List FR) (la lw : List (Int × Value)) : Prop where
 par : parOk ps = true
 has : ∀ p ∈ ps,hasV R p = true
 rows : rowsF R adds = some frs
 len : frs.length = adds.length
 added : ∀ n,(look la n).isSome = true ↔ ((∃ p ∈ ps,∃ ver,verOf R p = some ver ∧ (look ver.added n).isSome = true) ∨ ((R.facts.length : Int) + 1 ≤ n ∧ n ≤ (R.facts.length : Int) + adds.length))
 wd : ∀ n,(look lw n).isSome = true ↔ ((∃ p ∈ ps,∃ ver,verOf R p = some ver ∧ (look ver.wd n).isSome = true) ∨ n ∈ wds)
 few : R.vers.length < 200
 facts : R.facts.length + adds.length ≤ 300
theorem comOk_of {w3 : World} {R : Rec} (hR : RecOk R) {ps : List Int} {adds : List Fct} {wds : List Int} {la lw la' lw' : List (Int × Value)} {frs : List FR} {xs' : List (List Value)} {fsv : Value} {q : Nat} {seen : List (Int × Value)} {W W5 : World} (hpar : parOk ps = true) (hall : ∀ p ∈ ps,hasV R p = true) (hC : ComC w3 R ps ps.length la lw W5)
  (hW : ComW w3 R adds la lw wds frs xs' la' fsv q wds.length seen lw' W) (hv : R.vers.length < 200) (hf : R.facts.length + adds.length ≤ 300) (hadd : ∀ f ∈ adds,f.subject.size < 4294967281 ∧ i64ok f.low ∧ i64ok f.high) : ComOk R ps adds wds frs la' lw' ∧ RecOk (commitR R frs la' lw'):=by
 have hrows : rowsF R adds = some frs:=by have:=hW.f.eq;rwa [List.take_length] at this
 have hC1:=hC.k1
 have hC2:=hC.k2
 have hkw:=hW.kw
 rw [List.take_length] at hC1 hC2 hkw
 have hka : ∀ n,(look la' n).isSome = true ↔ ((∃ p ∈ ps,∃ ver,verOf R p = some ver ∧ (look ver.added n).isSome = true) ∨ ((R.facts.length : Int) + 1 ≤ n ∧ n ≤ (R.facts.length : Int) + adds.length)):=fun n=>by rw [hW.f.keys n,hC1 n]
 refine ⟨⟨hpar,hall,hrows,hW.f.len,hka,fun n=>by rw [hkw n,hC2 n],hv,hf⟩,commitR_ok hR hrows hW.f.len hadd hW.f.n1 hW.n2 (fun n hn=>?_) hv hf⟩
 rcases (hka n).1 hn with ⟨p,hp,ver,hver,hl⟩ | h1
 ·obtain ⟨i,ver',rfl,h1,h2⟩:=verOf_has (hall p hp)
  rw [hver] at h2
  obtain rfl:=Option.some.inj h2
  have:=(hR.keys ver (List.mem_of_getElem? h1)).2.2 n (look_isSome_iff.1 hl)
  exact ⟨this.1,by omega⟩
 ·exact ⟨by omega,by omega⟩
end Go.Proofs.YtihfcjioilmmjaaGreat
namespace Go.Proofs.YtihfcjioilmmjaaGreat
open Go Go.RowKit
open Go.Lib Go.Sort Go.Maps Go.Shelf Go.Proofs
def bytesOf (s : ByteArray) : List UInt8:=s.data.toList
def ofBytes (l : List UInt8) : ByteArray:=⟨l.toArray⟩
theorem of_bytes (s : ByteArray) : ofBytes (bytesOf s) = s:=rfl
theorem bytes_of (l : List UInt8) : bytesOf (ofBytes l) = l:=by unfold bytesOf ofBytes;simp
theorem enc_of (l : List UInt8) : encStr l = .string (ofBytes l):=rfl
theorem compact_le {α : Type} [Inhabited α] [DecidableEq α] (zs : List α) : (Lib.compact zs).length ≤ zs.length:=by
 unfold Lib.compact Lib.compactUpTo
 rw [List.length_map]
 exact Nat.le_trans (List.length_filter_le _ _) (by simp)
def sortB (l : List ByteArray) : List (List UInt8):=(l.map bytesOf).mergeSort fun x y=>decide (x ≤ y)
theorem sortS_any (base : Nat) (v : Value) (l : List ByteArray) (w : World) (hrow : w.ownsRow base 9 1 v l.length (l.map Value.string)) (hlen : l.length ≤ 1000000) :
  Calls Tryz.prog 52 #[v] w fun e w'=>e = .returned (.tuple #[]) ∧ w.grownBy w' v.ownBlock ∧ w'.ownsRow base 9 1 v l.length ((sortB l).map encStr):=by
 have hsl : (sortB l).length = l.length:=by unfold sortB;rw [List.length_mergeSort,List.length_map]
 rcases hrow.2 with ⟨rfl,hz⟩ | ⟨gb,cap,cur,rfl,hbase,hgb,r1,r2,r3,r4⟩
 ·obtain rfl : l = []:=List.eq_nil_of_length_eq_zero hz
  refine (Tryz.slices_Sort_string_none none 0 w).mono ?_
  rintro e w' ⟨rfl,rfl⟩
  have h0 : sortB [] = []:=List.eq_nil_of_length_eq_zero hsl
  rw [h0]
  exact ⟨rfl,⟨rfl,rfl,rfl,Nat.le_refl _,fun _ _ _=>rfl⟩,World.ownsRow_nil _ _ _ _⟩
 ·have ht : cur.toList.take (l.map bytesOf).length = (l.map bytesOf).map encStr:=by
   rw [List.length_map,List.map_map]
   rw [Nat.mul_one] at r4
   exact r4
  have hH : Holds encStr w gb 0 (l.map bytesOf).toArray:=holds_of_block hgb ht
  have:=Tryz.slices_Sort_string gb 0 cap (l.map bytesOf) w hH (heap_lt hgb) (by rw [List.length_map];omega)
  rw [List.length_map] at this
  refine this.mono ?_
  rintro e w' ⟨rfl,n,os,rfl⟩
  refine ⟨rfl,grownBy_sorted _,?_⟩
  have:=ownsRow_sorted (w:=w) (n:=n) (os:=os) (ss:=l.map bytesOf) (ts:=sortB l) (by rw [hsl,List.length_map]) hbase hgb (by rw [List.length_map];exact r1) r2 r3
  rw [List.length_map] at this
  exact this
theorem compactS_any (base : Nat) (v : Value) (zs : List (List UInt8)) (w : World) (hrow : w.ownsRow base 9 1 v zs.length (zs.map encStr)) (hlen : zs.length ≤ 1000000) :
  Calls Tryz.prog 53 #[v] w fun e w'=>∃ v',e = .returned v' ∧ v'.ownBlock = v.ownBlock ∧ w.grownBy w' v.ownBlock ∧ w'.ownsRow base 9 1 v' (Lib.compact zs).length ((Lib.compact zs).map encStr):=by
 rcases hrow.2 with ⟨rfl,hz⟩ | ⟨gb,cap,cur,rfl,hbase,hgb,r1,r2,r3,r4⟩
 ·obtain rfl : zs = []:=List.eq_nil_of_length_eq_zero hz
  refine (Tryz.slices_Compact_string_empty none 0 w).mono ?_
  rintro e w' ⟨rfl,rfl⟩
  exact ⟨_,rfl,rfl,⟨rfl,rfl,rfl,Nat.le_refl _,fun _ _ _=>rfl⟩,World.ownsRow_nil _ _ _ _⟩
 ·have hH : Holds encStr w gb 0 zs.toArray:=holds_of_block hgb (by simpa using r4)
  refine (Tryz.slices_Compact_string gb 0 cap zs w hH (by omega) r1).mono ?_
  rintro e w' ⟨rfl,q,rfl⟩
  have hcl : (Lib.compact zs).length ≤ zs.length:=compact_le zs
  have hg:=grownBy_sorted (w:=w) (g:=gb) (n:=q) (os:=#[]) ((Lib.compact zs ++ List.replicate (zs.length - (Lib.compact zs).length) []).toArray)
  have ho:=ownsRow_sorted (w:=w) (n:=q) (os:=#[]) (ss:=zs) (ts:=Lib.compact zs ++ List.replicate (zs.length - (Lib.compact zs).length) []) (by simp;omega) hbase hgb r1 r2 r3
  rw [grow_empty] at hg ho
  refine ⟨_,rfl,rfl,hg,?_⟩
  obtain ⟨h1,h2⟩:=ho
  rcases h2 with ⟨h2,_⟩ | ⟨g,cap',cur',h2,h3,h4,h5,h6,h7,h8⟩
  ·cases h2
  ·simp only [Value.slice.injEq,Option.some.injEq,Addr.mk.injEq,and_true,true_and] at h2
   obtain ⟨rfl,rfl⟩:=h2
   refine ⟨by simp,.inr ⟨gb,cap,cur',rfl,h3,h4,by omega,h6,h7,?_⟩⟩
   have e1 : (cur'.toList.take (zs.length * 1)).take ((Lib.compact zs).length) = cur'.toList.take ((Lib.compact zs).length):=by
    rw [List.take_take,Nat.min_eq_left (by omega)]
   rw [Nat.mul_one,← e1,h8,List.map_append,List.take_left' (by simp)]
end Go.Proofs.YtihfcjioilmmjaaGreat
