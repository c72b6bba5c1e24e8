/- Lemmas: ask 1. -/
import Derived.Test.YtihfcjioilmmjaaGreatRm1
import Derived.Test.YtihfcjioilmmjaaGreatRm6
set_option linter.all false
namespace Go.Proofs.YtihfcjioilmmjaaGreat
open Go Go.RowKit
open Go.Lib Go.Sort Go.Maps Go.Shelf Go.Proofs
theorem btw_owns {lo hi : Nat} {w W : World} (hx : Btw lo hi w W) {T : TypeId} {k : Nat} {v : Value} {n : Nat} {xs : List Value} (h : w.ownsRow lo T k v n xs) (hhi : w.heap.size ≤ hi) : W.ownsRow lo T k v n xs:=
 owns_keep h fun g _ hb hg=>hx.2 g hb (Nat.lt_of_lt_of_le (heap_lt hg) hhi)
theorem MarksAt.btw {B hi : Nat} {R : Rec} {w W : World} {mb : Nat} {lm : List (Nat × Value)} {μ : Nat → Option (List Int)} (h : MarksAt B R w mb lm μ) (hmb : B ≤ mb ∧ mb < hi) (hhi : w.heap.size ≤ hi) (hx : Btw B hi w W) : MarksAt B R W mb lm μ:=
 {map:=(hx.2 mb hmb.1 hmb.2).trans h.map,nodup:=h.nodup,none_:=h.none_,some_:=fun c v hc=>let ⟨l,h1,h2⟩:=h.some_ c v hc;⟨l,h1,btw_owns hx h2 hhi⟩,dis:=h.dis,cols:=h.cols }
mutual
theorem askF_ok (R : Rec) : ∀ (e : Exp) (q : Qn),askF R e = some q → q.size = e.nodes ∧ ∀ c l,q.marks c = some l → l.length ≤ 2 * q.size
 | .mk op attr values lo hi kids,q,h=>by
  rw [askF] at h
  split at h
  ·cases hc : colOf R attr with
   | none=>rw [hc] at h;cases h
   | some c=>
    rw [hc] at h
    simp only at h
    split at h
    ·rename_i hk
     split at h
     ·simp only [Option.some.injEq] at h
      subst h
      have hkn : kids = []:=List.eq_nil_of_length_eq_zero hk
      subst hkn
      refine ⟨rfl,fun c' l hl=>?_⟩
      unfold inQ at hl ⊢
      simp only at hl ⊢
      split at hl
      ·simp only [Option.some.injEq] at hl
       subst hl
       split <;> simp
      ·cases hl
     ·cases h
    ·cases h
  ·split at h
   ·cases h
   ·cases hL : askL R kids ⟨1,fun _=>none,[]⟩ with
    | none=>rw [hL] at h;cases h
    | some acc=>
     rw [hL] at h
     simp only at h
     obtain ⟨h1,h2⟩:=askL_ok R kids _ acc hL
     have h3:=h2 (fun c l hl=>by cases hl)
     have hq : q.size = acc.size ∧ q.marks = acc.marks:=by
      unfold closeQ at h
      split at h
      ·simp only [Option.some.injEq] at h;subst h;exact ⟨rfl,rfl⟩
      ·split at h
       ·simp only [Option.some.injEq] at h;subst h;exact ⟨rfl,rfl⟩
       ·split at h
        ·simp only [Option.some.injEq] at h;subst h;exact ⟨rfl,rfl⟩
        ·cases h
     rw [hq.1,hq.2]
     exact ⟨h1,h3⟩
theorem askL_ok (R : Rec) : ∀ (l : List Exp) (a b : Acc),askL R l a = some b → b.size = a.size + nodesL l ∧ ((∀ c x,a.marks c = some x → x.length ≤ 2 * a.size) → ∀ c x,b.marks c = some x → x.length ≤ 2 * b.size)
 | [],a,b,h=>by
  rw [askL] at h
  simp only [Option.some.injEq] at h
  subst h
  exact ⟨rfl,id⟩
 | k :: r,a,b,h=>by
  rw [askL] at h
  cases hk : askF R k with
  | none=>rw [hk] at h;cases h
  | some q=>
   rw [hk] at h
   simp only at h
   split at h
   ·obtain ⟨q1,q2⟩:=askF_ok R k q hk
    obtain ⟨h1,h2⟩:=askL_ok R r _ b h
    refine ⟨by rw [h1,nodesL,q1,Nat.add_assoc],fun ha=>h2 fun c x hx=>?_⟩
    simp only [mergeM] at hx ⊢
    cases hq : q.marks c with
    | none=>
     rw [hq] at hx
     have:=ha c x hx
     omega
    | some l=>
     rw [hq] at hx
     simp only [Option.some.injEq] at hx
     subst hx
     have k1:=q2 c l hq
     rw [List.length_append]
     cases hac : a.marks c with
     | none=>simp;omega
     | some y=>have:=ha c y hac;simp;omega
   ·cases h
end
theorem askL_snoc (R : Rec) : ∀ (l : List Exp) (k : Exp) (a : Acc),askL R (l ++ [k]) a = match askL R l a with
  | none=>none
  | some b=>match askF R k with
   | none=>none
   | some q=>if b.size ≤ 30 then some ⟨b.size + q.size,mergeM b.marks q.marks,b.φs ++ [q.φ]⟩ else none
 | [],k,a=>by
  simp only [List.nil_append]
  rw [askL,askL]
  cases askF R k with
  | none=>rfl
  | some q=>
   simp only
   split
   ·rw [askL]
   ·rfl
 | x :: r,k,a=>by
  simp only [List.cons_append]
  rw [askL,askL]
  cases askF R x with
  | none=>rfl
  | some q=>
   simp only
   split
   ·exact askL_snoc R r k _
   ·rfl
theorem askL_none {R : Rec} {l : List Exp} {j : Nat} {a : Acc} (h : askL R (l.take j) a = none) : askL R l a = none:=by
 have : ∀ (x y : List Exp) (a : Acc),askL R x a = none → askL R (x ++ y) a = none:=by
  intro x
  induction x with
  | nil=>intro y a h;rw [askL] at h;cases h
  | cons k r ih=>
   intro y a h
   rw [List.cons_append,askL]
   rw [askL] at h
   cases hk : askF R k with
   | none=>rfl
   | some q=>
    rw [hk] at h
    simp only at h ⊢
    split at h
    ·rename_i h30;rw [if_pos h30];exact ih y _ h
    ·rename_i h30;rw [if_neg h30]
 rw [← List.take_append_drop j l]
 exact this _ _ _ h
structure AskI (N M : Nat) (w : World) (R : Rec) (bx : Array Value) (sz : Nat) (μ : Nat → Option (List Int)) (φs : List ((Nat → Int) → Bool)) (tvs : List Value) (tsv : Value) (lm : List (Nat × Value)) (wr : World) : Prop where
 below : Below N w wr
 size : N + 4 ≤ wr.heap.size
 hM : M ≤ wr.heap.size
 b3 : wr.heap[N]? = some (.cells bx 29 (0,0))
 q : wr.heap[N + 2]? = some (.cells #[.nilFunc,.int .i64 (sz : Int),.map (some (N + 1))] 168 (0,0))
 marks : MarksAt N R wr (N + 1) lm μ
 t10 : wr.heap[N + 3]? = some (.cells #[tsv] 183 (0,0))
 rows : wr.ownsRow (N + 4) 165 1 tsv tvs.length tvs
 len : tvs.length = φs.length
 ok : ∀ (i : Nat) t φ,tvs[i]? = some t → φs[i]? = some φ → ∃ lo hi,N + 4 ≤ lo ∧ hi ≤ M ∧ TestOk R lo hi wr t φ ∧ (∀ g,tsv.ownBlock = some g → g < lo ∨ hi ≤ g) ∧ (∀ c v g,look lm c = some v → v.ownBlock = some g → g < lo ∨ hi ≤ g)
section
variable {N M : Nat} {w : World} {R : Rec} {bx : Array Value} {sz : Nat} {μ : Nat → Option (List Int)} {φs : List ((Nat → Int) → Bool)} {tvs : List Value} {tsv : Value} {lm : List (Nat × Value)} {W : World}
theorem AskI.ext (h : AskI N M w R bx sz μ φs tvs tsv lm W) {W' : World} (hx : Ext W W') : AskI N M w R bx sz μ φs tvs tsv lm W':=
 {below:=Below.trans h.below (Below.mono hx (by have:=h.size;omega)),size:=Nat.le_trans h.size hx.size,hM:=Nat.le_trans h.hM hx.size,b3:=hx.obj h.b3,q:=hx.obj h.q,marks:=h.marks.ext hx,t10:=hx.obj h.t10,rows:=owns_keep h.rows fun g _ _ hg=>hx.block g (heap_lt hg),len:=h.len
  ok:=fun i t φ ht hφ=>let ⟨lo,hi,k1,k2,k3,k4,k5⟩:=h.ok i t φ ht hφ;⟨lo,hi,k1,k2,k3.move (btw_ext (Nat.le_trans k2 h.hM) hx),k4,k5⟩ }
theorem AskI.put (h : AskI N M w R bx sz μ φs tvs tsv lm W) {r : Nat} {o o' : Obj} (hr : N + 4 ≤ r) (ho : W.heap[r]? = some o) (h1 : ∀ cs T fr,o ≠ .cells cs T fr) (hrM : M ≤ r) : AskI N M w R bx sz μ φs tvs tsv lm (W.putObj r o'):=by
 have hc : ∀ {g : Nat} {cs : Array Value} {T : TypeId} {fr : Nat × Nat},W.heap[g]? = some (.cells cs T fr) → (W.putObj r o').heap[g]? = some (.cells cs T fr):=fun hg=>by
  rw [putObj_get,if_neg]
  ·exact hg
  ·rintro rfl
   rw [ho] at hg
   exact h1 _ _ _ (Option.some.inj hg)
 have how : ∀ {base : Nat} {T : TypeId} {k : Nat} {v : Value} {n : Nat} {xs : List Value},W.ownsRow base T k v n xs → (W.putObj r o').ownsRow base T k v n xs:=fun hw=>owns_keep hw fun _ _ _ hg=>(hc hg).trans hg.symm
 exact
    {below:=below_putObj h.below (by omega) _,size:=by rw [putObj_size];exact h.size,hM:=by rw [putObj_size];exact h.hM,b3:=hc h.b3,q:=hc h.q
     marks:={ map:=by have:=h.marks.map;unfold MapIs at this ⊢;rw [putObj_get,if_neg (by omega)];exact this,nodup:=h.marks.nodup,none_:=h.marks.none_,some_:=fun c v hv=>let ⟨l,k1,k2⟩:=h.marks.some_ c v hv;⟨l,k1,how k2⟩,dis:=h.marks.dis,cols:=h.marks.cols }
     t10:=hc h.t10,rows:=how h.rows,len:=h.len
     ok:=fun i t φ ht hφ=>let ⟨lo,hi,k1,k2,k3,k4,k5⟩:=h.ok i t φ ht hφ;⟨lo,hi,k1,k2,k3.move ⟨by rw [putObj_size];have:=heap_lt ho;omega,fun k _ hk=>by rw [putObj_get,if_neg (by omega)]⟩,k4,k5⟩ }
theorem AskI.sizeStep (h : AskI N M w R bx sz μ φs tvs tsv lm W) (n : Nat) : AskI N M w R bx n μ φs tvs tsv lm (W.setCell ⟨N + 2,1,none⟩ (.int .i64 (n : Int))):=by
 have f1 : Frm 168 W (W.setCell ⟨N + 2,1,none⟩ (.int .i64 (n : Int))):=frm_set h.q _
 refine
   {below:=Below.setCell h.below (Nat.le_add_right N 2) _,size:=by rw [World.size_setCell];exact h.size,hM:=by rw [World.size_setCell];exact h.hM,b3:=f1.cells h.b3 (by decide),q:=?_
    marks:={ map:=f1.map h.marks.map,nodup:=h.marks.nodup,none_:=h.marks.none_,some_:=fun c v hv=>let ⟨l,k1,k2⟩:=h.marks.some_ c v hv;⟨l,k1,f1.owns k2 (by decide)⟩,dis:=h.marks.dis,cols:=h.marks.cols }
    t10:=f1.cells h.t10 (by decide),rows:=f1.owns h.rows (by decide),len:=h.len,ok:=fun i t φ ht hφ=>?_ }
 ·rw [heap_setCell_get,if_pos rfl,h.q];rfl
 ·obtain ⟨lo,hi,k1,k2,k3,k4,k5⟩:=h.ok i t φ ht hφ
  exact ⟨lo,hi,k1,k2,k3.move ⟨by rw [World.size_setCell];exact Nat.le_trans k2 h.hM,fun k hk _=>by rw [heap_setCell_get,if_neg (by omega)]⟩,k4,k5⟩
theorem AskI.testStep (h : AskI N M w R bx sz μ φs tvs tsv lm W) {W1 : World} {tsv' tv : Value} {φ : (Nat → Int) → Bool} {Nk hk : Nat} (hg : W.grownBy W1 tsv.ownBlock) (hr : W1.ownsRow (N + 4) 165 1 tsv' (tvs.length + 1) (tvs ++ [tv])) (hat : tsv'.ownBlock = tsv.ownBlock ∨ tsv'.ownBlock = some W.heap.size)
  (hNk : N + 4 ≤ Nk) (hkk : hk ≤ W.heap.size) (ht : TestOk R Nk hk W tv φ) (h4 : ∀ g,tsv.ownBlock = some g → g < Nk ∨ hk ≤ g) (h5 : ∀ c v g,look lm c = some v → v.ownBlock = some g → g < Nk ∨ hk ≤ g) :
  AskI N W.heap.size w R bx sz μ (φs ++ [φ]) (tvs ++ [tv]) tsv' lm (W1.setCell ⟨N + 3,0,none⟩ tsv') ∧ W1.heap[N + 3]? = some (.cells #[tsv] 183 (0,0)):=by
 have hN : N ≤ W.heap.size:=by have:=h.size;omega
 have f1:=frm_grown h.rows hg
 have hb:=f1.cells h.t10 (by decide)
 have f2 : Frm 183 W1 (W1.setCell ⟨N + 3,0,none⟩ tsv'):=frm_set hb tsv'
 have hbtw : ∀ lo hi,N + 4 ≤ lo → hi ≤ W.heap.size → (∀ g,tsv.ownBlock = some g → g < lo ∨ hi ≤ g) → Btw lo hi W (W1.setCell ⟨N + 3,0,none⟩ tsv'):=fun lo hi k1 k2 k4=>
  ⟨by rw [World.size_setCell];exact Nat.le_trans k2 hg.size,fun k hk1 hk2=>by
   rw [heap_setCell_get,if_neg (by omega)]
   refine hg.block k (by omega) (fun e=>?_)
   rcases k4 k e.symm with e | e <;> omega⟩
 have hat' : ∀ lo hi,hi ≤ W.heap.size → (∀ g,tsv.ownBlock = some g → g < lo ∨ hi ≤ g) → ∀ g,tsv'.ownBlock = some g → g < lo ∨ hi ≤ g:=fun lo hi k2 k4 g hgg=>by
  rcases hat with e | e
  ·exact k4 g (by rw [← e];exact hgg)
  ·rw [e] at hgg
   obtain rfl:=Option.some.inj hgg
   exact .inr k2
 refine ⟨
     {below:=Below.setCell (h.below.grown hg hN fun k hk=>Nat.le_trans (by omega) (owns_block h.rows hk).1) (Nat.le_add_right N 3) _,size:=by rw [World.size_setCell];exact Nat.le_trans h.size hg.size,hM:=by rw [World.size_setCell];exact hg.size,b3:=f2.cells (f1.cells h.b3 (by decide)) (by decide),q:=f2.cells (f1.cells h.q (by decide)) (by decide)
      marks:={ map:=f2.map (f1.map h.marks.map),nodup:=h.marks.nodup,none_:=h.marks.none_,some_:=fun c v hv=>let ⟨l,k1,k2⟩:=h.marks.some_ c v hv;⟨l,k1,f2.owns (f1.owns k2 (by decide)) (by decide)⟩,dis:=h.marks.dis,cols:=h.marks.cols }
      t10:=?_,rows:=by rw [List.length_append];exact f2.owns hr (by decide),len:=by rw [List.length_append,List.length_append,h.len];rfl,ok:=fun i t ψ hti hψ=>?_ },hb⟩
 ·rw [heap_setCell_get,if_pos rfl,hb];rfl
 ·have hs : (W1.setCell ⟨N + 3,0,none⟩ tsv').heap.size = W1.heap.size:=World.size_setCell ..
  by_cases hi : i < tvs.length
  ·rw [List.getElem?_append_left hi] at hti
   rw [List.getElem?_append_left (by rw [← h.len];exact hi)] at hψ
   obtain ⟨lo,hi',k1,k2,k3,k4,k5⟩:=h.ok i t ψ hti hψ
   have k2':=Nat.le_trans k2 h.hM
   exact ⟨lo,hi',k1,k2',k3.move (hbtw lo hi' k1 k2' k4),hat' lo hi' k2' k4,k5⟩
  ·have hl:=h.len
   rw [List.getElem?_append_right (by omega)] at hti hψ
   have h0 : i - tvs.length = 0:=by
    have:=(List.getElem?_eq_some_iff.1 hti).1
    simp at this
    omega
   rw [← hl,h0] at hψ
   rw [h0] at hti
   simp at hti hψ
   subst hti
   subst hψ
   exact ⟨Nk,hk,hNk,hkk,ht.move (hbtw Nk hk hNk hkk h4),hat' Nk hk hkk h4,h5⟩
theorem AskI.markStep (h : AskI N M w R bx sz μ φs tvs tsv lm W) (c : Nat) {a : Attr} (hc : (a,c) ∈ R.cols) (l : List Int) {W1 : World} {v' : Value}
  (hg : W.grownBy W1 ((look lm c).getD (.slice none 0 0)).ownBlock) (hr : W1.ownsRow N 3 1 v' (((μ c).getD []).length + l.length) (((μ c).getD []).map (Value.int .i64) ++ l.map (Value.int .i64)))
  (hat : v'.ownBlock = ((look lm c).getD (.slice none 0 0)).ownBlock ∨ v'.ownBlock = some W.heap.size) :
  AskI N M w R bx sz (fun c'=>if c' = c then some ((μ c).getD [] ++ l) else μ c') φs tvs tsv (mput lm c v') (wput encP W1 (N + 1) (mput lm c v')) ∧ MapIs encP W1 (N + 1) lm:=by
 obtain ⟨hm,hmap⟩:=h.marks.grow c hc l hg hr hat
 have hN : N ≤ W.heap.size:=by have:=h.size;omega
 have hrow0 : ∃ n xs,W.ownsRow N 3 1 ((look lm c).getD (.slice none 0 0)) n xs:=by
  cases hl : look lm c with
  | none=>exact ⟨0,[],World.ownsRow_nil _ _ _ _⟩
  | some v=>obtain ⟨l',_,h2⟩:=h.marks.some_ c v hl;exact ⟨_,_,h2⟩
 obtain ⟨n0,xs0,hrow0⟩:=hrow0
 have f1:=frm_grown hrow0 hg
 have hm':=hmap
 unfold MapIs at hm'
 have hold : ∀ lo hi,(∀ c v g,look lm c = some v → v.ownBlock = some g → g < lo ∨ hi ≤ g) → ∀ g,((look lm c).getD (.slice none 0 0)).ownBlock = some g → g < lo ∨ hi ≤ g:=fun lo hi k5 g hgg=>by
  cases hl : look lm c with
  | none=>rw [hl] at hgg;cases hgg
  | some v=>rw [hl] at hgg;exact k5 c v g hl hgg
 refine ⟨
     {below:=below_putObj (h.below.grown hg hN fun k hk=>(owns_block hrow0 hk).1) (Nat.le_add_right N 1) _,size:=by unfold wput;rw [putObj_size];exact Nat.le_trans h.size hg.size,hM:=by unfold wput;rw [putObj_size];exact Nat.le_trans h.hM hg.size,b3:=put_cells hm' (f1.cells h.b3 (by decide)),q:=put_cells hm' (f1.cells h.q (by decide)),marks:=hm
      t10:=put_cells hm' (f1.cells h.t10 (by decide)),rows:=put_owns hm' (f1.owns h.rows (by decide)),len:=h.len,ok:=fun i t ψ hti hψ=>?_ },hmap⟩
 obtain ⟨lo,hi,k1,k2,k3,k4,k5⟩:=h.ok i t ψ hti hψ
 have k2':=Nat.le_trans k2 h.hM
 refine ⟨lo,hi,k1,k2,k3.move ⟨by unfold wput;rw [putObj_size];exact Nat.le_trans k2' hg.size,fun k hk1 hk2=>?_⟩,k4,fun c' v g hv hgg=>?_⟩
 ·unfold wput
  rw [putObj_get,if_neg (by omega)]
  refine hg.block k (by omega) (fun e=>?_)
  rcases hold lo hi k5 k e.symm with e | e <;> omega
 ·rw [lookNat_set] at hv
  split at hv
  ·obtain rfl:=Option.some.inj hv
   rcases hat with e | e
   ·exact hold lo hi k5 g (by rw [← e];exact hgg)
   ·rw [e] at hgg
    obtain rfl:=Option.some.inj hgg
    exact .inr k2'
  ·exact k5 c' v g hv hgg
end
theorem vinfo165 : (Tryz.prog.info? 165).map (fun i=>(i.zero,i.size,i.bytes)) = some (some .nilFunc,1,8):=by kernel_rfl
theorem append_tests {W : World} {base : Nat} {v : Value} {k : Nat} {xs row : List Value} (hown : W.ownsRow base 165 1 v k xs) (ab m : Nat) (hl : row.length = m) (hrow : ∀ j u,row[j]? = some u → W.cell? ⟨ab,0 + j,none⟩ = some u) (h1 : ∀ u ∈ row,u.oneCell' = true) (hk : k + m ≤ 1000000) (hb : base ≤ W.heap.size) (c : Nat) :
  ∃ v' w',(Builtin.append_ #[183,183] 183 #[v,.slice (some ⟨ab,0,none⟩) m c]).run Tryz.prog W = .ok v' w' ∧ w'.ownsRow base 165 1 v' (k + m) (xs ++ row) ∧ W.grownBy w' v.ownBlock ∧ (v'.ownBlock = v.ownBlock ∨ v'.ownBlock = some W.heap.size):=by
 have hml : (1000000 : Nat) ≤ maxLen:=by decide
 obtain ⟨i0,hi,hz0,hz1,hz2⟩:=info_parts vinfo165
 obtain ⟨v',w',q1,q2,q3,_,q5⟩:=Go.run_append_own_at (P:=Tryz.prog) (w:=W) base 183 183 165 i0 _ 1 8 (by kernel_rfl) hi hz0 hz1 hz2 rfl (by decide) v k xs hown ⟨ab,0,none⟩ m c row (by omega) (fun j u hj=>add_cell (hrow j u hj)) h1 (by omega) (by omega) hb
 exact ⟨v',w',q1,q2,q3,q5⟩
def TapI (wq : World) (N : Nat) (tsv : Value) (tvs : List Value) (tv : Value) (us : List Value) (W : World) : Prop:=
 match us with
 | []=>Ext wq W
 | [u]=>∃ ab,u = .slice (some ⟨ab,0,none⟩) 1 1 ∧ W.heap[ab]? = some (.cells #[tv] 165 (0,0)) ∧ Ext wq W
 | [_,v']=>∃ W0,Ext wq W0 ∧ W0.grownBy W tsv.ownBlock ∧ W.ownsRow (N + 4) 165 1 v' (tvs.length + 1) (tvs ++ [tv]) ∧ (v'.ownBlock = tsv.ownBlock ∨ v'.ownBlock = some W0.heap.size)
 | _ :: v' :: _=>∃ W0 W1,Ext wq W0 ∧ W0.grownBy W1 tsv.ownBlock ∧ W1.ownsRow (N + 4) 165 1 v' (tvs.length + 1) (tvs ++ [tv]) ∧ (v'.ownBlock = tsv.ownBlock ∨ v'.ownBlock = some W0.heap.size) ∧ W = W1.setCell ⟨N + 3,0,none⟩ v'
theorem TapI.pre {wq : World} {N : Nat} {tsv : Value} {tvs : List Value} {tv : Value} {us : List Value} {W : World} (h : TapI wq N tsv tvs tv us W) (hl : us.length ≤ 1) : Ext wq W:=by
 match us,h,hl with
 | [],h,_=>exact h
 | [_],⟨_,_,_,h⟩,_=>exact h
def mseen (μ ν : Nat → Option (List Int)) (ld : List (Nat × Value)) (seen : List Nat) (c : Nat) : Option (List Int):=if seen.any (fun i=>decide ((ld[i]?).map (·.1) = some c)) then mergeM μ ν c else μ c
theorem mseen_done {μ ν : Nat → Option (List Int)} {ld : List (Nat × Value)} {seen : List Nat} (hnone : ∀ c,look ld c = none → ν c = none) (hall : ∀ i,i < ld.length → i ∈ seen) : mseen μ ν ld seen = mergeM μ ν:=by
 funext c
 unfold mseen
 split
 ·rfl
 ·rename_i h
  have hl : look ld c = none:=by
   rw [look_none_iff]
   intro hc
   obtain ⟨x,hx,rfl⟩:=List.mem_map.1 hc
   obtain ⟨i,hi⟩:=List.mem_iff_getElem?.1 hx
   exact h (List.any_eq_true.2 ⟨i,hall i (List.getElem?_eq_some_iff.1 hi).1,by rw [hi];simp⟩)
  unfold mergeM
  rw [hnone c hl]
theorem mseen_snoc {μ ν : Nat → Option (List Int)} {ld : List (Nat × Value)} {seen : List Nat} {i c : Nat} {v : Value} {l : List Int} (hnd : (ld.map (·.1)).Nodup) (hi : ld[i]? = some (c,v)) (hni : i ∉ seen) (hν : ν c = some l) :
  mseen μ ν ld seen c = μ c ∧ mseen μ ν ld (seen ++ [i]) = fun c'=>if c' = c then some ((mseen μ ν ld seen c).getD [] ++ l) else mseen μ ν ld seen c':=by
 have h1 : mseen μ ν ld seen c = μ c:=by
  unfold mseen
  rw [if_neg]
  intro h
  obtain ⟨i',hi',h2⟩:=List.any_eq_true.1 h
  have h2 : (ld[i']?).map (·.1) = some c:=by simpa using h2
  have h3 : (ld.map (·.1))[i']? = some c:=by rw [List.getElem?_map];exact h2
  have h4 : (ld.map (·.1))[i]? = some c:=by rw [List.getElem?_map,hi];rfl
  have:=(List.getElem?_inj (List.getElem?_eq_some_iff.1 h3).1 hnd).1 (h3.trans h4.symm)
  subst this
  exact hni hi'
 refine ⟨h1,?_⟩
 funext c'
 rw [h1]
 unfold mseen
 rw [List.any_append]
 by_cases hc : c' = c
 ·subst hc
  rw [if_pos rfl]
  have : (decide ((ld[i]?).map (·.1) = some c')) = true:=by rw [hi];simp
  simp only [List.any_cons,List.any_nil,this,Bool.or_false,Bool.or_true,if_true]
  unfold mergeM
  rw [hν]
 ·rw [if_neg hc]
  have : (decide ((ld[i]?).map (·.1) = some c')) = false:=by rw [hi];simp;exact fun e=>hc e.symm
  simp only [List.any_cons,List.any_nil,this,Bool.or_false]
def MkI (wq : World) (N : Nat) (old : Value) (k : Nat) (xs row : List Value) (m : Nat) (P : World → Prop) (us : List Value) (W : World) : Prop:=
 match us with
 | []=>Ext wq W
 | [v']=>∃ W0,Ext wq W0 ∧ W0.grownBy W old.ownBlock ∧ W.ownsRow N 3 1 v' (k + m) (xs ++ row) ∧ (v'.ownBlock = old.ownBlock ∨ v'.ownBlock = some W0.heap.size)
 | _=>P W
theorem MkI.pre {wq : World} {N : Nat} {old : Value} {k : Nat} {xs row : List Value} {m : Nat} {P : World → Prop} {us : List Value} {W : World} (h : MkI wq N old k xs row m P us W) (hl : us.length ≤ 0) : Ext wq W:=by
 have : us = []:=List.eq_nil_of_length_eq_zero (by omega)
 subst this;exact h
theorem MkI.keep {wq : World} {N : Nat} {old : Value} {k : Nat} {xs row : List Value} {m : Nat} {P : World → Prop} {us : List Value} {W : World} (h : MkI wq N old k xs row m P us W) (hl : us.length ≤ 1) {n : Nat} {ys : List Value} (hvv : wq.ownsRow N 3 1 old n ys) {b : Nat} {o : Obj} (hb : wq.heap[b]? = some o) (ho : ∀ cs fr,o ≠ .cells cs 3 fr) : W.heap[b]? = some o:=by
 match us,h,hl with
 | [],h,_=>exact Ext.obj h hb
 | [_],⟨W0,hx,hg,_⟩,_=>exact grown_keep (owns_keep hvv fun g _ _ hgg=>hx.block g (heap_lt hgg)) hg (hx.obj hb) ho
theorem MarksAt.rowOld {B : Nat} {R : Rec} {w : World} {mb : Nat} {lm : List (Nat × Value)} {μ : Nat → Option (List Int)} (h : MarksAt B R w mb lm μ) (c : Nat) : w.ownsRow B 3 1 ((look lm c).getD (.slice none 0 0)) ((μ c).getD []).length (((μ c).getD []).map (Value.int .i64)):=by
 cases hl : look lm c with
 | none=>rw [h.none_ c hl];exact World.ownsRow_nil _ _ _ _
 | some v=>obtain ⟨l,h1,h2⟩:=h.some_ c v hl;rw [h1];exact h2
structure NodeW (N : Nat) (R : Rec) (φs : List ((Nat → Int) → Bool)) (tvs : List Value) (tsv : Value) (W : World) : Prop where
 t10 : W.heap[N + 3]? = some (.cells #[tsv] 183 (0,0))
 rows : W.ownsRow (N + 4) 165 1 tsv tvs.length tvs
 len : tvs.length = φs.length
 ok : ∀ (i : Nat) t φ,tvs[i]? = some t → φs[i]? = some φ → ∃ lo hi,N ≤ lo ∧ hi ≤ W.heap.size ∧ TestOk R lo hi W t φ
theorem AskI.node {N M : Nat} {w : World} {R : Rec} {bx : Array Value} {sz : Nat} {μ : Nat → Option (List Int)} {φs : List ((Nat → Int) → Bool)} {tvs : List Value} {tsv : Value} {lm : List (Nat × Value)} {W : World} (h : AskI N M w R bx sz μ φs tvs tsv lm W) (tv : Value) :
  NodeW N R φs tvs tsv (W.setCell ⟨N + 2,0,none⟩ tv) ∧ (W.setCell ⟨N + 2,0,none⟩ tv).heap[N + 2]? = some (.cells #[tv,.int .i64 (sz : Int),.map (some (N + 1))] 168 (0,0)) ∧ MarksAt N R (W.setCell ⟨N + 2,0,none⟩ tv) (N + 1) lm μ ∧ Below N w (W.setCell ⟨N + 2,0,none⟩ tv):=by
 have f1 : Frm 168 W (W.setCell ⟨N + 2,0,none⟩ tv):=frm_set h.q _
 refine ⟨⟨f1.cells h.t10 (by decide),f1.owns h.rows (by decide),h.len,fun i t φ ht hφ=>?_⟩,?_,{ map:=f1.map h.marks.map,nodup:=h.marks.nodup,none_:=h.marks.none_,some_:=fun c v hv=>let ⟨l,k1,k2⟩:=h.marks.some_ c v hv;⟨l,k1,f1.owns k2 (by decide)⟩,dis:=h.marks.dis,cols:=h.marks.cols },Below.setCell h.below (Nat.le_add_right N 2) _⟩
 ·obtain ⟨lo,hi,k1,k2,k3,_,_⟩:=h.ok i t φ ht hφ
  have k2':=Nat.le_trans k2 h.hM
  exact ⟨lo,hi,by omega,by rw [World.size_setCell];exact k2',k3.move ⟨by rw [World.size_setCell];exact k2',fun k hk _=>by rw [heap_setCell_get,if_neg (by omega)]⟩⟩
 ·rw [heap_setCell_get,if_pos rfl,h.q];rfl
theorem NodeW.at {N : Nat} {R : Rec} {φs : List ((Nat → Int) → Bool)} {tvs : List Value} {tsv : Value} {W : World} (h : NodeW N R φs tvs tsv W) {W' : World} (hx : Btw N W.heap.size W W') (hco : ColsAt R W') : TestsAt R W' tsv tvs φs ∧ W'.cell? ⟨N + 3,0,none⟩ = some tsv:=by
 have hr : W'.ownsRow (N + 4) 165 1 tsv tvs.length tvs:=owns_keep h.rows fun g _ hb hg=>hx.2 g (by omega) (heap_lt hg)
 refine ⟨⟨SlAt.of_owns hr,h.len,hco,fun i t φ ht hφ=>?_⟩,cell_of ((hx.2 _ (by omega) (heap_lt h.t10)).trans h.t10) 0⟩
 obtain ⟨lo,hi,k1,k2,k3⟩:=h.ok i t φ ht hφ
 exact ⟨lo,hi,Nat.le_trans k2 hx.1,k3.move (hx.mono k1 k2)⟩
theorem node_all {N : Nat} {R : Rec} {φs : List ((Nat → Int) → Bool)} {tvs : List Value} {tsv : Value} {W : World} (h : NodeW N R φs tvs tsv W) {b18 : Nat} (hb : W.heap[b18]? = some (.cells #[.func (.func 82) #[] #[]] 185 (0,0))) (hn : N ≤ b18) :
  TestOk R N W.heap.size W (.func (.func 84) #[] #[.pointer (some ⟨N + 3,0,none⟩),.pointer (some ⟨b18,0,none⟩)]) (fun ρ=>φs.all fun φ=>φ ρ):=by
 refine ⟨84,_,rfl,enters_of Tryz.func84 (by kernel_rfl) rfl,fun W' wb lw ρ hW hco hw hg=>?_⟩
 obtain ⟨h1,h2⟩:=h.at hW hco
 exact ask5_any h1 (N + 3) b18 h2 (cell_of ((hW.2 b18 hn (heap_lt hb)).trans hb) 0) hw hg
theorem node_any {N : Nat} {R : Rec} {φs : List ((Nat → Int) → Bool)} {tvs : List Value} {tsv : Value} {W : World} (h : NodeW N R φs tvs tsv W) {b17 : Nat} (hb : W.heap[b17]? = some (.cells #[.func (.func 80) #[] #[]] 185 (0,0))) (hn : N ≤ b17) :
  TestOk R N W.heap.size W (.func (.func 87) #[] #[.pointer (some ⟨N + 3,0,none⟩),.pointer (some ⟨b17,0,none⟩)]) (fun ρ=>φs.any fun φ=>φ ρ):=by
 refine ⟨87,_,rfl,enters_of Tryz.func87 (by kernel_rfl) rfl,fun W' wb lw ρ hW hco hw hg=>?_⟩
 obtain ⟨h1,h2⟩:=h.at hW hco
 exact ask7_any h1 (N + 3) b17 h2 (cell_of ((hW.2 b17 hn (heap_lt hb)).trans hb) 0) hw hg
theorem node_not {N : Nat} {R : Rec} {φs : List ((Nat → Int) → Bool)} {tvs : List Value} {tsv : Value} {W : World} (h : NodeW N R φs tvs tsv W) {φ : (Nat → Int) → Bool} (h0 : φs = [φ]) :
  TestOk R N W.heap.size W (.func (.func 86) #[] #[.pointer (some ⟨N + 3,0,none⟩)]) (fun ρ=>!φ ρ):=by
 refine ⟨86,_,rfl,enters_of Tryz.func86 (by kernel_rfl) rfl,fun W' wb lw ρ hW hco hw hg=>?_⟩
 obtain ⟨h1,h2⟩:=h.at hW hco
 exact ask6_any h1 (N + 3) h2 h0 hw hg
theorem setCell_twice (W : World) (b off : Nat) (x y : Value) : ((W.setCell ⟨b,off,none⟩ x).setCell ⟨b,off,none⟩ y) = W.setCell ⟨b,off,none⟩ y:=by
 unfold World.setCell
 congr 1
 apply Array.ext_getElem?
 intro i
 simp only [Array.getElem?_modify]
 by_cases h : b = i
 ·subst h
  simp only [if_true]
  cases W.heap[b]? with
  | none=>rfl
  | some o=>cases o <;> simp
 ·simp [h]
theorem askL_len (R : Rec) : ∀ (l : List Exp) (a b : Acc),askL R l a = some b → b.φs.length = a.φs.length + l.length
 | [],a,b,h=>by rw [askL] at h;simp only [Option.some.injEq] at h;subst h;rfl
 | x :: r,a,b,h=>by
  rw [askL] at h
  cases hx : askF R x with
  | none=>rw [hx] at h;cases h
  | some qq=>
   rw [hx] at h
   simp only at h
   split at h
   ·have:=askL_len R r _ b h
    simp at this ⊢
    omega
   ·cases h
end Go.Proofs.YtihfcjioilmmjaaGreat
