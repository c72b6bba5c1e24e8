/- worlds, outcomes, like: contracts; premises as named. -/
import Derived.Test.YtihfcjioilmmjaaGreatRq1
import Derived.Test.YtihfcjioilmmjaaGreatRq9
set_option linter.all false
set_option maxRecDepth 100000
set_option maxHeartbeats 16000000
namespace Go.Proofs.YtihfcjioilmmjaaGreat
open Go Go.RowKit
section
open Go.Lib Go.Sort Go.Maps Go.Shelf Go.Proofs
theorem outcomes_any {B : Nat} {w0 : World} {rb : Nat} {R : Rec} {cm : Nat} {vv fv : Value} {os : List (Option Nat × Option Nat)} {xs : List (List Value)} (h : RecAt B w0 rb R cm vv fv os xs) {B2 : Nat} {vb : Nat} {hf : List (Int × FR)} {sv : Value} {mp mk mf md : Nat} {lp : List (ByteArray × Value)} {lk lf ld : List ((ByteArray × Nat) × Value)}
  (hV : ViewAt B2 w0 vb hf sv mp mk mf md lp lk lf ld) (hfc : ∀ y ∈ hf,(y.2.attr,y.2.col) ∈ R.cols) (hfb : ∀ y ∈ hf,y.2.st.bits < 256) {qv : Value} {qbs : List Nat} {qs : List Qn} (hq : QsAt R w0 qv qbs (qs.map (·.φ))) (h8 : qbs.length ≤ 8)
  (hqa : ∀ (i : Nat) qb q,qbs[i]? = some qb → qs[i]? = some q → ∃ Bq hi tv mbq lmq,QAt Bq hi R w0 qb q tv mbq lmq) (hshort : ∀ q ∈ qs,∀ c l,q.marks c = some l → l.length ≤ 2000) (s : ByteArray) (smp : Nat → List Int) (hsmp : ∀ a c,(a,c) ∈ R.cols → smp c = sampF a (ofV hf (s,c) a) ((allM qs c).getD [])) :
  Calls Tryz.prog 66 #[.pointer (some ⟨vb,0,none⟩),.string s,qv] w0 fun e w'=>∃ v cols,e = .returned v ∧ cols.Nodup ∧ (∀ c,c ∈ cols ↔ (allM qs c).isSome = true) ∧
   w'.ownsRow w0.heap.size 118 1 v (runW smp (fun ρ=>bitsK ((qs.map (·.φ)).map fun φ=>φ ρ) qbs.length) cols (fun _=>0,[])).2.length ((runW smp (fun ρ=>bitsK ((qs.map (·.φ)).map fun φ=>φ ρ) qbs.length) cols (fun _=>0,[])).2.map U64) ∧ Ext w0 w':=by
 obtain ⟨qp,qcap,rfl,_⟩:=hq.1;obtain ⟨W1,hW1⟩ : ∃ W1,W1 = (w0.alloc (.cells #[.slice qp qbs.length qcap] 161 (0,0))).alloc (.cells #[.slice none 0 0] 171 (0,0)):=⟨_,rfl⟩;have hx1 : Ext w0 W1:=by rw [hW1];exact bel
 have hbq : W1.heap[w0.heap.size]? = some (.cells #[.slice qp qbs.length qcap] 161 (0,0)):=by rw [hW1];exact zG
 have hbl : W1.heap[w0.heap.size + 1]? = some (.cells #[.slice none 0 0] 171 (0,0)):=by rw [hW1];exact zG
 have hwo:=worlds_any h hV hfc hfb hq h8 hqa hshort s smp hsmp w0.heap.size (w0.heap.size + 1) w0.heap.size W1 (.slice none 0 0) hx1 hbq ⟨hbl,World.ownsRow_nil _ _ _ _⟩ (Nat.le_refl _) hx1.size (Nat.le_succ _);have HWO:=zQ hwo;have d0:=cell_of hbq 0;clear hx1 hbq hbl hwo h hV hfc hfb hq hqa hshort hsmp;go_enter Tryz.func66,Tryz.ntmps66;go_upto_region 2 with fail;rw [← hW1];clear hW1;go_wp2_with fail;refine HWO.out.mono ?_;rintro e w2 ⟨rfl,hlow,cols,lv,hnd,hkeys,hout⟩;have d1:=cell_of hout.box 0;have HOUT:=zQ hout;have HLOW:=zQ hlow;have HND:=zQ hnd;have HKE:=zQ hkeys;clear hout hlow hnd hkeys d0;go_wp2_with fail;go_ret
 exact ⟨_,cols,rfl,HND.out,HKE.out,HOUT.out.row,HLOW.out⟩
end
section
open Go.Lib Go.Sort Go.Maps Go.Shelf Go.Proofs
def wholesV (hf : List (Int × FR)) : List (List UInt8):=(subsV hf).filter fun t=>!isPart (ofBytes t)
end
section
open Go.Lib Go.Sort Go.Maps Go.Shelf Go.Proofs
theorem prefix_one (c b : UInt8) (l : List UInt8) : [c].isPrefixOf (b :: l) = (b == c):=by
 rw [List.isPrefixOf_cons_cons];simp [Bool.beq_comm]
theorem index_one (c : UInt8) : ∀ (s : List UInt8),Lib.index s [c] = Lib.indexByte s c
 | []=>rfl
 | b :: l=>by
  unfold Lib.index Lib.indexByte;rw [prefix_one,index_one c l]
theorem isPart_eq (s : ByteArray) : isPart s = decide (0 ≤ Lib.indexByte s.data.toList 47):=by
 unfold isPart Lib.cut;rw [show stroke = [47] from rfl,index_one]
 split <;> simp_all
theorem contains_any (s : ByteArray) (w : World) : Calls Tryz.prog 65 #[.string s,.string ⟨#[47]⟩] w fun e w'=>e = .returned (.bool (isPart s)) ∧ w = w':=by
 rw [isPart_eq];exact (Tryz.strings_Contains_one s 47 w).mono fun _ _ h=>⟨h.1,h.2.symm⟩
def tooMany (hf : List (Int × FR)) : Bool:=(subsV hf).any fun t=>decide (12 < (partsV hf (ofBytes t)).length)
def wholesJ (l : List (List UInt8)) : List (List UInt8):=l.filter fun t=>!isPart (ofBytes t)
theorem wholesJ_snoc (l : List (List UInt8)) (t : List UInt8) : wholesJ (l ++ [t]) = if isPart (ofBytes t) then wholesJ l else wholesJ l ++ [t]:=by
 unfold wholesJ;rw [List.filter_append];cases h : isPart (ofBytes t) <;> simp [h]
theorem wholesJ_le (l : List (List UInt8)) : (wholesJ l).length ≤ l.length:=List.length_filter_le _ _
theorem ViewAt.partLook {B2 : Nat} {w : World} {vb : Nat} {hf : List (Int × FR)} {sv : Value} {mp mk mf md : Nat} {lp : List (ByteArray × Value)} {lk lf ld : List ((ByteArray × Nat) × Value)} (hV : ViewAt B2 w vb hf sv mp mk mf md lp lk lf ld) (s : ByteArray) :
  ∃ p c,w.ownsRow B2 9 1 (.slice p (partsV hf s).length c) (partsV hf s).length ((partsV hf s).map encStr) ∧ ∀ W,Ext w W → (Instr.lookup 133 (.map (some mp)) (.string s) false).run Tryz.prog W = .ok (.slice p (partsV hf s).length c) W:=by
 have hq:=fun W (hE : Ext w W)=>run_lookup1 (P:=Tryz.prog) (T:=133) (K:=9) (E:=26) (z:=.slice none 0 0) (k:=s) (by kernel_rfl) (hV.ext hE).parts (finds_string (by kernel_rfl) W _ _) (by kernel_rfl)
 cases hl : look lp s with
 | none=>
  rw [hV.partsN s hl];refine ⟨none,0,World.ownsRow_nil _ _ _ _,fun W hE=>?_⟩
  have h1:=hq W hE;rw [hl] at h1;exact h1
 | some v=>
  have h2:=(hV.partsS s v hl).1;obtain ⟨p,c,rfl⟩:=owns_form h2;refine ⟨p,c,h2,fun W hE=>?_⟩
  have h1:=hq W hE;rw [hl] at h1;exact h1
theorem wholes_any {B2 : Nat} {w : World} {vb : Nat} {hf : List (Int × FR)} {sv : Value} {mp mk mf md : Nat} {lp : List (ByteArray × Value)} {lk lf ld : List ((ByteArray × Nat) × Value)}
  (hV : ViewAt B2 w vb hf sv mp mk mf md lp lk lf ld) (hlen : (subsV hf).length ≤ 100000) :
  Calls Tryz.prog 48 #[.pointer (some ⟨vb,0,none⟩)] w fun e w'=>((tooMany hf = true ∧ e = .returned (.tuple #[.slice none 0 0,.int .i64 5])) ∨ (tooMany hf = false ∧ ∃ v,e = .returned (.tuple #[v,.int .i64 0]) ∧ w'.ownsRow w.heap.size 9 1 v (wholesV hf).length ((wholesV hf).map encStr))) ∧ Ext w w':=by
 obtain ⟨sp,sc,hsv⟩:=owns_form hV.subs;subst hsv;have HLEN:=zQ hlen;obtain ⟨sl,hsl⟩ : ∃ sl,subsV hf = sl:=⟨_,rfl⟩;have hrow:=hV.subs;have htm : tooMany hf = sl.any fun t=>decide (12 < (partsV hf (ofBytes t)).length):=by unfold tooMany;rw [hsl]
 have hwh : wholesV hf = wholesJ sl:=by unfold wholesV wholesJ;rw [hsl]
 have c0:=cell_of hV.view 0;have c1:=cell_of hV.view 1;rw [hsl] at hrow hlen c0;have hel : ∀ (j : Nat) t,sl[j]? = some t → ∃ g,sp = some ⟨g,0,none⟩ ∧ w.cell? ⟨g,j,none⟩ = some (encStr t):=fun j t ht=>by
  have hlt:=(List.getElem?_eq_some_iff.1 ht).1;rcases hrow.2 with ⟨_,h0⟩ | ⟨g,cap,cur,he,_,hgg,_,_,_,ht'⟩
  ·omega
  ·simp only [Value.slice.injEq] at he;refine ⟨g,he.1,?_⟩
   rw [cell_of hgg];have h2 : (sl.map encStr)[j]? = some (encStr t):=by rw [List.getElem?_map,ht];rfl
   rw [← ht',List.getElem?_take] at h2
   split at h2
   ·simpa using h2
   ·cases h2
 have HV:=zQ hV;have HEL:=zQ hel;have HTM:=zQ htm;have HWH:=zQ hwh;clear hV hel htm hwh hrow hsl;go_enter Tryz.func48,Tryz.ntmps48;go_wp2_with fail;go_loopw [4,12] (fun v i wr=>∃ j : Nat,j ≤ sl.length ∧ i = .int .i64 j ∧ Ext w wr ∧ wr.ownsRow w.heap.size 9 1 v (wholesJ (sl.take j)).length ((wholesJ (sl.take j)).map encStr) ∧ Hid (∀ t ∈ sl.take j,(partsV hf (ofBytes t)).length ≤ 12)) (fun _ i _=>sl.length - (intOf i).toNat)
 case atStart=>exact ⟨0,Nat.zero_le _,rfl,ext_refl _,World.ownsRow_nil _ _ _ _,fun t ht=>by simp at ht⟩
 case round=>
  obtain ⟨j,hj,rfl,hx,hrow,HP⟩:=hrel;by_cases hlt : j < sl.length
  ·obtain ⟨t,ht⟩ : ∃ t,sl[j]? = some t:=⟨_,List.getElem?_eq_getElem hlt⟩;obtain ⟨tb,rfl,hct0⟩:=HEL.out j t ht;have hct : wr.cell? ⟨tb,j,none⟩ = some (encStr t):=hx.cell' hct0;rw [show encStr t = .string (ofBytes t) from rfl] at hct
   have htk : sl.take (j + 1) = sl.take j ++ [t]:=by rw [List.take_add_one,ht];rfl
   obtain ⟨s,hs⟩ : ∃ s,ofBytes t = s:=⟨_,rfl⟩;rw [hs] at hct;obtain ⟨pp,pc,hprow,hpl⟩:=HV.out.partLook s;have hlk:=hpl wr hx;obtain ⟨pn,hpn⟩ : ∃ pn,(partsV hf s).length = pn:=⟨_,rfl⟩;rw [hpn] at hlk;have hpn' : pn < 9223372036854775807:=by
    rw [← hpn];have h1 : (partsV hf s).length ≤ (subsV hf).length:=List.length_filter_le _ _;have:=HLEN.out
    omega
   have d0:=hx.cell' c0;have d1:=hx.cell' c1;obtain ⟨lp',lc',rfl⟩:=owns_form hrow;have HX:=zQ hx;have HROW:=zQ hrow;have HTK:=zQ htk;have HT:=zQ ht;have HPN:=zQ hpn;have HSE:=zQ hs;clear hx hrow htk ht hpn hs hprow hpl hct0;by_cases h12 : 12 < pn
   ·go_wp2_with fail;refine bodyPost_ret (v:=.tuple #[.slice none 0 0,.int .i64 5]) (by simp [results,Tryz.results48,go_sem]) rfl ?_
    refine ⟨.inl ⟨?_,rfl⟩,HX.out⟩
    rw [HTM.out,List.any_eq_true];refine ⟨t,zM HT.out,?_⟩
    rw [HSE.out,HPN.out]
    simpa using h12
   ·have HP' : Hid (∀ t ∈ sl.take (j + 1),(partsV hf (ofBytes t)).length ≤ 12):=zQ (by
     rw [HTK.out];intro u hu
     rcases List.mem_append.1 hu with hu | hu
     ·exact HP.out u hu
     ·rw [List.mem_singleton.1 hu,HSE.out,HPN.out];omega)
    have hcon:=contains_any s wr;obtain ⟨b,hb⟩ : ∃ b,isPart s = b:=⟨_,rfl⟩;rw [hb] at hcon;have hsn:=wholesJ_snoc (sl.take j) t;rw [HSE.out,hb,← HTK.out] at hsn;have hle : (wholesJ (sl.take j)).length ≤ 100000:=by
     have h1:=wholesJ_le (sl.take j);rw [List.length_take] at h1;omega
    have HCON:=zQ hcon;have HSN:=zQ hsn;clear hcon hsn hb;go_upto_region 7 with fail;clear hlk;go_wp2_with fail;refine HCON.out.mono ?_;rintro e w7 ⟨rfl,rfl⟩;cases b with
    | true=>
     go_wp2_with fail;refine ⟨⟨j + 1,by omega,rfl,HX.out,?_,HP'⟩,by simp [intOf];omega⟩
     have h1:=HROW.out;have h2:=HSN.out;rw [if_pos trivial] at h2;rw [h2];exact h1
    | false=>
     obtain ⟨W9,hW9⟩ : ∃ W9,W9 = wr.alloc (.cells #[.string s] 9 (0,0)):=⟨_,rfl⟩;have hx9 : Ext wr W9:=by rw [hW9];exact bel
     have hb9 : W9.heap[wr.heap.size]? = some (.cells #[.string s] 9 (0,0)):=by rw [hW9];exact zG
     have hrow9:=owns_keep HROW.out fun g cs _ hgg=>hx9.block g (heap_lt hgg)
     obtain ⟨v',w10,happ,hrow',hgrow,_⟩:=append_strs (row:=[.string s]) hrow9 wr.heap.size 1 rfl (fun k u hj=>by rw [Nat.zero_add,cell_of hb9 k,List.getElem?_toArray];exact hj) (fun u hu=>by simp at hu;subst hu;rfl) (by omega) (Nat.le_trans HX.out.size hx9.size) 1
     have hx10 : Ext w w10:=(HX.out.trans' hx9).grown hgrow (Nat.le_trans HX.out.size hx9.size) fun k hk=>(owns_block hrow9 hk).1
     rw [hW9] at happ;have HAPP:=zQ happ;have HX10:=zQ hx10;have HROW':=zQ hrow';clear hW9 hx9 hb9 hrow9 happ hrow' hgrow hx10;go_wp2_with (at_builtin;refine wpList_append_run rfl _ _ 26 rfl rfl rfl HAPP.out ?_)
     refine ⟨⟨j + 1,by omega,rfl,HX10.out,?_,HP'⟩,by simp [intOf];omega⟩
     have h2:=HSN.out;rw [if_neg (by simp)] at h2
     rw [h2,List.length_append,List.map_append,List.map_cons,List.map_nil,show encStr t = .string s from congrArg Value.string HSE.out]
     exact HROW'.out
  ·obtain rfl : j = sl.length:=by omega
   obtain ⟨lp',lc',rfl⟩:=owns_form hrow;have HX:=zQ hx;have HROW:=zQ hrow;clear hx hrow;go_wp2_with fail;refine bodyPost_ret (v:=.tuple #[.slice lp' (wholesJ (sl.take sl.length)).length lc',.int .i64 0]) (by simp [results,Tryz.results48,go_sem]) rfl ?_
   have hta : sl.take sl.length = sl:=List.take_length;refine ⟨.inr ⟨?_,_,rfl,?_⟩,HX.out⟩
   ·rw [HTM.out,List.any_eq_false];intro t ht
    have:=HP.out t (by rw [hta];exact ht)
    simp;omega
   ·rw [HWH.out];have h1:=HROW.out;rw [hta] at h1 ⊢
    exact h1
end
section
open Go.Lib Go.Sort Go.Maps Go.Shelf Go.Proofs
theorem updO_mem (l : List Nat) (b x : Nat) : x ∈ updO l b ↔ x ∈ l ∨ x = b:=by
 unfold updO
 split
 ·rename_i h
  constructor
  ·exact .inl
  ·rintro (h' | rfl)
   ·exact h'
   ·exact h
 ·simp
theorem updO_nodup {l : List Nat} (h : l.Nodup) (b : Nat) : (updO l b).Nodup:=by
 unfold updO
 split
 ·exact h
 ·rename_i hb
  rw [List.nodup_append];refine ⟨h,by simp,fun a ha c hc=>?_⟩
  rw [List.mem_singleton.1 hc];rintro rfl;exact hb ha
theorem updR_iff {ρ ρ' : Nat → Int} {c : Nat} {n : Int} {r : List Nat} (hc : c ∉ r) : (∀ d,d ∉ r → ρ' d = updR ρ c n d) ↔ ρ' c = n ∧ ∀ d,d ∉ c :: r → ρ' d = ρ d:=by
 constructor
 ·intro h
  refine ⟨?_,fun d hd=>?_⟩
  ·have:=h c hc
   rw [this];unfold updR;rw [if_pos rfl]
  ·have h1 : d ≠ c:=fun e=>hd (e ▸ List.mem_cons_self)
   have h2 : d ∉ r:=fun e=>hd (List.mem_cons_of_mem _ e)
   rw [h d h2];unfold updR;rw [if_neg h1]
 ·rintro ⟨h1,h2⟩ d hd;unfold updR;by_cases e : d = c
  ·rw [if_pos e,e,h1]
  ·rw [if_neg e];exact h2 d fun hm=>by
    rcases List.mem_cons.1 hm with hm | hm
    ·exact e hm
    ·exact hd hm
theorem runW_spec (smp : Nat → List Int) (b : (Nat → Int) → Nat) : ∀ (cols : List Nat),cols.Nodup → ∀ (ρ : Nat → Int) (l : List Nat),
  (∀ d,d ∉ cols → (runW smp b cols (ρ,l)).1 d = ρ d) ∧ (∀ x,x ∈ (runW smp b cols (ρ,l)).2 ↔ x ∈ l ∨ ∃ ρ',(∀ d ∈ cols,ρ' d ∈ smp d) ∧ (∀ d,d ∉ cols → ρ' d = ρ d) ∧ b ρ' = x)
 | [],_,ρ,l=>by
  refine ⟨fun d _=>rfl,fun x=>?_⟩
  show x ∈ updO l (b ρ) ↔ _
  rw [updO_mem];constructor
  ·rintro (h | rfl)
   ·exact .inl h
   ·exact .inr ⟨ρ,(by simp),fun _ _=>rfl,rfl⟩
  ·rintro (h | ⟨ρ',_,h2,rfl⟩)
   ·exact .inl h
   ·have : ρ' = ρ:=funext fun d=>h2 d (by simp)
    rw [this];exact .inr rfl
 | c :: r,hn,ρ,l=>by
  obtain ⟨hc,hr⟩:=List.nodup_cons.1 hn;have ih:=runW_spec smp b r hr;have key : ∀ (ns : List Int) (ρ : Nat → Int) (l : List Nat),
    (∀ d,d ∉ c :: r → (ns.foldl (fun st n=>runW smp b r (updR st.1 c n,st.2)) (ρ,l)).1 d = ρ d) ∧ (∀ x,x ∈ (ns.foldl (fun st n=>runW smp b r (updR st.1 c n,st.2)) (ρ,l)).2 ↔ x ∈ l ∨ ∃ ρ',ρ' c ∈ ns ∧ (∀ d ∈ r,ρ' d ∈ smp d) ∧ (∀ d,d ∉ c :: r → ρ' d = ρ d) ∧ b ρ' = x):=by
   intro ns
   induction ns with
   | nil=>intro ρ l;exact ⟨fun _ _=>rfl,fun x=>⟨.inl,fun h=>h.elim id fun ⟨_,h,_⟩=>by simp at h⟩⟩
   | cons n ns ihn=>
    intro ρ l
    rw [List.foldl_cons];obtain ⟨st1,hst1⟩ : ∃ st1,runW smp b r (updR ρ c n,l) = st1:=⟨_,rfl⟩;have h1:=ih (updR ρ c n) l;have h2:=ihn st1.1 st1.2
    show (∀ d,d ∉ c :: r → (ns.foldl (fun st n=>runW smp b r (updR st.1 c n,st.2)) (runW smp b r (updR ρ c n,l))).1 d = ρ d) ∧ _
    simp only [hst1] at h1 ⊢
    have hoff : ∀ d,d ∉ c :: r → st1.1 d = ρ d:=((updR_iff hc).1 h1.1).2;refine ⟨fun d hd=>(h2.1 d hd).trans (hoff d hd),fun x=>?_⟩
    rw [h2.2 x,h1.2 x];constructor
    ·rintro ((h | ⟨ρ',g1,g2,g3⟩) | ⟨ρ',g1,g2,g3,g4⟩)
     ·exact .inl h
     ·obtain ⟨e1,e2⟩:=(updR_iff hc).1 g2;exact .inr ⟨ρ',by rw [e1];exact List.mem_cons_self,g1,e2,g3⟩
     ·exact .inr ⟨ρ',List.mem_cons_of_mem _ g1,g2,fun d hd=>(g3 d hd).trans (hoff d hd),g4⟩
    ·rintro (h | ⟨ρ',g1,g2,g3,g4⟩)
     ·exact .inl (.inl h)
     ·rcases List.mem_cons.1 g1 with g1 | g1
      ·exact .inl (.inr ⟨ρ',g2,(updR_iff hc).2 ⟨g1,g3⟩,g4⟩)
      ·exact .inr ⟨ρ',g1,g2,fun d hd=>(g3 d hd).trans (hoff d hd).symm,g4⟩
  have h:=key (smp c) ρ l;refine ⟨h.1,fun x=>(h.2 x).trans ?_⟩
  constructor
  ·rintro (h | ⟨ρ',g1,g2,g3,g4⟩)
   ·exact .inl h
   ·refine .inr ⟨ρ',fun d hd=>?_,g3,g4⟩
    rcases List.mem_cons.1 hd with rfl | hd
    ·exact g1
    ·exact g2 d hd
  ·rintro (h | ⟨ρ',g1,g2,g3⟩)
   ·exact .inl h
   ·exact .inr ⟨ρ',g1 c List.mem_cons_self,fun d hd=>g1 d (List.mem_cons_of_mem _ hd),g2,g3⟩
theorem runW_nodup (smp : Nat → List Int) (b : (Nat → Int) → Nat) : ∀ (cols : List Nat) (st : (Nat → Int) × List Nat),st.2.Nodup → (runW smp b cols st).2.Nodup
 | [],st,h=>updO_nodup h _
 | c :: r,st,h=>by
  show ((smp c).foldl (fun st n=>runW smp b r (updR st.1 c n,st.2)) st).2.Nodup
  generalize smp c = ns
  induction ns generalizing st with
  | nil=>exact h
  | cons n ns ih=>
   rw [List.foldl_cons];exact ih _ (runW_nodup smp b r _ h)
theorem runW_mem {smp : Nat → List Int} {b : (Nat → Int) → Nat} {cols : List Nat} (hn : cols.Nodup) (x : Nat) : x ∈ (runW smp b cols (fun _=>0,[])).2 ↔ ∃ ρ,(∀ d ∈ cols,ρ d ∈ smp d) ∧ (∀ d,d ∉ cols → ρ d = 0) ∧ b ρ = x:=by
 rw [(runW_spec smp b cols hn _ _).2 x];simp
theorem bitsK_one (bs : List Bool) : bitsK bs 1 = if bs.getD 0 false then 1 else 0:=by
 rw [bitsK_succ]
 split <;> simp [bitsK]
theorem runW_two {smp : Nat → List Int} {φ : (Nat → Int) → Bool} {cols : List Nat} (hn : cols.Nodup) : (runW smp (fun ρ=>bitsK [φ ρ] 1) cols (fun _=>0,[])).2.length ≤ 2:=by
 have h1:=runW_nodup smp (fun ρ=>bitsK [φ ρ] 1) cols (fun _=>0,[]) List.nodup_nil
 have h2:=nodup_sub (m:=[0,1]) h1 fun x hx=>by
  obtain ⟨ρ,_,_,rfl⟩:=(runW_mem hn x).1 hx;rw [bitsK_one]
  split <;> simp
 exact h2
end
section
open Go.Lib Go.Sort Go.Maps Go.Shelf Go.Proofs
theorem sl_one {w : World} {b : Nat} {x : Value} {T : TypeId} (hb : w.heap[b]? = some (.cells #[x] T (0,0))) : SlAt w (.slice (some ⟨b,0,none⟩) 1 1) 1 1 [x]:=
 ⟨_,1,rfl,Nat.le_refl _,by decide,rfl,fun j u hu=>⟨b,0,rfl,by rw [cell_of hb,Nat.zero_add,List.getElem?_toArray];exact hu⟩⟩
def likeK (l : List Nat) : Int:=if 1 ∈ l then (if l.length = 1 then 1 else 2) else 3
theorem allM_one (q : Qn) (c : Nat) : allM [q] c = q.marks c:=by
 show mergeM (fun _=>none) q.marks c = q.marks c
 unfold mergeM;cases q.marks c <;> simp
theorem like0_any {B : Nat} {w : World} {rb : Nat} {R : Rec} {cm : Nat} {vv fv : Value} {os : List (Option Nat × Option Nat)} {xs : List (List Value)} (h : RecAt B w rb R cm vv fv os xs) {B2 : Nat} {vb : Nat} {hf : List (Int × FR)} {sv : Value} {mp mk mf md : Nat} {lp : List (ByteArray × Value)} {lk lf ld : List ((ByteArray × Nat) × Value)}
  (hV : ViewAt B2 w vb hf sv mp mk mf md lp lk lf ld) (hfc : ∀ y ∈ hf,(y.2.attr,y.2.col) ∈ R.cols) (hfb : ∀ y ∈ hf,y.2.st.bits < 256) {Bq hi qb : Nat} {q : Qn} {tv : Value} {mb : Nat} {lm : List (Nat × Value)} (hq : QAt Bq hi R w qb q tv mb lm) (sb : Nat) (hsb : w.heap[sb]? = some (.cells #[.pointer (some ⟨qb,0,none⟩),.slice none 0 0] 163 (0,0)))
  (hshort : ∀ c l,q.marks c = some l → l.length ≤ 2000) (s : ByteArray) (hp : partsV hf s = []) (smp : Nat → List Int) (hsmp : ∀ a c,(a,c) ∈ R.cols → smp c = sampF a (ofV hf (s,c) a) ((q.marks c).getD [])) :
  Calls Tryz.prog 49 #[.pointer (some ⟨vb,0,none⟩),.string s,.pointer (some ⟨sb,0,none⟩)] w fun e w'=>∃ cols,e = .returned (.int .u8 (likeK (runW smp (fun ρ=>bitsK [q.φ ρ] 1) cols (fun _=>0,[])).2)) ∧ cols.Nodup ∧ (∀ c,c ∈ cols ↔ (q.marks c).isSome = true) ∧ Ext w w':=by
 obtain ⟨W1,hW1⟩ : ∃ W1,W1 = w.alloc (.cells #[.int .u64 0] 118 (0,0)):=⟨_,rfl⟩;have hx1 : Ext w W1:=by rw [hW1];exact bel
 have hb1 : W1.heap[w.heap.size]? = some (.cells #[.int .u64 0] 118 (0,0)):=by rw [hW1];exact zG
 have hs1 : W1.heap.size = w.heap.size + 1:=by rw [hW1];simp
 obtain ⟨W2,hW2⟩ : ∃ W2,W2 = W1.alloc (.cells #[.pointer (some ⟨qb,0,none⟩)] 158 (0,0)):=⟨_,rfl⟩;have hx2 : Ext W1 W2:=by rw [hW2];exact bel
 have hb2 : W2.heap[W1.heap.size]? = some (.cells #[.pointer (some ⟨qb,0,none⟩)] 158 (0,0)):=by rw [hW2];exact zG
 rw [hs1] at hb2;have hxw:=hx1.trans' hx2;have hout:=outcomes_any (h.ext hxw) (hV.ext hxw) hfc hfb (qv:=.slice (some ⟨w.heap.size + 1,0,none⟩) 1 1) (qbs:=[qb]) (qs:=[q]) ⟨sl_one hb2,rfl,fun i qb' φ h1 h2=>by
   match i,h1,h2 with
   | 0,h1,h2=>
    obtain rfl:=zI h1;obtain rfl:=zI h2;exact ⟨tv,Bq,hi,cell_of (hq.ext hxw).blk 0,(hq.ext hxw).hiW,(hq.ext hxw).test⟩
   | i + 1,h1,_=>simp at h1⟩ (by simp) (fun i qb' q' h1 h2=>by
   match i,h1,h2 with
   | 0,h1,h2=>
    obtain rfl:=zI h1;obtain rfl:=zI h2;exact ⟨Bq,hi,tv,mb,lm,hq.ext hxw⟩
   | i + 1,h1,_=>simp at h1) (fun q' hq'=>by rw [List.mem_singleton.1 hq'];exact hshort) s smp (fun a c hc=>by rw [allM_one];exact hsmp a c hc)
 replace hout : Calls Tryz.prog 66 #[.pointer (some ⟨vb,0,none⟩),.string s,.slice (some ⟨w.heap.size + 1,0,none⟩) 1 1] W2 fun e w'=>∃ v cols,e = .returned v ∧ cols.Nodup ∧ (∀ c,c ∈ cols ↔ (allM [q] c).isSome = true) ∧ w'.ownsRow W2.heap.size 118 1 v (runW smp (fun ρ=>bitsK [q.φ ρ] 1) cols (fun _=>0,[])).2.length ((runW smp (fun ρ=>bitsK [q.φ ρ] 1) cols (fun _=>0,[])).2.map U64) ∧ Ext W2 w':=hout
 obtain ⟨pp,pc,_,hpl⟩:=hV.partLook s;rw [hp] at hpl;have hlk:=hpl W1 hx1;have hcon : ∀ W,Ext W1 W → Calls Tryz.prog 69 #[.slice (some ⟨w.heap.size,0,none⟩) 1 1,.int .u64 0] W fun e w'=>e = .returned (.bool true) ∧ W = w':=fun W hE=>by
  exact containsU_any W (.slice (some ⟨w.heap.size,0,none⟩) 1 1) [0] 0 (sl_one (hE.obj hb1))
 have v1 : W1.cell? ⟨vb,1,none⟩ = some (.map (some mp)):=hx1.cell' (cell_of hV.view 1);have s1 : W1.cell? ⟨sb,1,none⟩ = some (.slice none 0 0):=hx1.cell' (cell_of hsb 1);have s0 : W1.cell? ⟨sb,0,none⟩ = some (.pointer (some ⟨qb,0,none⟩)):=hx1.cell' (cell_of hsb 0);have HOUT:=zQ hout;have HCON:=zQ hcon;have HX1:=zQ hx1;have HX2:=zQ hx2;clear hout hcon hx1 hx2 hxw hq hV h hfc hfb hsb hshort hsmp hp hb1 hb2 hpl;go_enter Tryz.func49,Tryz.ntmps49;go_upto_region 2 with fail;rw [← hW1];clear hW1;go_wp2_with fail;go_loopw [7,25] (fun v i wr=>v = .slice (some ⟨w.heap.size,0,none⟩) 1 1 ∧ i = .int .i64 0 ∧ wr = W1) (fun _ _ _=>0)
 case atStart=>exact ⟨rfl,rfl,rfl⟩
 case round=>
  obtain ⟨rfl,rfl,rfl⟩:=hrel;go_upto_region 19 with fail;go_wp2_with fail;rw [← hW2];clear hW2;refine HOUT.out.mono ?_;rintro e w2 ⟨ov,cols,rfl,hnd,hkeys,hrow,hx⟩;obtain ⟨outs,houts⟩ : ∃ outs,(runW smp (fun ρ=>bitsK [q.φ ρ] 1) cols (fun _=>0,[])).2 = outs:=⟨_,rfl⟩
  replace hrow : w2.ownsRow W2.heap.size 118 1 ov (runW smp (fun ρ=>bitsK [q.φ ρ] 1) cols (fun _=>0,[])).2.length ((runW smp (fun ρ=>bitsK [q.φ ρ] 1) cols (fun _=>0,[])).2.map U64):=hrow
  rw [houts] at hrow;obtain ⟨op,oc,rfl⟩:=owns_form hrow;have hc1:=containsU_any w2 (.slice op outs.length oc) outs 1 (SlAt.of_owns hrow);have hc2:=HCON.out w2 (HX2.out.trans' hx)
  replace hc1 : Calls Tryz.prog 69 #[.slice op outs.length oc,.int .u64 1] w2 fun e w'=>e = .returned (.bool (decide (1 ∈ outs))) ∧ w2 = w':=hc1
  have hol : outs.length ≤ 2:=by rw [← houts];exact runW_two hnd
  have HC1:=zQ hc1;have HC2:=zQ hc2;have HO:=zQ houts;have HX:=zQ hx;have HND:=zQ hnd;have HKE:=zQ (show ∀ c,c ∈ cols ↔ (q.marks c).isSome = true from fun c=>by rw [hkeys c,allM_one])
  clear hc1 hc2 houts hx hnd hkeys hrow hlk v1 s1 s0;obtain ⟨b1,hb1⟩ : ∃ b1,decide (1 ∈ outs) = b1:=⟨_,rfl⟩;rw [hb1] at HC1;have HB1:=zQ hb1;clear hb1;cases b1 with
  | true=>
   have h1m : 1 ∈ outs:=by have:=HB1.out;simpa using this
   have H1M:=zQ h1m;clear h1m;go_wp2_with fail;refine HC1.out.mono ?_;rintro e w3 ⟨rfl,rfl⟩;go_wp2_with fail;refine HC2.out.mono ?_;rintro e w3 ⟨rfl,rfl⟩;by_cases hl1 : outs.length = 1
   ·have HL1:=zQ hl1;rw [hl1];clear hl1;go_wp2_with fail;go_ret
    refine ⟨cols,?_,HND.out,HKE.out,(HX1.out.trans' HX2.out).trans' HX.out⟩
    rw [HO.out];unfold likeK;rw [if_pos H1M.out,if_pos HL1.out]
    rfl
   ·go_wp2_with fail;go_ret
    refine ⟨cols,?_,HND.out,HKE.out,(HX1.out.trans' HX2.out).trans' HX.out⟩
    rw [HO.out];unfold likeK;rw [if_pos H1M.out,if_neg hl1]
    rfl
  | false=>
   have h1m : 1 ∉ outs:=by have:=HB1.out;simpa using this
   have H1M:=zQ h1m;clear h1m;go_wp2_with fail;refine HC1.out.mono ?_;rintro e w3 ⟨rfl,rfl⟩;go_wp2_with fail;go_ret
   refine ⟨cols,?_,HND.out,HKE.out,(HX1.out.trans' HX2.out).trans' HX.out⟩
   rw [HO.out];unfold likeK;rw [if_neg H1M.out]
   rfl
end
end Go.Proofs.YtihfcjioilmmjaaGreat
