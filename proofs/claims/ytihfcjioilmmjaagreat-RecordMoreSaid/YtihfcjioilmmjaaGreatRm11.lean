/- Lemmas: New. -/
import Derived.Test.YtihfcjioilmmjaaGreatRm1
import Derived.Test.YtihfcjioilmmjaaGreatRm2
set_option linter.all false
namespace Go.Proofs.YtihfcjioilmmjaaGreat
open Go Go.RowKit
theorem run_lenMap {κ : Type} [DecidableEq κ] {enc : κ → Value} {w : World} {b : Nat} {l : List (κ × Value)} {T K E : TypeId} (ht : Tryz.prog.underlying T = some (.map K E)) (hm : MapIs enc w b l) (z : TypeId) :
  (Builtin.len_ #[T] z #[.map (some b)]).run Tryz.prog w = .ok (.int .i64 (l.length : Int)) w:=by
 unfold MapIs at hm
 simp [Builtin.len_,run_underlying ht,getMap hm,Result.andThen,goInt]
 rw [entsFrom_length]
structure NewOk (l : List Attr) : Prop where
 few : l.length ≤ 12
 attrs : ∀ a ∈ l,AttrOk a
 names : (l.map (·.name)).Nodup
structure NewL (w : World) (schema : List Attr) (rb cm vb : Nat) (k : Nat) (cols : List (Attr × Nat)) (wr : World) : Prop where
 below : Below w.heap.size w wr
 hrb : w.heap.size ≤ rb
 hvb : w.heap.size ≤ vb
 hcm : w.heap.size ≤ cm
 blk : wr.heap[rb]? = some (.cells #[.map (some cm),.slice (some ⟨vb,0,none⟩) 1 1,.slice none 0 0] 100 (0,0))
 ver : wr.heap[vb]? = some (.cells #[.map none,.map none] 96 (0,0))
 hcols : MapIs Value.string wr cm (cols.map fun c=>(c.1.name,encP c.2))
 eq : cols.map (·.1) = schema.take k
 attrs : ∀ c ∈ cols,AttrOk c.1
 names : (cols.map (·.1.name)).Nodup
 colAt : ∀ c ∈ cols,ColK wr c.2 c.1
def bnd (a : Attr) : Bool:=decide (-1000000 ≤ a.low) && (decide (a.low ≤ a.high) && decide (a.high ≤ 1000000))
def puts (l : List ByteArray) : List (ByteArray × Value):=l.zipIdx.foldl (fun m x=>mput m x.1 (.int .i64 (x.2 : Int))) []
theorem puts_snoc (l : List ByteArray) (v : ByteArray) : puts (l ++ [v]) = mput (puts l) v (.int .i64 (l.length : Int)):=by
 unfold puts
 rw [List.zipIdx_append,List.foldl_append]
 simp
theorem puts_keys (l : List ByteArray) : (∀ v,v ∈ (puts l).map (·.1) ↔ v ∈ l) ∧ (puts l).length ≤ l.length ∧ ((puts l).length = l.length ↔ l.Nodup) ∧ (l.Nodup → puts l = l.zipIdx.map fun x=>(x.1,.int .i64 (x.2 : Int))):=by
 generalize hr : l.reverse = r
 induction r generalizing l with
 | nil=>
  obtain rfl : l = []:=by simpa using hr
  simp [puts]
 | cons x r ih=>
  obtain ⟨l0,rfl⟩ : ∃ l0,l = l0 ++ [x]:=⟨r.reverse,by rw [← List.reverse_reverse l,hr];simp⟩
  obtain ⟨h1,h2,h3,h4⟩:=ih l0 (by simpa using hr)
  have hl:=congrArg List.length (keys_mput (puts l0) x (.int .i64 (l0.length : Int)))
  rw [List.length_map] at hl
  have hl1 : x ∈ l0 → (mput (puts l0) x (.int .i64 (l0.length : Int))).length = (puts l0).length:=fun hx=>by
   rw [hl,if_pos ((h1 x).2 hx),List.length_map]
  have hl2 : x ∉ l0 → (mput (puts l0) x (.int .i64 (l0.length : Int))).length = (puts l0).length + 1:=fun hx=>by
   rw [hl,if_neg (fun h=>hx ((h1 x).1 h))];simp
  refine ⟨fun v=>?_,?_,?_,?_⟩
  ·rw [puts_snoc,keys_mput]
   split
   ·rename_i hx
    rw [h1] at hx ⊢
    simp only [List.mem_append,List.mem_singleton]
    exact ⟨.inl,fun h=>h.elim id (fun e=>e ▸ hx)⟩
   ·simp only [List.mem_append,List.mem_singleton,h1]
  ·rw [puts_snoc]
   simp only [List.length_append,List.length_singleton]
   by_cases hx : x ∈ l0
   ·rw [hl1 hx];omega
   ·rw [hl2 hx];omega
  ·rw [puts_snoc]
   simp only [List.length_append,List.length_singleton]
   have hnd : (l0 ++ [x]).Nodup ↔ l0.Nodup ∧ x ∉ l0:=by
    rw [List.nodup_append]
    simp only [List.mem_singleton]
    constructor
    ·rintro ⟨q1,_,q3⟩
     exact ⟨q1,fun hx=>q3 x hx x rfl rfl⟩
    ·rintro ⟨q1,q2⟩
     exact ⟨q1,by simp,fun a ha b hb=>by rw [hb];exact fun e=>q2 (e ▸ ha)⟩
   rw [hnd]
   by_cases hx : x ∈ l0
   ·rw [hl1 hx]
    constructor
    ·intro h;omega
    ·rintro ⟨_,h⟩;exact absurd hx h
   ·rw [hl2 hx,Nat.add_right_cancel_iff,h3]
    simp [hx]
  ·intro hnd
   have q:=List.nodup_append.1 hnd
   have hx : x ∉ l0:=fun hx=>q.2.2 x hx x (List.mem_singleton.2 rfl) rfl
   rw [puts_snoc,lookAt_none (puts l0) x 0 ?_,h4 q.1]
   ·rw [List.zipIdx_append];simp
   ·have hn : look (puts l0) x = none:=look_none_iff.2 (fun h=>hx ((h1 x).1 h))
    rw [← lookAt_look (puts l0) x 0] at hn
    simpa using hn
structure NewI (wr : World) (a : Attr) (k cb mb : Nat) (av v' : Value) (B2 : Nat) (m : List (ByteArray × Value)) (W : World) : Prop where
 below : Below wr.heap.size wr W
 box : W.heap[wr.heap.size]? = some (.cells #[.string a.name,av,.int .i64 a.low,.int .i64 a.high] 90 (0,0))
 col : W.heap[cb]? = some (.cells #[.string a.name,v',.int .i64 a.low,.int .i64 a.high,.int .i64 k,.map (some mb)] 104 (0,0))
 own : W.ownsRow B2 9 1 v' a.values.length (a.values.map Value.string)
 map : MapIs Value.string W mb m
theorem NewI.put {wr : World} {a : Attr} {k cb mb : Nat} {av v' : Value} {B2 : Nat} {m : List (ByteArray × Value)} {W : World} (h : NewI wr a k cb mb av v' B2 m W) (h1 : wr.heap.size < mb) (h2 : mb ≠ cb) (h3 : mb < B2) (m' : List (ByteArray × Value)) :
  NewI wr a k cb mb av v' B2 m' (wput Value.string W mb m'):=by
 have hs : mb < W.heap.size:=heap_lt h.map
 refine ⟨below_putObj h.below (by omega) _,?_,?_,?_,?_⟩
 ·unfold wput;rw [putObj_get,if_neg (by omega)];exact h.box
 ·unfold wput;rw [putObj_get,if_neg (by omega)];exact h.col
 ·refine owns_keep h.own fun g cs hg _=>?_
  unfold wput;rw [putObj_get,if_neg (by omega)]
 ·unfold MapIs wput;rw [putObj_get,if_pos rfl,if_pos hs]
theorem encP_mem {l : List (ByteArray × Value)} {W : World} {cm : Nat} (hcm : MapIs Value.string W cm l) {pb : Nat} {m : List (ByteArray × Value)} (hp : MapIs Value.string W pb m) (hl : ∃ x ∈ l,∃ q,x.2 = .pointer q) (hm : ∀ x ∈ m,∃ n,x.2 = .int .i64 n) : pb ≠ cm:=by
 rintro rfl
 unfold MapIs at hcm hp
 rw [hcm] at hp
 simp only [Option.some.injEq,Obj.map.injEq] at hp
 obtain ⟨he,hn⟩:=hp
 have he' : entsFrom Value.string 0 l = entsFrom Value.string 0 m:=by simpa using he
 obtain ⟨x,hx,q,hq⟩:=hl
 obtain ⟨i,hi⟩:=List.mem_iff_getElem?.1 hx
 have g1:=entsFrom_get Value.string 0 i l
 have g2:=entsFrom_get Value.string 0 i m
 rw [he',g2,hi] at g1
 cases hmi : m[i]? with
 | none=>rw [hmi] at g1;simp at g1
 | some y=>
  rw [hmi] at g1
  obtain ⟨n,hn⟩:=hm y (List.mem_of_getElem? hmi)
  simp only [Option.map_some,Option.some.injEq,MapEntry.mk.injEq] at g1
  rw [hn,hq] at g1
  exact absurd g1.2.1 (by simp)
theorem ColK.keep {W W' : World} {cb : Nat} {a : Attr} (h : ColK W cb a) {cm : Nat} {l : List (ByteArray × Value)} (hcm : MapIs Value.string W cm l) (hl : ∃ x ∈ l,∃ q,x.2 = .pointer q) (hk : ∀ k,k ≠ cm → W'.heap[k]? = W.heap[k]?) : ColK W' cb a:=by
 obtain ⟨vals,t,pb,h1,⟨B,h2⟩,h3,h4⟩:=h
 have hne : ∀ k cs T fr,W.heap[k]? = some (.cells cs T fr) → k ≠ cm:=by
  rintro k cs T fr hq rfl
  unfold MapIs at hcm
  rw [hcm] at hq
  simp at hq
 refine ⟨vals,t,pb,(hk cb (hne _ _ _ _ h1)).trans h1,⟨B,owns_keep h2 fun g cs _ hg=>hk g (hne _ _ _ _ hg)⟩,h3,(hk pb (encP_mem hcm h4 hl ?_)).trans h4⟩
 intro x hx
 obtain ⟨y,_,rfl⟩:=List.mem_map.1 hx
 exact ⟨_,rfl⟩
theorem NewL.step {w : World} {schema : List Attr} {rb cm vb k : Nat} {cols : List (Attr × Nat)} {wo wr W : World} {a : Attr} {cb mb : Nat} {av v' : Value} {B2 : Nat} (h : NewL w schema rb cm vb k cols wo) (hi : NewI wo a k cb mb av v' B2 (puts a.values) wr)
  (hx : Ext wr W) (ha : schema[k]? = some a) (hok : AttrOk a) (hn : look (cols.map fun c=>(c.1.name,encP c.2)) a.name = none) (hcb : wo.heap.size < cb) (hmb : wo.heap.size < mb) (hB : wo.heap.size < B2) (hsz : ∀ s ∈ a.values,s.size ≤ maxLen) :
  NewL w schema rb cm vb (k + 1) (cols ++ [(a,cb)]) (wput Value.string W cm (mput (cols.map fun c=>(c.1.name,encP c.2)) a.name (encP cb))):=by
 have hoW : Ext wo W:=Below.trans hi.below (Below.mono hx (hi.below.size))
 have hmW : MapIs Value.string W cm (cols.map fun c=>(c.1.name,encP c.2)):=h.hcols.ext hoW
 have hcl : cm < wo.heap.size:=heap_lt h.hcols
 have hcW : cm < W.heap.size:=heap_lt hmW
 have hput : mput (cols.map fun c=>(c.1.name,encP c.2)) a.name (encP cb) = (cols ++ [(a,cb)]).map fun c=>(c.1.name,encP c.2):=by
  rw [lookAt_none _ _ 0 ?_]
  ·simp
  ·rw [← lookAt_look _ _ 0] at hn;simpa using hn
 rw [hput]
 have hne : ∀ q,q ≠ cm → (wput Value.string W cm ((cols ++ [(a,cb)]).map fun c=>(c.1.name,encP c.2))).heap[q]? = W.heap[q]?:=fun q hq=>by unfold wput;rw [putObj_get,if_neg hq]
 have hcne : ∀ q cs T fr,W.heap[q]? = some (.cells cs T fr) → q ≠ cm:=by
  rintro q cs T fr hq rfl
  unfold MapIs at hmW
  rw [hmW] at hq
  simp at hq
 have hbW:=hoW.obj h.blk
 have hvW:=hoW.obj h.ver
 have hcolW:=hx.obj hi.col
 refine ⟨?_,h.hrb,h.hvb,h.hcm,(hne _ (hcne _ _ _ _ hbW)).trans hbW,(hne _ (hcne _ _ _ _ hvW)).trans hvW,?_,?_,?_,?_,?_⟩
 ·exact below_putObj (Below.trans h.below (Below.mono hoW h.below.size)) h.hcm _
 ·unfold MapIs wput;rw [putObj_get,if_pos rfl,if_pos hcW]
 ·rw [List.map_append,h.eq,List.take_add_one,ha];rfl
 ·intro c hc
  rcases List.mem_append.1 hc with hc | hc
  ·exact h.attrs c hc
  ·rw [List.mem_singleton.1 hc];exact hok
 ·rw [List.map_append,List.nodup_append]
  refine ⟨h.names,by simp,?_⟩
  intro x hx1 y hy
  simp only [List.map_cons,List.map_nil,List.mem_singleton] at hy
  subst hy
  rintro rfl
  refine look_none_iff.1 hn ?_
  obtain ⟨c,hc,he⟩:=List.mem_map.1 hx1
  rw [← he]
  exact List.mem_map.2 ⟨_,List.mem_map.2 ⟨c,hc,rfl⟩,rfl⟩
 ·intro c hc
  rcases List.mem_append.1 hc with hc | hc
  ·have hK:=h.colAt c hc
   have hKW : ColK W c.2 c.1:=by
    obtain ⟨vals,t,pb,h1,⟨B,h2⟩,h3,h4⟩:=hK
    exact ⟨vals,t,pb,hoW.obj h1,⟨B,owns_keep h2 fun g cs _ hg=>(hoW.block g (heap_lt hg))⟩,h3,h4.ext hoW⟩
   refine hKW.keep hmW ⟨_,List.mem_map.2 ⟨c,hc,rfl⟩,_,rfl⟩ hne
  ·rw [List.mem_singleton.1 hc]
   refine ⟨v',k,mb,(hne _ (hcne _ _ _ _ hcolW)).trans hcolW,⟨B2,?_⟩,hsz,?_⟩
   ·refine owns_keep hi.own fun g cs hg hgc=>?_
    exact (hne g (by omega)).trans (hx.block g (heap_lt hgc))
   ·have:=(puts_keys a.values).2.2.2 hok.nodup
    have hm:=hi.map.ext hx
    rw [this] at hm
    exact (hne mb (by omega)).trans hm
theorem bad_iff (a : Attr) (hnm : ∀ v ∈ a.values,nm v = true) {c2 c3 c4 c5 c6 c7 c8 : Bool} (h2 : nm a.name = c2) (h3 : decide (8 < (a.values.length : Int)) = c3) (h4 : (((puts a.values).length : Int) != (a.values.length : Int)) = c4)
  (h5 : bnd a = c5) (h6 : decide (a.values ≠ []) = c6) (h7 : (a.low != 0) = c7) (h8 : (a.high != 0) = c8) : (!c2 || (c3 || (c4 || (!c5 || (c6 && (c7 || c8)))))) = false ↔ AttrOk a:=by
 have hp:=(puts_keys a.values).2.2.1
 subst h2 h3 h4 h5 h6 h7 h8
 unfold bnd
 simp only [Bool.or_eq_false_iff,Bool.not_eq_false',Bool.and_eq_false_iff,decide_eq_false_iff_not,bne_eq_false_iff_eq,Bool.and_eq_true,decide_eq_true_eq]
 constructor
 ·rintro ⟨q1,q2,q3,⟨q4,q5,q6⟩,q7⟩
  refine ⟨q1,by omega,hnm,hp.1 (by omega),q4,q5,q6,fun hne=>?_⟩
  rcases q7 with q7 | q7
  ·exact absurd hne q7
  ·exact q7
 ·intro h
  refine ⟨h.name,by have:=h.small;omega,by have:=hp.2 h.nodup;omega,⟨h.low,h.ends,h.high⟩,?_⟩
  by_cases hv : a.values = []
  ·exact .inl (by simp [hv])
  ·exact .inr (h.zero hv)
theorem nodup_of {l : List ByteArray} (h : (((puts l).length : Int) != (l.length : Int)) = false) : l.Nodup:=(puts_keys l).2.2.1.1 (by have:=bne_eq_false_iff_eq.1 h;omega)
theorem dup_no {schema : List Attr} {k : Nat} {cols : List (Attr × Nat)} {a : Attr} (heq : cols.map (·.1) = schema.take k) (ha : schema[k]? = some a) (hs : (look (cols.map fun c=>(c.1.name,encP c.2)) a.name).isSome = true) : ¬ (schema.map (·.name)).Nodup:=by
 intro hnd
 rw [look_isSome_iff,List.map_map] at hs
 obtain ⟨c,hc,hce⟩:=List.mem_map.1 hs
 have hc1 : c.1 ∈ schema.take k:=by rw [← heq];exact List.mem_map.2 ⟨c,hc,rfl⟩
 obtain ⟨i,hi⟩:=List.mem_iff_getElem?.1 hc1
 rw [List.getElem?_take] at hi
 split at hi
 ·rename_i hik
  have g1 : (schema.map (·.name))[i]? = some a.name:=by
   rw [List.getElem?_map,hi]
   show some c.1.name = _
   rw [← hce];rfl
  have g2 : (schema.map (·.name))[k]? = some a.name:=by rw [List.getElem?_map,ha];rfl
  have:=(List.getElem?_inj (by exact (List.getElem?_eq_some_iff.1 g1).1) hnd).1 (g1.trans g2.symm)
  omega
 ·cases hi
def PutI (wc : World) (f : World → World) (us : List Value) (W : World) : Prop:=(us = [] ∧ Ext wc W) ∨ (us ≠ [] ∧ ∃ W',Ext wc W' ∧ W = f W')
theorem PutI.pre {wc : World} {f : World → World} {us : List Value} {W : World} (h : PutI wc f us W) (hl : us.length ≤ 0) : Ext wc W:=by
 rcases h with ⟨_,h⟩ | ⟨h,_⟩
 ·exact h
 ·exact absurd (List.eq_nil_of_length_eq_zero (by omega)) h
theorem NewL.done {w : World} {schema : List Attr} {rb cm vb k : Nat} {cols : List (Attr × Nat)} {wr : World} (h : NewL w schema rb cm vb k cols wr) (hk : k = schema.length) (hlen : schema.length ≤ 12) :
  NewOk schema ∧ cols.map (·.1) = schema ∧ RecAt w.heap.size wr rb ⟨cols,[⟨[],[]⟩],[]⟩ cm (.slice (some ⟨vb,0,none⟩) 1 1) (.slice none 0 0) [(none,none)] []:=by
 have he : cols.map (·.1) = schema:=by rw [h.eq,hk,List.take_length]
 have hn : schema.map (·.name) = cols.map (·.1.name):=by rw [← he,List.map_map];rfl
 have hl : cols.length ≤ 12:=by rw [← he] at hlen;simpa using hlen
 refine ⟨⟨hlen,fun a ha=>?_,by rw [hn];exact h.names⟩,he,?_⟩
 ·rw [← he] at ha
  obtain ⟨c,hc,rfl⟩:=List.mem_map.1 ha
  exact h.attrs c hc
 ·exact {
   base:=h.hrb,blk:=h.blk,cols:=h.hcols,colAt:=h.colAt
   vers:=⟨rfl,.inr ⟨vb,1,_,rfl,h.hvb,h.ver,Nat.le_refl _,by decide,rfl,rfl⟩⟩
   verLen:=rfl
   verAt:=fun i o v ho hv=>by
    cases i with
    | zero=>
     simp only [List.getElem?_cons_zero,Option.some.injEq] at ho hv
     subst ho hv
     exact ⟨.inl ⟨rfl,rfl⟩,.inl ⟨rfl,rfl⟩⟩
    | succ i=>simp at ho
   facts:=⟨rfl,.inl ⟨rfl,rfl⟩⟩,factLen:=rfl,four:=fun x h=>(by cases h)
   ok:={
    vers:=by simp,facts:=by simp,one:=by simp,attrs:=h.attrs,names:=h.names,few:=hl
    keys:=fun v hv=>by
     rw [List.mem_singleton.1 hv]
     exact ⟨List.nodup_nil,List.nodup_nil,fun n hn=>by cases hn⟩
    fact:=fun f hf=>by cases hf } }
set_option maxHeartbeats 4000000 in
set_option maxRecDepth 100000 in
theorem new_any (v : Value) (schema : List Attr) (w : World) (hs : AttrsAt w v schema) (hval : ∀ a ∈ schema,a.values.length * 16 ≤ 140737488355328) :
  Calls Tryz.prog 10 #[v] w fun e w'=>Ext w w' ∧
   ((¬ NewOk schema ∧ e = .returned (.tuple #[.pointer none,.int .i64 111])) ∨
    (NewOk schema ∧ ∃ rb cm vv cols,cols.map (·.1) = schema ∧ e = .returned (.tuple #[encP rb,.int .i64 0]) ∧ RecAt w.heap.size w' rb ⟨cols,[⟨[],[]⟩],[]⟩ cm vv (.slice none 0 0) [(none,none)] [])):=by
 obtain ⟨p,cap,rfl,hcap,hat⟩:=RowsAt.at (cells:=attrCells) (ok:=AttrAt) (k:=4) (by decide) (fun _ _=>rfl) hs
 have hml : schema.length ≤ maxLen:=by obtain ⟨_,_,h,_⟩:=hs;exact h.len
 unfold maxLen at hml
 have HAT:=Lib.hid hat
 have HVAL:=Lib.hid hval
 clear hat hval hs
 have hmm : ∀ t w,(Instr.makeMap t none).run Tryz.prog w = .ok (.map (some w.heap.size)) (w.alloc (.map #[] 0)):=fun _ _=>rfl
 go_enter Tryz.func10,Tryz.ntmps10
 by_cases hlen : schema.length ≤ 12
 rotate_left
 ·go_wp2_with fail
  refine bodyPost_ret (v:=.tuple #[.pointer none,.int .i64 111]) (by simp [results,Tryz.results10,go_sem]) rfl ⟨by exact bel,Or.inl ⟨fun h=>hlen h.few,rfl⟩⟩
 ·go_upto_region 4 with fail
  have hall : ∃ W0,W0 = ((w.alloc (.map #[] 0)).alloc (.cells #[.map none,.map none] 96 (0,0))).alloc (.cells #[.map (some w.heap.size),.slice (some ⟨w.heap.size + 1,0,none⟩) 1 1,.slice none 0 0] 100 (0,0)):=⟨_,rfl⟩
  obtain ⟨W0,hW0⟩:=hall
  have hL : NewL w schema (w.heap.size + 1 + 1) w.heap.size (w.heap.size + 1) 0 [] W0:=by
   refine ⟨by rw [hW0];exact bel,by omega,by omega,by omega,?_,?_,?_,rfl,fun c h=>(by cases h),List.nodup_nil,fun c h=>(by cases h)⟩
   · rw [hW0];simp only [heap_drawn_get,heap_drew_get,heap_setCell_get,heap_alloc_get,World.size_alloc,World.size_setCell,size_drawn,putObj_get,putObj_size];(repeat (first | rw [if_pos trivial] | rw [if_pos rfl] | rw [if_neg (by omega)] | rw [if_pos (by omega)]))
   · rw [hW0];simp only [heap_drawn_get,heap_drew_get,heap_setCell_get,heap_alloc_get,World.size_alloc,World.size_setCell,size_drawn,putObj_get,putObj_size];(repeat (first | rw [if_pos trivial] | rw [if_pos rfl] | rw [if_neg (by omega)] | rw [if_pos (by omega)]))
   · rw [hW0];unfold MapIs;simp only [heap_drawn_get,heap_drew_get,heap_setCell_get,heap_alloc_get,World.size_alloc,World.size_setCell,size_drawn,putObj_get,putObj_size];(repeat (first | rw [if_pos trivial] | rw [if_pos rfl] | rw [if_neg (by omega)] | rw [if_pos (by omega)]));rfl
  try rw [← hW0]
  clear hW0
  go_wp2_with fail
  go_loopw [5,6,7,8,9,10,11,12,23] (fun _ _ _ _ _ _ _ _ i wr=>∃ (k : Nat) (cols : List (Attr × Nat)),k ≤ schema.length ∧ i = .int .i64 k ∧ NewL w schema (w.heap.size + 1 + 1) w.heap.size (w.heap.size + 1) k cols wr) (fun _ _ _ _ _ _ _ _ i _=>schema.length - (intOf i).toNat)
  case atStart=>exact ⟨0,[],Nat.zero_le _,rfl,hL⟩
  case round=>
   obtain ⟨k,cols,hk,rfl,hR⟩:=hrel
   clear hL W0
   obtain ⟨wo,rfl⟩ : ∃ wo,wo = wr:=⟨wr,rfl⟩
   by_cases hlt : k < schema.length
   rotate_left
   · have hd:=hR.done (by omega) hlen
     have HD:=Lib.hid hd
     have HB:=Lib.hid hR.below
     clear hd hR
     go_wp2_with fail
     refine bodyPost_ret (v:=.tuple #[.pointer (some ⟨w.heap.size + 1 + 1,0,none⟩),.int .i64 0]) (by simp [results,Tryz.results10,go_sem]) rfl ⟨HB.out,Or.inr ⟨HD.out.1,w.heap.size + 1 + 1,_,_,cols,HD.out.2.1,rfl,HD.out.2.2⟩⟩
   · obtain ⟨a,ha⟩ : ∃ a,schema[k]? = some a:=⟨_,List.getElem?_eq_getElem hlt⟩
     obtain ⟨eb,eo,u,rfl,hattr,hcell⟩:=HAT.out k a ha
     obtain ⟨up,ucap,rfl⟩ : ∃ up ucap,u = .slice up a.values.length ucap:=let ⟨⟨p,c,h,_⟩,_⟩:=hattr.1;⟨p,c,h⟩
     have hml8 : a.values.length ≤ maxLen:=let ⟨⟨_,_,_,_,h,_⟩,_⟩:=hattr.1;h
     unfold maxLen at hml8
     have e0 : wo.cell? ⟨eb,eo + k * 4,none⟩ = some (.string a.name):=Ext.cell' hR.below (hcell 0 _ rfl)
     have e1 : wo.cell? ⟨eb,eo + k * 4 + 1,none⟩ = some (.slice up a.values.length ucap):=Ext.cell' hR.below (hcell 1 _ rfl)
     have e2 : wo.cell? ⟨eb,eo + k * 4 + 2,none⟩ = some (.int .i64 a.low):=Ext.cell' hR.below (hcell 2 _ rfl)
     have e3 : wo.cell? ⟨eb,eo + k * 4 + 3,none⟩ = some (.int .i64 a.high):=Ext.cell' hR.below (hcell 3 _ rfl)
     clear hcell
     go_upto_region 7 with fail
     have hall : ∃ W1,W1 = wo.alloc (.cells #[.string a.name,.slice up a.values.length ucap,.int .i64 a.low,.int .i64 a.high] 90 (0,0)):=⟨_,rfl⟩
     obtain ⟨W1,hW1⟩:=hall
     rw [← hW1]
     have hx1 : Ext wo W1:=by rw [hW1];exact bel
     have hb6 : W1.heap[wo.heap.size]? = some (.cells #[.string a.name,.slice up a.values.length ucap,.int .i64 a.low,.int .i64 a.high] 90 (0,0)):=by rw [hW1];simp only [heap_drawn_get,heap_drew_get,heap_setCell_get,heap_alloc_get,World.size_alloc,World.size_setCell,size_drawn,putObj_get,putObj_size];(repeat (first | rw [if_pos trivial] | rw [if_pos rfl] | rw [if_neg (by omega)] | rw [if_pos (by omega)]))
     have hs1 : wo.heap.size < W1.heap.size:=by rw [hW1,World.size_alloc];omega
     clear hW1 e0 e1 e2 e3
     have c0 : W1.cell? ⟨wo.heap.size,0,none⟩ = some (.string a.name):=cell_of hb6 0
     have c1 : W1.cell? ⟨wo.heap.size,1,none⟩ = some (.slice up a.values.length ucap):=cell_of hb6 1
     have c2 : W1.cell? ⟨wo.heap.size,2,none⟩ = some (.int .i64 a.low):=cell_of hb6 2
     have c3 : W1.cell? ⟨wo.heap.size,3,none⟩ = some (.int .i64 a.high):=cell_of hb6 3
     go_upto_region 8 with fail
     have hall : ∃ W2,W2 = (W1.alloc (.map #[] 0)).alloc (.cells #[.string a.name,.slice up a.values.length ucap,.int .i64 a.low,.int .i64 a.high,.int .i64 (k : Int),.map (some W1.heap.size)] 104 (0,0)):=⟨_,rfl⟩
     obtain ⟨W2,hW2⟩:=hall
     rw [← hW2]
     have hx2 : Ext W1 W2:=by rw [hW2];exact bel
     have hm2 : MapIs Value.string W2 W1.heap.size []:=by rw [hW2];unfold MapIs;simp only [heap_drawn_get,heap_drew_get,heap_setCell_get,heap_alloc_get,World.size_alloc,World.size_setCell,size_drawn,putObj_get,putObj_size];(repeat (first | rw [if_pos trivial] | rw [if_pos rfl] | rw [if_neg (by omega)] | rw [if_pos (by omega)]));rfl
     have hc2 : W2.heap[W1.heap.size + 1]? = some (.cells #[.string a.name,.slice up a.values.length ucap,.int .i64 a.low,.int .i64 a.high,.int .i64 (k : Int),.map (some W1.heap.size)] 104 (0,0)):=by rw [hW2];simp only [heap_drawn_get,heap_drew_get,heap_setCell_get,heap_alloc_get,World.size_alloc,World.size_setCell,size_drawn,putObj_get,putObj_size];(repeat (first | rw [if_pos trivial] | rw [if_pos rfl] | rw [if_neg (by omega)] | rw [if_pos (by omega)]))
     have hs2 : W2.heap.size = W1.heap.size + 2:=by rw [hW2,World.size_alloc,World.size_alloc]
     clear hW2 c0 c1 c2 c3
     have c1 : W2.cell? ⟨wo.heap.size,1,none⟩ = some (.slice up a.values.length ucap):=cell_of (hx2.obj hb6) 1
     go_wp2_with fail
     refine (clone_any _ a.values W2 (((hattr.1.ext hR.below).ext hx1).ext hx2) (HVAL.out a (List.mem_of_getElem? ha))).mono ?_
     rintro e w3 ⟨v',rfl,hown,hx3⟩
     obtain ⟨vp,vcap,rfl⟩:=owns_form hown
     have hc3:=hx3.obj hc2
     have hm3:=MapIs.ext hm2 hx3
     have hb3:=hx3.obj (hx2.obj hb6)
     have d0 : w3.cell? ⟨W1.heap.size + 1,0,none⟩ = some (.string a.name):=cell_of hc3 0
     have d1 : w3.cell? ⟨W1.heap.size + 1,1,none⟩ = some (.slice up a.values.length ucap):=cell_of hc3 1
     have fd1:=frozen_of hc3 1
     have d2 : w3.cell? ⟨W1.heap.size + 1,2,none⟩ = some (.int .i64 a.low):=cell_of hc3 2
     have d3 : w3.cell? ⟨W1.heap.size + 1,3,none⟩ = some (.int .i64 a.high):=cell_of hc3 3
     have d4 : w3.cell? ⟨W1.heap.size + 1,4,none⟩ = some (.int .i64 (k : Int)):=cell_of hc3 4
     have d5 : w3.cell? ⟨W1.heap.size + 1,5,none⟩ = some (.map (some W1.heap.size)):=cell_of hc3 5
     clear c1
     go_upto_region 9 with fail
     have hall : ∃ W4,W4 = w3.setCell ⟨W1.heap.size + 1,1,none⟩ (.slice vp a.values.length vcap):=⟨_,rfl⟩
     obtain ⟨W4,hW4⟩:=hall
     rw [← hW4]
     have hI : NewI wo a k (W1.heap.size + 1) W1.heap.size (.slice up a.values.length ucap) (.slice vp a.values.length vcap) W2.heap.size (puts (a.values.take 0)) W4:=by
      have hb : Below wo.heap.size wo w3:=(hx1.trans' hx2).trans' hx3
      refine ⟨?_,?_,?_,?_,?_⟩
      ·rw [hW4];exact bel
      ·rw [hW4];simp only [heap_drawn_get,heap_drew_get,heap_setCell_get,heap_alloc_get,World.size_alloc,World.size_setCell,size_drawn,putObj_get,putObj_size];(repeat (first | rw [if_pos trivial] | rw [if_pos rfl] | rw [if_neg (by omega)] | rw [if_pos (by omega)]));exact hb3
      ·rw [hW4];simp only [heap_drawn_get,heap_drew_get,heap_setCell_get,heap_alloc_get,World.size_alloc,World.size_setCell,size_drawn,putObj_get,putObj_size];(repeat (first | rw [if_pos trivial] | rw [if_pos rfl] | rw [if_neg (by omega)] | rw [if_pos (by omega)]));rw [hc3];rfl
      ·refine owns_keep hown fun g cs hg _=>?_
       rw [hW4];simp only [heap_drawn_get,heap_drew_get,heap_setCell_get,heap_alloc_get,World.size_alloc,World.size_setCell,size_drawn,putObj_get,putObj_size];(repeat (first | rw [if_pos trivial] | rw [if_pos rfl] | rw [if_neg (by omega)] | rw [if_pos (by omega)]))
      ·unfold MapIs;rw [hW4];simp only [heap_drawn_get,heap_drew_get,heap_setCell_get,heap_alloc_get,World.size_alloc,World.size_setCell,size_drawn,putObj_get,putObj_size];(repeat (first | rw [if_pos trivial] | rw [if_pos rfl] | rw [if_neg (by omega)] | rw [if_pos (by omega)]));exact hm3
     clear hW4 hown hc3 hm3 hb3 hc2 hm2 d0 d1 d2 d3 d4 d5 fd1
     have f1 : W4.cell? ⟨wo.heap.size,1,none⟩ = some (.slice up a.values.length ucap):=cell_of hI.box 1
     go_wp2_with fail
     clear f1
     have hel : ∀ j (s : ByteArray),a.values[j]? = some s → ∃ b off,up = some ⟨b,off,none⟩ ∧ w.cell? ⟨b,off + j,none⟩ = some (.string s):=by
      intro j s hs
      obtain ⟨⟨p,c,h,_,_,_,h5⟩,_⟩:=hattr.1
      simp only [Value.slice.injEq] at h
      obtain ⟨rfl,_,rfl⟩:=h
      exact h5 j (.string s) (by simp [hs])
     have HEL:=Lib.hid hel
     have HSZ:=Lib.hid hattr.1.2
     have HWR:=Lib.hid hR
     clear hel hb6 hR
     go_loopw [8,9,43] (fun _ _ i W=>∃ (j : Nat),j ≤ a.values.length ∧ i = .int .i64 j ∧ Hid (∀ v ∈ a.values.take j,nm v = true) ∧ NewI wo a k (W1.heap.size + 1) W1.heap.size (.slice up a.values.length ucap) (.slice vp a.values.length vcap) W2.heap.size (puts (a.values.take j)) W) (fun _ _ i _=>a.values.length - (intOf i).toNat)
     case atStart=>exact ⟨0,Nat.zero_le _,rfl,Lib.hid (fun v hv=>by simp at hv),hI⟩
     case round=>
      clear hI
      obtain ⟨j,hj,rfl,hnm,hJ⟩:=hrel
      by_cases hjl : j < a.values.length
      rotate_left
      ·obtain rfl : j = a.values.length:=by omega
       rw [List.take_length] at hnm hJ
       go_upto_region 16 with fail
       have hr0 : wr.cell? ⟨w.heap.size + 1 + 1,0,none⟩ = some (.map (some w.heap.size)):=Ext.cell' hJ.below (cell_of HWR.out.blk 0)
       have hlk : ∀ W,Ext wr W → (Instr.lookup 93 (.map (some w.heap.size)) (.string a.name) true).run Tryz.prog W = .ok (.tuple #[(look (cols.map fun c=>(c.1.name,encP c.2)) a.name).getD (.pointer none),.bool (look (cols.map fun c=>(c.1.name,encP c.2)) a.name).isSome]) W:=fun W hW=>
        run_lookup2 (P:=Tryz.prog) (T:=93) (K:=9) (E:=101) (z:=.pointer none) (k:=a.name) (by kernel_rfl) ((HWR.out.hcols.ext hJ.below).ext hW) (finds_string (by kernel_rfl) W _ _) (by kernel_rfl)
       obtain ⟨c1,hc1⟩ : ∃ c,(look (cols.map fun c=>(c.1.name,encP c.2)) a.name).isSome = c:=⟨_,rfl⟩
       obtain ⟨q1,hq1⟩ : ∃ c,(look (cols.map fun c=>(c.1.name,encP c.2)) a.name).getD (.pointer none) = c:=⟨_,rfl⟩
       rw [hc1,hq1] at hlk
       have HC1:=Lib.hid hc1
       have HJ:=Lib.hid hJ
       have HLK:=Lib.hid hlk
       clear hc1 hq1 hlk
       refine Rt.wp_region_rt (by kernel_rfl) [0,1,2,3,4,5,6,7,8,9,10,11] [] [] [0,1,3,7,0,16,63,127,255,255,511,2047] (by kernel_rfl) (fun _ W=>Ext wr W) ?_ ?_
       ·exact below_drawn (ext_refl _) _
       iterate 3 (refine Rt.rs_sil rfl rfl rfl (fun K hK=>?_);go_simp;refine hK _ ?_;clear hK K)
       (refine Rt.rs_rd rfl rfl rfl ?_;apply Exists.intro;refine ⟨fun us' W hp hl hI=>?_,?_⟩;· (have c1:=Ext.cell' hI hr0;go_simp;rfl));simp only [Act.put,zA,zB,zC,zD,zE,zF]
       (refine Rt.rs_sil rfl rfl rfl (fun K hK=>?_);go_simp;refine hK _ ?_;clear hK K)
       (refine Rt.rs_rd rfl rfl rfl ?_;apply Exists.intro;refine ⟨fun us' W hp hl hI=>?_,?_⟩;· (have c1 : W.cell? ⟨wo.heap.size,0,none⟩ = some (.string a.name):=cell_of (Ext.obj hI hJ.box) 0;go_simp;rfl));simp only [Act.put,zA,zB,zC,zD,zE,zF]
       (refine Rt.rs_rd rfl rfl rfl ?_;apply Exists.intro;refine ⟨fun us' W hp hl hI=>?_,?_⟩;· (have hk:=HLK.out W hI;go_simp;rfl));simp only [Act.put,zA,zB,zC,zD,zE,zF]
       iterate 5 (refine Rt.rs_sil rfl rfl rfl (fun K hK=>?_);go_simp;refine hK _ ?_;clear hK K)
       refine Rt.rs_nil (fun W hI=>?_)
       have r2 : W.cell? ⟨wo.heap.size,2,none⟩ = some (.int .i64 a.low):=cell_of (Ext.obj hI hJ.box) 2
       have r3 : W.cell? ⟨wo.heap.size,3,none⟩ = some (.int .i64 a.high):=cell_of (Ext.obj hI hJ.box) 3
       have HI:=Lib.hid hI
       clear hI hJ
       go_upto_region 17 with fail
       go_cut [12] (fun c wx=>c = .bool (bnd a) ∧ wx = W)
       case first=>
        go_wp2_with fail
        ·go_meet
         case rel=>rename_i h1 h2;unfold bnd;exact ⟨by rw [decide_eq_true h1,decide_eq_true h2];rfl,rfl⟩
        ·go_meet
         case rel=>rename_i h1 h2;unfold bnd;exact ⟨by rw [decide_eq_true h1,decide_eq_false (Int.not_le.2 h2)];rfl,rfl⟩
        ·go_meet
         case rel=>rename_i h1;unfold bnd;exact ⟨by rw [decide_eq_false (Int.not_le.2 h1)];rfl,rfl⟩
       case rest=>
        obtain ⟨rfl,rfl⟩:=hcut
        go_upto_region 18 with fail
        obtain ⟨Wb,rfl⟩ : ∃ Wb,Wb = wc:=⟨wc,rfl⟩
        have hbx : Wb.heap[wo.heap.size]? = _:=HI.out.obj HJ.out.box
        have hcl : Wb.heap[W1.heap.size + 1]? = _:=HI.out.obj HJ.out.col
        have hmp:=HI.out.obj HJ.out.map
        have hcol : a.values.Nodup → ColAt Wb (W1.heap.size + 1) a:=fun hnd=>by
         have hm:=HJ.out.map.ext HI.out
         rw [(puts_keys a.values).2.2.2 hnd] at hm
         exact ⟨_,_,_,hcl,⟨(SlAt.of_owns HJ.out.own).ext HI.out,hattr.1.2⟩,hm⟩
        have HBX:=Lib.hid hbx
        have HCL:=Lib.hid hcl
        have HMP:=Lib.hid hmp
        have HCOL:=Lib.hid hcol
        have HRR : Hid (∀ W,Ext Wb W → W.cell? ⟨wo.heap.size,0,none⟩ = some (.string a.name) ∧ W.cell? ⟨wo.heap.size,1,none⟩ = some (.slice up a.values.length ucap) ∧ W.cell? ⟨wo.heap.size,2,none⟩ = some (.int .i64 a.low) ∧ W.cell? ⟨wo.heap.size,3,none⟩ = some (.int .i64 a.high) ∧ W.cell? ⟨W1.heap.size + 1,5,none⟩ = some (.map (some W1.heap.size))):=fun W hI=>
         ⟨cell_of (Ext.obj hI HBX.out) 0,cell_of (Ext.obj hI HBX.out) 1,cell_of (Ext.obj hI HBX.out) 2,cell_of (Ext.obj hI HBX.out) 3,cell_of (Ext.obj hI HCL.out) 5⟩
        clear hbx hcl hmp hcol r2 r3
        have hnsz:=hattr.2.1
        obtain ⟨c2,hc2⟩ : ∃ c,nm a.name = c:=⟨_,rfl⟩
        have HC2:=Lib.hid hc2
        obtain ⟨c6,hc6⟩ : ∃ c,decide (a.values ≠ []) = c:=⟨_,rfl⟩
        have HC6:=Lib.hid hc6
        clear hc2 hc6
        obtain ⟨c5,hc5⟩ : ∃ c,bnd a = c:=⟨_,rfl⟩
        rw [hc5]
        obtain ⟨c3,hc3⟩ : ∃ c,decide (8 < (a.values.length : Int)) = c:=⟨_,rfl⟩
        obtain ⟨c4,hc4⟩ : ∃ c,(((puts a.values).length : Int) != (a.values.length : Int)) = c:=⟨_,rfl⟩
        obtain ⟨c7,hc7⟩ : ∃ c,(a.low != 0) = c:=⟨_,rfl⟩
        obtain ⟨c8,hc8⟩ : ∃ c,(a.high != 0) = c:=⟨_,rfl⟩
        have HC5:=Lib.hid hc5
        have HC3:=Lib.hid hc3
        have HC4:=Lib.hid hc4
        have HC7:=Lib.hid hc7
        have HC8:=Lib.hid hc8
        clear hc5
        go_cut [124] (fun c wx=>c = .bool (c1 || (!c2 || (c3 || (c4 || (!c5 || (c6 && (c7 || c8))))))) ∧ Ext Wb wx)
        case first=>
         by_cases k1 : c1 = true
         ·subst k1
          refine Rt.wp_region_rt (by kernel_rfl) [0,1,2,3,4,5,6,7,8,9,10,11,12,13,14,15,16,17,18,19,20,21,22,23,24,25,26,27,28,29,30,31,32,33,34,35,36,37,38,39,40,41] [] [] [0,1,3,7,15,31,63,127,255,511,1023,2047,4095,8191,16383,32767,65535,131071,262143,16383,540671,1589247,4194303,8388607,16777215,33554431,67108863,134217727,268435455,536870911,1073741823,2147483647,4294967295,8589934591,17179869183,34359738367,68719476735,137438953471,274877906943,549755813887,1099511627775,2199023255551] (by kernel_rfl) (fun _ W=>Ext Wb W) ?_ ?_
          ·exact below_drawn (ext_refl _) _
          iterate 2 (refine Rt.rs_sil rfl rfl rfl (fun K hK=>?_);go_simp;refine hK _ ?_;clear hK K)
          iterate 4 ((refine Rt.rs_skip rfl rfl rfl ?_;simp only [Act.put,zA,zB,zC,zD,zE,zF]))
          iterate 2 (refine Rt.rs_sil rfl rfl rfl (fun K hK=>?_);go_simp;refine hK _ ?_;clear hK K)
          iterate 4 ((refine Rt.rs_skip rfl rfl rfl ?_;simp only [Act.put,zA,zB,zC,zD,zE,zF]))
          iterate 2 (refine Rt.rs_sil rfl rfl rfl (fun K hK=>?_);go_simp;refine hK _ ?_;clear hK K)
          iterate 9 ((refine Rt.rs_skip rfl rfl rfl ?_;simp only [Act.put,zA,zB,zC,zD,zE,zF]))
          iterate 2 (refine Rt.rs_sil rfl rfl rfl (fun K hK=>?_);go_simp;refine hK _ ?_;clear hK K)
          iterate 2 ((refine Rt.rs_skip rfl rfl rfl ?_;simp only [Act.put,zA,zB,zC,zD,zE,zF]))
          iterate 2 (refine Rt.rs_sil rfl rfl rfl (fun K hK=>?_);go_simp;refine hK _ ?_;clear hK K)
          iterate 12 ((refine Rt.rs_skip rfl rfl rfl ?_;simp only [Act.put,zA,zB,zC,zD,zE,zF]))
          (refine Rt.rs_sil rfl rfl rfl (fun K hK=>?_);go_simp;refine hK _ ?_;clear hK K)
          refine Rt.rs_nil (fun W hI=>?_)
          have HI:=Lib.hid hI
          clear hI
          go_wp2_with fail
          go_meet
          case rel=>exact ⟨rfl,HI.out⟩
         obtain rfl : c1 = false:=by simpa using k1
         clear k1
         by_cases k2 : c2 = false
         ·subst k2
          refine Rt.wp_region_rt (by kernel_rfl) [0,1,2,3,4,5,6,7,8,9,10,11,12,13,14,15,16,17,18,19,20,21,22,23,24,25,26,27,28,29,30,31,32,33,34,35,36,37,38,39,40,41] [] [] [0,1,3,7,15,31,63,127,255,511,1023,2047,4095,8191,16383,32767,65535,131071,262143,16383,540671,1589247,4194303,8388607,16777215,33554431,67108863,134217727,268435455,536870911,1073741823,2147483647,4294967295,8589934591,17179869183,34359738367,68719476735,137438953471,274877906943,549755813887,1099511627775,2199023255551] (by kernel_rfl) (fun _ W=>Ext Wb W) ?_ ?_
          ·exact below_drawn (ext_refl _) _
          iterate 3 (refine Rt.rs_sil rfl rfl rfl (fun K hK=>?_);go_simp;refine hK _ ?_;clear hK K)
          (refine Rt.rs_rd rfl rfl rfl ?_;apply Exists.intro;refine ⟨fun us' W hp hl hI=>?_,?_⟩;· (obtain ⟨r0,r1,r2,r3,r5⟩:=HRR.out W hI;go_simp;rfl));simp only [Act.put,zA,zB,zC,zD,zE,zF]
          refine Rt.rs_qt rfl rfl rfl ?_
          apply Exists.intro
          refine ⟨fun us' W hp hl hI=>?_,?_⟩
          ·refine Rt.gives_cal ?_
           apply Exists.intro
           apply Exists.intro
           apply Exists.intro
           refine ⟨by go_simp;exact ⟨⟨rfl,rfl⟩,rfl⟩,?_⟩
           refine (isName_any a.name W hnsz).mono ?_
           rintro e w7 ⟨rfl,rfl⟩
           exact ⟨_,rfl,by rw [HC2.out],hI⟩
          simp only [Act.put,zA,zB,zC,zD,zE,zF]
          iterate 3 (refine Rt.rs_sil rfl rfl rfl (fun K hK=>?_);go_simp;refine hK _ ?_;clear hK K)
          iterate 4 ((refine Rt.rs_skip rfl rfl rfl ?_;simp only [Act.put,zA,zB,zC,zD,zE,zF]))
          iterate 2 (refine Rt.rs_sil rfl rfl rfl (fun K hK=>?_);go_simp;refine hK _ ?_;clear hK K)
          iterate 9 ((refine Rt.rs_skip rfl rfl rfl ?_;simp only [Act.put,zA,zB,zC,zD,zE,zF]))
          iterate 2 (refine Rt.rs_sil rfl rfl rfl (fun K hK=>?_);go_simp;refine hK _ ?_;clear hK K)
          iterate 2 ((refine Rt.rs_skip rfl rfl rfl ?_;simp only [Act.put,zA,zB,zC,zD,zE,zF]))
          iterate 2 (refine Rt.rs_sil rfl rfl rfl (fun K hK=>?_);go_simp;refine hK _ ?_;clear hK K)
          iterate 12 ((refine Rt.rs_skip rfl rfl rfl ?_;simp only [Act.put,zA,zB,zC,zD,zE,zF]))
          (refine Rt.rs_sil rfl rfl rfl (fun K hK=>?_);go_simp;refine hK _ ?_;clear hK K)
          refine Rt.rs_nil (fun W hI=>?_)
          have HI:=Lib.hid hI
          clear hI
          go_wp2_with fail
          go_meet
          case rel=>exact ⟨rfl,HI.out⟩
         obtain rfl : c2 = true:=by simpa using k2
         clear k2
         by_cases k3 : c3 = true
         ·subst k3
          refine Rt.wp_region_rt (by kernel_rfl) [0,1,2,3,4,5,6,7,8,9,10,11,12,13,14,15,16,17,18,19,20,21,22,23,24,25,26,27,28,29,30,31,32,33,34,35,36,37,38,39,40,41] [] [] [0,1,3,7,15,31,63,127,255,511,1023,2047,4095,8191,16383,32767,65535,131071,262143,16383,540671,1589247,4194303,8388607,16777215,33554431,67108863,134217727,268435455,536870911,1073741823,2147483647,4294967295,8589934591,17179869183,34359738367,68719476735,137438953471,274877906943,549755813887,1099511627775,2199023255551] (by kernel_rfl) (fun _ W=>Ext Wb W) ?_ ?_
          ·exact below_drawn (ext_refl _) _
          iterate 3 (refine Rt.rs_sil rfl rfl rfl (fun K hK=>?_);go_simp;refine hK _ ?_;clear hK K)
          (refine Rt.rs_rd rfl rfl rfl ?_;apply Exists.intro;refine ⟨fun us' W hp hl hI=>?_,?_⟩;· (obtain ⟨r0,r1,r2,r3,r5⟩:=HRR.out W hI;go_simp;rfl));simp only [Act.put,zA,zB,zC,zD,zE,zF]
          refine Rt.rs_qt rfl rfl rfl ?_
          apply Exists.intro
          refine ⟨fun us' W hp hl hI=>?_,?_⟩
          ·refine Rt.gives_cal ?_
           apply Exists.intro
           apply Exists.intro
           apply Exists.intro
           refine ⟨by go_simp;exact ⟨⟨rfl,rfl⟩,rfl⟩,?_⟩
           refine (isName_any a.name W hnsz).mono ?_
           rintro e w7 ⟨rfl,rfl⟩
           exact ⟨_,rfl,by rw [HC2.out],hI⟩
          simp only [Act.put,zA,zB,zC,zD,zE,zF]
          iterate 4 (refine Rt.rs_sil rfl rfl rfl (fun K hK=>?_);go_simp;refine hK _ ?_;clear hK K)
          (refine Rt.rs_rd rfl rfl rfl ?_;apply Exists.intro;refine ⟨fun us' W hp hl hI=>?_,?_⟩;· (obtain ⟨r0,r1,r2,r3,r5⟩:=HRR.out W hI;go_simp;rfl));simp only [Act.put,zA,zB,zC,zD,zE,zF]
          iterate 4 (refine Rt.rs_sil rfl rfl rfl (fun K hK=>?_);go_simp;refine hK _ ?_;clear hK K)
          iterate 9 ((refine Rt.rs_skip rfl rfl rfl ?_;simp only [Act.put,zA,zB,zC,zD,zE,zF]))
          iterate 2 (refine Rt.rs_sil rfl rfl rfl (fun K hK=>?_);go_simp;refine hK _ ?_;clear hK K)
          iterate 2 ((refine Rt.rs_skip rfl rfl rfl ?_;simp only [Act.put,zA,zB,zC,zD,zE,zF]))
          iterate 2 (refine Rt.rs_sil rfl rfl rfl (fun K hK=>?_);go_simp;refine hK _ ?_;clear hK K)
          iterate 12 ((refine Rt.rs_skip rfl rfl rfl ?_;simp only [Act.put,zA,zB,zC,zD,zE,zF]))
          (refine Rt.rs_sil rfl rfl rfl (fun K hK=>?_);go_simp;refine hK _ ?_;clear hK K)
          refine Rt.rs_nil (fun W hI=>?_)
          have HI:=Lib.hid hI
          clear hI
          go_wp2_with fail
          go_meet
          case rel=>exact ⟨rfl,HI.out⟩
         obtain rfl : c3 = false:=by simpa using k3
         clear k3
         by_cases k4 : c4 = true
         ·subst k4
          refine Rt.wp_region_rt (by kernel_rfl) [0,1,2,3,4,5,6,7,8,9,10,11,12,13,14,15,16,17,18,19,20,21,22,23,24,25,26,27,28,29,30,31,32,33,34,35,36,37,38,39,40,41] [] [] [0,1,3,7,15,31,63,127,255,511,1023,2047,4095,8191,16383,32767,65535,131071,262143,16383,540671,1589247,4194303,8388607,16777215,33554431,67108863,134217727,268435455,536870911,1073741823,2147483647,4294967295,8589934591,17179869183,34359738367,68719476735,137438953471,274877906943,549755813887,1099511627775,2199023255551] (by kernel_rfl) (fun _ W=>Ext Wb W) ?_ ?_
          ·exact below_drawn (ext_refl _) _
          iterate 3 (refine Rt.rs_sil rfl rfl rfl (fun K hK=>?_);go_simp;refine hK _ ?_;clear hK K)
          (refine Rt.rs_rd rfl rfl rfl ?_;apply Exists.intro;refine ⟨fun us' W hp hl hI=>?_,?_⟩;· (obtain ⟨r0,r1,r2,r3,r5⟩:=HRR.out W hI;go_simp;rfl));simp only [Act.put,zA,zB,zC,zD,zE,zF]
          refine Rt.rs_qt rfl rfl rfl ?_
          apply Exists.intro
          refine ⟨fun us' W hp hl hI=>?_,?_⟩
          ·refine Rt.gives_cal ?_
           apply Exists.intro
           apply Exists.intro
           apply Exists.intro
           refine ⟨by go_simp;exact ⟨⟨rfl,rfl⟩,rfl⟩,?_⟩
           refine (isName_any a.name W hnsz).mono ?_
           rintro e w7 ⟨rfl,rfl⟩
           exact ⟨_,rfl,by rw [HC2.out],hI⟩
          simp only [Act.put,zA,zB,zC,zD,zE,zF]
          iterate 4 (refine Rt.rs_sil rfl rfl rfl (fun K hK=>?_);go_simp;refine hK _ ?_;clear hK K)
          (refine Rt.rs_rd rfl rfl rfl ?_;apply Exists.intro;refine ⟨fun us' W hp hl hI=>?_,?_⟩;· (obtain ⟨r0,r1,r2,r3,r5⟩:=HRR.out W hI;go_simp;rfl));simp only [Act.put,zA,zB,zC,zD,zE,zF]
          iterate 7 (refine Rt.rs_sil rfl rfl rfl (fun K hK=>?_);go_simp;refine hK _ ?_;clear hK K)
          (refine Rt.rs_rd rfl rfl rfl ?_;apply Exists.intro;refine ⟨fun us' W hp hl hI=>?_,?_⟩;· (obtain ⟨r0,r1,r2,r3,r5⟩:=HRR.out W hI;go_simp;rfl));simp only [Act.put,zA,zB,zC,zD,zE,zF]
          (refine Rt.rs_rd rfl rfl rfl ?_;apply Exists.intro;refine ⟨fun us' W hp hl hI=>?_,?_⟩;· (have q:=run_lenMap (T:=102) (K:=9) (E:=3) (by kernel_rfl) (MapIs.ext HMP.out hI) 3;go_simp;rfl));simp only [Act.put,zA,zB,zC,zD,zE,zF]
          (refine Rt.rs_sil rfl rfl rfl (fun K hK=>?_);go_simp;refine hK _ ?_;clear hK K)
          (refine Rt.rs_rd rfl rfl rfl ?_;apply Exists.intro;refine ⟨fun us' W hp hl hI=>?_,?_⟩;· (obtain ⟨r0,r1,r2,r3,r5⟩:=HRR.out W hI;go_simp;rfl));simp only [Act.put,zA,zB,zC,zD,zE,zF]
          iterate 4 (refine Rt.rs_sil rfl rfl rfl (fun K hK=>?_);go_simp;refine hK _ ?_;clear hK K)
          iterate 2 ((refine Rt.rs_skip rfl rfl rfl ?_;simp only [Act.put,zA,zB,zC,zD,zE,zF]))
          iterate 2 (refine Rt.rs_sil rfl rfl rfl (fun K hK=>?_);go_simp;refine hK _ ?_;clear hK K)
          iterate 12 ((refine Rt.rs_skip rfl rfl rfl ?_;simp only [Act.put,zA,zB,zC,zD,zE,zF]))
          (refine Rt.rs_sil rfl rfl rfl (fun K hK=>?_);go_simp;refine hK _ ?_;clear hK K)
          refine Rt.rs_nil (fun W hI=>?_)
          have HI:=Lib.hid hI
          clear hI
          go_wp2_with fail
          go_meet
          case rel=>exact ⟨rfl,HI.out⟩
         obtain rfl : c4 = false:=by simpa using k4
         clear k4
         by_cases k5 : c5 = false
         ·subst k5
          refine Rt.wp_region_rt (by kernel_rfl) [0,1,2,3,4,5,6,7,8,9,10,11,12,13,14,15,16,17,18,19,20,21,22,23,24,25,26,27,28,29,30,31,32,33,34,35,36,37,38,39,40,41] [] [] [0,1,3,7,15,31,63,127,255,511,1023,2047,4095,8191,16383,32767,65535,131071,262143,16383,540671,1589247,4194303,8388607,16777215,33554431,67108863,134217727,268435455,536870911,1073741823,2147483647,4294967295,8589934591,17179869183,34359738367,68719476735,137438953471,274877906943,549755813887,1099511627775,2199023255551] (by kernel_rfl) (fun _ W=>Ext Wb W) ?_ ?_
          ·exact below_drawn (ext_refl _) _
          iterate 3 (refine Rt.rs_sil rfl rfl rfl (fun K hK=>?_);go_simp;refine hK _ ?_;clear hK K)
          (refine Rt.rs_rd rfl rfl rfl ?_;apply Exists.intro;refine ⟨fun us' W hp hl hI=>?_,?_⟩;· (obtain ⟨r0,r1,r2,r3,r5⟩:=HRR.out W hI;go_simp;rfl));simp only [Act.put,zA,zB,zC,zD,zE,zF]
          refine Rt.rs_qt rfl rfl rfl ?_
          apply Exists.intro
          refine ⟨fun us' W hp hl hI=>?_,?_⟩
          ·refine Rt.gives_cal ?_
           apply Exists.intro
           apply Exists.intro
           apply Exists.intro
           refine ⟨by go_simp;exact ⟨⟨rfl,rfl⟩,rfl⟩,?_⟩
           refine (isName_any a.name W hnsz).mono ?_
           rintro e w7 ⟨rfl,rfl⟩
           exact ⟨_,rfl,by rw [HC2.out],hI⟩
          simp only [Act.put,zA,zB,zC,zD,zE,zF]
          iterate 4 (refine Rt.rs_sil rfl rfl rfl (fun K hK=>?_);go_simp;refine hK _ ?_;clear hK K)
          (refine Rt.rs_rd rfl rfl rfl ?_;apply Exists.intro;refine ⟨fun us' W hp hl hI=>?_,?_⟩;· (obtain ⟨r0,r1,r2,r3,r5⟩:=HRR.out W hI;go_simp;rfl));simp only [Act.put,zA,zB,zC,zD,zE,zF]
          iterate 7 (refine Rt.rs_sil rfl rfl rfl (fun K hK=>?_);go_simp;refine hK _ ?_;clear hK K)
          (refine Rt.rs_rd rfl rfl rfl ?_;apply Exists.intro;refine ⟨fun us' W hp hl hI=>?_,?_⟩;· (obtain ⟨r0,r1,r2,r3,r5⟩:=HRR.out W hI;go_simp;rfl));simp only [Act.put,zA,zB,zC,zD,zE,zF]
          (refine Rt.rs_rd rfl rfl rfl ?_;apply Exists.intro;refine ⟨fun us' W hp hl hI=>?_,?_⟩;· (have q:=run_lenMap (T:=102) (K:=9) (E:=3) (by kernel_rfl) (MapIs.ext HMP.out hI) 3;go_simp;rfl));simp only [Act.put,zA,zB,zC,zD,zE,zF]
          (refine Rt.rs_sil rfl rfl rfl (fun K hK=>?_);go_simp;refine hK _ ?_;clear hK K)
          (refine Rt.rs_rd rfl rfl rfl ?_;apply Exists.intro;refine ⟨fun us' W hp hl hI=>?_,?_⟩;· (obtain ⟨r0,r1,r2,r3,r5⟩:=HRR.out W hI;go_simp;rfl));simp only [Act.put,zA,zB,zC,zD,zE,zF]
          iterate 8 (refine Rt.rs_sil rfl rfl rfl (fun K hK=>?_);go_simp;refine hK _ ?_;clear hK K)
          iterate 12 ((refine Rt.rs_skip rfl rfl rfl ?_;simp only [Act.put,zA,zB,zC,zD,zE,zF]))
          (refine Rt.rs_sil rfl rfl rfl (fun K hK=>?_);go_simp;refine hK _ ?_;clear hK K)
          refine Rt.rs_nil (fun W hI=>?_)
          have HI:=Lib.hid hI
          clear hI
          go_wp2_with fail
          go_meet
          case rel=>exact ⟨rfl,HI.out⟩
         obtain rfl : c5 = true:=by simpa using k5
         clear k5
         by_cases k6 : c6 = true
         ·subst k6
          by_cases k7 : c7 = true
          ·subst k7
           refine Rt.wp_region_rt (by kernel_rfl) [0,1,2,3,4,5,6,7,8,9,10,11,12,13,14,15,16,17,18,19,20,21,22,23,24,25,26,27,28,29,30,31,32,33,34,35,36,37,38,39,40,41] [] [] [0,1,3,7,15,31,63,127,255,511,1023,2047,4095,8191,16383,32767,65535,131071,262143,16383,540671,1589247,4194303,8388607,16777215,33554431,67108863,134217727,268435455,536870911,1073741823,2147483647,4294967295,8589934591,17179869183,34359738367,68719476735,137438953471,274877906943,549755813887,1099511627775,2199023255551] (by kernel_rfl) (fun _ W=>Ext Wb W) ?_ ?_
           ·exact below_drawn (ext_refl _) _
           iterate 3 (refine Rt.rs_sil rfl rfl rfl (fun K hK=>?_);go_simp;refine hK _ ?_;clear hK K)
           (refine Rt.rs_rd rfl rfl rfl ?_;apply Exists.intro;refine ⟨fun us' W hp hl hI=>?_,?_⟩;· (obtain ⟨r0,r1,r2,r3,r5⟩:=HRR.out W hI;go_simp;rfl));simp only [Act.put,zA,zB,zC,zD,zE,zF]
           refine Rt.rs_qt rfl rfl rfl ?_
           apply Exists.intro
           refine ⟨fun us' W hp hl hI=>?_,?_⟩
           ·refine Rt.gives_cal ?_
            apply Exists.intro
            apply Exists.intro
            apply Exists.intro
            refine ⟨by go_simp;exact ⟨⟨rfl,rfl⟩,rfl⟩,?_⟩
            refine (isName_any a.name W hnsz).mono ?_
            rintro e w7 ⟨rfl,rfl⟩
            exact ⟨_,rfl,by rw [HC2.out],hI⟩
           simp only [Act.put,zA,zB,zC,zD,zE,zF]
           iterate 4 (refine Rt.rs_sil rfl rfl rfl (fun K hK=>?_);go_simp;refine hK _ ?_;clear hK K)
           (refine Rt.rs_rd rfl rfl rfl ?_;apply Exists.intro;refine ⟨fun us' W hp hl hI=>?_,?_⟩;· (obtain ⟨r0,r1,r2,r3,r5⟩:=HRR.out W hI;go_simp;rfl));simp only [Act.put,zA,zB,zC,zD,zE,zF]
           iterate 7 (refine Rt.rs_sil rfl rfl rfl (fun K hK=>?_);go_simp;refine hK _ ?_;clear hK K)
           (refine Rt.rs_rd rfl rfl rfl ?_;apply Exists.intro;refine ⟨fun us' W hp hl hI=>?_,?_⟩;· (obtain ⟨r0,r1,r2,r3,r5⟩:=HRR.out W hI;go_simp;rfl));simp only [Act.put,zA,zB,zC,zD,zE,zF]
           (refine Rt.rs_rd rfl rfl rfl ?_;apply Exists.intro;refine ⟨fun us' W hp hl hI=>?_,?_⟩;· (have q:=run_lenMap (T:=102) (K:=9) (E:=3) (by kernel_rfl) (MapIs.ext HMP.out hI) 3;go_simp;rfl));simp only [Act.put,zA,zB,zC,zD,zE,zF]
           (refine Rt.rs_sil rfl rfl rfl (fun K hK=>?_);go_simp;refine hK _ ?_;clear hK K)
           (refine Rt.rs_rd rfl rfl rfl ?_;apply Exists.intro;refine ⟨fun us' W hp hl hI=>?_,?_⟩;· (obtain ⟨r0,r1,r2,r3,r5⟩:=HRR.out W hI;go_simp;rfl));simp only [Act.put,zA,zB,zC,zD,zE,zF]
           iterate 9 (refine Rt.rs_sil rfl rfl rfl (fun K hK=>?_);go_simp;refine hK _ ?_;clear hK K)
           refine Rt.rs_qt rfl rfl rfl ?_
           apply Exists.intro
           refine ⟨fun us' W hp hl hI=>?_,?_⟩
           ·refine Rt.gives_cal ?_
            apply Exists.intro
            apply Exists.intro
            apply Exists.intro
            refine ⟨by go_simp;exact ⟨⟨rfl,rfl⟩,rfl⟩,?_⟩
            exact (choice_val (W1.heap.size + 1) a W ((HCOL.out (nodup_of HC4.out)).ext hI) HC6.out).mono (by rintro e w' ⟨rfl,rfl⟩;exact ⟨_,rfl,rfl,hI⟩)
           simp only [Act.put,zA,zB,zC,zD,zE,zF]
           iterate 2 (refine Rt.rs_sil rfl rfl rfl (fun K hK=>?_);go_simp;refine hK _ ?_;clear hK K)
           (refine Rt.rs_rd rfl rfl rfl ?_;apply Exists.intro;refine ⟨fun us' W hp hl hI=>?_,?_⟩;· (obtain ⟨r0,r1,r2,r3,r5⟩:=HRR.out W hI;go_simp;rfl));simp only [Act.put,zA,zB,zC,zD,zE,zF]
           iterate 2 (refine Rt.rs_sil rfl rfl rfl (fun K hK=>?_);go_simp;refine hK _ ?_;clear hK K)
           iterate 3 ((refine Rt.rs_skip rfl rfl rfl ?_;simp only [Act.put,zA,zB,zC,zD,zE,zF]))
           iterate 3 (refine Rt.rs_sil rfl rfl rfl (fun K hK=>?_);go_simp;refine hK _ ?_;clear hK K)
           refine Rt.rs_nil (fun W hI=>?_)
           have HI:=Lib.hid hI
           clear hI
           go_wp2_with fail
           go_meet
           case rel=>exact ⟨rfl,HI.out⟩
          obtain rfl : c7 = false:=by simpa using k7
          clear k7
          refine Rt.wp_region_rt (by kernel_rfl) [0,1,2,3,4,5,6,7,8,9,10,11,12,13,14,15,16,17,18,19,20,21,22,23,24,25,26,27,28,29,30,31,32,33,34,35,36,37,38,39,40,41] [] [] [0,1,3,7,15,31,63,127,255,511,1023,2047,4095,8191,16383,32767,65535,131071,262143,16383,540671,1589247,4194303,8388607,16777215,33554431,67108863,134217727,268435455,536870911,1073741823,2147483647,4294967295,8589934591,17179869183,34359738367,68719476735,137438953471,274877906943,549755813887,1099511627775,2199023255551] (by kernel_rfl) (fun _ W=>Ext Wb W) ?_ ?_
          ·exact below_drawn (ext_refl _) _
          iterate 3 (refine Rt.rs_sil rfl rfl rfl (fun K hK=>?_);go_simp;refine hK _ ?_;clear hK K)
          (refine Rt.rs_rd rfl rfl rfl ?_;apply Exists.intro;refine ⟨fun us' W hp hl hI=>?_,?_⟩;· (obtain ⟨r0,r1,r2,r3,r5⟩:=HRR.out W hI;go_simp;rfl));simp only [Act.put,zA,zB,zC,zD,zE,zF]
          refine Rt.rs_qt rfl rfl rfl ?_
          apply Exists.intro
          refine ⟨fun us' W hp hl hI=>?_,?_⟩
          ·refine Rt.gives_cal ?_
           apply Exists.intro
           apply Exists.intro
           apply Exists.intro
           refine ⟨by go_simp;exact ⟨⟨rfl,rfl⟩,rfl⟩,?_⟩
           refine (isName_any a.name W hnsz).mono ?_
           rintro e w7 ⟨rfl,rfl⟩
           exact ⟨_,rfl,by rw [HC2.out],hI⟩
          simp only [Act.put,zA,zB,zC,zD,zE,zF]
          iterate 4 (refine Rt.rs_sil rfl rfl rfl (fun K hK=>?_);go_simp;refine hK _ ?_;clear hK K)
          (refine Rt.rs_rd rfl rfl rfl ?_;apply Exists.intro;refine ⟨fun us' W hp hl hI=>?_,?_⟩;· (obtain ⟨r0,r1,r2,r3,r5⟩:=HRR.out W hI;go_simp;rfl));simp only [Act.put,zA,zB,zC,zD,zE,zF]
          iterate 7 (refine Rt.rs_sil rfl rfl rfl (fun K hK=>?_);go_simp;refine hK _ ?_;clear hK K)
          (refine Rt.rs_rd rfl rfl rfl ?_;apply Exists.intro;refine ⟨fun us' W hp hl hI=>?_,?_⟩;· (obtain ⟨r0,r1,r2,r3,r5⟩:=HRR.out W hI;go_simp;rfl));simp only [Act.put,zA,zB,zC,zD,zE,zF]
          (refine Rt.rs_rd rfl rfl rfl ?_;apply Exists.intro;refine ⟨fun us' W hp hl hI=>?_,?_⟩;· (have q:=run_lenMap (T:=102) (K:=9) (E:=3) (by kernel_rfl) (MapIs.ext HMP.out hI) 3;go_simp;rfl));simp only [Act.put,zA,zB,zC,zD,zE,zF]
          (refine Rt.rs_sil rfl rfl rfl (fun K hK=>?_);go_simp;refine hK _ ?_;clear hK K)
          (refine Rt.rs_rd rfl rfl rfl ?_;apply Exists.intro;refine ⟨fun us' W hp hl hI=>?_,?_⟩;· (obtain ⟨r0,r1,r2,r3,r5⟩:=HRR.out W hI;go_simp;rfl));simp only [Act.put,zA,zB,zC,zD,zE,zF]
          iterate 9 (refine Rt.rs_sil rfl rfl rfl (fun K hK=>?_);go_simp;refine hK _ ?_;clear hK K)
          refine Rt.rs_qt rfl rfl rfl ?_
          apply Exists.intro
          refine ⟨fun us' W hp hl hI=>?_,?_⟩
          ·refine Rt.gives_cal ?_
           apply Exists.intro
           apply Exists.intro
           apply Exists.intro
           refine ⟨by go_simp;exact ⟨⟨rfl,rfl⟩,rfl⟩,?_⟩
           exact (choice_val (W1.heap.size + 1) a W ((HCOL.out (nodup_of HC4.out)).ext hI) HC6.out).mono (by rintro e w' ⟨rfl,rfl⟩;exact ⟨_,rfl,rfl,hI⟩)
          simp only [Act.put,zA,zB,zC,zD,zE,zF]
          iterate 2 (refine Rt.rs_sil rfl rfl rfl (fun K hK=>?_);go_simp;refine hK _ ?_;clear hK K)
          (refine Rt.rs_rd rfl rfl rfl ?_;apply Exists.intro;refine ⟨fun us' W hp hl hI=>?_,?_⟩;· (obtain ⟨r0,r1,r2,r3,r5⟩:=HRR.out W hI;go_simp;rfl));simp only [Act.put,zA,zB,zC,zD,zE,zF]
          iterate 3 (refine Rt.rs_sil rfl rfl rfl (fun K hK=>?_);go_simp;refine hK _ ?_;clear hK K)
          (refine Rt.rs_rd rfl rfl rfl ?_;apply Exists.intro;refine ⟨fun us' W hp hl hI=>?_,?_⟩;· (obtain ⟨r0,r1,r2,r3,r5⟩:=HRR.out W hI;go_simp;rfl));simp only [Act.put,zA,zB,zC,zD,zE,zF]
          iterate 4 (refine Rt.rs_sil rfl rfl rfl (fun K hK=>?_);go_simp;refine hK _ ?_;clear hK K)
          refine Rt.rs_nil (fun W hI=>?_)
          have HI:=Lib.hid hI
          clear hI
          go_wp2_with fail
          go_meet
          case rel=>exact ⟨rfl,HI.out⟩
         obtain rfl : c6 = false:=by simpa using k6
         clear k6
         refine Rt.wp_region_rt (by kernel_rfl) [0,1,2,3,4,5,6,7,8,9,10,11,12,13,14,15,16,17,18,19,20,21,22,23,24,25,26,27,28,29,30,31,32,33,34,35,36,37,38,39,40,41] [] [] [0,1,3,7,15,31,63,127,255,511,1023,2047,4095,8191,16383,32767,65535,131071,262143,16383,540671,1589247,4194303,8388607,16777215,33554431,67108863,134217727,268435455,536870911,1073741823,2147483647,4294967295,8589934591,17179869183,34359738367,68719476735,137438953471,274877906943,549755813887,1099511627775,2199023255551] (by kernel_rfl) (fun _ W=>Ext Wb W) ?_ ?_
         ·exact below_drawn (ext_refl _) _
         iterate 3 (refine Rt.rs_sil rfl rfl rfl (fun K hK=>?_);go_simp;refine hK _ ?_;clear hK K)
         (refine Rt.rs_rd rfl rfl rfl ?_;apply Exists.intro;refine ⟨fun us' W hp hl hI=>?_,?_⟩;· (obtain ⟨r0,r1,r2,r3,r5⟩:=HRR.out W hI;go_simp;rfl));simp only [Act.put,zA,zB,zC,zD,zE,zF]
         refine Rt.rs_qt rfl rfl rfl ?_
         apply Exists.intro
         refine ⟨fun us' W hp hl hI=>?_,?_⟩
         ·refine Rt.gives_cal ?_
          apply Exists.intro
          apply Exists.intro
          apply Exists.intro
          refine ⟨by go_simp;exact ⟨⟨rfl,rfl⟩,rfl⟩,?_⟩
          refine (isName_any a.name W hnsz).mono ?_
          rintro e w7 ⟨rfl,rfl⟩
          exact ⟨_,rfl,by rw [HC2.out],hI⟩
         simp only [Act.put,zA,zB,zC,zD,zE,zF]
         iterate 4 (refine Rt.rs_sil rfl rfl rfl (fun K hK=>?_);go_simp;refine hK _ ?_;clear hK K)
         (refine Rt.rs_rd rfl rfl rfl ?_;apply Exists.intro;refine ⟨fun us' W hp hl hI=>?_,?_⟩;· (obtain ⟨r0,r1,r2,r3,r5⟩:=HRR.out W hI;go_simp;rfl));simp only [Act.put,zA,zB,zC,zD,zE,zF]
         iterate 7 (refine Rt.rs_sil rfl rfl rfl (fun K hK=>?_);go_simp;refine hK _ ?_;clear hK K)
         (refine Rt.rs_rd rfl rfl rfl ?_;apply Exists.intro;refine ⟨fun us' W hp hl hI=>?_,?_⟩;· (obtain ⟨r0,r1,r2,r3,r5⟩:=HRR.out W hI;go_simp;rfl));simp only [Act.put,zA,zB,zC,zD,zE,zF]
         (refine Rt.rs_rd rfl rfl rfl ?_;apply Exists.intro;refine ⟨fun us' W hp hl hI=>?_,?_⟩;· (have q:=run_lenMap (T:=102) (K:=9) (E:=3) (by kernel_rfl) (MapIs.ext HMP.out hI) 3;go_simp;rfl));simp only [Act.put,zA,zB,zC,zD,zE,zF]
         (refine Rt.rs_sil rfl rfl rfl (fun K hK=>?_);go_simp;refine hK _ ?_;clear hK K)
         (refine Rt.rs_rd rfl rfl rfl ?_;apply Exists.intro;refine ⟨fun us' W hp hl hI=>?_,?_⟩;· (obtain ⟨r0,r1,r2,r3,r5⟩:=HRR.out W hI;go_simp;rfl));simp only [Act.put,zA,zB,zC,zD,zE,zF]
         iterate 9 (refine Rt.rs_sil rfl rfl rfl (fun K hK=>?_);go_simp;refine hK _ ?_;clear hK K)
         refine Rt.rs_qt rfl rfl rfl ?_
         apply Exists.intro
         refine ⟨fun us' W hp hl hI=>?_,?_⟩
         ·refine Rt.gives_cal ?_
          apply Exists.intro
          apply Exists.intro
          apply Exists.intro
          refine ⟨by go_simp;exact ⟨⟨rfl,rfl⟩,rfl⟩,?_⟩
          exact (choice_val (W1.heap.size + 1) a W ((HCOL.out (nodup_of HC4.out)).ext hI) HC6.out).mono (by rintro e w' ⟨rfl,rfl⟩;exact ⟨_,rfl,rfl,hI⟩)
         simp only [Act.put,zA,zB,zC,zD,zE,zF]
         (refine Rt.rs_sil rfl rfl rfl (fun K hK=>?_);go_simp;refine hK _ ?_;clear hK K)
         iterate 8 ((refine Rt.rs_skip rfl rfl rfl ?_;simp only [Act.put,zA,zB,zC,zD,zE,zF]))
         iterate 2 (refine Rt.rs_sil rfl rfl rfl (fun K hK=>?_);go_simp;refine hK _ ?_;clear hK K)
         refine Rt.rs_nil (fun W hI=>?_)
         have HI:=Lib.hid hI
         clear hI
         go_wp2_with fail
         go_meet
         case rel=>exact ⟨rfl,HI.out⟩
        case rest=>
         obtain ⟨rfl,hxc⟩:=hcut
         clear hc3 hc4 hc7 hc8
         obtain ⟨bad,hbad⟩ : ∃ c,(c1 || (!c2 || (c3 || (c4 || (!c5 || (c6 && (c7 || c8))))))) = c:=⟨_,rfl⟩
         rw [hbad]
         have HBAD:=Lib.hid hbad
         clear hbad
         have HXC:=Lib.hid ((HI.out.trans' hxc))
         clear hxc
         cases bad with
         | true=>
          go_wp2_with fail
          refine bodyPost_ret (v:=.tuple #[.pointer none,.int .i64 111]) (by simp [results,Tryz.results10,go_sem]) rfl ⟨?_,Or.inl ⟨fun hN=>?_,rfl⟩⟩
          ·exact ((Ext.trans' HWR.out.below HJ.out.below)).trans' HXC.out
          ·have hb:=HBAD.out
           cases c1 with
           | true=>exact dup_no HWR.out.eq ha HC1.out hN.names
           | false=>
            have:=(bad_iff a hnm.out HC2.out HC3.out HC4.out HC5.out HC6.out HC7.out HC8.out).2 (hN.attrs a (List.mem_of_getElem? ha))
            rw [Bool.false_or,this] at hb
            exact Bool.noConfusion hb
         | false=>
          obtain rfl : c1 = false:=by have:=HBAD.out;cases c1 <;> simp_all
          have hok : AttrOk a:=(bad_iff a hnm.out HC2.out HC3.out HC4.out HC5.out HC6.out HC7.out HC8.out).1 (by have:=HBAD.out;simpa using this)
          have hno : look (cols.map fun c=>(c.1.name,encP c.2)) a.name = none:=by have:=HC1.out;cases hq : look (cols.map fun c=>(c.1.name,encP c.2)) a.name <;> simp_all
          have HOK:=Lib.hid hok
          have HNO:=Lib.hid hno
          clear hok hno
          go_upto_region 20 with fail
          obtain ⟨Wc,rfl⟩ : ∃ Wc,Wc = wc:=⟨wc,rfl⟩
          refine Rt.wp_region_rt (by kernel_rfl) [0,1,2,3,4,5,6,7] [7] [0,0,0,0,0,0,0] [0,1,3,7,0,16,0,127] (by kernel_rfl) (PutI Wc (fun W=>wput Value.string W w.heap.size (mput (cols.map fun c=>(c.1.name,encP c.2)) a.name (encP (W1.heap.size + 1))))) ?_ ?_
          ·exact .inl ⟨rfl,below_drawn (ext_refl _) _⟩
          iterate 3 (refine Rt.rs_sil rfl rfl rfl (fun K hK=>?_);go_simp;refine hK _ ?_;clear hK K)
          (refine Rt.rs_rd rfl rfl rfl ?_;apply Exists.intro;refine ⟨fun us' W hp hl hI=>?_,?_⟩;· (have hE:=PutI.pre hI hl;have r:=Ext.cell' (HXC.out.trans' hE) hr0;go_simp;rfl));simp only [Act.put,zA,zB,zC,zD,zE,zF]
          (refine Rt.rs_sil rfl rfl rfl (fun K hK=>?_);go_simp;refine hK _ ?_;clear hK K)
          (refine Rt.rs_rd rfl rfl rfl ?_;apply Exists.intro;refine ⟨fun us' W hp hl hI=>?_,?_⟩;· (have hE:=PutI.pre hI hl;have r : W.cell? ⟨wo.heap.size,0,none⟩ = some (.string a.name):=cell_of (Ext.obj (HXC.out.trans' hE) HJ.out.box) 0;go_simp;rfl));simp only [Act.put,zA,zB,zC,zD,zE,zF]
          (refine Rt.rs_sil rfl rfl rfl (fun K hK=>?_);go_simp;refine hK _ ?_;clear hK K)
          refine Rt.rs_eff rfl rfl rfl (fun W hI=>?_) (fun v hv=>?_)
          ·have hE:=PutI.pre hI (Nat.le_refl _)
           have hm : MapIs Value.string W w.heap.size (cols.map fun c=>(c.1.name,encP c.2)):=((HWR.out.hcols.ext HJ.out.below).ext HXC.out).ext hE
           have hup:=run_mapUpdate (P:=Tryz.prog) (T:=93) (K:=9) (E:=101) (k:=a.name) (v:=encP (W1.heap.size + 1)) (by kernel_rfl) hm (finds_string (by kernel_rfl) W _ _)
           unfold encP at hup ⊢
           refine Rt.gives_skp ?_
           apply Exists.intro
           refine ⟨by go_simp,.inr ⟨by simp,W,hE,rfl⟩⟩
          clear hv
          simp only [Act.put,zA,zB,zC,zD,zE,zF]
          refine Rt.rs_nil (fun W hI=>?_)
          obtain ⟨q,_⟩ | ⟨_,W9,hE,rfl⟩:=hI
          ·exact absurd q (by simp)
          have hstep:=HWR.out.step HJ.out (HXC.out.trans' hE) ha HOK.out HNO.out (by omega) (by omega) (by omega) hattr.1.2
          go_wp2_with fail
          exact ⟨⟨k + 1,cols ++ [(a,W1.heap.size + 1)],by omega,rfl,hstep⟩,by simp [intOf];omega⟩
      ·obtain ⟨s,hs⟩ : ∃ s,a.values[j]? = some s:=⟨_,List.getElem?_eq_getElem hjl⟩
       obtain ⟨sb,so,rfl,hcell⟩:=HEL.out j s hs
       have g1 : wr.cell? ⟨sb,so + j,none⟩ = some (.string s):=Ext.cell' (Ext.trans' HWR.out.below hJ.below) hcell
       have g2 : wr.cell? ⟨W1.heap.size + 1,5,none⟩ = some (.map (some W1.heap.size)):=cell_of hJ.col 5
       have hup:=run_mapUpdate (P:=Tryz.prog) (T:=102) (K:=9) (E:=3) (k:=s) (v:=.int .i64 (j : Int)) (by kernel_rfl) hJ.map (finds_string (by kernel_rfl) wr _ _)
       have HJ:=Lib.hid hJ
       clear hJ hcell
       go_wp2_with fail
       refine (isName_any s wr (HSZ.out s (List.mem_of_getElem? hs))).mono ?_
       rintro e w6 ⟨rfl,rfl⟩
       cases hns : nm s with
       | false=>
        go_wp2_with fail
        refine bodyPost_ret (v:=.tuple #[.pointer none,.int .i64 111]) (by simp [results,Tryz.results10,go_sem]) rfl ⟨?_,Or.inl ⟨fun hN=>?_,rfl⟩⟩
        ·exact Ext.trans' HWR.out.below HJ.out.below
        ·have:=(hN.attrs a (List.mem_of_getElem? ha)).names s (List.mem_of_getElem? hs)
         rw [hns] at this
         exact Bool.noConfusion this
       | true=>
        go_wp2_with fail
        have htk : a.values.take (j + 1) = a.values.take j ++ [s]:=by rw [List.take_add_one,hs];rfl
        have htl : (a.values.take j).length = j:=by rw [List.length_take];omega
        refine ⟨⟨j + 1,by omega,rfl,Lib.hid ?_,?_⟩,by simp [intOf];omega⟩
        ·intro v hv
         rw [htk] at hv
         rcases List.mem_append.1 hv with hv | hv
         ·exact hnm.out v hv
         ·rw [List.mem_singleton.1 hv];exact hns
        ·rw [htk,puts_snoc,htl]
         exact NewI.put HJ.out (by omega) (by omega) (by omega) _
end Go.Proofs.YtihfcjioilmmjaaGreat
