/- Parts of a proof, joined: The record in memory; the small functions that read it; the check of a fact. Contracts over the given program.; The keys of a map of ints, sorted: maps.Keys, slices.Sorted, by the shelf's contracts. Over the given program.; slices.IndexFunc, ContainsFunc, DeleteFunc at ints, with a function that makes memory but turns none. Over the given program.; The facts that hold in a version: (*Record).held. Over the given program.; 'for k, v := range m': the laws of a map that is a list (MapIs): an iterator that has given the entries at some places. Over any program's run of the operations; here at the given program.; maps.Copy at ints: the keys of both; nothing else turns. Over the given program.; slices.Values at ints, slices.AppendSeq, Collect and Sorted over it. The first part is turned from a worked proof of the kit (GgSlicesIterAtTheDump). Over the given program.; What slices.Compact leaves of a list in ascending order: each element once. Plain laws; no condition. -/
import Derived.Test.YtihfcjioilmmjaaGreatNa2
import Derived.WalkKit
import Derived.WalkSpells
import Derived.WalkLawsBesides
import Derived.Outline
import Derived.BigRegion
import Derived.Deep.QuietTactic
import Derived.BigQuiet
import Derived.StillTailTactics
import Derived.Deep.RegionLaw
import Derived.Deep.LoopGhost
import Derived.Deep.DeepFit
import Derived.Deep.DeepCutAuto
import Derived.Handy
import Derived.Lib.Hide
import Derived.Shelf.SlIterI.Nil
import Derived.Ground.GgzProg
import Derived.Lib.SliceRun
import Derived.Laws.IdiomCopy
import Derived.Maps.RangeRun
import Derived.RangeFuncNested
import Derived.RangeFuncBound
import Derived.RangeFuncCalls
import Derived.RangeFuncLeaves
import Derived.Shelf.Abstract
import Derived.Shelf.RegionOpen
import Derived.OwnWalkIn
import Derived.TacticsInMore
import Derived.LoopNIn
import Derived.LoopIn
import Derived.RangeFuncBox
import Derived.Maps.AppendAt
set_option linter.all false
namespace Go.Proofs.YtihfcjioilmmjaaGreat
open Go Go.RowKit

/-- A map that may be nil. -/
def MapV (w : World) (o : Option Nat) (l : List (Int × Value)) : Prop := (o = none ∧ l = []) ∨ ∃ b, o = some b ∧ MapIs (Value.int .i64) w b l
theorem MapV.ext {w w' : World} {o : Option Nat} {l : List (Int × Value)} (h : MapV w o l) (he : Ext w w') : MapV w' o l := by
  rcases h with h | ⟨b, h1, h2⟩
  · exact .inl h
  · exact .inr ⟨b, h1, h2.ext he⟩
theorem MapV.lookup {w : World} {o : Option Nat} {l : List (Int × Value)} (h : MapV w o l) (n : Int) :
    (Instr.lookup 94 (.map o) (.int .i64 n) true).run Tryz.prog w = .ok (.tuple #[(look l n).getD (.int .i64 0), .bool (look l n).isSome]) w := by
  rcases h with ⟨rfl, rfl⟩ | ⟨b, rfl, h2⟩
  · have ht : Tryz.prog.underlying 94 = some (.map 3 3) := by kernel_rfl
    have hk : Tryz.prog.underlying 3 = some (.int .i64) := by kernel_rfl
    have hz : (zeroValue 3).run Tryz.prog w = .ok (.int .i64 0) w := by kernel_rfl
    have hck : ∀ b, (Instr.checkKey b 10000 3 (.int .i64 n)).run Tryz.prog w = .ok () w := fun b => by unfold Instr.checkKey; simp [run_underlying hk, Result.andThen]
    have hfk : (Instr.findKey 3 (.int .i64 n) []).run Tryz.prog w = .ok none w := by simp [Instr.findKey, run_underlying hk, Instr.findNow, Result.andThen]
    unfold Instr.lookup
    simp [run_underlying ht, look, hz, Result.andThen, hck, hfk]
  · exact run_lookup2 (P := Tryz.prog) (T := 94) (K := 3) (E := 3) (z := .int .i64 0) (k := n) (by kernel_rfl) h2 (finds_int (by kernel_rfl) w _ _) (by kernel_rfl)

structure FR where
  subject : ByteArray
  attr : Attr
  col : Nat
  st : St
structure Ver where
  added : List (Int × Value)
  wd : List (Int × Value)
structure Rec where
  cols : List (Attr × Nat)
  vers : List Ver
  facts : List FR

def Ver.holds (v : Ver) (n : Int) : Bool := (look v.added n).isSome && !(look v.wd n).isSome

/-- A column that a record made: its list of values lies in a block of texts of its own. -/
def ColK (w : World) (cb : Nat) (a : Attr) : Prop :=
  ∃ vals at_ pb, w.heap[cb]? = some (.cells #[.string a.name, vals, .int .i64 a.low, .int .i64 a.high, .int .i64 at_, .map (some pb)] 104 (0, 0)) ∧ (∃ B, w.ownsRow B 9 1 vals a.values.length (a.values.map Value.string)) ∧ (∀ s ∈ a.values, s.size ≤ maxLen) ∧
    MapIs Value.string w pb (a.values.zipIdx.map fun x => (x.1, .int .i64 (x.2 : Int)))
theorem ColK.colAt {w : World} {cb : Nat} {a : Attr} (h : ColK w cb a) : ColAt w cb a := by
  obtain ⟨v, t, pb, h1, ⟨B, h2⟩, h3, h4⟩ := h
  exact ⟨v, t, pb, h1, ⟨SlAt.of_owns h2, h3⟩, h4⟩

def frCells (f : FR) (x : List Value) : List Value := [.string f.subject] ++ x ++ [encP f.col, .int .u64 f.st.bits, .int .i64 f.st.low, .int .i64 f.st.high]

structure RecOk (R : Rec) : Prop where
  vers : R.vers.length ≤ 200
  facts : R.facts.length ≤ 300
  one : 1 ≤ R.vers.length
  attrs : ∀ c ∈ R.cols, AttrOk c.1
  names : (R.cols.map (·.1.name)).Nodup
  few : R.cols.length ≤ 12
  keys : ∀ v ∈ R.vers, (v.added.map (·.1)).Nodup ∧ (v.wd.map (·.1)).Nodup ∧ ∀ n : Int, n ∈ v.added.map (·.1) → 1 ≤ n ∧ n ≤ (R.facts.length : Int)
  fact : ∀ f ∈ R.facts, (f.attr, f.col) ∈ R.cols ∧ subj f.subject = true ∧ f.subject.size < 4294967281 ∧ f.st.bits < 256 ∧ i64ok f.st.low ∧ i64ok f.st.high

/-- What a row of facts holds of a fact as it was given. -/
def FourOk (x : List Value) : Prop := ∃ s p n c lo hi, x = [.string s, .slice p n c, .int .i64 lo, .int .i64 hi]

/-- The record in memory. -/
structure RecAt (B : Nat) (w : World) (rb : Nat) (R : Rec) (cm : Nat) (vv fv : Value) (os : List (Option Nat × Option Nat)) (xs : List (List Value)) : Prop where
  base : B ≤ rb
  blk : w.heap[rb]? = some (.cells #[.map (some cm), vv, fv] 100 (0, 0))
  cols : MapIs Value.string w cm (R.cols.map fun c => (c.1.name, encP c.2))
  colAt : ∀ c ∈ R.cols, ColK w c.2 c.1
  vers : w.ownsRow B 96 2 vv R.vers.length (os.flatMap fun o => [.map o.1, .map o.2])
  verLen : os.length = R.vers.length
  verAt : ∀ (i : Nat) o v, os[i]? = some o → R.vers[i]? = some v → MapV w o.1 v.added ∧ MapV w o.2 v.wd
  facts : w.ownsRow B 122 9 fv R.facts.length ((R.facts.zip xs).flatMap fun x => frCells x.1 x.2)
  factLen : xs.length = R.facts.length
  four : ∀ x ∈ xs, FourOk x
  ok : RecOk R

set_option maxHeartbeats 1000000 in
set_option maxRecDepth 100000 in
theorem has_any (rb : Nat) (p : Option Addr) (n cap : Nat) (v : Int) (w : World) (h : w.cell? ⟨rb, 1, none⟩ = some (.slice p n cap)) :
    Calls Tryz.prog 37 #[encP rb, .int .i64 v] w fun e w' => e = .returned (.bool (decide (0 ≤ v) && decide (v < n))) ∧ w = w' := by
  obtain ⟨c1, h1⟩ : ∃ c, decide (0 ≤ v) = c := ⟨_, rfl⟩
  obtain ⟨c2, h2⟩ : ∃ c, decide (v < n) = c := ⟨_, rfl⟩
  rw [h1, h2]
  unfold encP
  go_enter Tryz.func37, Tryz.ntmps37
  go_wp2_with fail
  all_goals (rename_i hx1; (try simp only [Bool.not_eq_true] at hx1); subst hx1; go_ret; exact ⟨rfl, by first | rfl | repeat' (first | with_reducible exact Below.refl _ _ | with_reducible assumption | with_reducible apply Below.drew | with_reducible exact below_drewN (by with_reducible assumption) _ | (with_reducible refine Below.setCell ?_ (by first | exact Nat.le_refl _ | assumption | (simp; done) | omega | (simp; omega)) _) | (with_reducible refine Below.alloc ?_ (by first | exact Nat.le_refl _ | assumption | (simp; done) | omega | (simp; omega)) _) | (with_reducible refine below_putObj ?_ (by first | exact Nat.le_refl _ | assumption | (simp; done) | omega | (simp; omega)) _) | (with_reducible refine below_drawn ?_ _))⟩)

set_option maxHeartbeats 1000000 in
set_option maxRecDepth 100000 in
theorem holds_any (oa od : Option Nat) (v : Ver) (n : Int) (w : World) (ha : MapV w oa v.added) (hd : MapV w od v.wd) :
    Calls Tryz.prog 42 #[.agg #[.map oa, .map od], .int .i64 n] w fun e w' => e = .returned (.bool (v.holds n)) ∧ Ext w w' := by
  have l1 : ∀ W, Ext w W → (Instr.lookup 94 (.map oa) (.int .i64 n) true).run Tryz.prog W = .ok (.tuple #[(look v.added n).getD (.int .i64 0), .bool (look v.added n).isSome]) W := fun W hW => (ha.ext hW).lookup n
  have l2 : ∀ W, Ext w W → (Instr.lookup 94 (.map od) (.int .i64 n) true).run Tryz.prog W = .ok (.tuple #[(look v.wd n).getD (.int .i64 0), .bool (look v.wd n).isSome]) W := fun W hW => (hd.ext hW).lookup n
  have hv : v.holds n = ((look v.added n).isSome && !(look v.wd n).isSome) := rfl
  rw [hv]
  clear hv ha hd
  generalize (look v.added n).isSome = c1 at *
  generalize (look v.wd n).isSome = c2 at *
  generalize (look v.added n).getD (.int .i64 0) = v1 at *
  generalize (look v.wd n).getD (.int .i64 0) = v2 at *
  go_enter Tryz.func42, Tryz.ntmps42
  have k1 := l1 (w.alloc (.cells #[.map oa, .map od] 96 (0, 0))) (by repeat' (first | with_reducible exact Below.refl _ _ | with_reducible assumption | with_reducible apply Below.drew | with_reducible exact below_drewN (by with_reducible assumption) _ | (with_reducible refine Below.setCell ?_ (by first | exact Nat.le_refl _ | assumption | (simp; done) | omega | (simp; omega)) _) | (with_reducible refine Below.alloc ?_ (by first | exact Nat.le_refl _ | assumption | (simp; done) | omega | (simp; omega)) _) | (with_reducible refine below_putObj ?_ (by first | exact Nat.le_refl _ | assumption | (simp; done) | omega | (simp; omega)) _) | (with_reducible refine below_drawn ?_ _)))
  have k2 := l2 (w.alloc (.cells #[.map oa, .map od] 96 (0, 0))) (by repeat' (first | with_reducible exact Below.refl _ _ | with_reducible assumption | with_reducible apply Below.drew | with_reducible exact below_drewN (by with_reducible assumption) _ | (with_reducible refine Below.setCell ?_ (by first | exact Nat.le_refl _ | assumption | (simp; done) | omega | (simp; omega)) _) | (with_reducible refine Below.alloc ?_ (by first | exact Nat.le_refl _ | assumption | (simp; done) | omega | (simp; omega)) _) | (with_reducible refine below_putObj ?_ (by first | exact Nat.le_refl _ | assumption | (simp; done) | omega | (simp; omega)) _) | (with_reducible refine below_drawn ?_ _)))
  clear l1 l2
  go_wp2_with fail
  all_goals (rename_i hx1; (try simp only [Bool.not_eq_true] at hx1); subst hx1; go_ret; exact ⟨rfl, by first | rfl | repeat' (first | with_reducible exact Below.refl _ _ | with_reducible assumption | with_reducible apply Below.drew | with_reducible exact below_drewN (by with_reducible assumption) _ | (with_reducible refine Below.setCell ?_ (by first | exact Nat.le_refl _ | assumption | (simp; done) | omega | (simp; omega)) _) | (with_reducible refine Below.alloc ?_ (by first | exact Nat.le_refl _ | assumption | (simp; done) | omega | (simp; omega)) _) | (with_reducible refine below_putObj ?_ (by first | exact Nat.le_refl _ | assumption | (simp; done) | omega | (simp; omega)) _) | (with_reducible refine below_drawn ?_ _))⟩)

set_option maxHeartbeats 1000000 in
set_option maxRecDepth 100000 in
theorem checkVersion_nil (v : Int) (w : World) :
    Calls Tryz.prog 43 #[.pointer none, .int .i64 v] w fun e w' => e = .returned (.int .i64 1) ∧ w = w' := by
  go_enter Tryz.func43, Tryz.ntmps43
  go_wp2_with fail
  go_ret
  exact ⟨rfl, rfl⟩

def RecAt.has (R : Rec) (v : Int) : Bool := decide (0 ≤ v) && decide (v < R.vers.length)

set_option maxHeartbeats 1000000 in
set_option maxRecDepth 100000 in
theorem checkVersion_any (rb : Nat) (p : Option Addr) (n cap : Nat) (v : Int) (w : World) (h : w.cell? ⟨rb, 1, none⟩ = some (.slice p n cap)) :
    Calls Tryz.prog 43 #[encP rb, .int .i64 v] w fun e w' => e = .returned (.int .i64 (if decide (0 ≤ v) && decide (v < n) then 0 else 110)) ∧ w = w' := by
  have H := Lib.hid h
  obtain ⟨c1, h1⟩ : ∃ c, (decide (0 ≤ v) && decide (v < n)) = c := ⟨_, rfl⟩
  rw [h1]
  have H1 := Lib.hid h1
  clear h1
  unfold encP
  go_enter Tryz.func43, Tryz.ntmps43
  go_wp2_with fail
  refine (has_any rb p n cap v w h).mono ?_
  rintro e w1 ⟨rfl, rfl⟩
  rw [H1.out]
  cases c1 <;> (go_wp2_with fail) <;> (go_ret; exact ⟨rfl, rfl⟩)

def colOf (R : Rec) (k : ByteArray) : Option (Attr × Nat) := R.cols.find? fun c => decide (c.1.name = k)

theorem look_cols (k : ByteArray) : ∀ l : List (Attr × Nat), look (l.map fun c => (c.1.name, encP c.2)) k = (l.find? fun c => decide (c.1.name = k)).map fun c => encP c.2
  | [] => rfl
  | c :: r => by
    simp only [List.map_cons, look, List.find?_cons]
    by_cases h : c.1.name = k
    · simp [h]
    · simp [h, look_cols k r]

theorem colOf_mem {R : Rec} {k : ByteArray} {c : Attr × Nat} (h : colOf R k = some c) : c ∈ R.cols ∧ c.1.name = k := by
  unfold colOf at h
  exact ⟨List.mem_of_find?_eq_some h, by simpa using List.find?_some h⟩

/-- The look-up of a column. -/
theorem lookup_col {B : Nat} {w : World} {rb : Nat} {R : Rec} {cm : Nat} {vv fv : Value} {os : List (Option Nat × Option Nat)} {xs : List (List Value)} (h : RecAt B w rb R cm vv fv os xs) {W : World} (he : Ext w W) (k : ByteArray) :
    (Instr.lookup 93 (.map (some cm)) (.string k) true).run Tryz.prog W = .ok (.tuple #[match colOf R k with | some c => encP c.2 | none => .pointer none, .bool (colOf R k).isSome]) W := by
  have := run_lookup2 (P := Tryz.prog) (T := 93) (K := 9) (E := 101) (z := .pointer none) (k := k) (by kernel_rfl) (h.cols.ext he) (finds_string (by kernel_rfl) W _ _) (by kernel_rfl)
  rw [look_cols] at this
  rw [this]
  unfold colOf
  cases List.find? (fun c => decide (c.1.name = k)) R.cols <;> rfl

def checkF (R : Rec) (f : Fct) : Option FR :=
  match colOf R f.attr with
  | none => none
  | some c => if subj f.subject then (if (readF c.1 f.values f.low f.high).2 then some ⟨f.subject, c.1, c.2, (readF c.1 f.values f.low f.high).1⟩ else none) else none

def noFR : Value := .agg #[.string ⟨#[]⟩, .string ⟨#[]⟩, .slice none 0 0, .int .i64 0, .int .i64 0, .pointer none, .int .u64 0, .int .i64 0, .int .i64 0]

set_option maxHeartbeats 1000000 in
set_option maxRecDepth 100000 in
theorem check_no {B : Nat} {w : World} {rb : Nat} {R : Rec} {cm : Nat} {vv fv : Value} {os : List (Option Nat × Option Nat)} {xs : List (List Value)} (h : RecAt B w rb R cm vv fv os xs) (hg : Glob w) (f : Fct) (v : Value)
    (hf : StrsAt w v f.values) (hs : f.subject.size < 4294967281) (hlen : f.values.length * 16 ≤ 140737488355328) (hc : colOf R f.attr = none) :
    Calls Tryz.prog 39 #[encP rb, factVal f v] w fun e w' => e = .returned (.tuple #[noFR, .int .i64 112]) ∧ Ext w w' := by
  have hlk : ∀ W, Ext w W → (Instr.lookup 93 (.map (some cm)) (.string f.attr) true).run Tryz.prog W = .ok (.tuple #[.pointer none, .bool false]) W := fun W hW => by
    rw [lookup_col h hW, hc]; rfl
  have hr0 : w.cell? ⟨rb, 0, none⟩ = some (.map (some cm)) := cell_of h.blk 0
  have hrb := heap_lt h.blk
  have hall : ∃ W1, W1 = (w.alloc (.cells #[.string f.subject, .string f.attr, v, .int .i64 f.low, .int .i64 f.high] 46 (0, 0))).alloc (.cells #[.string ⟨#[]⟩, .string ⟨#[]⟩, .slice none 0 0, .int .i64 0, .int .i64 0, .pointer none, .int .u64 0, .int .i64 0, .int .i64 0] 122 (0, 0)) := ⟨_, rfl⟩
  obtain ⟨W1, hW1⟩ := hall
  have hx : Ext w W1 := by rw [hW1]; repeat' (first | with_reducible exact Below.refl _ _ | with_reducible assumption | with_reducible apply Below.drew | with_reducible exact below_drewN (by with_reducible assumption) _ | (with_reducible refine Below.setCell ?_ (by first | exact Nat.le_refl _ | assumption | (simp; done) | omega | (simp; omega)) _) | (with_reducible refine Below.alloc ?_ (by first | exact Nat.le_refl _ | assumption | (simp; done) | omega | (simp; omega)) _) | (with_reducible refine below_putObj ?_ (by first | exact Nat.le_refl _ | assumption | (simp; done) | omega | (simp; omega)) _) | (with_reducible refine below_drawn ?_ _))
  have hx1 : W1.heap[w.heap.size]? = some (.cells #[.string f.subject, .string f.attr, v, .int .i64 f.low, .int .i64 f.high] 46 (0, 0)) := by rw [hW1]; simp only [heap_drawn_get, heap_drew_get, heap_setCell_get, heap_alloc_get, World.size_alloc, World.size_setCell, size_drawn, putObj_get, putObj_size]; (repeat (first | rw [if_pos trivial] | rw [if_pos rfl] | rw [if_neg (by omega)] | rw [if_pos (by omega)]))
  have hx2 : W1.heap[w.heap.size + 1]? = some (.cells #[.string ⟨#[]⟩, .string ⟨#[]⟩, .slice none 0 0, .int .i64 0, .int .i64 0, .pointer none, .int .u64 0, .int .i64 0, .int .i64 0] 122 (0, 0)) := by rw [hW1]; simp only [heap_drawn_get, heap_drew_get, heap_setCell_get, heap_alloc_get, World.size_alloc, World.size_setCell, size_drawn, putObj_get, putObj_size]; (repeat (first | rw [if_pos trivial] | rw [if_pos rfl] | rw [if_neg (by omega)] | rw [if_pos (by omega)]))
  have hr1 : W1.cell? ⟨rb, 0, none⟩ = some (.map (some cm)) := hx.cell' hr0
  have HX1 := Lib.hid hx1
  have HX2 := Lib.hid hx2
  clear hx1 hx2 hr0
  unfold factVal factCells encP
  go_enter Tryz.func39, Tryz.ntmps39
  go_wp2_with fail
  rw [← hW1]
  have HW := Lib.hid hW1
  clear hW1
  refine Rt.wp_region_rt (by kernel_rfl) [0, 1, 2, 3, 4, 5, 6, 7, 8, 9, 10, 11] [] [1000, 1000, 1000, 1000, 1000, 1000, 1000, 1000, 1000, 1000, 1000, 1000] [0, 1, 3, 7, 0, 16, 63, 127, 255, 255, 511, 2047] (by kernel_rfl) (fun _ W => Ext W1 W) ?_ ?_
  · exact below_drawn (ext_refl _) _
  iterate 3 (refine Rt.rs_sil rfl rfl rfl (fun K hK => ?_); go_simp; refine hK _ ?_; clear hK K)
  (refine Rt.rs_rd rfl rfl rfl ?_; apply Exists.intro; refine ⟨fun us' W hp hl hI => ?_, ?_⟩; · (have c1 := Ext.cell' hI hr1; go_simp; rfl)); simp only [Act.put, List.getElem_toArray, List.getElem_cons_succ, List.getElem_cons_zero, List.setIfInBounds_toArray, List.set_cons_succ, List.set_cons_zero]
  (refine Rt.rs_sil rfl rfl rfl (fun K hK => ?_); go_simp; refine hK _ ?_; clear hK K)
  (refine Rt.rs_rd rfl rfl rfl ?_; apply Exists.intro; refine ⟨fun us' W hp hl hI => ?_, ?_⟩; · (have hx1 := Ext.obj hI HX1.out; have c1 : W.cell? ⟨w.heap.size, 1, none⟩ = some (.string f.attr) := cell_of hx1 1; go_simp; rfl)); simp only [Act.put, List.getElem_toArray, List.getElem_cons_succ, List.getElem_cons_zero, List.setIfInBounds_toArray, List.set_cons_succ, List.set_cons_zero]
  (refine Rt.rs_rd rfl rfl rfl ?_; apply Exists.intro; refine ⟨fun us' W hp hl hI => ?_, ?_⟩; · (have hk := hlk W (hx.trans' hI); go_simp; rfl)); simp only [Act.put, List.getElem_toArray, List.getElem_cons_succ, List.getElem_cons_zero, List.setIfInBounds_toArray, List.set_cons_succ, List.set_cons_zero]
  iterate 5 (refine Rt.rs_sil rfl rfl rfl (fun K hK => ?_); go_simp; refine hK _ ?_; clear hK K)
  refine Rt.rs_nil (fun W hI => ?_)
  have hx1 := Ext.obj hI HX1.out
  have hx2 := Ext.obj hI HX2.out
  have c0 : W.cell? ⟨w.heap.size, 0, none⟩ = some (.string f.subject) := cell_of hx1 0
  have fc0 := frozen_of hx1 0
  have c1 : W.cell? ⟨w.heap.size, 1, none⟩ = some (.string f.attr) := cell_of hx1 1
  have fc1 := frozen_of hx1 1
  have c2 : W.cell? ⟨w.heap.size, 2, none⟩ = some (v) := cell_of hx1 2
  have fc2 := frozen_of hx1 2
  have c3 : W.cell? ⟨w.heap.size, 3, none⟩ = some (.int .i64 f.low) := cell_of hx1 3
  have fc3 := frozen_of hx1 3
  have c4 : W.cell? ⟨w.heap.size, 4, none⟩ = some (.int .i64 f.high) := cell_of hx1 4
  have fc4 := frozen_of hx1 4
  have d0 : W.cell? ⟨w.heap.size + 1, 0, none⟩ = some (.string ⟨#[]⟩) := cell_of hx2 0
  have fd0 := frozen_of hx2 0
  have d1 : W.cell? ⟨w.heap.size + 1, 1, none⟩ = some (.string ⟨#[]⟩) := cell_of hx2 1
  have fd1 := frozen_of hx2 1
  have d2 : W.cell? ⟨w.heap.size + 1, 2, none⟩ = some (.slice none 0 0) := cell_of hx2 2
  have fd2 := frozen_of hx2 2
  have d3 : W.cell? ⟨w.heap.size + 1, 3, none⟩ = some (.int .i64 0) := cell_of hx2 3
  have fd3 := frozen_of hx2 3
  have d4 : W.cell? ⟨w.heap.size + 1, 4, none⟩ = some (.int .i64 0) := cell_of hx2 4
  have fd4 := frozen_of hx2 4
  have d5 : W.cell? ⟨w.heap.size + 1, 5, none⟩ = some (.pointer none) := cell_of hx2 5
  have fd5 := frozen_of hx2 5
  have d6 : W.cell? ⟨w.heap.size + 1, 6, none⟩ = some (.int .u64 0) := cell_of hx2 6
  have fd6 := frozen_of hx2 6
  have d7 : W.cell? ⟨w.heap.size + 1, 7, none⟩ = some (.int .i64 0) := cell_of hx2 7
  have fd7 := frozen_of hx2 7
  have d8 : W.cell? ⟨w.heap.size + 1, 8, none⟩ = some (.int .i64 0) := cell_of hx2 8
  have fd8 := frozen_of hx2 8
  have HXX := Lib.hid (hx.trans' hI)
  clear hx1 hx2 hI hlk
  go_wp2_with fail
  refine bodyPost_ret (v := .tuple #[noFR, .int .i64 112]) (by simp [results, Tryz.results39, go_sem, d0, d1, d2, d3, d4, d5, d6, d7, d8, noFR]) rfl ⟨rfl, ?_⟩
  have hx3 := HXX.out
  repeat' (first | with_reducible exact Below.refl _ _ | with_reducible assumption | with_reducible apply Below.drew | with_reducible exact below_drewN (by with_reducible assumption) _ | (with_reducible refine Below.setCell ?_ (by first | exact Nat.le_refl _ | assumption | (simp; done) | omega | (simp; omega)) _) | (with_reducible refine Below.alloc ?_ (by first | exact Nat.le_refl _ | assumption | (simp; done) | omega | (simp; omega)) _) | (with_reducible refine below_putObj ?_ (by first | exact Nat.le_refl _ | assumption | (simp; done) | omega | (simp; omega)) _) | (with_reducible refine below_drawn ?_ _))

/-- What holds in check's last region. -/
def ChkI (w : World) (n m : Nat) (f : Fct) (v : Value) (cb : Nat) (s : St) (us : List Value) (W : World) : Prop :=
  Below n w W ∧ W.heap[n]? = some (.cells #[.string f.subject, .string f.attr, v, .int .i64 f.low, .int .i64 f.high] 46 (0, 0)) ∧ W.heap[m]? = some (.cells #[.int .u64 s.bits, .int .i64 s.low, .int .i64 s.high] 120 (0, 0)) ∧
  match us with
  | [] => W.heap[n + 1]? = some (.cells #[.string ⟨#[]⟩, .string ⟨#[]⟩, .slice none 0 0, .int .i64 0, .int .i64 0, .pointer none, .int .u64 0, .int .i64 0, .int .i64 0] 122 (0, 0))
  | [u] => (∃ p cap, u = .agg #[.string f.subject, .string f.attr, .slice p f.values.length cap, .int .i64 f.low, .int .i64 f.high]) ∧ W.heap[n + 1]? = some (.cells #[.string ⟨#[]⟩, .string ⟨#[]⟩, .slice none 0 0, .int .i64 0, .int .i64 0, .pointer none, .int .u64 0, .int .i64 0, .int .i64 0] 122 (0, 0))
  | u :: _ => ∃ p cap, u = .agg #[.string f.subject, .string f.attr, .slice p f.values.length cap, .int .i64 f.low, .int .i64 f.high] ∧ W.heap[n + 1]? = some (.cells #[.string f.subject, .string f.attr, .slice p f.values.length cap, .int .i64 f.low, .int .i64 f.high, .pointer (some ⟨cb, 0, none⟩), .int .u64 s.bits, .int .i64 s.low, .int .i64 s.high] 122 (0, 0))

set_option maxHeartbeats 4000000 in
set_option maxRecDepth 100000 in
theorem check_col {B : Nat} {w : World} {rb : Nat} {R : Rec} {cm : Nat} {vv fv : Value} {os : List (Option Nat × Option Nat)} {xs : List (List Value)} (h : RecAt B w rb R cm vv fv os xs) (hg : Glob w) (f : Fct) (v : Value)
    (hf : StrsAt w v f.values) (hs : f.subject.size < 4294967281) (hlen : f.values.length * 16 ≤ 140737488355328) (c : Attr × Nat) (hc : colOf R f.attr = some c) :
    Calls Tryz.prog 39 #[encP rb, factVal f v] w fun e w' => Ext w w' ∧
      ((checkF R f = none ∧ e = .returned (.tuple #[noFR, .int .i64 112])) ∨
       ∃ fr p' c', checkF R f = some fr ∧ e = .returned (.tuple #[.agg (frCells fr [.string f.attr, .slice p' f.values.length c', .int .i64 f.low, .int .i64 f.high]).toArray, .int .i64 0])) := by
  obtain ⟨cmem, cname⟩ := colOf_mem hc
  have hcol := (h.colAt c cmem).colAt
  have hok := h.ok.attrs c cmem
  have hlk : ∀ W, Ext w W → (Instr.lookup 93 (.map (some cm)) (.string f.attr) true).run Tryz.prog W = .ok (.tuple #[encP c.2, .bool true]) W := fun W hW => by
    rw [lookup_col h hW, hc]; rfl
  have hr0 : w.cell? ⟨rb, 0, none⟩ = some (.map (some cm)) := cell_of h.blk 0
  have hrb := heap_lt h.blk
  have hcF : checkF R f = if subj f.subject then (if (readF c.1 f.values f.low f.high).2 then some ⟨f.subject, c.1, c.2, (readF c.1 f.values f.low f.high).1⟩ else none) else none := by unfold checkF; rw [hc]
  rw [hcF]
  clear hcF
  obtain ⟨sb, hsb⟩ : ∃ sb, subj f.subject = sb := ⟨_, rfl⟩
  rw [hsb]
  generalize hrd : readF c.1 f.values f.low f.high = rd
  have HSB := Lib.hid hsb
  have HRD := Lib.hid hrd
  have HCOL := Lib.hid hcol
  have HOK := Lib.hid hok
  have HF := Lib.hid hf
  have HS := Lib.hid hs
  have HREC := Lib.hid h
  clear hsb hrd hcol hok hf hs h cmem cname hc
  obtain ⟨a, cb⟩ := c
  have hall : ∃ W1, W1 = (w.alloc (.cells #[.string f.subject, .string f.attr, v, .int .i64 f.low, .int .i64 f.high] 46 (0, 0))).alloc (.cells #[.string ⟨#[]⟩, .string ⟨#[]⟩, .slice none 0 0, .int .i64 0, .int .i64 0, .pointer none, .int .u64 0, .int .i64 0, .int .i64 0] 122 (0, 0)) := ⟨_, rfl⟩
  obtain ⟨W1, hW1⟩ := hall
  have hx : Ext w W1 := by rw [hW1]; repeat' (first | with_reducible exact Below.refl _ _ | with_reducible assumption | with_reducible apply Below.drew | with_reducible exact below_drewN (by with_reducible assumption) _ | (with_reducible refine Below.setCell ?_ (by first | exact Nat.le_refl _ | assumption | (simp; done) | omega | (simp; omega)) _) | (with_reducible refine Below.alloc ?_ (by first | exact Nat.le_refl _ | assumption | (simp; done) | omega | (simp; omega)) _) | (with_reducible refine below_putObj ?_ (by first | exact Nat.le_refl _ | assumption | (simp; done) | omega | (simp; omega)) _) | (with_reducible refine below_drawn ?_ _))
  have hx1 : W1.heap[w.heap.size]? = some (.cells #[.string f.subject, .string f.attr, v, .int .i64 f.low, .int .i64 f.high] 46 (0, 0)) := by rw [hW1]; simp only [heap_drawn_get, heap_drew_get, heap_setCell_get, heap_alloc_get, World.size_alloc, World.size_setCell, size_drawn, putObj_get, putObj_size]; (repeat (first | rw [if_pos trivial] | rw [if_pos rfl] | rw [if_neg (by omega)] | rw [if_pos (by omega)]))
  have hx2 : W1.heap[w.heap.size + 1]? = some (.cells #[.string ⟨#[]⟩, .string ⟨#[]⟩, .slice none 0 0, .int .i64 0, .int .i64 0, .pointer none, .int .u64 0, .int .i64 0, .int .i64 0] 122 (0, 0)) := by rw [hW1]; simp only [heap_drawn_get, heap_drew_get, heap_setCell_get, heap_alloc_get, World.size_alloc, World.size_setCell, size_drawn, putObj_get, putObj_size]; (repeat (first | rw [if_pos trivial] | rw [if_pos rfl] | rw [if_neg (by omega)] | rw [if_pos (by omega)]))
  have hr1 : W1.cell? ⟨rb, 0, none⟩ = some (.map (some cm)) := hx.cell' hr0
  have HX1 := Lib.hid hx1
  have HX2 := Lib.hid hx2
  clear hx1 hx2 hr0
  have hsz : w.heap.size + 2 ≤ W1.heap.size := by rw [hW1, World.size_alloc, World.size_alloc]; exact Nat.le_refl _
  unfold factVal factCells encP at *
  go_enter Tryz.func39, Tryz.ntmps39
  go_wp2_with fail
  rw [← hW1]
  have HW := Lib.hid hW1
  clear hW1
  refine Rt.wp_region_rt (by kernel_rfl) [0, 1, 2, 3, 4, 5, 6, 7, 8, 9, 10, 11] [] [1000, 1000, 1000, 1000, 1000, 1000, 1000, 1000, 1000, 1000, 1000, 1000] [0, 1, 3, 7, 0, 16, 63, 127, 255, 255, 511, 2047] (by kernel_rfl) (fun _ W => Ext W1 W) ?_ ?_
  · exact below_drawn (ext_refl _) _
  iterate 3 (refine Rt.rs_sil rfl rfl rfl (fun K hK => ?_); go_simp; refine hK _ ?_; clear hK K)
  (refine Rt.rs_rd rfl rfl rfl ?_; apply Exists.intro; refine ⟨fun us' W hp hl hI => ?_, ?_⟩; · (have c1 := Ext.cell' hI hr1; go_simp; rfl)); simp only [Act.put, List.getElem_toArray, List.getElem_cons_succ, List.getElem_cons_zero, List.setIfInBounds_toArray, List.set_cons_succ, List.set_cons_zero]
  (refine Rt.rs_sil rfl rfl rfl (fun K hK => ?_); go_simp; refine hK _ ?_; clear hK K)
  (refine Rt.rs_rd rfl rfl rfl ?_; apply Exists.intro; refine ⟨fun us' W hp hl hI => ?_, ?_⟩; · (have hx1 := Ext.obj hI HX1.out; have c1 : W.cell? ⟨w.heap.size, 1, none⟩ = some (.string f.attr) := cell_of hx1 1; go_simp; rfl)); simp only [Act.put, List.getElem_toArray, List.getElem_cons_succ, List.getElem_cons_zero, List.setIfInBounds_toArray, List.set_cons_succ, List.set_cons_zero]
  (refine Rt.rs_rd rfl rfl rfl ?_; apply Exists.intro; refine ⟨fun us' W hp hl hI => ?_, ?_⟩; · (have hk := hlk W (hx.trans' hI); go_simp; rfl)); simp only [Act.put, List.getElem_toArray, List.getElem_cons_succ, List.getElem_cons_zero, List.setIfInBounds_toArray, List.set_cons_succ, List.set_cons_zero]
  iterate 5 (refine Rt.rs_sil rfl rfl rfl (fun K hK => ?_); go_simp; refine hK _ ?_; clear hK K)
  refine Rt.rs_nil (fun W hI => ?_)
  have c0 : W.cell? ⟨w.heap.size, 0, none⟩ = some (.string f.subject) := cell_of (Ext.obj hI HX1.out) 0
  have c1 : W.cell? ⟨w.heap.size, 1, none⟩ = some (.string f.attr) := cell_of (Ext.obj hI HX1.out) 1
  have c2 : W.cell? ⟨w.heap.size, 2, none⟩ = some (v) := cell_of (Ext.obj hI HX1.out) 2
  have c3 : W.cell? ⟨w.heap.size, 3, none⟩ = some (.int .i64 f.low) := cell_of (Ext.obj hI HX1.out) 3
  have c4 : W.cell? ⟨w.heap.size, 4, none⟩ = some (.int .i64 f.high) := cell_of (Ext.obj hI HX1.out) 4
  have d0 : W.cell? ⟨w.heap.size + 1, 0, none⟩ = some (.string ⟨#[]⟩) := cell_of (Ext.obj hI HX2.out) 0
  have fd0 := frozen_of (Ext.obj hI HX2.out) 0
  have d1 : W.cell? ⟨w.heap.size + 1, 1, none⟩ = some (.string ⟨#[]⟩) := cell_of (Ext.obj hI HX2.out) 1
  have fd1 := frozen_of (Ext.obj hI HX2.out) 1
  have d2 : W.cell? ⟨w.heap.size + 1, 2, none⟩ = some (.slice none 0 0) := cell_of (Ext.obj hI HX2.out) 2
  have fd2 := frozen_of (Ext.obj hI HX2.out) 2
  have d3 : W.cell? ⟨w.heap.size + 1, 3, none⟩ = some (.int .i64 0) := cell_of (Ext.obj hI HX2.out) 3
  have fd3 := frozen_of (Ext.obj hI HX2.out) 3
  have d4 : W.cell? ⟨w.heap.size + 1, 4, none⟩ = some (.int .i64 0) := cell_of (Ext.obj hI HX2.out) 4
  have fd4 := frozen_of (Ext.obj hI HX2.out) 4
  have d5 : W.cell? ⟨w.heap.size + 1, 5, none⟩ = some (.pointer none) := cell_of (Ext.obj hI HX2.out) 5
  have fd5 := frozen_of (Ext.obj hI HX2.out) 5
  have d6 : W.cell? ⟨w.heap.size + 1, 6, none⟩ = some (.int .u64 0) := cell_of (Ext.obj hI HX2.out) 6
  have fd6 := frozen_of (Ext.obj hI HX2.out) 6
  have d7 : W.cell? ⟨w.heap.size + 1, 7, none⟩ = some (.int .i64 0) := cell_of (Ext.obj hI HX2.out) 7
  have fd7 := frozen_of (Ext.obj hI HX2.out) 7
  have d8 : W.cell? ⟨w.heap.size + 1, 8, none⟩ = some (.int .i64 0) := cell_of (Ext.obj hI HX2.out) 8
  have fd8 := frozen_of (Ext.obj hI HX2.out) 8
  have hxW := hx.trans' hI
  have HXX := Lib.hid hxW
  have HI := Lib.hid hI
  clear hI hlk
  go_wp2_with fail
  refine (isSubject_any f.subject W HS.out (hg.ext HXX.out)).mono ?_
  rintro e w2 ⟨rfl, hx2⟩
  rw [HSB.out]
  clear c0 c1 c2 c3 c4 d0 d1 d2 d3 d4 d5 d6 d7 d8 fd0 fd1 fd2 fd3 fd4 fd5 fd6 fd7 fd8
  replace HI := Lib.hid (HI.out.trans' hx2)
  replace HXX := Lib.hid (hxW.trans' hx2)
  clear hxW hx2
  have c0 : w2.cell? ⟨w.heap.size, 0, none⟩ = some (.string f.subject) := cell_of (Ext.obj HI.out HX1.out) 0
  have c1 : w2.cell? ⟨w.heap.size, 1, none⟩ = some (.string f.attr) := cell_of (Ext.obj HI.out HX1.out) 1
  have c2 : w2.cell? ⟨w.heap.size, 2, none⟩ = some (v) := cell_of (Ext.obj HI.out HX1.out) 2
  have c3 : w2.cell? ⟨w.heap.size, 3, none⟩ = some (.int .i64 f.low) := cell_of (Ext.obj HI.out HX1.out) 3
  have c4 : w2.cell? ⟨w.heap.size, 4, none⟩ = some (.int .i64 f.high) := cell_of (Ext.obj HI.out HX1.out) 4
  have d0 : w2.cell? ⟨w.heap.size + 1, 0, none⟩ = some (.string ⟨#[]⟩) := cell_of (Ext.obj HI.out HX2.out) 0
  have fd0 := frozen_of (Ext.obj HI.out HX2.out) 0
  have d1 : w2.cell? ⟨w.heap.size + 1, 1, none⟩ = some (.string ⟨#[]⟩) := cell_of (Ext.obj HI.out HX2.out) 1
  have fd1 := frozen_of (Ext.obj HI.out HX2.out) 1
  have d2 : w2.cell? ⟨w.heap.size + 1, 2, none⟩ = some (.slice none 0 0) := cell_of (Ext.obj HI.out HX2.out) 2
  have fd2 := frozen_of (Ext.obj HI.out HX2.out) 2
  have d3 : w2.cell? ⟨w.heap.size + 1, 3, none⟩ = some (.int .i64 0) := cell_of (Ext.obj HI.out HX2.out) 3
  have fd3 := frozen_of (Ext.obj HI.out HX2.out) 3
  have d4 : w2.cell? ⟨w.heap.size + 1, 4, none⟩ = some (.int .i64 0) := cell_of (Ext.obj HI.out HX2.out) 4
  have fd4 := frozen_of (Ext.obj HI.out HX2.out) 4
  have d5 : w2.cell? ⟨w.heap.size + 1, 5, none⟩ = some (.pointer none) := cell_of (Ext.obj HI.out HX2.out) 5
  have fd5 := frozen_of (Ext.obj HI.out HX2.out) 5
  have d6 : w2.cell? ⟨w.heap.size + 1, 6, none⟩ = some (.int .u64 0) := cell_of (Ext.obj HI.out HX2.out) 6
  have fd6 := frozen_of (Ext.obj HI.out HX2.out) 6
  have d7 : w2.cell? ⟨w.heap.size + 1, 7, none⟩ = some (.int .i64 0) := cell_of (Ext.obj HI.out HX2.out) 7
  have fd7 := frozen_of (Ext.obj HI.out HX2.out) 7
  have d8 : w2.cell? ⟨w.heap.size + 1, 8, none⟩ = some (.int .i64 0) := cell_of (Ext.obj HI.out HX2.out) 8
  have fd8 := frozen_of (Ext.obj HI.out HX2.out) 8
  cases sb with
  | false =>
    go_wp2_with fail
    refine bodyPost_ret (v := .tuple #[noFR, .int .i64 112]) (by simp [results, Tryz.results39, go_sem, d0, d1, d2, d3, d4, d5, d6, d7, d8, noFR]) rfl ⟨?_, rfl⟩
    have hx3 := HXX.out
    repeat' (first | with_reducible exact Below.refl _ _ | with_reducible assumption | with_reducible apply Below.drew | with_reducible exact below_drewN (by with_reducible assumption) _ | (with_reducible refine Below.setCell ?_ (by first | exact Nat.le_refl _ | assumption | (simp; done) | omega | (simp; omega)) _) | (with_reducible refine Below.alloc ?_ (by first | exact Nat.le_refl _ | assumption | (simp; done) | omega | (simp; omega)) _) | (with_reducible refine below_putObj ?_ (by first | exact Nat.le_refl _ | assumption | (simp; done) | omega | (simp; omega)) _) | (with_reducible refine below_drawn ?_ _))
  | true =>
    go_wp2_with fail
    refine (read_any cb a _ (HCOL.out.ext HXX.out) HOK.out v f.values (HF.out.ext HXX.out) f.low f.high).mono ?_
    rintro e w3 ⟨rfl, hx3⟩
    rw [HRD.out]
    clear c0 c1 c2 c3 c4 d0 d1 d2 d3 d4 d5 d6 d7 d8 fd0 fd1 fd2 fd3 fd4 fd5 fd6 fd7 fd8
    replace HI := Lib.hid (HI.out.trans' hx3)
    replace HXX := Lib.hid (HXX.out.trans' hx3)
    clear hx3
    have c0 : w3.cell? ⟨w.heap.size, 0, none⟩ = some (.string f.subject) := cell_of (Ext.obj HI.out HX1.out) 0
    have c1 : w3.cell? ⟨w.heap.size, 1, none⟩ = some (.string f.attr) := cell_of (Ext.obj HI.out HX1.out) 1
    have c2 : w3.cell? ⟨w.heap.size, 2, none⟩ = some (v) := cell_of (Ext.obj HI.out HX1.out) 2
    have c3 : w3.cell? ⟨w.heap.size, 3, none⟩ = some (.int .i64 f.low) := cell_of (Ext.obj HI.out HX1.out) 3
    have c4 : w3.cell? ⟨w.heap.size, 4, none⟩ = some (.int .i64 f.high) := cell_of (Ext.obj HI.out HX1.out) 4
    have d0 : w3.cell? ⟨w.heap.size + 1, 0, none⟩ = some (.string ⟨#[]⟩) := cell_of (Ext.obj HI.out HX2.out) 0
    have fd0 := frozen_of (Ext.obj HI.out HX2.out) 0
    have d1 : w3.cell? ⟨w.heap.size + 1, 1, none⟩ = some (.string ⟨#[]⟩) := cell_of (Ext.obj HI.out HX2.out) 1
    have fd1 := frozen_of (Ext.obj HI.out HX2.out) 1
    have d2 : w3.cell? ⟨w.heap.size + 1, 2, none⟩ = some (.slice none 0 0) := cell_of (Ext.obj HI.out HX2.out) 2
    have fd2 := frozen_of (Ext.obj HI.out HX2.out) 2
    have d3 : w3.cell? ⟨w.heap.size + 1, 3, none⟩ = some (.int .i64 0) := cell_of (Ext.obj HI.out HX2.out) 3
    have fd3 := frozen_of (Ext.obj HI.out HX2.out) 3
    have d4 : w3.cell? ⟨w.heap.size + 1, 4, none⟩ = some (.int .i64 0) := cell_of (Ext.obj HI.out HX2.out) 4
    have fd4 := frozen_of (Ext.obj HI.out HX2.out) 4
    have d5 : w3.cell? ⟨w.heap.size + 1, 5, none⟩ = some (.pointer none) := cell_of (Ext.obj HI.out HX2.out) 5
    have fd5 := frozen_of (Ext.obj HI.out HX2.out) 5
    have d6 : w3.cell? ⟨w.heap.size + 1, 6, none⟩ = some (.int .u64 0) := cell_of (Ext.obj HI.out HX2.out) 6
    have fd6 := frozen_of (Ext.obj HI.out HX2.out) 6
    have d7 : w3.cell? ⟨w.heap.size + 1, 7, none⟩ = some (.int .i64 0) := cell_of (Ext.obj HI.out HX2.out) 7
    have fd7 := frozen_of (Ext.obj HI.out HX2.out) 7
    have d8 : w3.cell? ⟨w.heap.size + 1, 8, none⟩ = some (.int .i64 0) := cell_of (Ext.obj HI.out HX2.out) 8
    have fd8 := frozen_of (Ext.obj HI.out HX2.out) 8
    obtain ⟨s, ok⟩ := rd
    unfold stTuple St.val
    have hs3 : w.heap.size + 1 < w3.heap.size := Nat.lt_of_lt_of_le (Nat.lt_of_succ_le hsz) HI.out.size
    have hs4 : w.heap.size < w3.heap.size := by omega
    have hall : ∃ W4, W4 = w3.alloc (.cells #[.int .u64 s.bits, .int .i64 s.low, .int .i64 s.high] 120 (0, 0)) := ⟨_, rfl⟩
    obtain ⟨W4, hW4⟩ := hall
    have hx4 : Ext w3 W4 := by rw [hW4]; repeat' (first | with_reducible exact Below.refl _ _ | with_reducible assumption | with_reducible apply Below.drew | with_reducible exact below_drewN (by with_reducible assumption) _ | (with_reducible refine Below.setCell ?_ (by first | exact Nat.le_refl _ | assumption | (simp; done) | omega | (simp; omega)) _) | (with_reducible refine Below.alloc ?_ (by first | exact Nat.le_refl _ | assumption | (simp; done) | omega | (simp; omega)) _) | (with_reducible refine below_putObj ?_ (by first | exact Nat.le_refl _ | assumption | (simp; done) | omega | (simp; omega)) _) | (with_reducible refine below_drawn ?_ _))
    have ht8 : W4.heap[w3.heap.size]? = some (.cells #[.int .u64 s.bits, .int .i64 s.low, .int .i64 s.high] 120 (0, 0)) := by rw [hW4]; simp only [heap_drawn_get, heap_drew_get, heap_setCell_get, heap_alloc_get, World.size_alloc, World.size_setCell, size_drawn, putObj_get, putObj_size]; (repeat (first | rw [if_pos trivial] | rw [if_pos rfl] | rw [if_neg (by omega)] | rw [if_pos (by omega)]))
    clear d0 d1 d2 d3 d4 d5 d6 d7 d8 fd0 fd1 fd2 fd3 fd4 fd5 fd6 fd7 fd8
    have hb0 : Below w.heap.size w W4 := HXX.out.trans' hx4
    cases ok with
    | false =>
      go_upto_region 6 with fail
      rw [← hW4]
      clear hW4 c0 c1 c2 c3 c4
      have d0 : W4.cell? ⟨w.heap.size + 1, 0, none⟩ = some (.string ⟨#[]⟩) := cell_of (Ext.obj (HI.out.trans' hx4) HX2.out) 0
      have fd0 := frozen_of (Ext.obj (HI.out.trans' hx4) HX2.out) 0
      have d1 : W4.cell? ⟨w.heap.size + 1, 1, none⟩ = some (.string ⟨#[]⟩) := cell_of (Ext.obj (HI.out.trans' hx4) HX2.out) 1
      have fd1 := frozen_of (Ext.obj (HI.out.trans' hx4) HX2.out) 1
      have d2 : W4.cell? ⟨w.heap.size + 1, 2, none⟩ = some (.slice none 0 0) := cell_of (Ext.obj (HI.out.trans' hx4) HX2.out) 2
      have fd2 := frozen_of (Ext.obj (HI.out.trans' hx4) HX2.out) 2
      have d3 : W4.cell? ⟨w.heap.size + 1, 3, none⟩ = some (.int .i64 0) := cell_of (Ext.obj (HI.out.trans' hx4) HX2.out) 3
      have fd3 := frozen_of (Ext.obj (HI.out.trans' hx4) HX2.out) 3
      have d4 : W4.cell? ⟨w.heap.size + 1, 4, none⟩ = some (.int .i64 0) := cell_of (Ext.obj (HI.out.trans' hx4) HX2.out) 4
      have fd4 := frozen_of (Ext.obj (HI.out.trans' hx4) HX2.out) 4
      have d5 : W4.cell? ⟨w.heap.size + 1, 5, none⟩ = some (.pointer none) := cell_of (Ext.obj (HI.out.trans' hx4) HX2.out) 5
      have fd5 := frozen_of (Ext.obj (HI.out.trans' hx4) HX2.out) 5
      have d6 : W4.cell? ⟨w.heap.size + 1, 6, none⟩ = some (.int .u64 0) := cell_of (Ext.obj (HI.out.trans' hx4) HX2.out) 6
      have fd6 := frozen_of (Ext.obj (HI.out.trans' hx4) HX2.out) 6
      have d7 : W4.cell? ⟨w.heap.size + 1, 7, none⟩ = some (.int .i64 0) := cell_of (Ext.obj (HI.out.trans' hx4) HX2.out) 7
      have fd7 := frozen_of (Ext.obj (HI.out.trans' hx4) HX2.out) 7
      have d8 : W4.cell? ⟨w.heap.size + 1, 8, none⟩ = some (.int .i64 0) := cell_of (Ext.obj (HI.out.trans' hx4) HX2.out) 8
      have fd8 := frozen_of (Ext.obj (HI.out.trans' hx4) HX2.out) 8
      go_wp2_with fail
      refine bodyPost_ret (v := .tuple #[noFR, .int .i64 112]) (by simp [results, Tryz.results39, go_sem, d0, d1, d2, d3, d4, d5, d6, d7, d8, noFR]) rfl ⟨?_, rfl⟩
      repeat' (first | with_reducible exact Below.refl _ _ | with_reducible assumption | with_reducible apply Below.drew | with_reducible exact below_drewN (by with_reducible assumption) _ | (with_reducible refine Below.setCell ?_ (by first | exact Nat.le_refl _ | assumption | (simp; done) | omega | (simp; omega)) _) | (with_reducible refine Below.alloc ?_ (by first | exact Nat.le_refl _ | assumption | (simp; done) | omega | (simp; omega)) _) | (with_reducible refine below_putObj ?_ (by first | exact Nat.le_refl _ | assumption | (simp; done) | omega | (simp; omega)) _) | (with_reducible refine below_drawn ?_ _))
    | true =>
      go_upto_region 7 with fail
      rw [← hW4]
      clear hW4 c0 c1 c2 c3 c4
      have hx1 := Ext.obj (HI.out.trans' hx4) HX1.out
      have hx2 := Ext.obj (HI.out.trans' hx4) HX2.out
      refine Rt.wp_region_rt (by kernel_rfl) [0, 2, 3, 1, 4, 5, 6] [1, 5] [0, 1000, 1, 1, 1, 1000, 1000] [0, 1, 0, 0, 15, 31, 63] (by kernel_rfl) (ChkI w w.heap.size w3.heap.size f v cb s) ?_ ?_
      · exact ⟨below_drawn hb0 _, hx1, ht8, hx2⟩
      (refine Rt.rs_rd rfl rfl rfl ?_; apply Exists.intro; refine ⟨fun us' W hp hl hI => ?_, ?_⟩; · (obtain ⟨hb, h1, _⟩ := hI; have c0 : W.cell? ⟨w.heap.size, 0, none⟩ = some (.string f.subject) := cell_of h1 0; have c1 : W.cell? ⟨w.heap.size, 1, none⟩ = some (.string f.attr) := cell_of h1 1; have c2 : W.cell? ⟨w.heap.size, 2, none⟩ = some (v) := cell_of h1 2; have c3 : W.cell? ⟨w.heap.size, 3, none⟩ = some (.int .i64 f.low) := cell_of h1 3; have c4 : W.cell? ⟨w.heap.size, 4, none⟩ = some (.int .i64 f.high) := cell_of h1 4; clear h1; go_simp; rfl)); simp only [Act.put, List.getElem_toArray, List.getElem_cons_succ, List.getElem_cons_zero, List.setIfInBounds_toArray, List.set_cons_succ, List.set_cons_zero]
      (refine Rt.rs_sil rfl rfl rfl (fun K hK => ?_); go_simp; refine hK _ ?_; clear hK K)
      (refine Rt.rs_rd rfl rfl rfl ?_; apply Exists.intro; refine ⟨fun us' W hp hl hI => ?_, ?_⟩; · (obtain ⟨hb, _, h2, _⟩ := hI; have e0 : W.cell? ⟨w3.heap.size, 0, none⟩ = some (.int .u64 s.bits) := cell_of h2 0; have e1 : W.cell? ⟨w3.heap.size, 1, none⟩ = some (.int .i64 s.low) := cell_of h2 1; have e2 : W.cell? ⟨w3.heap.size, 2, none⟩ = some (.int .i64 s.high) := cell_of h2 2; clear h2; go_simp; rfl)); simp only [Act.put, List.getElem_toArray, List.getElem_cons_succ, List.getElem_cons_zero, List.setIfInBounds_toArray, List.set_cons_succ, List.set_cons_zero]
      refine Rt.rs_eff rfl rfl rfl (fun W hI => ?_) (fun v hv => ?_)
      · obtain ⟨hb, h1, h2, h3⟩ := hI
        refine Rt.gives_cal ?_
        apply Exists.intro
        apply Exists.intro
        apply Exists.intro
        refine ⟨by go_simp; exact ⟨⟨rfl, rfl⟩, rfl⟩, ?_⟩
        refine (own_any f v W (HF.out.ext hb) hlen).mono ?_
        rintro e w5 ⟨v', rfl, ho, hx5⟩
        obtain ⟨p, cap, rfl⟩ := owns_form ho
        exact ⟨_, rfl, Ext.trans' hb hx5, hx5.obj h1, hx5.obj h2, ⟨p, cap, rfl⟩, hx5.obj h3⟩
      obtain ⟨p, cap, rfl⟩ : ∃ p cap, v = .agg #[.string f.subject, .string f.attr, .slice p f.values.length cap, .int .i64 f.low, .int .i64 f.high] := let ⟨W, hI⟩ := hv; hI.2.2.2.1
      clear hv
      simp only [Act.put, List.getElem_toArray, List.getElem_cons_succ, List.getElem_cons_zero, List.setIfInBounds_toArray, List.set_cons_succ, List.set_cons_zero]
      (refine Rt.rs_sil rfl rfl rfl (fun K hK => ?_); go_simp; refine hK _ ?_; clear hK K)
      refine Rt.rs_eff rfl rfl rfl (fun W hI => ?_) (fun v hv => ?_)
      · obtain ⟨hb, h1, h2, _, h3⟩ := hI
        have d0 : W.cell? ⟨w.heap.size + 1, 0, none⟩ = some (.string ⟨#[]⟩) := cell_of h3 0
        have fd0 := frozen_of h3 0
        have d1 : W.cell? ⟨w.heap.size + 1, 1, none⟩ = some (.string ⟨#[]⟩) := cell_of h3 1
        have fd1 := frozen_of h3 1
        have d2 : W.cell? ⟨w.heap.size + 1, 2, none⟩ = some (.slice none 0 0) := cell_of h3 2
        have fd2 := frozen_of h3 2
        have d3 : W.cell? ⟨w.heap.size + 1, 3, none⟩ = some (.int .i64 0) := cell_of h3 3
        have fd3 := frozen_of h3 3
        have d4 : W.cell? ⟨w.heap.size + 1, 4, none⟩ = some (.int .i64 0) := cell_of h3 4
        have fd4 := frozen_of h3 4
        have d5 : W.cell? ⟨w.heap.size + 1, 5, none⟩ = some (.pointer none) := cell_of h3 5
        have fd5 := frozen_of h3 5
        have d6 : W.cell? ⟨w.heap.size + 1, 6, none⟩ = some (.int .u64 0) := cell_of h3 6
        have fd6 := frozen_of h3 6
        have d7 : W.cell? ⟨w.heap.size + 1, 7, none⟩ = some (.int .i64 0) := cell_of h3 7
        have fd7 := frozen_of h3 7
        have d8 : W.cell? ⟨w.heap.size + 1, 8, none⟩ = some (.int .i64 0) := cell_of h3 8
        have fd8 := frozen_of h3 8
        have H1 := Lib.hid h1
        have H2 := Lib.hid h2
        have H3 := Lib.hid h3
        clear h1 h2 h3
        refine Rt.gives_skp ?_
        apply Exists.intro
        refine ⟨by go_simp; rfl, ?_⟩
        refine ⟨by repeat' (first | with_reducible exact Below.refl _ _ | with_reducible assumption | with_reducible apply Below.drew | with_reducible exact below_drewN (by with_reducible assumption) _ | (with_reducible refine Below.setCell ?_ (by first | exact Nat.le_refl _ | assumption | (simp; done) | omega | (simp; omega)) _) | (with_reducible refine Below.alloc ?_ (by first | exact Nat.le_refl _ | assumption | (simp; done) | omega | (simp; omega)) _) | (with_reducible refine below_putObj ?_ (by first | exact Nat.le_refl _ | assumption | (simp; done) | omega | (simp; omega)) _) | (with_reducible refine below_drawn ?_ _)), ?_, ?_, p, cap, rfl, ?_⟩
        · simp only [heap_drawn_get, heap_drew_get, heap_setCell_get, heap_alloc_get, World.size_alloc, World.size_setCell, size_drawn, putObj_get, putObj_size]; (repeat (first | rw [if_pos trivial] | rw [if_pos rfl] | rw [if_neg (by omega)] | rw [if_pos (by omega)]))
          exact H1.out
        · simp only [heap_drawn_get, heap_drew_get, heap_setCell_get, heap_alloc_get, World.size_alloc, World.size_setCell, size_drawn, putObj_get, putObj_size]; (repeat (first | rw [if_pos trivial] | rw [if_pos rfl] | rw [if_neg (by omega)] | rw [if_pos (by omega)]))
          exact H2.out
        · simp only [heap_drawn_get, heap_drew_get, heap_setCell_get, heap_alloc_get, World.size_alloc, World.size_setCell, size_drawn, putObj_get, putObj_size]; (repeat (first | rw [if_pos trivial] | rw [if_pos rfl] | rw [if_neg (by omega)] | rw [if_pos (by omega)]))
          rw [H3.out]; rfl
      simp only [Act.put, List.getElem_toArray, List.getElem_cons_succ, List.getElem_cons_zero, List.setIfInBounds_toArray, List.set_cons_succ, List.set_cons_zero]
      (refine Rt.rs_sil rfl rfl rfl (fun K hK => ?_); go_simp; refine hK _ ?_; clear hK K)
      refine Rt.rs_nil (fun W hI => ?_)
      obtain ⟨hb, _, _, p', cap', he, h3⟩ := hI
      simp only [Value.agg.injEq, Array.mk.injEq, List.cons.injEq, Value.slice.injEq] at he
      obtain ⟨_, _, ⟨rfl, _, rfl⟩, _⟩ := he
      have d0 : W.cell? ⟨w.heap.size + 1, 0, none⟩ = some (.string f.subject) := cell_of h3 0
      have fd0 := frozen_of h3 0
      have d1 : W.cell? ⟨w.heap.size + 1, 1, none⟩ = some (.string f.attr) := cell_of h3 1
      have fd1 := frozen_of h3 1
      have d2 : W.cell? ⟨w.heap.size + 1, 2, none⟩ = some (.slice p f.values.length cap) := cell_of h3 2
      have fd2 := frozen_of h3 2
      have d3 : W.cell? ⟨w.heap.size + 1, 3, none⟩ = some (.int .i64 f.low) := cell_of h3 3
      have fd3 := frozen_of h3 3
      have d4 : W.cell? ⟨w.heap.size + 1, 4, none⟩ = some (.int .i64 f.high) := cell_of h3 4
      have fd4 := frozen_of h3 4
      have d5 : W.cell? ⟨w.heap.size + 1, 5, none⟩ = some (.pointer (some ⟨cb, 0, none⟩)) := cell_of h3 5
      have fd5 := frozen_of h3 5
      have d6 : W.cell? ⟨w.heap.size + 1, 6, none⟩ = some (.int .u64 s.bits) := cell_of h3 6
      have fd6 := frozen_of h3 6
      have d7 : W.cell? ⟨w.heap.size + 1, 7, none⟩ = some (.int .i64 s.low) := cell_of h3 7
      have fd7 := frozen_of h3 7
      have d8 : W.cell? ⟨w.heap.size + 1, 8, none⟩ = some (.int .i64 s.high) := cell_of h3 8
      have fd8 := frozen_of h3 8
      clear h3
      go_wp2_with fail
      exact bodyPost_ret (v := .tuple #[.agg #[.string f.subject, .string f.attr, .slice p f.values.length cap, .int .i64 f.low, .int .i64 f.high, .pointer (some ⟨cb, 0, none⟩), .int .u64 s.bits, .int .i64 s.low, .int .i64 s.high], .int .i64 0]) (by simp [results, Tryz.results39, go_sem, d0, d1, d2, d3, d4, d5, d6, d7, d8]) rfl ⟨hb, p, cap, rfl⟩

/-- The check of a fact. -/
theorem check_any {B : Nat} {w : World} {rb : Nat} {R : Rec} {cm : Nat} {vv fv : Value} {os : List (Option Nat × Option Nat)} {xs : List (List Value)} (h : RecAt B w rb R cm vv fv os xs) (hg : Glob w) (f : Fct) (v : Value)
    (hf : StrsAt w v f.values) (hs : f.subject.size < 4294967281) (hlen : f.values.length * 16 ≤ 140737488355328) :
    Calls Tryz.prog 39 #[encP rb, factVal f v] w fun e w' => Ext w w' ∧
      ((checkF R f = none ∧ e = .returned (.tuple #[noFR, .int .i64 112])) ∨
       ∃ fr p' c', checkF R f = some fr ∧ e = .returned (.tuple #[.agg (frCells fr [.string f.attr, .slice p' f.values.length c', .int .i64 f.low, .int .i64 f.high]).toArray, .int .i64 0])) := by
  cases hc : colOf R f.attr with
  | none =>
    refine (check_no h hg f v hf hs hlen hc).mono ?_
    rintro e w' ⟨rfl, hx⟩
    exact ⟨hx, .inl ⟨by unfold checkF; rw [hc], rfl⟩⟩
  | some c => exact check_col h hg f v hf hs hlen c hc

end Go.Proofs.YtihfcjioilmmjaaGreat
namespace Go.Proofs.YtihfcjioilmmjaaGreat
open Go Go.RowKit
open Go.Maps Go.Sort Go.Shelf Go.Proofs


theorem entsFrom_key {κ : Type} [DecidableEq κ] (enc : κ → Value) : ∀ (n : Nat) (l : List (κ × Value)), (entsFrom enc n l).map (·.key) = l.map fun x => enc x.1
  | _, [] => rfl
  | n, x :: r => by simp [entsFrom, entsFrom_key enc (n + 1) r]
theorem entsFrom_born {κ : Type} [DecidableEq κ] (enc : κ → Value) : ∀ (n : Nat) (l : List (κ × Value)), (entsFrom enc n l).map (·.born) = List.range' n l.length
  | _, [] => rfl
  | n, x :: r => by simp [entsFrom, entsFrom_born enc (n + 1) r, List.range'_succ]

/-- How an element reads: not at all. -/
def noElem : Value → Option (DataW Unit × List MemPlace) := fun _ => some (.nil, [])

theorem fit_of (l : List (Int × Value)) (hn : (l.map (·.1)).Nodup) (hi : ∀ x ∈ l, i64ok x.1) (hs : l.length ≤ maxLen) : WideElems.Fit Tryz.prog 3 noElem (entsFrom (Value.int .i64) 0 l).toArray l.length := by
  refine ⟨by rw [List.size_toArray, entsFrom_length]; exact hs, ⟨?_, ?_, ?_⟩, ?_⟩
  · intro x hx
    have : x.born ∈ (entsFrom (Value.int .i64) 0 l).map (·.born) := List.mem_map.2 ⟨x, hx, rfl⟩
    rw [entsFrom_born, List.mem_range'_1] at this
    omega
  · show ((entsFrom (Value.int .i64) 0 l).map (·.born)).Nodup
    rw [entsFrom_born]; exact List.nodup_range'
  · show ((entsFrom (Value.int .i64) 0 l).map (·.key)).Nodup
    rw [entsFrom_key]
    have : (l.map fun x => Value.int .i64 x.1) = (l.map (·.1)).map (Value.int .i64) := by rw [List.map_map]; rfl
    rw [this]
    exact List.pairwise_map.2 (List.Pairwise.imp (fun h e => h (by simpa using e)) hn)
  · intro x hx
    have hk : x.key ∈ (entsFrom (Value.int .i64) 0 l).map (·.key) := List.mem_map.2 ⟨x, hx, rfl⟩
    rw [entsFrom_key] at hk
    obtain ⟨y, hy, he⟩ := List.mem_map.1 hk
    have hw : (Lit.int .i64 y.1).wf = true := by
      obtain ⟨h1, h2⟩ := hi y hy
      simp [Lit.wf, IntKind.min, IntKind.max, IntKind.bits, IntKind.signed] <;> omega
    exact ⟨(.int .i64 y.1, .nil), by
      have := WideElems.rd_mk (P := Tryz.prog) (k := 3) (R := noElem) (val := x.val) (born := x.born) (Maps.keyOf_int_mk (P := Tryz.prog) (k := 3) Tryz.underlying3 hw) rfl
      rw [show (⟨.int .i64 y.1, x.val, x.born⟩ : MapEntry) = x by rw [he]] at this
      exact this⟩

theorem rg_fst (x : MapEntry) (n : Int) (hx : x.key = .int .i64 n) (hn : i64ok n) : (WideElems.rg Tryz.prog 3 noElem x).1 = .int .i64 n := by
  have hw : (Lit.int .i64 n).wf = true := by
    obtain ⟨h1, h2⟩ := hn
    simp [Lit.wf, IntKind.min, IntKind.max, IntKind.bits, IntKind.signed] <;> omega
  have := WideElems.rd_mk (P := Tryz.prog) (k := 3) (R := noElem) (val := x.val) (born := x.born) (Maps.keyOf_int_mk (P := Tryz.prog) (k := 3) Tryz.underlying3 hw) rfl
  rw [show (⟨.int .i64 n, x.val, x.born⟩ : MapEntry) = x by rw [← hx]] at this
  rw [WideElems.rg_of this]

/-- The map as the kit's word tells it. -/
theorem ownsMap_of {w : World} {b : Nat} {l : List (Int × Value)} (h : MapIs (Value.int .i64) w b l) (hn : (l.map (·.1)).Nodup) (hi : ∀ x ∈ l, i64ok x.1) (hs : l.length ≤ maxLen) :
    ∃ D0 : DataW Unit, w.ownsMap Tryz.prog 3 noElem b l.length D0 ∧ (intKeys D0).Perm (l.map (·.1)) ∧ Maps.size D0 = l.length := by
  refine ⟨_, ⟨_, _, h, fit_of l hn hi hs, by rw [List.size_toArray, entsFrom_length]; exact Nat.le_refl _, rfl⟩, ?_, ?_⟩
  · show (List.map _ _).Perm _
    refine ((WideShapes.sorted_perm _).map _).trans ?_
    have : ∀ (n : Nat) (l : List (Int × Value)), (∀ x ∈ l, i64ok x.1) → ((entsFrom (Value.int .i64) n l).map (WideElems.rg Tryz.prog 3 noElem)).map (fun p => Go.intOf p.1) = l.map (·.1) := by
      intro n l
      induction l generalizing n with
      | nil => intro _; rfl
      | cons x r ih =>
        intro hi
        simp only [entsFrom, List.map_cons]
        rw [rg_fst _ x.1 rfl (hi x List.mem_cons_self), ih (n + 1) fun y hy => hi y (List.mem_cons_of_mem _ hy)]
        rfl
    exact List.Perm.of_eq (this 0 l hi)
  · show List.length _ = _
    rw [length_sorted]
    simp [entsFrom_length]

theorem sortsIn (m : Nat) : AnyZI.SortsIn Tryz.prog Tryz.sortedL_ren Fence.wide m :=
  ⟨fun blk off cap ss W hH hblk hsz => callsIn_wide.2 (Tryz.slices_Sort_int blk off cap ss W hH hblk hsz),
   fun p cap W => callsIn_wide.2 (Tryz.slices_Sort_int_none p cap W)⟩

/-- maps.Keys. -/
theorem keys_any (o : Option Nat) (w : World) : Calls Tryz.prog 70 #[.map o] w fun e w' => e = .returned (.func (.func 93) #[] #[.pointer (some ⟨w.heap.size, 0, none⟩)]) ∧ w' = w.alloc (.cells #[.map o] 94) :=
  callsIn_wide.1 (AnyZI.keys_in Tryz.keysL Fence.wide 5 trivial rfl o w)

/-- slices.Sorted of a map's keys. -/
theorem sorted_any (bm : Nat) (o : Option Nat) (l : List (Int × Value)) (w : World) (hbm : bm < w.heap.size) (hm : w.cell? ⟨bm, 0, none⟩ = some (.map o)) (hl : MapV w o l) (hn : (l.map (·.1)).Nodup) (hi : ∀ x ∈ l, i64ok x.1) (hs : l.length ≤ 1000000) :
    Calls Tryz.prog 34 #[.func (.func 93) #[] #[.pointer (some ⟨bm, 0, none⟩)]] w fun e w' => ∃ v, e = .returned v ∧ w'.ownsRow w.heap.size 3 1 v l.length (((l.map (·.1)).mergeSort (fun x y => decide (x ≤ y))).map (Value.int .i64)) ∧ Ext w w' := by
  have hml : (1000000 : Nat) ≤ maxLen := by decide
  rcases hl with ⟨rfl, rfl⟩ | ⟨b, rfl, hb⟩
  · have hseq : SeqGives Fence.wide 2 Tryz.prog 93 #[.pointer (some ⟨bm, 0, none⟩)] encZ (fun ss : List Int => ss = []) 0 w :=
      AnyZI.keys_gives_nil (ρ := Tryz.keysL_ren) { Tryz.keysL with } Fence.wide _ trivial rfl bm _ hbm hm
    have cS := AnyZI.sorted_in Tryz.sortedL Fence.wide 5 trivial trivial trivial trivial rfl (by omega) (sortsIn _) (enters_of Tryz.func57 (by kernel_rfl) rfl) 93 #[.pointer (some ⟨bm, 0, none⟩)] trivial (enters_of Tryz.func93 (by kernel_rfl) rfl) _ 0 (Nat.zero_le _) (by omega) _ hseq
    refine (callsIn_wide.1 cS).mono ?_
    rintro e w' ⟨v, ss, rfl, rfl, hrow, _, hx⟩
    exact ⟨v, rfl, hrow, hx⟩
  · obtain ⟨D0, hown, hp, hsz⟩ := ownsMap_of hb hn hi (by omega)
    have hseq : SeqGives Fence.wide 2 Tryz.prog 93 #[.pointer (some ⟨bm, 0, none⟩)] encZ (fun ss => ss.Perm (intKeys D0)) (Maps.size D0) w :=
      AnyZI.keys_gives (ρ := Tryz.keysL_ren) { Tryz.keysL with } Fence.wide _ trivial rfl (by omega) bm b l.length D0 _ hbm hm hown
    have cS := AnyZI.sorted_in Tryz.sortedL Fence.wide 5 trivial trivial trivial trivial rfl (by omega) (sortsIn _) (enters_of Tryz.func57 (by kernel_rfl) rfl) 93 #[.pointer (some ⟨bm, 0, none⟩)] trivial (enters_of Tryz.func93 (by kernel_rfl) rfl) _ _ (by omega) (by omega) _ hseq
    refine (callsIn_wide.1 cS).mono ?_
    rintro e w' ⟨v, ss, rfl, hS, hrow, _, hx⟩
    have hpp : ss.Perm (l.map (·.1)) := hS.trans hp
    have he : ss.mergeSort (fun x y => decide (x ≤ y)) = (l.map (·.1)).mergeSort (fun x y => decide (x ≤ y)) := mergeSort_of_perm_i hpp
    have hlen : ss.length = l.length := by rw [hpp.length_eq, List.length_map]
    rw [he, hlen] at hrow
    exact ⟨v, rfl, hrow, hx⟩

end Go.Proofs.YtihfcjioilmmjaaGreat
namespace Go.Proofs.YtihfcjioilmmjaaGreat
open Go Go.RowKit

/-- What a function value says of a number, wherever nothing below B has turned. -/
def PredB (S : Int → Prop) (B : Nat) (W0 : World) (g : Nat) (lb : Array Value) (p : Int → Bool) : Prop :=
  (∀ args w, (callFunc g args).run Tryz.prog w = .ok (.enter g args) w) ∧ ∀ x W, S x → Below B W0 W → Calls Tryz.prog g (#[.int .i64 x] ++ lb) W fun e w' => e = .returned (.bool (p x)) ∧ Ext W w'

def idxF (p : Int → Bool) : List Int → Nat → Int
  | [], _ => -1
  | x :: r, i => if p x then (i : Int) else idxF p r (i + 1)

theorem IntsAt.form {w : World} {v : Value} {l : List Int} (h : IntsAt w v l) : ∃ a cap, v = .slice a l.length cap ∧ l.length ≤ cap ∧ l.length ≤ maxLen ∧ ∀ (j : Nat) x, l[j]? = some x → ∃ b off, a = some ⟨b, off, none⟩ ∧ w.cell? ⟨b, off + j, none⟩ = some (.int .i64 x) := by
  obtain ⟨a, cap, rfl, h1, h2, _, h3⟩ := h
  refine ⟨a, cap, rfl, h1, h2, fun j x hx => h3 j _ (by simp [hx])⟩

set_option maxHeartbeats 1000000 in
set_option maxRecDepth 100000 in
theorem indexFunc_any (B : Nat) (W0 w : World) (v : Value) (zs : List Int) (g : Nat) (lb : Array Value) (p : Int → Bool) {S : Int → Prop} (hS : ∀ x ∈ zs, S x) (hv : IntsAt w v zs) (hp : PredB S B W0 g lb p) (hw : Below B W0 w) (hB : B ≤ w.heap.size) :
    Calls Tryz.prog 60 #[v, .func (.func g) #[] lb] w fun e w' => e = .returned (.int .i64 (idxF p zs 0)) ∧ Ext w w' := by
  obtain ⟨a, cap, rfl, hcap, hml, hel⟩ := hv.form
  have HEL := Lib.hid hel
  have eg := hp.1
  have HP := Lib.hid hp.2
  clear hel hp hv
  unfold maxLen at hml
  go_enter Tryz.func60, Tryz.ntmps60
  go_wp2_with fail
  go_loopw [4, 5, 8] (fun _ _ i wr => ∃ k : Nat, k ≤ zs.length ∧ i = .int .i64 k ∧ Hid (idxF p zs 0 = idxF p (zs.drop k) k) ∧ Ext w wr) (fun _ _ i _ => zs.length - (intOf i).toNat)
  case atStart => exact ⟨0, Nat.zero_le _, rfl, rfl, ext_refl _⟩
  case round =>
    obtain ⟨k, hk, rfl, hr, hx⟩ := hrel
    by_cases hlt : k < zs.length
    · obtain ⟨x, hz⟩ : ∃ x, zs[k]? = some x := ⟨_, List.getElem?_eq_getElem hlt⟩
      obtain ⟨b, off, rfl, hc⟩ := HEL.out k x hz
      have c0 := Ext.cell' hx hc
      have hd : zs.drop k = x :: zs.drop (k + 1) := by
        rw [List.drop_eq_getElem_cons hlt]
        congr 1
        rw [List.getElem?_eq_getElem hlt] at hz
        exact Option.some.inj hz
      have HD := Lib.hid hd
      have hSx := hS x (List.mem_of_getElem? hz)
      clear hd hc hz
      go_wp2_with fail
      refine (HP.out x wr hSx (Below.trans hw (Below.mono hx hB))).mono ?_
      rintro e w2 ⟨rfl, hx2⟩
      cases hpx : p x with
      | true =>
        go_wp2_with fail
        go_ret
        refine ⟨?_, Ext.trans' hx hx2⟩
        rw [hr.out, HD.out]
        unfold idxF
        rw [hpx]; rfl
      | false =>
        go_wp2_with fail
        refine ⟨⟨k + 1, by omega, rfl, ?_, Ext.trans' hx hx2⟩, by simp [intOf]; omega⟩
        refine hr.out.trans ?_
        rw [HD.out]
        conv => lhs; unfold idxF
        rw [hpx]; rfl
    · obtain rfl : k = zs.length := by omega
      go_wp2_with fail
      go_ret
      refine ⟨?_, hx⟩
      rw [hr.out, List.drop_length]; rfl

theorem idxF_spec (p : Int → Bool) : ∀ (l : List Int) (i : Nat), (idxF p l i = -1 ∧ ∀ x ∈ l, p x = false) ∨ ∃ k x, l[k]? = some x ∧ p x = true ∧ idxF p l i = ((i + k : Nat) : Int) ∧ ∀ y ∈ l.take k, p y = false
  | [], _ => .inl ⟨rfl, fun x h => by cases h⟩
  | x :: r, i => by
    cases h : p x with
    | true => exact .inr ⟨0, x, rfl, h, by simp [idxF, h], fun y hy => by simp at hy⟩
    | false =>
      rcases idxF_spec p r (i + 1) with ⟨e, ha⟩ | ⟨k, y, hk, hy, e, ha⟩
      · refine .inl ⟨by simp [idxF, h, e], fun z hz => ?_⟩
        rcases List.mem_cons.1 hz with rfl | hz
        · exact h
        · exact ha z hz
      · refine .inr ⟨k + 1, y, by simpa using hk, hy, by simp [idxF, h, e]; omega, fun z hz => ?_⟩
        rw [List.take_succ_cons] at hz
        rcases List.mem_cons.1 hz with rfl | hz
        · exact h
        · exact ha z hz

set_option maxHeartbeats 1000000 in
set_option maxRecDepth 100000 in
theorem containsFunc_any (B : Nat) (W0 w : World) (v : Value) (zs : List Int) (g : Nat) (lb : Array Value) (p : Int → Bool) {S : Int → Prop} (hS : ∀ x ∈ zs, S x) (hv : IntsAt w v zs) (hp : PredB S B W0 g lb p) (hw : Below B W0 w) (hB : B ≤ w.heap.size) :
    Calls Tryz.prog 40 #[v, .func (.func g) #[] lb] w fun e w' => e = .returned (.bool (zs.any p)) ∧ Ext w w' := by
  have hI := indexFunc_any B W0 w v zs g lb p hS hv hp hw hB
  obtain ⟨a, cap, rfl, _⟩ := hv.form
  have hb : decide (0 ≤ idxF p zs 0) = zs.any p := by
    rcases idxF_spec p zs 0 with ⟨e, ha⟩ | ⟨k, y, hk, hy, e, _⟩
    · rw [e]
      symm
      rw [show decide ((0 : Int) ≤ -1) = false from rfl, List.any_eq_false]
      intro x hx
      simp [ha x hx]
    · rw [e]
      symm
      rw [decide_eq_true (by omega), List.any_eq_true]
      exact ⟨y, List.mem_of_getElem? hk, hy⟩
  have HB := Lib.hid hb
  have HI := Lib.hid hI
  clear hb hI hp hv
  go_enter Tryz.func40, Tryz.ntmps40
  go_wp2_with fail
  refine HI.out.mono ?_
  rintro e w' ⟨rfl, hx⟩
  go_wp2_with fail
  go_ret
  exact ⟨(by rw [← HB.out]; rfl), hx⟩

theorem setCells_row (b : Nat) (T : TypeId) : ∀ (vs : List Value) (o : Nat) (w : World) (cur : Array Value), w.heap[b]? = some (.cells cur T (0, 0)) →
    (∃ cur', (w.setCells b o vs).heap[b]? = some (.cells cur' T (0, 0)) ∧ cur'.size = cur.size ∧ ∀ t, t < o → cur'[t]? = cur[t]?) ∧ ∀ B, B ≤ b → Below B w (w.setCells b o vs)
  | [], o, w, cur, h => ⟨⟨cur, h, rfl, fun _ _ => rfl⟩, fun B _ => Below.refl _ _⟩
  | v :: vs, o, w, cur, h => by
    have h1 : (w.setCell ⟨b, o, none⟩ v).heap[b]? = some (.cells (cur.setIfInBounds o v) T (0, 0)) := by
      rw [heap_setCell_get, if_pos rfl, h]; rfl
    obtain ⟨⟨cur', q1, q2, q3⟩, q4⟩ := setCells_row b T vs (o + 1) (w.setCell ⟨b, o, none⟩ v) _ h1
    refine ⟨⟨cur', q1, by rw [q2, Array.size_setIfInBounds], fun t ht => ?_⟩, fun B hB => ?_⟩
    · rw [q3 t (by omega), Array.getElem?_setIfInBounds_ne (by omega)]
    · exact Below.trans (Below.setCell (Below.refl _ _) hB _) (q4 B hB)

/-- DeleteFunc's state: i are kept of the first j. -/
structure DelI (B' gb : Nat) (zs : List Int) (p : Int → Bool) (cap : Nat) (i j : Nat) (w wr : World) : Prop where
  below : Below B' w wr
  cells : ∃ cur, wr.heap[gb]? = some (.cells cur 3 (0, 0)) ∧ cur.size = cap ∧ cur.toList.take i = ((zs.take j).filter fun x => !p x).map (Value.int .i64) ∧ ∀ t x, j ≤ t → zs[t]? = some x → cur[t]? = some (.int .i64 x)
  len : i = ((zs.take j).filter fun x => !p x).length
  lt : i < j

set_option maxHeartbeats 2000000 in
set_option maxRecDepth 100000 in
theorem deleteFunc_any (B B' : Nat) (W0 w : World) (v : Value) (zs : List Int) (g : Nat) (lb : Array Value) (p : Int → Bool) {S : Int → Prop} (hS : ∀ x ∈ zs, S x) (hv : w.ownsRow B' 3 1 v zs.length (zs.map (Value.int .i64))) (hp : PredB S B W0 g lb p) (hw : Below B W0 w) (hB : B ≤ B') (hB2 : B' ≤ w.heap.size) :
    Calls Tryz.prog 71 #[v, .func (.func g) #[] lb] w fun e w' => ∃ v', e = .returned v' ∧ w'.ownsRow B' 3 1 v' (zs.filter fun x => !p x).length ((zs.filter fun x => !p x).map (Value.int .i64)) ∧ Below B' w w' := by
  have hints : IntsAt w v zs := SlAt.of_owns hv
  have hI := indexFunc_any B W0 w v zs g lb p hS hints hp hw (Nat.le_trans hB hB2)
  have hml := hints.len
  unfold maxLen at hml
  have eg := hp.1
  have HP := Lib.hid hp.2
  have HV := Lib.hid hv
  clear hints hp
  rcases idxF_spec p zs 0 with ⟨e1, hall⟩ | ⟨k, y, hk, hy, e1, hall⟩
  · rw [e1] at hI
    have hf : (zs.filter fun x => !p x) = zs := List.filter_eq_self.2 fun x hx => by simp [hall x hx]
    rw [hf]
    have HI := Lib.hid hI
    have HF := Lib.hid hf
    clear hI hf hall e1 hv
    obtain ⟨a, cap, rfl⟩ := owns_form HV.out
    go_enter Tryz.func71, Tryz.ntmps71
    go_wp2_with fail
    refine HI.out.mono ?_
    rintro e w' ⟨rfl, hx⟩
    go_wp2_with fail
    go_ret
    exact ⟨_, rfl, owns_keep HV.out fun g cs hg hgc => hx.block g (heap_lt hgc), Below.mono hx hB2⟩
  · rw [e1, Nat.zero_add] at hI
    have hkl : k < zs.length := (List.getElem?_eq_some_iff.1 hk).1
    obtain ⟨hvl, hv2⟩ := hv
    rcases hv2 with ⟨_, h0⟩ | ⟨gb, cap, cur, rfl, hgb, hcur, hnc, hcm, hcs, hct⟩
    · omega
    have hgl : gb < w.heap.size := heap_lt hcur
    have hst : DelI B' gb zs p cap k (k + 1) w w := by
      have htk : (zs.take (k + 1)).filter (fun x => !p x) = zs.take k := by
        rw [List.take_add_one, hk, List.filter_append]
        have h1 : (zs.take k).filter (fun x => !p x) = zs.take k := List.filter_eq_self.2 fun x hx => by simp [hall x hx]
        rw [h1]
        simp [hy]
      refine ⟨Below.refl _ _, ⟨cur, hcur, by rw [hcs, Nat.mul_one], ?_, ?_⟩, by rw [htk, List.length_take]; omega, by omega⟩
      · rw [htk, List.map_take, ← hct, Nat.mul_one, List.take_take, Nat.min_eq_left (by omega)]
      · intro t x _ hx
        have h2 : (zs.map (Value.int .i64))[t]? = some (.int .i64 x) := by simp [hx]
        rw [← hct, List.getElem?_take] at h2
        split at h2
        · simpa using h2
        · cases h2
    have HST := Lib.hid hst
    have HI := Lib.hid hI
    clear hI hall e1 hvl hct hcur hst hk hy
    go_enter Tryz.func71, Tryz.ntmps71
    go_wp2_with fail
    refine HI.out.mono ?_
    rintro e w1 ⟨rfl, hx⟩
    have hst1 : DelI B' gb zs p cap k (k + 1) w w1 := by
      obtain ⟨q1, ⟨cur, q2, q3⟩, q4, q5⟩ := HST.out
      exact ⟨Below.mono hx hB2, ⟨cur, hx.obj q2, q3⟩, q4, q5⟩
    have hne : ((k : Int) == -1) = false := beq_eq_false_iff_ne.2 (by omega)
    go_wp2_with fail
    go_loopw [5, 6, 7] (fun s5 s6 _ wr => ∃ i j : Nat, s5 = .int .i64 i ∧ s6 = .int .i64 j ∧ j ≤ zs.length ∧ DelI B' gb zs p cap i j w wr) (fun _ s6 _ _ => zs.length - (intOf s6).toNat)
    case atStart => exact ⟨k, k + 1, rfl, by go_num, by omega, hst1⟩
    case round =>
      clear hst1 hne
      obtain ⟨i, j, rfl, rfl, hj, hD⟩ := hrel
      have hij := hD.lt
      by_cases hlt : j < zs.length
      · obtain ⟨x, hz⟩ : ∃ x, zs[j]? = some x := ⟨_, List.getElem?_eq_getElem hlt⟩
        obtain ⟨cu, q1, q2, q3, q4⟩ := hD.cells
        have c0 : wr.cell? ⟨gb, j, none⟩ = some (.int .i64 x) := (cell_of q1 j).trans (q4 j x (Nat.le_refl _) hz)
        have htk : (zs.take (j + 1)).filter (fun x => !p x) = (zs.take j).filter (fun x => !p x) ++ (if p x then [] else [x]) := by
          rw [List.take_add_one, hz, List.filter_append]
          cases hpx : p x <;> simp [hpx]
        have HD := Lib.hid hD
        have Q1 := Lib.hid q1
        have Q3 := Lib.hid q3
        have Q4 := Lib.hid q4
        have HTK := Lib.hid htk
        have hSx := hS x (List.mem_of_getElem? hz)
        clear hD q1 q3 q4 htk hz
        go_wp2_with fail
        refine (HP.out x wr hSx (Below.trans hw (Below.mono HD.out.below hB))).mono ?_
        rintro e w2 ⟨rfl, hx2⟩
        have hr2 : w2.heap[gb]? = some (.cells cu 3 (0, 0)) := hx2.obj Q1.out
        have hb2 : Below B' w w2 := Below.trans HD.out.below (Below.mono hx2 (Nat.le_trans hB2 HD.out.below.size))
        cases hpx : p x with
        | true =>
          have HR2 := Lib.hid hr2
          have HB2 := Lib.hid hb2
          clear hr2 hb2
          go_wp2_with fail
          refine ⟨⟨i, j + 1, rfl, rfl, by omega, HB2.out, ⟨cu, HR2.out, q2, ?_, fun t y ht hy => Q4.out t y (by omega) hy⟩, ?_, by omega⟩, by simp [intOf]; omega⟩
          · rw [HTK.out, if_pos hpx, List.append_nil]; exact Q3.out
          · rw [HTK.out, if_pos hpx, List.append_nil]; exact HD.out.len
        | false =>
          have ci : w2.cell? ⟨gb, i, none⟩ = some (cu[i]'(by omega)) := (cell_of hr2 i).trans (Array.getElem?_eq_getElem _)
          have fi := frozen_of hr2 i
          have HR2 := Lib.hid hr2
          have HB2 := Lib.hid hb2
          clear hr2 hb2
          generalize cu[i]'(by omega) = old at ci
          go_wp2_with fail
          refine ⟨⟨i + 1, j + 1, rfl, rfl, by omega, ?_, ⟨cu.setIfInBounds i (.int .i64 x), ?_, by rw [Array.size_setIfInBounds]; exact q2, ?_, ?_⟩, ?_, by omega⟩, by simp [intOf]; omega⟩
          · exact Below.setCell HB2.out (by omega) _
          · rw [heap_setCell_get, if_pos rfl, HR2.out]; rfl
          · rw [HTK.out, if_neg (by simp [hpx]), List.map_append, ← Q3.out, List.take_add_one, Array.toList_setIfInBounds, List.take_set_of_le (Nat.le_refl _), List.getElem?_set_self (by rw [Array.length_toList]; omega)]
            rfl
          · intro t y ht hy
            rw [Array.getElem?_setIfInBounds_ne (by omega)]
            exact Q4.out t y (by omega) hy
          · rw [HTK.out, if_neg (by simp [hpx]), List.length_append, ← HD.out.len]; rfl
      · obtain rfl : j = zs.length := by omega
        obtain ⟨cu, q1, q2, q3, q4⟩ := hD.cells
        have hcl : ∀ ty, (Builtin.clear_ #[35] ty #[.slice (some ⟨gb, i, none⟩) (zs.length - i) (cap - i)]).run Tryz.prog wr = .ok (.tuple #[]) (wr.setCells gb i (List.replicate (zs.length - i) (.int .i64 0))) :=
          fun ty => Lib.run_clear_slice wr 35 3 ty (.int .i64 0) (by kernel_rfl) (fun w => by kernel_rfl) rfl rfl gb i _ _ (by omega) (fun t ht => by rw [cell_of q1, Array.getElem?_eq_getElem (by omega)]; rfl) (fun t ht => frozen_of q1 _)
        have hrow := setCells_row gb 3 (List.replicate (zs.length - i) (.int .i64 0)) i wr cu q1
        have HD := Lib.hid hD
        have Q3 := Lib.hid q3
        have HROW := Lib.hid hrow
        clear hD q1 q3 q4 hrow
        go_wp2_with fail
        go_ret
        obtain ⟨⟨cu', r1, r2, r3⟩, r4⟩ := HROW.out
        have hlen := HD.out.len
        rw [List.take_length] at hlen
        refine ⟨_, rfl, ⟨by simp, .inr ⟨gb, cap, cu', by rw [hlen]; rfl, hgb, r1, by omega, hcm, by omega, ?_⟩⟩, Below.trans HD.out.below (Below.mono (r4 B' hgb) (Nat.le_refl _))⟩
        rw [← hlen, Nat.mul_one]
        have h3 := Q3.out
        rw [List.take_length] at h3
        rw [← h3]
        apply List.ext_getElem?
        intro t
        rw [List.getElem?_take, List.getElem?_take]
        split
        · rw [Array.getElem?_toList, Array.getElem?_toList]; exact r3 t (by assumption)
        · rfl

end Go.Proofs.YtihfcjioilmmjaaGreat
namespace Go.Proofs.YtihfcjioilmmjaaGreat
open Go Go.RowKit

theorem RecAt.version {B : Nat} {w : World} {rb : Nat} {R : Rec} {cm : Nat} {vv fv : Value} {os : List (Option Nat × Option Nat)} {xs : List (List Value)} (h : RecAt B w rb R cm vv fv os xs) {i : Nat} {ver : Ver} (hv : R.vers[i]? = some ver) :
    ∃ vb cap oa ow, vv = .slice (some ⟨vb, 0, none⟩) R.vers.length cap ∧ B ≤ vb ∧ R.vers.length ≤ cap ∧ os[i]? = some (oa, ow) ∧ w.cell? ⟨vb, i * 2, none⟩ = some (.map oa) ∧ w.cell? ⟨vb, i * 2 + 1, none⟩ = some (.map ow) ∧ MapV w oa ver.added ∧ MapV w ow ver.wd := by
  have hi : i < R.vers.length := (List.getElem?_eq_some_iff.1 hv).1
  obtain ⟨o, ho⟩ : ∃ o, os[i]? = some o := ⟨_, List.getElem?_eq_getElem (by rw [h.verLen]; exact hi)⟩
  obtain ⟨hl, hh⟩ := h.vers
  rcases hh with ⟨_, h0⟩ | ⟨g, cap, cur, rfl, hg, hc, hn, hm, hs, ht⟩
  · omega
  · have hget : ∀ j x, ([Value.map o.1, Value.map o.2])[j]? = some x → w.cell? ⟨g, i * 2 + j, none⟩ = some x := by
      intro j x hx
      have hj : j < 2 := (List.getElem?_eq_some_iff.1 hx).1
      have h2 := flatMap_get (fun o : Option Nat × Option Nat => [Value.map o.1, Value.map o.2]) 2 (fun _ => rfl) os i j o ho hj
      rw [cell_of hc]
      rw [← ht, hx, List.getElem?_take] at h2
      split at h2
      · simpa using h2
      · cases h2
    obtain ⟨m1, m2⟩ := h.verAt i o ver ho hv
    exact ⟨g, cap, o.1, o.2, rfl, hg, hn, ho, hget 0 _ rfl, hget 1 _ rfl, m1, m2⟩

/-- What holds in held$1's region. -/
def CallI (w : World) (v : Value) (us : List Value) (W : World) : Prop := Ext w W ∧ ∀ u ∈ us, u = v

set_option maxHeartbeats 1000000 in
set_option maxRecDepth 100000 in
theorem held1_any (b2 b3 rb vb i n cap : Nat) (oa ow : Option Nat) (ver : Ver) (x : Int) (w : World) (h2 : w.cell? ⟨b2, 0, none⟩ = some (encP rb)) (h3 : w.cell? ⟨b3, 0, none⟩ = some (.int .i64 (i : Int)))
    (hr : w.cell? ⟨rb, 1, none⟩ = some (.slice (some ⟨vb, 0, none⟩) n cap)) (hi : i < n) (hn : n ≤ 1000) (hc : n ≤ cap) (ha : w.cell? ⟨vb, i * 2, none⟩ = some (.map oa)) (hd : w.cell? ⟨vb, i * 2 + 1, none⟩ = some (.map ow)) (hma : MapV w oa ver.added) (hmd : MapV w ow ver.wd) :
    Calls Tryz.prog 72 #[.int .i64 x, .pointer (some ⟨b2, 0, none⟩), .pointer (some ⟨b3, 0, none⟩)] w fun e w' => e = .returned (.bool (!ver.holds x)) ∧ Ext w w' := by
  have H2 := Lib.hid h2
  have H3 := Lib.hid h3
  have HR := Lib.hid hr
  have HA := Lib.hid ha
  have HD := Lib.hid hd
  unfold encP at H2
  clear h2 h3 hr ha hd
  go_enter Tryz.func72, Tryz.ntmps72
  go_wp2_with fail
  refine Rt.wp_region_rt (by kernel_rfl) [0, 1, 2, 3, 4, 5, 6, 7, 8, 9, 10] [8] [0, 0, 0, 0, 0, 0, 0, 0, 1000, 1000, 1000] [0, 1, 3, 7, 0, 31, 63, 0, 255, 511, 1023] (by kernel_rfl) (CallI w (.bool (ver.holds x))) ?_ ?_
  · exact ⟨below_drawn (ext_refl _) _, fun u hu => by cases hu⟩
  (refine Rt.rs_rd rfl rfl rfl ?_; apply Exists.intro; refine ⟨fun us' W hp hl hI => ?_, ?_⟩; · (have c := Ext.cell' hI.1 H2.out; go_simp; rfl)); simp only [Act.put, List.getElem_toArray, List.getElem_cons_succ, List.getElem_cons_zero, List.setIfInBounds_toArray, List.set_cons_succ, List.set_cons_zero]
  iterate 2 (refine Rt.rs_sil rfl rfl rfl (fun K hK => ?_); go_simp; refine hK _ ?_; clear hK K)
  (refine Rt.rs_rd rfl rfl rfl ?_; apply Exists.intro; refine ⟨fun us' W hp hl hI => ?_, ?_⟩; · (have c := Ext.cell' hI.1 HR.out; go_simp; rfl)); simp only [Act.put, List.getElem_toArray, List.getElem_cons_succ, List.getElem_cons_zero, List.setIfInBounds_toArray, List.set_cons_succ, List.set_cons_zero]
  (refine Rt.rs_rd rfl rfl rfl ?_; apply Exists.intro; refine ⟨fun us' W hp hl hI => ?_, ?_⟩; · (have c := Ext.cell' hI.1 H3.out; go_simp; rfl)); simp only [Act.put, List.getElem_toArray, List.getElem_cons_succ, List.getElem_cons_zero, List.setIfInBounds_toArray, List.set_cons_succ, List.set_cons_zero]
  (refine Rt.rs_rd rfl rfl rfl ?_; apply Exists.intro; refine ⟨fun us' W hp hl hI => ?_, ?_⟩; · (skip; go_simp; rfl)); simp only [Act.put, List.getElem_toArray, List.getElem_cons_succ, List.getElem_cons_zero, List.setIfInBounds_toArray, List.set_cons_succ, List.set_cons_zero]
  (refine Rt.rs_rd rfl rfl rfl ?_; apply Exists.intro; refine ⟨fun us' W hp hl hI => ?_, ?_⟩; · (have c := Ext.cell' hI.1 HA.out; have d := Ext.cell' hI.1 HD.out; go_simp; rfl)); simp only [Act.put, List.getElem_toArray, List.getElem_cons_succ, List.getElem_cons_zero, List.setIfInBounds_toArray, List.set_cons_succ, List.set_cons_zero]
  (refine Rt.rs_sil rfl rfl rfl (fun K hK => ?_); go_simp; refine hK _ ?_; clear hK K)
  refine Rt.rs_eff rfl rfl rfl (fun W hI => ?_) (fun v hv => ?_)
  · refine Rt.gives_cal ?_
    apply Exists.intro
    apply Exists.intro
    apply Exists.intro
    refine ⟨by go_simp; exact ⟨⟨rfl, rfl⟩, rfl⟩, ?_⟩
    refine (holds_any oa ow ver x W (hma.ext hI.1) (hmd.ext hI.1)).mono ?_
    rintro e w5 ⟨rfl, hx5⟩
    exact ⟨_, rfl, hI.1.trans' hx5, fun u hu => by simpa using hu⟩
  obtain rfl : v = .bool (ver.holds x) := let ⟨W, hI⟩ := hv; hI.2 v (by simp)
  clear hv
  simp only [Act.put, List.getElem_toArray, List.getElem_cons_succ, List.getElem_cons_zero, List.setIfInBounds_toArray, List.set_cons_succ, List.set_cons_zero]
  iterate 2 (refine Rt.rs_sil rfl rfl rfl (fun K hK => ?_); go_simp; refine hK _ ?_; clear hK K)
  refine Rt.rs_nil (fun W hI => ?_)
  go_wp2_with fail
  go_ret
  exact ⟨rfl, hI.1⟩

theorem nodup_bound : ∀ (m : Nat) (l : List Int), l.Nodup → (∀ n ∈ l, 1 ≤ n ∧ n ≤ (m : Int)) → l.length ≤ m
  | 0, l, _, h => by
    cases l with
    | nil => simp
    | cons x r => have := h x List.mem_cons_self; omega
  | m + 1, l, hn, h => by
    by_cases hm : ((m + 1 : Nat) : Int) ∈ l
    · have h1 := nodup_bound m (l.erase ((m + 1 : Nat) : Int)) (hn.erase _) fun n hx => by
        have h2 := (List.Nodup.mem_erase_iff hn).1 hx
        have := h n h2.2
        have := h2.1
        omega
      rw [List.length_erase_of_mem hm] at h1
      omega
    · have h1 := nodup_bound m l hn fun n hx => by
        have := h n hx
        have : n ≠ ((m + 1 : Nat) : Int) := fun e => hm (e ▸ hx)
        omega
      omega

/-- The facts that hold, in ascending order. -/
def heldV (ver : Ver) : List Int := ((ver.added.map (·.1)).mergeSort (fun x y => decide (x ≤ y))).filter ver.holds

/-- What holds in held's region. -/
def HeldI (W1 : World) (oa : Option Nat) (l : List Int) (us : List Value) (W : World) : Prop :=
  Ext W1 W ∧ match us with
  | [] => True
  | [u] => ∃ bm, u = .func (.func 93) #[] #[.pointer (some ⟨bm, 0, none⟩)] ∧ bm < W.heap.size ∧ W.cell? ⟨bm, 0, none⟩ = some (.map oa)
  | _ :: s :: _ => W.ownsRow W1.heap.size 3 1 s l.length (l.map (Value.int .i64))

set_option maxHeartbeats 1000000 in
set_option maxRecDepth 100000 in
theorem held_any {B : Nat} {w : World} {rb : Nat} {R : Rec} {cm : Nat} {vv fv : Value} {os : List (Option Nat × Option Nat)} {xs : List (List Value)} (h : RecAt B w rb R cm vv fv os xs) {i : Nat} {ver : Ver} (hv : R.vers[i]? = some ver) :
    Calls Tryz.prog 51 #[encP rb, .int .i64 (i : Int)] w fun e w' => ∃ v, e = .returned v ∧ w'.ownsRow w.heap.size 3 1 v (heldV ver).length ((heldV ver).map (Value.int .i64)) ∧ Ext w w' := by
  obtain ⟨vb, cap, oa, ow, rfl, hB, hcap, _, ha, hd, hma, hmd⟩ := h.version hv
  have hi : i < R.vers.length := (List.getElem?_eq_some_iff.1 hv).1
  have hn := h.ok.vers
  obtain ⟨k1, _, k3⟩ := h.ok.keys ver (List.mem_of_getElem? hv)
  have hlen : ver.added.length ≤ 300 := by
    have := nodup_bound R.facts.length (ver.added.map (·.1)) k1 k3
    have := h.ok.facts
    simp at *
    omega
  have hok : ∀ x ∈ ver.added, i64ok x.1 := fun x hx => by
    have := k3 x.1 (List.mem_map.2 ⟨x, hx, rfl⟩)
    have := h.ok.facts
    unfold i64ok
    omega
  have hr : w.cell? ⟨rb, 1, none⟩ = some (.slice (some ⟨vb, 0, none⟩) R.vers.length cap) := cell_of h.blk 1
  have HR := Lib.hid hr
  have HA := Lib.hid ha
  have HD := Lib.hid hd
  have hall : ∃ W1, W1 = (w.alloc (.cells #[.pointer (some ⟨rb, 0, none⟩)] 41 (0, 0))).alloc (.cells #[.int .i64 (i : Int)] 3 (0, 0)) := ⟨_, rfl⟩
  obtain ⟨W1, hW1⟩ := hall
  have hx1 : Ext w W1 := by rw [hW1]; repeat' (first | with_reducible exact Below.refl _ _ | with_reducible assumption | with_reducible apply Below.drew | with_reducible exact below_drewN (by with_reducible assumption) _ | (with_reducible refine Below.setCell ?_ (by first | exact Nat.le_refl _ | assumption | (simp; done) | omega | (simp; omega)) _) | (with_reducible refine Below.alloc ?_ (by first | exact Nat.le_refl _ | assumption | (simp; done) | omega | (simp; omega)) _) | (with_reducible refine below_putObj ?_ (by first | exact Nat.le_refl _ | assumption | (simp; done) | omega | (simp; omega)) _) | (with_reducible refine below_drawn ?_ _))
  have hs1 : w.heap.size ≤ W1.heap.size := hx1.size
  have g2 : W1.cell? ⟨w.heap.size, 0, none⟩ = some (encP rb) := by
    have : W1.heap[w.heap.size]? = some (.cells #[.pointer (some ⟨rb, 0, none⟩)] 41 (0, 0)) := by rw [hW1]; simp only [heap_drawn_get, heap_drew_get, heap_setCell_get, heap_alloc_get, World.size_alloc, World.size_setCell, size_drawn, putObj_get, putObj_size]; (repeat (first | rw [if_pos trivial] | rw [if_pos rfl] | rw [if_neg (by omega)] | rw [if_pos (by omega)]))
    exact cell_of this 0
  have g3 : W1.cell? ⟨w.heap.size + 1, 0, none⟩ = some (.int .i64 (i : Int)) := by
    have : W1.heap[w.heap.size + 1]? = some (.cells #[.int .i64 (i : Int)] 3 (0, 0)) := by rw [hW1]; simp only [heap_drawn_get, heap_drew_get, heap_setCell_get, heap_alloc_get, World.size_alloc, World.size_setCell, size_drawn, putObj_get, putObj_size]; (repeat (first | rw [if_pos trivial] | rw [if_pos rfl] | rw [if_neg (by omega)] | rw [if_pos (by omega)]))
    exact cell_of this 0
  have hpred : PredB (fun _ => True) W1.heap.size W1 72 #[.pointer (some ⟨w.heap.size, 0, none⟩), .pointer (some ⟨w.heap.size + 1, 0, none⟩)] (fun n => !ver.holds n) := by
    refine ⟨enters_of Tryz.func72 (by kernel_rfl) rfl, fun x W _ hW => ?_⟩
    have hW' : Ext W1 W := hW
    have hwW := hx1.trans' hW'
    exact held1_any _ _ rb vb i _ cap oa ow ver x W (hW'.cell' g2) (hW'.cell' g3) (hwW.cell' hr) hi (by omega) hcap (hwW.cell' ha) (hwW.cell' hd) (hma.ext hwW) (hmd.ext hwW)
  have HP := Lib.hid hpred
  have HG2 := Lib.hid g2
  have HG3 := Lib.hid g3
  have K1 := Lib.hid k1
  clear hr ha hd g2 g3 hpred k1 k3 h hv
  unfold encP at *
  go_enter Tryz.func51, Tryz.ntmps51
  go_upto_region 1 with fail
  rw [← hW1]
  have HW := Lib.hid hW1
  clear hW1
  refine Rt.wp_region_rt (by kernel_rfl) [0, 1, 2, 3, 4, 5, 6, 7, 8, 9, 10] [8, 9] [0, 0, 0, 0, 0, 0, 0, 0, 1000, 1000, 1000] [0, 1, 3, 7, 0, 31, 63, 127, 255, 511, 1023] (by kernel_rfl) (HeldI W1 oa ((ver.added.map (·.1)).mergeSort (fun x y => decide (x ≤ y)))) ?_ ?_
  · exact ⟨below_drawn (ext_refl _) _, trivial⟩
  (refine Rt.rs_rd rfl rfl rfl ?_; apply Exists.intro; refine ⟨fun us' W hp hl hI => ?_, ?_⟩; · (have c := Ext.cell' hI.1 HG2.out; go_simp; rfl)); simp only [Act.put, List.getElem_toArray, List.getElem_cons_succ, List.getElem_cons_zero, List.setIfInBounds_toArray, List.set_cons_succ, List.set_cons_zero]
  iterate 2 (refine Rt.rs_sil rfl rfl rfl (fun K hK => ?_); go_simp; refine hK _ ?_; clear hK K)
  (refine Rt.rs_rd rfl rfl rfl ?_; apply Exists.intro; refine ⟨fun us' W hp hl hI => ?_, ?_⟩; · (have c := Ext.cell' (hx1.trans' hI.1) HR.out; go_simp; rfl)); simp only [Act.put, List.getElem_toArray, List.getElem_cons_succ, List.getElem_cons_zero, List.setIfInBounds_toArray, List.set_cons_succ, List.set_cons_zero]
  (refine Rt.rs_rd rfl rfl rfl ?_; apply Exists.intro; refine ⟨fun us' W hp hl hI => ?_, ?_⟩; · (have c := Ext.cell' hI.1 HG3.out; go_simp; rfl)); simp only [Act.put, List.getElem_toArray, List.getElem_cons_succ, List.getElem_cons_zero, List.setIfInBounds_toArray, List.set_cons_succ, List.set_cons_zero]
  (refine Rt.rs_rd rfl rfl rfl ?_; apply Exists.intro; refine ⟨fun us' W hp hl hI => ?_, ?_⟩; · (skip; go_simp; rfl)); simp only [Act.put, List.getElem_toArray, List.getElem_cons_succ, List.getElem_cons_zero, List.setIfInBounds_toArray, List.set_cons_succ, List.set_cons_zero]
  (refine Rt.rs_sil rfl rfl rfl (fun K hK => ?_); go_simp; refine hK _ ?_; clear hK K)
  (refine Rt.rs_rd rfl rfl rfl ?_; apply Exists.intro; refine ⟨fun us' W hp hl hI => ?_, ?_⟩; · (have c := Ext.cell' (hx1.trans' hI.1) HA.out; go_simp; rfl)); simp only [Act.put, List.getElem_toArray, List.getElem_cons_succ, List.getElem_cons_zero, List.setIfInBounds_toArray, List.set_cons_succ, List.set_cons_zero]
  refine Rt.rs_eff rfl rfl rfl (fun W hI => ?_) (fun v hv => ?_)
  · refine Rt.gives_cal ?_
    apply Exists.intro
    apply Exists.intro
    apply Exists.intro
    refine ⟨by go_simp; exact ⟨⟨rfl, rfl⟩, rfl⟩, ?_⟩
    refine (keys_any oa W).mono ?_
    rintro e w5 ⟨rfl, rfl⟩
    have hxx : Ext W (W.alloc (.cells #[.map oa] 94 (0, 0))) := by repeat' (first | with_reducible exact Below.refl _ _ | with_reducible assumption | with_reducible apply Below.drew | with_reducible exact below_drewN (by with_reducible assumption) _ | (with_reducible refine Below.setCell ?_ (by first | exact Nat.le_refl _ | assumption | (simp; done) | omega | (simp; omega)) _) | (with_reducible refine Below.alloc ?_ (by first | exact Nat.le_refl _ | assumption | (simp; done) | omega | (simp; omega)) _) | (with_reducible refine below_putObj ?_ (by first | exact Nat.le_refl _ | assumption | (simp; done) | omega | (simp; omega)) _) | (with_reducible refine below_drawn ?_ _))
    refine ⟨_, rfl, hI.1.trans' hxx, W.heap.size, rfl, by rw [World.size_alloc]; omega, ?_⟩
    have hq : (W.alloc (.cells #[.map oa] 94 (0, 0))).heap[W.heap.size]? = some (.cells #[.map oa] 94 (0, 0)) := by simp only [heap_drawn_get, heap_drew_get, heap_setCell_get, heap_alloc_get, World.size_alloc, World.size_setCell, size_drawn, putObj_get, putObj_size]; (repeat (first | rw [if_pos trivial] | rw [if_pos rfl] | rw [if_neg (by omega)] | rw [if_pos (by omega)]))
    exact cell_of hq 0
  obtain ⟨bm, rfl⟩ : ∃ bm, v = .func (.func 93) #[] #[.pointer (some ⟨bm, 0, none⟩)] := let ⟨W, hI⟩ := hv; let ⟨bm, hb, _⟩ := hI.2; ⟨bm, hb⟩
  clear hv
  simp only [Act.put, List.getElem_toArray, List.getElem_cons_succ, List.getElem_cons_zero, List.setIfInBounds_toArray, List.set_cons_succ, List.set_cons_zero]
  refine Rt.rs_eff rfl rfl rfl (fun W hI => ?_) (fun v hv => ?_)
  · obtain ⟨hxW, bm', he, hlt, hcell⟩ := hI
    simp only [Value.func.injEq, Array.mk.injEq, List.cons.injEq, Value.pointer.injEq, Option.some.injEq, Addr.mk.injEq, and_true, true_and] at he
    subst he
    refine Rt.gives_cal ?_
    apply Exists.intro
    apply Exists.intro
    apply Exists.intro
    refine ⟨by go_simp; exact ⟨⟨rfl, rfl⟩, rfl⟩, ?_⟩
    refine (sorted_any bm oa ver.added W hlt hcell (hma.ext (hx1.trans' hxW)) K1.out hok (by omega)).mono ?_
    rintro e w5 ⟨v', rfl, hrow, hx5⟩
    refine ⟨_, rfl, hxW.trans' hx5, ?_⟩
    have hl : ((ver.added.map (·.1)).mergeSort (fun x y => decide (x ≤ y))).length = ver.added.length := by rw [List.length_mergeSort, List.length_map]
    rw [hl]
    exact owns_mono hrow hxW.size
  clear hv
  simp only [Act.put, List.getElem_toArray, List.getElem_cons_succ, List.getElem_cons_zero, List.setIfInBounds_toArray, List.set_cons_succ, List.set_cons_zero]
  (refine Rt.rs_sil rfl rfl rfl (fun K hK => ?_); go_simp; refine hK _ ?_; clear hK K)
  refine Rt.rs_nil (fun W hI => ?_)
  obtain ⟨hxW, hrow0⟩ := hI
  have hl : ((ver.added.map (·.1)).mergeSort (fun x y => decide (x ≤ y))).length = ver.added.length := by rw [List.length_mergeSort, List.length_map]
  have hrow : W.ownsRow W1.heap.size 3 1 v ver.added.length (((ver.added.map (·.1)).mergeSort (fun x y => decide (x ≤ y))).map (Value.int .i64)) := by rw [← hl]; exact hrow0
  clear hrow0
  obtain ⟨p, c, rfl⟩ := owns_form hrow
  have HL := Lib.hid hl
  clear hl
  have HROW := Lib.hid hrow
  have HXW := Lib.hid hxW
  clear hrow hxW
  go_wp2_with fail
  refine (deleteFunc_any W1.heap.size W1.heap.size W1 W _ ((ver.added.map (·.1)).mergeSort (fun x y => decide (x ≤ y))) 72 _ (fun n => !ver.holds n) (fun _ _ => trivial) (by rw [HL.out]; exact HROW.out) HP.out HXW.out (Nat.le_refl _) HXW.out.size).mono ?_
  rintro e w5 ⟨v', rfl, hrow, hx5⟩
  have hq : (((ver.added.map (·.1)).mergeSort (fun x y => decide (x ≤ y))).filter fun x => !!ver.holds x) = heldV ver := by unfold heldV; simp
  rw [hq] at hrow
  go_wp2_with fail
  go_ret
  exact ⟨_, rfl, owns_mono hrow hs1, Below.trans (Below.trans hx1 (Below.mono HXW.out hs1)) (Below.mono hx5 hs1)⟩

end Go.Proofs.YtihfcjioilmmjaaGreat
namespace Go.Proofs.YtihfcjioilmmjaaGreat
open Go Go.RowKit
open Go.ChangeMaps (setBlock)

theorem setBlock_put (w : World) (r : Nat) (o : Obj) : setBlock w r o = w.putObj r o := rfl

/-- The iterator in block it over the map in block b, of n entries: the places that it has given. -/
def IterAt (W : World) (it b n : Nat) (seen : List Nat) : Prop := W.heap[it]? = some (.mapIter (some b) n seen.toArray n)

section
variable {κ : Type} [DecidableEq κ] {enc : κ → Value}

theorem range_law {w : World} {b : Nat} {l : List (κ × Value)} {T K E : TypeId} (ht : Tryz.prog.underlying T = some (.map K E)) (hm : MapIs enc w b l) :
    (Instr.range T (.map (some b))).run Tryz.prog w = .ok (.pointer (some ⟨w.heap.size, 0, none⟩)) (w.alloc (.mapIter (some b) l.length #[] l.length)) := run_range_map w T K E b _ _ ht hm

theorem entsFrom_mem {n : Nat} {l : List (κ × Value)} {e : MapEntry} (h : e ∈ entsFrom enc n l) : ∃ i k v, l[i]? = some (k, v) ∧ e = ⟨enc k, v, n + i⟩ := by
  obtain ⟨i, hi⟩ := List.mem_iff_getElem?.1 h
  rw [entsFrom_get] at hi
  cases hl : l[i]? with
  | none => rw [hl] at hi; simp at hi
  | some x =>
    rw [hl] at hi
    exact ⟨i, x.1, x.2, hl, (Option.some.inj hi).symm⟩

theorem next_law {W : World} {it b : Nat} {l : List (κ × Value)} {seen : List Nat} (hm : MapIs enc W b l) (hi : IterAt W it b l.length seen) (ty : TypeId) :
    ((∀ i, i < l.length → i ∈ seen) ∧ (Instr.next (.pointer (some ⟨it, 0, none⟩)) false ty).run Tryz.prog W = .ok (.tuple #[.bool false]) W) ∨
    ∃ i k v, l[i]? = some (k, v) ∧ i ∉ seen ∧ ∃ w1 : World, (w1 = W ∨ w1 = W.drew) ∧ (Instr.next (.pointer (some ⟨it, 0, none⟩)) false ty).run Tryz.prog W = .ok (.tuple #[.bool true, enc k, v]) (w1.putObj it (.mapIter (some b) l.length (seen ++ [i]).toArray l.length)) := by
  have hold : ∀ x ∈ (entsFrom enc 0 l).toArray.toList, x.born < l.length := by
    intro x hx
    obtain ⟨i, k, v, hl, rfl⟩ := entsFrom_mem hx
    have := (List.getElem?_eq_some_iff.1 hl).1
    simp only; omega
  rcases run_next_at (P := Tryz.prog) W ty it b l.length l.length seen.toArray (entsFrom enc 0 l).toArray l.length hi hm hold (Nat.le_refl _) with ⟨h0, hrun⟩ | ⟨e, he, w1, hw, hrun⟩
  · refine .inl ⟨fun i hil => ?_, hrun⟩
    have hnil : (leftOf (entsFrom enc 0 l).toArray seen.toArray) = #[] := Array.eq_empty_of_size_eq_zero h0
    unfold leftOf at hnil
    rw [Array.filter_eq_empty_iff] at hnil
    have hmem : (⟨enc l[i].1, l[i].2, 0 + i⟩ : MapEntry) ∈ (entsFrom enc 0 l).toArray := by
      rw [List.mem_toArray]
      refine List.mem_iff_getElem?.2 ⟨i, ?_⟩
      rw [entsFrom_get, List.getElem?_eq_getElem hil]; rfl
    have := hnil _ hmem
    simpa using this
  · right
    unfold leftOf at he
    simp only [Array.toList_filter, List.mem_filter] at he
    obtain ⟨h1, h2⟩ := he
    obtain ⟨i, k, v, hl, rfl⟩ := entsFrom_mem h1
    refine ⟨i, k, v, hl, by simpa using h2, w1, hw, ?_⟩
    rw [hrun, setBlock_put]
    simp

theorem entry_law {W : World} {it b : Nat} {l : List (κ × Value)} {seen : List Nat} {i : Nat} {k : κ} {v : Value} (hm : MapIs enc W b l) (hi : IterAt W it b l.length (seen ++ [i])) (hl : l[i]? = some (k, v)) :
    (Instr.entry (.pointer (some ⟨it, 0, none⟩))).run Tryz.prog W = .ok (.tuple #[enc k, v]) W := by
  have hmem : (⟨enc k, v, i⟩ : MapEntry) ∈ (entsFrom enc 0 l).toArray.toList := by
    refine List.mem_iff_getElem?.2 ⟨i, ?_⟩
    show (entsFrom enc 0 l)[i]? = _
    rw [entsFrom_get, hl]; simp
  have hnd : ((entsFrom enc 0 l).toArray.toList.map (·.born)).Nodup := by
    show ((entsFrom enc 0 l).map (·.born)).Nodup
    rw [entsFrom_born]; exact List.nodup_range'
  refine run_entry_at W it b l.length seen.toArray _ l.length ⟨enc k, v, i⟩ ?_ hm hmem hnd
  unfold IterAt at hi
  rw [hi]; simp
end

/-- The places given so far are few. -/
theorem seen_lt {n i : Nat} {seen : List Nat} (hn : seen.Nodup) (hs : ∀ j ∈ seen, j < n) (hi : i < n) (hni : i ∉ seen) : seen.length < n := by
  have h := nodup_bound n ((i :: seen).map fun j => ((j + 1 : Nat) : Int)) (List.pairwise_map.2 (List.Pairwise.imp (fun h e => h (by omega)) (List.nodup_cons.2 ⟨hni, hn⟩))) fun x hx => by
    obtain ⟨j, hj, rfl⟩ := List.mem_map.1 hx
    rcases List.mem_cons.1 hj with rfl | hj
    · omega
    · have := hs j hj; omega
  simp at h
  omega

end Go.Proofs.YtihfcjioilmmjaaGreat
namespace Go.Proofs.YtihfcjioilmmjaaGreat
open Go Go.RowKit

/-- Nothing that lay there has turned but block b. -/
structure But (b : Nat) (w w' : World) : Prop where
  os : w'.os = w.os
  tape : w'.tape = w.tape
  output : w'.output = w.output
  size : w.heap.size ≤ w'.heap.size
  block : ∀ k, k < w.heap.size → k ≠ b → w'.heap[k]? = w.heap[k]?

theorem But.refl (b : Nat) (w : World) : But b w w := ⟨rfl, rfl, rfl, Nat.le_refl _, fun _ _ _ => rfl⟩
theorem But.trans {b : Nat} {x y z : World} (h : But b x y) (g : But b y z) : But b x z :=
  ⟨g.os.trans h.os, g.tape.trans h.tape, g.output.trans h.output, Nat.le_trans h.size g.size, fun k hk hn => (g.block k (Nat.lt_of_lt_of_le hk h.size) hn).trans (h.block k hk hn)⟩
theorem But.ext {b : Nat} {x y : World} (h : Ext x y) : But b x y := ⟨h.os, h.tape, h.output, h.size, fun k hk _ => h.block k hk⟩
/-- A step that turns block b, or one that is new. -/
theorem But.put {b : Nat} {x y : World} (h : But b x y) {r : Nat} (o : Obj) (hr : r = b ∨ x.heap.size ≤ r) : But b x (y.putObj r o) :=
  ⟨h.os, h.tape, h.output, by rw [putObj_size]; exact h.size, fun k hk hn => by
    rw [putObj_get, if_neg (by rcases hr with hr | hr <;> omega)]; exact h.block k hk hn⟩
theorem But.drew {b : Nat} {x y : World} (h : But b x y) : But b x y.drew := ⟨h.os, h.tape, h.output, h.size, h.block⟩
theorem But.below {b B : Nat} {x y : World} (h : But b x y) (hB : B ≤ b) (hs : B ≤ x.heap.size) : Below B x y := ⟨h.os, h.tape, h.output, h.size, fun k hk => h.block k (by omega) (by omega)⟩

theorem MapV.but {b : Nat} {w w' : World} {o : Option Nat} {l : List (Int × Value)} (h : MapV w o l) (hb : But b w w') (hne : o ≠ some b) : MapV w' o l := by
  rcases h with h | ⟨c, rfl, h2⟩
  · exact .inl h
  · exact .inr ⟨c, rfl, (hb.block c (heap_lt h2) (fun e => hne (by rw [e]))).trans h2⟩

/-- What Copy's loop keeps. -/
structure CopyI (w : World) (bd bs : Nat) (ld ls : List (Int × Value)) (seen : List Nat) (l' : List (Int × Value)) (wr : World) : Prop where
  but : But bd w wr
  iter : IterAt wr w.heap.size bs ls.length seen
  nodup : seen.Nodup
  few : ∀ j ∈ seen, j < ls.length
  map : MapIs (Value.int .i64) wr bd l'
  src : MapIs (Value.int .i64) wr bs ls
  has : ∀ k, (look l' k).isSome = true ↔ ((look ld k).isSome = true ∨ ∃ j ∈ seen, ∃ v, ls[j]? = some (k, v))
  keys : (ld.map (·.1)).Nodup → (l'.map (·.1)).Nodup

theorem look_has {l : List (Int × Value)} {k : Int} : (look l k).isSome = true ↔ ∃ (j : Nat) (v : Value), l[j]? = some (k, v) := by
  rw [look_isSome_iff]
  constructor
  · intro h
    obtain ⟨x, hx, rfl⟩ := List.mem_map.1 h
    obtain ⟨j, hj⟩ := List.mem_iff_getElem?.1 hx
    exact ⟨j, x.2, hj⟩
  · rintro ⟨j, v, h⟩
    exact List.mem_map.2 ⟨(k, v), List.mem_of_getElem? h, rfl⟩

set_option maxHeartbeats 1000000 in
set_option maxRecDepth 100000 in
theorem copy_map (bd bs : Nat) (ld ls : List (Int × Value)) (w : World) (hd : MapIs (Value.int .i64) w bd ld) (hs : MapIs (Value.int .i64) w bs ls) (hne : bs ≠ bd) :
    Calls Tryz.prog 38 #[.map (some bd), .map (some bs)] w fun e w' => e = .returned (.tuple #[]) ∧ But bd w w' ∧ ∃ l', MapIs (Value.int .i64) w' bd l' ∧ (∀ k, (look l' k).isSome = ((look ld k).isSome || (look ls k).isSome)) ∧ ((ld.map (·.1)).Nodup → (l'.map (·.1)).Nodup) := by
  have hbd := heap_lt hd
  have hbs := heap_lt hs
  have hrg := range_law (T := 94) (K := 3) (E := 3) (by kernel_rfl) hs
  have hI : CopyI w bd bs ld ls [] ld (w.alloc (.mapIter (some bs) ls.length #[] ls.length)) := by
    refine ⟨But.ext (by repeat' (first | with_reducible exact Below.refl _ _ | with_reducible assumption | with_reducible apply Below.drew | with_reducible exact below_drewN (by with_reducible assumption) _ | (with_reducible refine Below.setCell ?_ (by first | exact Nat.le_refl _ | assumption | (simp; done) | omega | (simp; omega)) _) | (with_reducible refine Below.alloc ?_ (by first | exact Nat.le_refl _ | assumption | (simp; done) | omega | (simp; omega)) _) | (with_reducible refine below_putObj ?_ (by first | exact Nat.le_refl _ | assumption | (simp; done) | omega | (simp; omega)) _) | (with_reducible refine below_drawn ?_ _))), ?_, List.nodup_nil, fun j h => (by cases h), ?_, ?_, fun k => ?_, id⟩
    · unfold IterAt; simp only [heap_drawn_get, heap_drew_get, heap_setCell_get, heap_alloc_get, World.size_alloc, World.size_setCell, size_drawn, putObj_get, putObj_size]; (repeat (first | rw [if_pos trivial] | rw [if_pos rfl] | rw [if_neg (by omega)] | rw [if_pos (by omega)]))
    · unfold MapIs; simp only [heap_drawn_get, heap_drew_get, heap_setCell_get, heap_alloc_get, World.size_alloc, World.size_setCell, size_drawn, putObj_get, putObj_size]; (repeat (first | rw [if_pos trivial] | rw [if_pos rfl] | rw [if_neg (by omega)] | rw [if_pos (by omega)])); exact hd
    · unfold MapIs; simp only [heap_drawn_get, heap_drew_get, heap_setCell_get, heap_alloc_get, World.size_alloc, World.size_setCell, size_drawn, putObj_get, putObj_size]; (repeat (first | rw [if_pos trivial] | rw [if_pos rfl] | rw [if_neg (by omega)] | rw [if_pos (by omega)])); exact hs
    · simp
  have HI := Lib.hid hI
  clear hI hd hs
  go_enter Tryz.func38, Tryz.ntmps38
  go_wp2_with fail
  go_loopw [4, 5, 8, 9] (fun _ _ _ _ wr => ∃ (seen : List Nat) (l' : List (Int × Value)), CopyI w bd bs ld ls seen l' wr) (fun _ _ _ _ wr => ls.length - (wr.iterSeen w.heap.size).size)
  case atStart => exact ⟨[], ld, HI.out⟩
  case round =>
    obtain ⟨seen, l', hC⟩ := hrel
    rcases next_law hC.src hC.iter 0 with ⟨hall, hn⟩ | ⟨i, k, v, hl, hni, w1, hw1, hn⟩
    · have hn' : ∀ ty, (Instr.next (.pointer (some ⟨w.heap.size, 0, none⟩)) false ty).run Tryz.prog wr = _ := fun ty => hn
      have HC := Lib.hid hC
      have HALL := Lib.hid hall
      clear hC hn hall
      go_wp2_with fail
      go_end0
      refine ⟨rfl, HC.out.but, l', HC.out.map, fun k => ?_, HC.out.keys⟩
      rw [Bool.eq_iff_iff, Bool.or_eq_true, HC.out.has k, look_has (l := ls)]
      constructor
      · rintro (h | ⟨j, _, v, hj⟩)
        · exact .inl h
        · exact .inr ⟨j, v, hj⟩
      · rintro (h | ⟨j, v, hj⟩)
        · exact .inl h
        · exact .inr ⟨j, HALL.out j (List.getElem?_eq_some_iff.1 hj).1, v, hj⟩
    · have hil : i < ls.length := (List.getElem?_eq_some_iff.1 hl).1
      have hlt := seen_lt hC.nodup hC.few hil hni
      have hn' : ∀ ty, (Instr.next (.pointer (some ⟨w.heap.size, 0, none⟩)) false ty).run Tryz.prog wr = _ := fun ty => hn
      obtain ⟨W2, hW2⟩ : ∃ W2, W2 = w1.putObj w.heap.size (.mapIter (some bs) ls.length (seen ++ [i]).toArray ls.length) := ⟨_, rfl⟩
      rw [← hW2] at hn'
      have hits : wr.iterSeen w.heap.size = seen.toArray := by
        have := hC.iter
        unfold IterAt at this
        unfold World.iterSeen
        rw [this]
      have hitl : w.heap.size < wr.heap.size := heap_lt hC.iter
      have hh1 : ∀ q : Nat, w1.heap[q]? = wr.heap[q]? := fun q => by rcases hw1 with rfl | rfl <;> rfl
      have hs1 : w1.heap.size = wr.heap.size := by rcases hw1 with rfl | rfl <;> rfl
      have hb1 : But bd w w1 := by
        rcases hw1 with rfl | rfl
        · exact hC.but
        · exact hC.but.drew
      have hput : ∀ q : Nat, q ≠ w.heap.size → W2.heap[q]? = wr.heap[q]? := fun q hq => by rw [hW2, putObj_get, if_neg hq, hh1]
      have hit2 : IterAt W2 w.heap.size bs ls.length (seen ++ [i]) := by
        unfold IterAt; rw [hW2, putObj_get, if_pos rfl, if_pos (by omega)]
      have hm2 : MapIs (Value.int .i64) W2 bd l' := (hput bd (by omega)).trans hC.map
      have hs2 : MapIs (Value.int .i64) W2 bs ls := (hput bs (by omega)).trans hC.src
      have hb2 : But bd w W2 := by rw [hW2]; exact hb1.put _ (.inr (Nat.le_refl _))
      have hent := entry_law hs2 hit2 hl
      have hup := run_mapUpdate (P := Tryz.prog) (T := 94) (K := 3) (E := 3) (k := k) (v := v) (by kernel_rfl) hm2 (finds_int (by kernel_rfl) W2 _ _)
      have HC := Lib.hid hC
      have HIT2 := Lib.hid hit2
      have HM2 := Lib.hid hm2
      have HS2 := Lib.hid hs2
      have HB2 := Lib.hid hb2
      have HITS := Lib.hid hits
      have HL := Lib.hid hl
      clear hC hn hit2 hm2 hs2 hb2 hput hW2 hits hl hh1 hs1 hb1 hw1
      go_wp2_with fail
      have hbdW : bd < W2.heap.size := heap_lt HM2.out
      have hit3 : IterAt (wput (Value.int .i64) W2 bd (mput l' k v)) w.heap.size bs ls.length (seen ++ [i]) := by
        unfold IterAt wput; rw [putObj_get, if_neg (by omega)]; exact HIT2.out
      refine ⟨⟨seen ++ [i], mput l' k v, HB2.out.put _ (.inl rfl), hit3, ?_, ?_, ?_, ?_, ?_, fun hq => nodup_mput (HC.out.keys hq) k v⟩, ?_⟩
      · rw [List.nodup_append]
        exact ⟨HC.out.nodup, by simp, fun x hx y hy => by rw [List.mem_singleton.1 hy]; rintro rfl; exact hni hx⟩
      · intro j hj
        rcases List.mem_append.1 hj with hj | hj
        · exact HC.out.few j hj
        · rw [List.mem_singleton.1 hj]; exact hil
      · unfold MapIs wput; rw [putObj_get, if_pos rfl, if_pos hbdW]
      · unfold MapIs wput; rw [putObj_get, if_neg hne]; exact HS2.out
      · intro k'
        by_cases hk : k' = k
        · subst hk
          rw [look_mput_same]
          simp only [Option.isSome_some, true_iff]
          exact .inr ⟨i, by simp, v, HL.out⟩
        · rw [look_mput_other _ _ _ _ hk, HC.out.has k']
          constructor
          · rintro (h | ⟨j, hj, u, hu⟩)
            · exact .inl h
            · exact .inr ⟨j, List.mem_append_left _ hj, u, hu⟩
          · rintro (h | ⟨j, hj, u, hu⟩)
            · exact .inl h
            · rcases List.mem_append.1 hj with hj | hj
              · exact .inr ⟨j, hj, u, hu⟩
              · rw [List.mem_singleton.1 hj, HL.out] at hu
                simp only [Option.some.injEq, Prod.mk.injEq] at hu
                exact absurd hu.1.symm hk
      · have e1 : (wput (Value.int .i64) W2 bd (mput l' k v)).iterSeen w.heap.size = (seen ++ [i]).toArray := by
          unfold IterAt at hit3
          unfold World.iterSeen
          rw [hit3]
        rw [e1, HITS.out]
        simp
        omega

theorem run_range_nil (w : World) : (Instr.range 94 (.map none)).run Tryz.prog w = .ok (.pointer (some ⟨w.heap.size, 0, none⟩)) (w.alloc (.mapIter none 0 #[] 0)) := run_range_nilMap w 94 3 3 (by kernel_rfl)

set_option maxHeartbeats 1000000 in
set_option maxRecDepth 100000 in
theorem copy_nil (od : Option Nat) (w : World) : Calls Tryz.prog 38 #[.map od, .map none] w fun e w' => e = .returned (.tuple #[]) ∧ Ext w w' := by
  have hrg := run_range_nil w
  have hnx : ∀ ty, (Instr.next (.pointer (some ⟨w.heap.size, 0, none⟩)) false ty).run Tryz.prog (w.alloc (.mapIter none 0 #[] 0)) = _ := fun ty => run_next_nilMap _ ty 0 0 #[]
  go_enter Tryz.func38, Tryz.ntmps38
  go_wp2_with fail
  refine wp_loop_rounds 1 ?_
  rw [rounds_succ]
  go_wp2_with fail
  go_end0
  exact ⟨rfl, by repeat' (first | with_reducible exact Below.refl _ _ | with_reducible assumption | with_reducible apply Below.drew | with_reducible exact below_drewN (by with_reducible assumption) _ | (with_reducible refine Below.setCell ?_ (by first | exact Nat.le_refl _ | assumption | (simp; done) | omega | (simp; omega)) _) | (with_reducible refine Below.alloc ?_ (by first | exact Nat.le_refl _ | assumption | (simp; done) | omega | (simp; omega)) _) | (with_reducible refine below_putObj ?_ (by first | exact Nat.le_refl _ | assumption | (simp; done) | omega | (simp; omega)) _) | (with_reducible refine below_drawn ?_ _))⟩

/-- maps.Copy: the keys of both. -/
theorem copy_any (bd : Nat) (o : Option Nat) (ld ls : List (Int × Value)) (w : World) (hd : MapIs (Value.int .i64) w bd ld) (hs : MapV w o ls) (hne : o ≠ some bd) :
    Calls Tryz.prog 38 #[.map (some bd), .map o] w fun e w' => e = .returned (.tuple #[]) ∧ But bd w w' ∧ ∃ l', MapIs (Value.int .i64) w' bd l' ∧ (∀ k, (look l' k).isSome = ((look ld k).isSome || (look ls k).isSome)) ∧ ((ld.map (·.1)).Nodup → (l'.map (·.1)).Nodup) := by
  rcases hs with ⟨rfl, rfl⟩ | ⟨b, rfl, hb⟩
  · refine (copy_nil (some bd) w).mono ?_
    rintro e w' ⟨rfl, hx⟩
    exact ⟨rfl, But.ext hx, ld, hd.ext hx, fun k => by simp [look], id⟩
  · exact copy_map bd b ld ls w hd hb (fun e => hne (by rw [e]))

end Go.Proofs.YtihfcjioilmmjaaGreat
namespace Go.Proofs.YtihfcjioilmmjaaGreat
open Go Go.RowKit
open Go.Maps Go.Sort Go.Shelf Go.Proofs
attribute [local go_sem] Oper.semAt_some

/-- WHAT HAS COME WHEN k ROUNDS ARE OVER: f 0, .., f (k - 1). -/
def Vals.upto {α : Type} (f : Nat → α) (k : Nat) : List α := (List.range k).map f
theorem Vals.upto_succ {α : Type} (f : Nat → α) (k : Nat) : Vals.upto f (k + 1) = Vals.upto f k ++ [f k] := by simp [Vals.upto, List.range_succ]
theorem Vals.upto_length {α : Type} (f : Nat → α) (k : Nat) : (Vals.upto f k).length = k := by simp [Vals.upto]
theorem Vals.upto_all (zs : List Int) : Vals.upto (fun j => zs[j]?.getD 0) zs.length = zs := by
  apply List.ext_getElem
  · simp [Vals.upto]
  · intro i h1 h2
    simp [Vals.upto, h2]

set_option maxRecDepth 100000 in
set_option maxHeartbeats 2000000 in
/-- **slices.Values's closure: 'for _, v := range s { if !yield(v) { return } }': FOR EVERY LOOP BODY THAT KEEPS WHAT LAY BELOW n₀.** -/
theorem Vals.values1_in (F : Fence) (n : Nat) (h7 : F.fn 58) (hro : F.round = none) (hn : 1 ≤ n) (l Bs n₀ b off len cap : Nat) (zs : List Int) (hreach : len * 8 ≤ 140737488351232) (hb : b < n₀) (J Jx : List Int → World → Prop)
    (hY : ∀ pre x W, J pre W → pre.length < len → YieldAt F (n - 1) Tryz.prog l #[.int .i64 x] W fun e W' =>
      (e = .returned (.bool true) ∧ J (pre ++ [x]) W' ∧ Below n₀ W W') ∨ (e = .returned (.bool false) ∧ Jx (pre ++ [x]) W'))
    (W : World) (hBs : W.cell? ⟨Bs, 0, none⟩ = some (.slice (some ⟨b, off, none⟩) len cap)) (hc : ∀ j, j < len → W.cell? ⟨b, off + j, none⟩ = some (.int .i64 (zs[j]?.getD 0))) (h0 : J [] W) :
    CallsIn F n Tryz.prog 58 #[.func (.yield l) #[] #[], .pointer (some ⟨Bs, 0, none⟩)] W fun e W' => (∃ v, e = .returned v) ∧
      ((∃ ys, ys = Vals.upto (fun j => zs[j]?.getD 0) len ∧ J ys W') ∨ (∃ pre, (∃ k, k ≤ len ∧ pre = Vals.upto (fun j => zs[j]?.getD 0) k) ∧ Jx pre W')) := by
  refine callsIn_of_wp Tryz.func58 rfl h7 ?_ hro
  simp only [Tryz.ntmps58, List.size_toArray, List.length_cons, List.length_nil, Nat.reduceAdd, Nat.reduceSub, Array.replicate_succ, Array.replicate_zero, List.push_toArray, List.append_toArray, List.nil_append, List.cons_append]
  gi_wp2
  gi_loopw [7] (fun i wr => ∃ k : Nat, k ≤ len ∧ i = .int .i64 k ∧ J (Vals.upto (fun j => zs[j]?.getD 0) k) wr ∧ Below n₀ W wr)
    (fun i _ => len - (intOf i).toNat)
  case atStart => exact ⟨0, Nat.zero_le _, rfl, h0, Below.refl _ _⟩
  case round =>
    obtain ⟨k, hk, rfl, hJs, hnx⟩ := hrel
    have hcx : k < len → wr.cell? ⟨b, off + k, none⟩ = some (.int .i64 (zs[k]?.getD 0)) := fun h => (hnx.cell (p := ⟨b, off + k, none⟩) hb).trans (hc k h)
    by_cases hlt : k < len
    · obtain ⟨fn, tmps, assign, body, hy, hR⟩ := hY _ (zs[k]?.getD 0) wr hJs (by rw [Vals.upto_length]; exact hlt)
      have hcx' := hcx hlt
      gi_wp2
      refine hR.mono ?_
      rintro e W3 (⟨rfl, hJ3, hk3⟩ | ⟨rfl, hJx3⟩)
      · -- THE ROUND GOES ON
        gi_wp2
        go_roundw
        case rel => exact ⟨k + 1, by omega, by simp, by rw [Vals.upto_succ]; exact hJ3, hnx.trans hk3⟩
        case measure => simp [intOf]; omega
      · gi_wp2
        refine bodyPost_ret (results_none rfl _ _ _) rfl ?_
        exact ⟨⟨_, rfl⟩, .inr ⟨_, ⟨k + 1, by omega, (Vals.upto_succ _ _).symm⟩, hJx3⟩⟩
    · obtain rfl : k = len := by omega
      gi_wp2
      go_end0
      exact ⟨⟨_, rfl⟩, .inl ⟨_, rfl, hJs⟩⟩

theorem Vals.upto_take (zs : List Int) {k : Nat} (hk : k ≤ zs.length) : Vals.upto (fun j => zs[j]?.getD 0) k = zs.take k := by
  apply List.ext_getElem
  · simp [Vals.upto, hk]
  · intro i h1 h2
    have : i < zs.length := by simp [Vals.upto] at h1; omega
    simp [Vals.upto, this]

/-- THE SLICE VALUE sv HOLDS THE ints zs, in a block below n₀; or it is nil and there are none. -/
def Vals.Ints (n₀ : Nat) (W : World) (sv : Value) (zs : List Int) : Prop :=
  (zs = [] ∧ ∃ a cap, sv = .slice a 0 cap) ∨ ∃ b off cap, sv = .slice (some ⟨b, off, none⟩) zs.length cap ∧ b < n₀ ∧ ∀ j, j < zs.length → W.cell? ⟨b, off + j, none⟩ = some (.int .i64 (zs[j]?.getD 0))
theorem Vals.Ints.below {n₀ : Nat} {A B : World} (h : Below n₀ A B) {sv : Value} {zs : List Int} : Vals.Ints n₀ A sv zs → Vals.Ints n₀ B sv zs
  | .inl e => .inl e
  | .inr ⟨b, off, cap, e, hb, hc⟩ => .inr ⟨b, off, cap, e, hb, fun j hj => (h.cell (p := ⟨b, off + j, none⟩) hb).trans (hc j hj)⟩

set_option maxRecDepth 100000 in
set_option maxHeartbeats 1000000 in
/-- .. at the nil slice: no round. -/
theorem Vals.values1_nil_in (F : Fence) (n : Nat) (h7 : F.fn 58) (hro : F.round = none) (l Bs : Nat) (J : List Int → World → Prop) (W : World) (a0 : Option Addr) (cap0 : Nat) (hBs : W.cell? ⟨Bs, 0, none⟩ = some (.slice a0 0 cap0)) (h0 : J [] W) :
    CallsIn F n Tryz.prog 58 #[.func (.yield l) #[] #[], .pointer (some ⟨Bs, 0, none⟩)] W fun e W' => (∃ v, e = .returned v) ∧ J [] W' := by
  refine callsIn_of_wp Tryz.func58 rfl h7 ?_ hro
  simp only [Tryz.ntmps58, List.size_toArray, List.length_cons, List.length_nil, Nat.reduceAdd, Nat.reduceSub, Array.replicate_succ, Array.replicate_zero, List.push_toArray, List.append_toArray, List.nil_append, List.cons_append]
  gi_wp2
  gi_loopw [7] (fun i wr => i = .int .i64 0 ∧ J [] wr) (fun _ _ => 0)
  case atStart => exact ⟨rfl, h0⟩
  case round =>
    obtain ⟨rfl, hJs⟩ := hrel
    gi_wp2
    go_end0
    exact ⟨⟨_, rfl⟩, hJs⟩

set_option maxHeartbeats 1000000 in
/-- **slices.Values(s)**: the slice value is boxed; the function value captures the box. -/
theorem Vals.values_in (F : Fence) (n : Nat) (h5 : F.fn 35) (hro : F.round = none) (a : Option Addr) (len cap : Nat) (w : World) :
    CallsIn F n Tryz.prog 35 #[.slice a len cap] w fun e w' => e = .returned (.func (.func 58) #[] #[.pointer (some ⟨w.heap.size, 0, none⟩)]) ∧ w' = w.alloc (.cells #[.slice a len cap] 35) := by
  refine callsIn_of_wp Tryz.func35 rfl h5 ?_ hro
  simp only [Tryz.ntmps35, List.size_toArray, List.length_cons, List.length_nil, Nat.reduceAdd, Nat.reduceSub, Array.replicate_succ, Array.replicate_zero, List.push_toArray, List.append_toArray, List.nil_append, List.cons_append]
  gi_wp2
  go_ret
  exact ⟨rfl, rfl⟩

/-- **slices.Values(s) HANDS BACK A VALUE THAT 'SeqStopsK', AT 'Kp := Below n₀'**: all of zs, in order; or a prefix. EVERY SLICE OF ints WITHIN THE REACH, THE nil ONE TOO. -/
theorem Vals.values_stops (F : Fence) (n : Nat) (h7 : F.fn 58) (hro : F.round = none) (hn : 1 ≤ n) (Bs n₀ : Nat) (sv : Value) (zs : List Int) (hreach : zs.length * 8 ≤ 140737488351232) (w : World) (hBs : Bs < w.heap.size) (hn₀ : n₀ ≤ w.heap.size)
    (hc : w.cell? ⟨Bs, 0, none⟩ = some sv) (hI : Vals.Ints n₀ w sv zs) :
    SeqStopsK F n Tryz.prog 58 #[.pointer (some ⟨Bs, 0, none⟩)] (fun x : Int => #[Value.int .i64 x]) (Below n₀) (fun ys => ys = zs) (fun pre => pre <+: zs) zs.length w := fun l J Jx W hW _ _ hY h0 => by
  have hc' := (hW.cell (p := ⟨Bs, 0, none⟩) hBs).trans hc
  rcases hI.below (hW.mono hn₀) with ⟨rfl, a0, cap0, rfl⟩ | ⟨b, off, cap, rfl, hb, hcs⟩
  · exact (Vals.values1_nil_in F n h7 hro l Bs J W a0 cap0 hc' h0).mono fun e W' ⟨he, hj⟩ => ⟨he, .inl ⟨_, rfl, hj⟩⟩
  · refine (Vals.values1_in F n h7 hro hn l Bs n₀ b off zs.length cap zs hreach hb J Jx hY W hc' hcs h0).mono ?_
    rintro e W' ⟨he, ⟨ys, rfl, hj⟩ | ⟨pre, ⟨k, hk, rfl⟩, hj⟩⟩
    · exact ⟨he, .inl ⟨_, Vals.upto_all zs, hj⟩⟩
    · exact ⟨he, .inr ⟨_, by rw [Vals.upto_take zs hk]; exact List.take_prefix _ _, hj⟩⟩


theorem info3 : (Tryz.prog.info? 3).map (fun i => (i.zero, i.size, i.bytes)) = some (some (.int .i64 0), 1, 8) := by kernel_rfl

set_option maxRecDepth 100000 in
set_option maxHeartbeats 2000000 in
/-- slices.AppendSeq(nil, slices.Values(zs)): a slice that owns zs. (Turned from the kit's worked proof GgPosAtTheDump.) -/
theorem appendSeq_in (F : Fence) (n : Nat) (h75 : F.fn 75) (h58 : F.fn 58) (hro : F.round = none) (hn : 3 ≤ n) (bm : Nat) (sv : Value) (zs : List Int) (hlen : zs.length ≤ maxLen) (hbytes : zs.length * 8 ≤ 140737488351232) (w : World) (hbm : bm < w.heap.size) (hc0 : w.cell? ⟨bm, 0, none⟩ = some sv) (hI0 : Vals.Ints w.heap.size w sv zs) :
    CallsIn F n Tryz.prog 75 #[.slice none 0 0, .func (.func 58) #[] #[.pointer (some ⟨bm, 0, none⟩)]] w fun e W' => ∃ v, e = .returned v ∧ W'.ownsRow w.heap.size 3 1 v zs.length (zs.map (Value.int .i64)) ∧ Below w.heap.size w W' := by
  have h1 : 1 ≤ n := by omega
  obtain ⟨i0, hi, hz0, hz1, hz2⟩ := info_parts info3
  refine callsIn_of_wp_marks Tryz.func75 rfl h75 ?_ hro
  simp only [Tryz.ntmps75, List.size_toArray, List.length_cons, List.length_nil, Nat.reduceAdd, Nat.reduceSub, Array.replicate_succ, Array.replicate_zero, List.push_toArray, List.append_toArray, List.nil_append, List.cons_append]
  gi_wp2
  have bO := Boxed.new w 35 (.slice none 0 0)
  have hB0 : Below w.heap.size w (w.alloc (.cells #[.slice none 0 0] 35)) := (Below.refl _ w).alloc (Nat.le_refl _) _
  refine wpIn_rangeFunc_ownG hro h1 (gf := 58) (lb := #[.pointer (some ⟨bm, 0, none⟩)]) rfl h58 (enters_of Tryz.func58 (by kernel_rfl) rfl)
    (Vals.values_stops F (n - 1) h58 hro (by omega) bm w.heap.size sv zs hbytes _ (by simp; omega) (by simp) ((hB0.cell (p := ⟨bm, 0, none⟩) hbm).trans hc0) (hI0.below hB0)) belowK_t (belowK_b (by simp)) (Below.refl _ _) (fun _ => rfl)
    (fun pre W => (∃ v, Boxed W w.heap.size 35 v ∧ W.ownsRow w.heap.size 3 1 v pre.length (pre.map (Value.int .i64)) ∧ True) ∧ Below w.heap.size w W)
    (fun _ _ _ => False)
    (OwnFrom.and (Own.from (holdsRow_own w.heap.size w.heap.size 35 3 1 (fun pre : List Int => pre.length) (fun pre => pre.map (Value.int .i64)) (fun pre v => True)) _) (ownFrom_below (Nat.le_refl _) (by simp)))
    (fun _ _ _ _ _ hs _ _ => hs)
    ⟨⟨_, bO, World.ownsRow_nil _ _ _ _, trivial⟩, hB0⟩
    (fun x => { tmps := #[.slice none 0 0, .func (.func 58) #[] #[.pointer (some ⟨bm, 0, none⟩)], .pointer (some ⟨w.heap.size, 0, none⟩), undef, .slice none 0 0, .int .i64 x, .func (.func 58) #[] #[.pointer (some ⟨bm, 0, none⟩)], .int .i64 x, undef, undef, undef, undef, undef], defers := [] }) ?assign ?body ?done ?stop
  case assign =>
    intro l x W K hK
    gi_wp2
    exact hK
  case body =>
    rintro l pre x W ⟨⟨v, hv, hrow, _⟩, hB⟩ hlt
    have hc := hv.cell
    gi_wp2_with (gi_at_builtin; refine wpListIn_append_own _ rfl _ _ 35 rfl w.heap.size 3 i0 (.int .i64 0) 1 8 Tryz.underlying35 hi hz0 hz1 hz2 rfl (by decide) _ _ _ rfl (hrow.alloc _) ⟨W.heap.size, 0, none⟩ 1 1 [.int .i64 x] rfl rfl (cell_one_new _ _ _) (by simp [Value.oneCell']) (by omega) (by omega) (by have := hB.size; simp; omega) ?_; intro v' w1 hown' hgrow _; obtain ⟨g', cap', rfl⟩ := ownsRow_succ hown'; obtain ⟨hv1, hv2, hr2, hk2, hb2⟩ := hv.appended (by decide) hrow hB.size (Nat.le_refl _) hown' hgrow; have hc1 := hv1.cell; have hf1 := hv1.frozen)
    exact ⟨hk2.from _, hb2, ⟨_, hv2, by simpa using hr2, trivial⟩, hB.trans hb2⟩
  case done =>
    rintro D ys W hD rfl ⟨⟨v, hv, hrow, _⟩, hB⟩ hK
    have hc := hv.cell
    gi_wp2
    refine ⟨by simp, .inl ⟨_, _, rfl, run_takeDeferred hK, ?_⟩⟩
    exact ⟨_, results_tmp rfl _ _ _, v, rfl, ownsRow_putObj hrow _ hK rfl, hB.trans (belowK_b (w := w) (Nat.le_refl _) W D _ _ (by simp at hD; omega) hK rfl rfl)⟩
  case stop =>
    rintro D c pre W _ _ h _
    exact h.elim

/-- slices.Collect of slices.Values. -/
theorem collect_vals (bm : Nat) (sv : Value) (zs : List Int) (hlen : zs.length ≤ 1000000) (w : World) (hbm : bm < w.heap.size) (hc0 : w.cell? ⟨bm, 0, none⟩ = some sv) (hI0 : Vals.Ints w.heap.size w sv zs) :
    Calls Tryz.prog 56 #[.func (.func 58) #[] #[.pointer (some ⟨bm, 0, none⟩)]] w fun e W' => ∃ v, e = .returned v ∧ W'.ownsRow w.heap.size 3 1 v zs.length (zs.map (Value.int .i64)) ∧ Ext w W' := by
  have hml : (1000000 : Nat) ≤ maxLen := by decide
  have hA := callsIn_wide.1 (appendSeq_in Fence.wide 5 trivial trivial rfl (by omega) bm sv zs (by omega) (by omega) w hbm hc0 hI0)
  have HA := Lib.hid hA
  clear hA hI0 hc0
  go_enter Tryz.func56, Tryz.ntmps56
  go_wp2_with fail
  refine HA.out.mono ?_
  rintro e w1 ⟨v, rfl, hrow, hx⟩
  go_wp2_with fail
  go_ret
  exact ⟨_, rfl, hrow, hx⟩

set_option maxHeartbeats 1000000 in
/-- slices.Sorted of slices.Values. -/
theorem sorted_vals (bm : Nat) (sv : Value) (zs : List Int) (hlen : zs.length ≤ 1000000) (w : World) (hbm : bm < w.heap.size) (hc0 : w.cell? ⟨bm, 0, none⟩ = some sv) (hI0 : Vals.Ints w.heap.size w sv zs) :
    Calls Tryz.prog 34 #[.func (.func 58) #[] #[.pointer (some ⟨bm, 0, none⟩)]] w fun e W' => ∃ v, e = .returned v ∧ W'.ownsRow w.heap.size 3 1 v zs.length ((zs.mergeSort (fun x y => decide (x ≤ y))).map (Value.int .i64)) ∧ Ext w W' := by
  have hA := collect_vals bm sv zs hlen w hbm hc0 hI0
  have HA := Lib.hid hA
  clear hA hI0 hc0
  go_enter Tryz.func34, Tryz.ntmps34
  go_wp2_with fail
  refine HA.out.mono ?_
  rintro e w1 ⟨v, rfl, hrow, hx⟩
  rcases hrow.2 with ⟨rfl, hz⟩ | ⟨gb, cap, cur, rfl, hbase, hgb, r1, r2, r3, r4⟩
  · obtain rfl : zs = [] := List.eq_nil_of_length_eq_zero hz
    have HROW := Lib.hid hrow
    clear hrow
    go_wp2_with fail
    refine (Tryz.slices_Sort_int_none none 0 w1).mono ?_
    rintro e w2 ⟨rfl, rfl⟩
    go_wp2_with fail
    go_ret
    exact ⟨_, rfl, by simpa using HROW.out, hx⟩
  · have hH : Holds encZ w1 gb 0 zs.toArray := holds_of_block_i hgb (by simpa using r4)
    have hgl : gb < w1.heap.size := heap_lt hgb
    have cS := Tryz.slices_Sort_int gb 0 cap zs w1 hH hgl (by omega)
    have CS := Lib.hid cS
    have HROW := Lib.hid hrow
    have HGB := Lib.hid hgb
    clear hrow hgb cS hH r4
    go_wp2_with fail
    refine CS.out.mono ?_
    rintro e w2 ⟨rfl, nn, os, rfl⟩
    go_wp2_with fail
    go_ret
    exact ⟨_, rfl, ownsRow_sorted_i (by simp) hbase HGB.out r1 r2 r3, hx.grown (grownBy_sorted_i _) hx.size (fun j hj => by cases hj; exact hbase)⟩

theorem IntsAt.vals {w : World} {v : Value} {l : List Int} (h : IntsAt w v l) : Vals.Ints w.heap.size w v l := by
  obtain ⟨a, cap, rfl, _, _, hel⟩ := h.form
  by_cases hl : l = []
  · subst hl; exact .inl ⟨rfl, a, cap, rfl⟩
  · have h0 : 0 < l.length := List.length_pos_iff.2 hl
    obtain ⟨b, off, rfl, hc⟩ := hel 0 l[0] (List.getElem?_eq_getElem h0)
    refine .inr ⟨b, off, cap, rfl, cell_lt hc, fun j hj => ?_⟩
    obtain ⟨b', off', e, hcell⟩ := hel j l[j] (List.getElem?_eq_getElem hj)
    simp only [Option.some.injEq, Addr.mk.injEq] at e
    obtain ⟨rfl, rfl, _⟩ := e
    rw [hcell, List.getElem?_eq_getElem hj]; rfl

/-- slices.Values. -/
theorem values_any (a : Option Addr) (n cap : Nat) (w : World) : Calls Tryz.prog 35 #[.slice a n cap] w fun e w' => e = .returned (.func (.func 58) #[] #[.pointer (some ⟨w.heap.size, 0, none⟩)]) ∧ w' = w.alloc (.cells #[.slice a n cap] 35) :=
  callsIn_wide.1 (Vals.values_in Fence.wide 5 trivial rfl a n cap w)

theorem Vals.Ints.up {n₀ : Nat} {W W' : World} {sv : Value} {zs : List Int} (h : Vals.Ints n₀ W sv zs) (hx : Below n₀ W W') (hn : n₀ ≤ W'.heap.size) : Vals.Ints W'.heap.size W' sv zs := by
  rcases h.below hx with h | ⟨b, off, cap, e, hb, hc⟩
  · exact .inl h
  · exact .inr ⟨b, off, cap, e, by omega, hc⟩

end Go.Proofs.YtihfcjioilmmjaaGreat
namespace Go.Proofs.YtihfcjioilmmjaaGreat
open Go Go.RowKit
open Go.Lib

section
variable {α : Type} [Inhabited α] [DecidableEq α] {le : α → α → Prop}

theorem get!_toArray (zs : List α) {j : Nat} {x : α} (h : zs[j]? = some x) : zs.toArray[j]! = x := by
  have hj : j < zs.length := (List.getElem?_eq_some_iff.1 h).1
  rw [getElem!_pos zs.toArray j (by simpa using hj)]
  rw [List.getElem?_eq_getElem hj] at h
  simpa using h

theorem cU_spec (zs : List α) (hs : zs.Pairwise le) (ha : ∀ a b, le a b → le b a → a = b) (ht : ∀ a b c, le a b → le b c → le a c) : ∀ m, m ≤ zs.length →
    (compactUpTo zs.toArray m).Pairwise (fun a b => le a b ∧ a ≠ b) ∧ (∀ x, x ∈ compactUpTo zs.toArray m ↔ x ∈ zs.take m) ∧ (∀ y, zs[m - 1]? = some y → ∀ x ∈ compactUpTo zs.toArray m, x = y ∨ le x y)
  | 0, _ => by
    have h0 : compactUpTo zs.toArray 0 = [] := rfl
    rw [h0]
    exact ⟨List.Pairwise.nil, fun x => by simp, fun y _ x hx => by cases hx⟩
  | m + 1, hm => by
    obtain ⟨h1, h2, h3⟩ := cU_spec zs hs ha ht m (by omega)
    obtain ⟨y, hy⟩ : ∃ y, zs[m]? = some y := ⟨_, List.getElem?_eq_getElem (by omega)⟩
    have hym : zs.toArray[m]! = y := get!_toArray zs hy
    have htk : zs.take (m + 1) = zs.take m ++ [y] := by rw [List.take_add_one, hy]; rfl
    rw [compactUpTo_succ, hym]
    have hprev : ∀ p, zs[m - 1]? = some p → 0 < m → le p y := by
      intro p hp hm0
      rw [List.pairwise_iff_getElem] at hs
      rw [List.getElem?_eq_getElem (by omega)] at hp hy
      have := hs (m - 1) m (by omega) (by omega) (by omega)
      rw [Option.some.inj hp, Option.some.inj hy] at this
      exact this
    by_cases hk : keeps zs.toArray m = true
    · rw [if_pos hk]
      have hle : ∀ x ∈ compactUpTo zs.toArray m, le x y ∧ x ≠ y := by
        intro x hx
        by_cases hm0 : m = 0
        · subst hm0
          exact absurd hx (by simp [compactUpTo])
        · obtain ⟨p, hp⟩ : ∃ p, zs[m - 1]? = some p := ⟨_, List.getElem?_eq_getElem (by omega)⟩
          have hpm : zs.toArray[m - 1]! = p := get!_toArray zs hp
          have hne : y ≠ p := by
            unfold keeps at hk
            rw [hym, hpm] at hk
            simpa [hm0] using hk
          have hpy := hprev p hp (by omega)
          rcases h3 p hp x hx with rfl | hxp
          · exact ⟨hpy, fun e => hne e.symm⟩
          · refine ⟨ht _ _ _ hxp hpy, fun e => hne ?_⟩
            subst e
            exact ha _ _ hxp hpy
      refine ⟨?_, fun x => ?_, ?_⟩
      · rw [List.pairwise_append]
        refine ⟨h1, List.pairwise_singleton _ _, fun a ha' b hb => ?_⟩
        rw [List.mem_singleton.1 hb]
        exact hle a ha'
      · rw [htk]
        simp only [List.mem_append, List.mem_singleton, h2 x]
      · intro y' hy' x hx
        rw [Nat.add_sub_cancel, hy] at hy'
        obtain rfl := Option.some.inj hy'
        rcases List.mem_append.1 hx with hx | hx
        · exact .inr (hle x hx).1
        · exact .inl (List.mem_singleton.1 hx)
    · rw [if_neg hk, List.append_nil]
      have hm0 : 0 < m := by
        rcases Nat.eq_zero_or_pos m with h | h
        · subst h; exact absurd (keeps_lt_one _ 0 (by omega)) hk
        · exact h
      obtain ⟨p, hp⟩ : ∃ p, zs[m - 1]? = some p := ⟨_, List.getElem?_eq_getElem (by omega)⟩
      have hpm : zs.toArray[m - 1]! = p := get!_toArray zs hp
      have he : y = p := by
        unfold keeps at hk
        rw [hym, hpm] at hk
        simp at hk
        exact hk.2
      subst he
      refine ⟨h1, fun x => ?_, ?_⟩
      · rw [htk, h2 x]
        simp only [List.mem_append, List.mem_singleton]
        constructor
        · exact .inl
        · rintro (h | rfl)
          · exact h
          · exact List.mem_of_getElem? (i := m - 1) (by rw [List.getElem?_take, if_pos (by omega)]; exact hp)
      · intro y' hy' x hx
        rw [Nat.add_sub_cancel, hy] at hy'
        obtain rfl := Option.some.inj hy'
        exact h3 _ hp x hx

/-- Each element once, in ascending order. -/
theorem compact_spec (zs : List α) (hs : zs.Pairwise le) (ha : ∀ a b, le a b → le b a → a = b) (ht : ∀ a b c, le a b → le b c → le a c) :
    (compact zs).Pairwise (fun a b => le a b ∧ a ≠ b) ∧ ∀ x, x ∈ compact zs ↔ x ∈ zs := by
  obtain ⟨h1, h2, _⟩ := cU_spec zs hs ha ht zs.length (Nat.le_refl _)
  rw [List.take_length] at h2
  exact ⟨h1, h2⟩

/-- Nothing goes where no element comes twice. -/
theorem compact_len (zs : List α) (hs : zs.Pairwise le) (ha : ∀ a b, le a b → le b a → a = b) (ht : ∀ a b c, le a b → le b c → le a c) : (compact zs).length = zs.length ↔ zs.Nodup := by
  constructor
  · intro h
    have hall : ∀ j, j < zs.length → keeps zs.toArray j = true := by
      unfold compact compactUpTo at h
      rw [List.length_map] at h
      have h2 : ((List.range zs.length).filter (keeps zs.toArray)).length = (List.range zs.length).length := by rw [h, List.length_range]
      have h3 := List.length_filter_eq_length_iff.1 h2
      exact fun j hj => h3 j (List.mem_range.2 hj)
    have h1 := (compact_spec zs hs ha ht).1
    rw [compact_all zs hall] at h1
    exact List.Pairwise.imp (fun h => h.2) h1
  · intro hn
    rw [compact_all zs ?_]
    intro j hj
    by_cases h0 : j = 0
    · subst h0; exact keeps_lt_one _ 0 (by omega)
    · refine keeps_pos ?_
      rw [get!_toArray zs (List.getElem?_eq_getElem hj), get!_toArray zs (List.getElem?_eq_getElem (show j - 1 < zs.length by omega))]
      intro e
      have := (List.getElem_inj hn).1 e
      omega
end

end Go.Proofs.YtihfcjioilmmjaaGreat
