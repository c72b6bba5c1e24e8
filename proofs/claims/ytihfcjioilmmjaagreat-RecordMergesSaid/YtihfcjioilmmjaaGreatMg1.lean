/- Parts of a proof, joined: Lists of numbers: sameInts, has. Over the given program.; before: whether a version is an ancestor of another one. Over the given program.; Histories of commits, as data: what a merge holds. Plain laws; no condition.; The law's own: facts copied with lists of their own. Over the given program.; A region that draws its order, of which one operation floats: it looks at nothing, and may come at any time before those that lean on it. One walk serves every order. Plain law over any program; no condition.; Numbers appended out of whatever slice; the state of the region that makes a commit. Plain laws over worlds. -/
import Derived.Test.YtihfcjioilmmjaaGreatNa9
import Derived.Test.YtihfcjioilmmjaaGreatNa3
import Derived.WalkKit
import Derived.WalkSpells
import Derived.WalkLawsBesides
import Derived.Outline
import Derived.BigRegion
import Derived.Deep.QuietTactic
import Derived.BigQuiet
import Derived.StillTailTactics
import Derived.Deep.RegionLaw
import Derived.Deep.LoopGhost
import Derived.Deep.DeepFit
import Derived.Deep.DeepCutAuto
import Derived.Handy
import Derived.Lib.Hide
import Derived.Test.YtihfcjioilmmjaaGreatNa4
import Derived.Laws.OwnMore
import Derived.Test.YtihfcjioilmmjaaGreatNa13
import Derived.Test.YtihfcjioilmmjaaGreatNa12
import Derived.Test.YtihfcjioilmmjaaGreatNa15
import Derived.Test.YtihfcjioilmmjaaGreatNa1
set_option linter.all false
namespace Go.Proofs.YtihfcjioilmmjaaGreat
open Go Go.RowKit
open Go.Lib Go.Proofs

set_option maxHeartbeats 2000000 in
set_option maxRecDepth 100000 in
theorem has_list {w : World} {v : Value} {l : List Int} (h : IntsAt w v l) (x : Int) :
    Calls Tryz.prog 22 #[v, .int .i64 x] w fun e w' => e = .returned (.bool (decide (x ∈ l))) ∧ w = w' := by
  obtain ⟨a, cap, rfl, hcap, hml, hel⟩ := h.form
  have HEL := Lib.hid hel
  clear hel h
  unfold maxLen at hml
  go_enter Tryz.func22, Tryz.ntmps22
  go_wp2_with fail
  go_loopw [5] (fun i wr => ∃ k : Nat, k ≤ l.length ∧ i = .int .i64 k ∧ Hid (x ∉ l.take k) ∧ wr = w) (fun i _ => l.length - (intOf i).toNat)
  case atStart => exact ⟨0, Nat.zero_le _, rfl, (by simp : x ∉ l.take 0), rfl⟩
  case round =>
    obtain ⟨k, hk, rfl, hr, rfl⟩ := hrel
    by_cases hlt : k < l.length
    · obtain ⟨y, hy⟩ : ∃ y, l[k]? = some y := ⟨_, List.getElem?_eq_getElem hlt⟩
      obtain ⟨b, off, rfl, hc⟩ := HEL.out k y hy
      have htk : l.take (k + 1) = l.take k ++ [y] := by rw [List.take_add_one, hy]; rfl
      have HTK := Lib.hid htk
      have hm := List.mem_of_getElem? hy
      have HM := Lib.hid hm
      clear htk hy hm
      by_cases hxy : y = x
      · subst hxy
        have HD := Lib.hid (show decide (y ∈ l) = true from decide_eq_true HM.out)
        go_wp2_with fail
        go_ret
        exact ⟨by rw [HD.out]; rfl, rfl⟩
      · have hne : (y == x) = false := by rw [beq_eq_false_iff_ne]; exact hxy
        have hr' : Hid (x ∉ l.take (k + 1)) := by
          show x ∉ l.take (k + 1)
          rw [HTK.out]
          simp only [List.mem_append, List.mem_singleton, not_or]
          exact ⟨hr.out, fun e => hxy e.symm⟩
        clear HTK HM hr
        go_wp2_with fail
        exact ⟨⟨k + 1, by omega, rfl, hr', by first | rfl | trivial⟩, by simp [intOf]; omega⟩
    · obtain rfl : k = l.length := by omega
      have hr' := hr.out
      rw [List.take_length] at hr'
      have HD := Lib.hid (show decide (x ∈ l) = false from decide_eq_false hr')
      clear hr hr'
      go_wp2_with fail
      go_ret
      exact ⟨by rw [HD.out]; rfl, rfl⟩

theorem take_ne {l m : List Int} {k : Nat} {y z : Int} (hy : l[k]? = some y) (hz : m[k]? = some z) (h : y ≠ z) : l ≠ m := fun e => by
  rw [e, hz] at hy
  exact h (Option.some.inj hy).symm

set_option maxHeartbeats 2000000 in
set_option maxRecDepth 100000 in
theorem sameInts_any {w : World} {v u : Value} {l m : List Int} (h : IntsAt w v l) (h' : IntsAt w u m) :
    Calls Tryz.prog 21 #[v, u] w fun e w' => e = .returned (.bool (decide (l = m))) ∧ Ext w w' := by
  obtain ⟨a, cap, rfl, hcap, hml, hel⟩ := h.form
  obtain ⟨a', cap', rfl, hcap', hml', hel'⟩ := h'.form
  have HEL := Lib.hid hel
  have HEL' := Lib.hid hel'
  clear hel h hel' h'
  unfold maxLen at hml hml'
  by_cases hlen : l.length = m.length
  · go_enter Tryz.func21, Tryz.ntmps21
    go_wp2_with fail
    go_loopw [5] (fun i wr => ∃ k : Nat, k ≤ l.length ∧ i = .int .i64 k ∧ Hid (l.take k = m.take k) ∧ Hid (Ext w wr)) (fun i _ => l.length - (intOf i).toNat)
    case atStart => exact ⟨0, Nat.zero_le _, rfl, rfl, ext_refl _⟩
    case round =>
      obtain ⟨k, hk, rfl, hr, hx⟩ := hrel
      by_cases hlt : k < l.length
      · obtain ⟨y, hy⟩ : ∃ y, l[k]? = some y := ⟨_, List.getElem?_eq_getElem hlt⟩
        obtain ⟨z, hz⟩ : ∃ z, m[k]? = some z := ⟨_, List.getElem?_eq_getElem (by omega)⟩
        obtain ⟨b, off, rfl, hc⟩ := HEL.out k y hy
        obtain ⟨b', off', rfl, hc'⟩ := HEL'.out k z hz
        have htk : y = z → l.take (k + 1) = m.take (k + 1) := fun e => by rw [List.take_add_one, List.take_add_one, hy, hz, hr.out, e]
        have hne : y ≠ z → l ≠ m := take_ne hy hz
        have HTK := Lib.hid htk
        have HNE := Lib.hid hne
        clear htk hne hy hz hr
        have hlt' : k < m.length := by omega
        have HC1 := Lib.hid (hx.out.cell' hc)
        have HC2 := Lib.hid (hx.out.cell' hc')
        have HX := Lib.hid hx.out
        clear hc hc' hx
        go_upto_region 6 with fail
        refine Rt.wp_region_rt (by kernel_rfl) [0, 1, 2, 3, 4, 5, 6, 7, 8] [] [1000, 1000, 1000, 1000, 1000, 1000, 1000, 1000, 1000] [0, 0, 3, 7, 0, 0, 48, 112, 255] (by kernel_rfl) (fun _ W => Ext wr W) ?_ ?_
        · exact below_drawn (ext_refl _) _
        iterate 2 (refine Rt.rs_sil rfl rfl rfl (fun K hK => ?_); go_simp; refine hK _ ?_; clear hK K)
        (refine Rt.rs_rd rfl rfl rfl ?_; apply Exists.intro; refine ⟨fun us' W hp hl hI => ?_, ?_⟩; · (skip; go_simp; rfl)); simp only [Act.put, List.getElem_toArray, List.getElem_cons_succ, List.getElem_cons_zero, List.setIfInBounds_toArray, List.set_cons_succ, List.set_cons_zero]
        (refine Rt.rs_rd rfl rfl rfl ?_; apply Exists.intro; refine ⟨fun us' W hp hl hI => ?_, ?_⟩; · (have g1 := Ext.cell' hI HC1.out; go_simp; rfl)); simp only [Act.put, List.getElem_toArray, List.getElem_cons_succ, List.getElem_cons_zero, List.setIfInBounds_toArray, List.set_cons_succ, List.set_cons_zero]
        iterate 2 (refine Rt.rs_sil rfl rfl rfl (fun K hK => ?_); go_simp; refine hK _ ?_; clear hK K)
        (refine Rt.rs_rd rfl rfl rfl ?_; apply Exists.intro; refine ⟨fun us' W hp hl hI => ?_, ?_⟩; · (skip; go_simp; rfl)); simp only [Act.put, List.getElem_toArray, List.getElem_cons_succ, List.getElem_cons_zero, List.setIfInBounds_toArray, List.set_cons_succ, List.set_cons_zero]
        (refine Rt.rs_rd rfl rfl rfl ?_; apply Exists.intro; refine ⟨fun us' W hp hl hI => ?_, ?_⟩; · (have g2 := Ext.cell' hI HC2.out; go_simp; rfl)); simp only [Act.put, List.getElem_toArray, List.getElem_cons_succ, List.getElem_cons_zero, List.setIfInBounds_toArray, List.set_cons_succ, List.set_cons_zero]
        (refine Rt.rs_sil rfl rfl rfl (fun K hK => ?_); go_simp; refine hK _ ?_; clear hK K)
        refine Rt.rs_nil (fun W6 hI => ?_)
        have HX6 := Lib.hid (HX.out.trans' hI)
        clear hI
        by_cases hyz : y = z
        · have hr' : Hid (l.take (k + 1) = m.take (k + 1)) := HTK.out hyz
          subst hyz
          go_wp2_with fail
          exact ⟨⟨k + 1, by omega, by omega, hr'⟩, by simp [intOf]; omega⟩
        · have hne : (y != z) = true := by rw [bne_iff_ne]; exact hyz
          have HD := Lib.hid (show decide (l = m) = false from decide_eq_false (HNE.out hyz))
          go_wp2_with fail
          go_ret
          exact ⟨by rw [HD.out]; rfl, HX6.out⟩
      · obtain rfl : k = l.length := by omega
        have hr' := hr.out
        rw [List.take_length, hlen, List.take_length] at hr'
        have HD := Lib.hid (show decide (l = m) = true from decide_eq_true hr')
        clear hr hr'
        go_wp2_with fail
        go_ret
        exact ⟨by rw [HD.out]; rfl, hx.out⟩
  · have hne : ((l.length : Int) != (m.length : Int)) = true := by rw [bne_iff_ne]; omega
    have HD := Lib.hid (show decide (l = m) = false from decide_eq_false fun e => hlen (by rw [e]))
    go_enter Tryz.func21, Tryz.ntmps21
    go_wp2_with fail
    go_ret
    first | exact ⟨by rw [HD.out]; rfl, ext_refl _⟩ | (rw [HD.out]; rfl)

end Go.Proofs.YtihfcjioilmmjaaGreat
namespace Go.Proofs.YtihfcjioilmmjaaGreat
open Go Go.RowKit
open Go.Lib Go.Proofs

/-- A slice of lists of numbers. -/
def ParsAt (w : World) (v : Value) (P : List (List Int)) : Prop := ∃ vs : List Value, vs.length = P.length ∧ SlAt w v 1 P.length vs ∧ ∀ (i : Nat) u ps, vs[i]? = some u → P[i]? = some ps → IntsAt w u ps
theorem ParsAt.ext {w w' : World} {v : Value} {P : List (List Int)} (h : ParsAt w v P) (hx : Ext w w') : ParsAt w' v P :=
  let ⟨vs, h1, h2, h3⟩ := h; ⟨vs, h1, h2.ext hx, fun i u ps hu hp => (h3 i u ps hu hp).ext hx⟩

def BeforePost (Rel : Nat → Prop) (a : Nat) (w : World) (e : Ending) (w' : World) : Prop := ∃ b, e = .returned (.bool b) ∧ (b = true → Rel a) ∧ Ext w w'

/-- The marks, and what they say. -/
structure MkSt (w : World) (n : Nat) (Rel : Nat → Prop) (ms : List Bool) (wr : World) : Prop where
  ext : Ext w wr
  row : wr.heap[w.heap.size]? = some (.cells (ms.map Value.bool).toArray 4 (0, 0))
  len : ms.length = n
  rel : ∀ i, ms[i]? = some true → Rel i

theorem MkSt.set {w : World} {n : Nat} {Rel : Nat → Prop} {ms : List Bool} {wr : World} (h : MkSt w n Rel ms wr) {q : Nat} (hq : Rel q) : MkSt w n Rel (ms.set q true) (wr.setCell ⟨w.heap.size, q, none⟩ (.bool true)) := by
  refine ⟨Below.setCell h.ext (Nat.le_refl _) _, ?_, by rw [List.length_set]; exact h.len, fun i hi => ?_⟩
  · rw [heap_setCell_get, if_pos rfl, h.row]
    simp [List.map_set]
  · rw [List.getElem?_set] at hi
    split at hi
    · rename_i e; subst e; exact hq
    · exact h.rel i hi

theorem vinfo4 : (Tryz.prog.info? 4).map (fun i => (i.zero, i.size, i.bytes)) = some (some (.bool false), 1, 1) := by kernel_rfl

theorem make_bools (w : World) (n : Nat) (hn : n ≤ 1000000) : ∃ w', (Instr.makeSlice 146 (.int .i64 (n : Int)) (.int .i64 (n : Int))).run Tryz.prog w = .ok (.slice (some ⟨w.heap.size, 0, none⟩) n n) w' ∧ Ext w w' ∧ w'.heap[w.heap.size]? = some (.cells ((List.replicate n false).map Value.bool).toArray 4 (0, 0)) := by
  obtain ⟨i0, hi, hz0, hz1, hz2⟩ := info_parts vinfo4
  have hml : (1000000 : Nat) ≤ maxLen := by decide
  obtain ⟨w', h1, h2, h3⟩ := run_make_full (P := Tryz.prog) (w := w) w.heap.size 146 4 i0 (.bool false) 1 (by kernel_rfl) hi hz0 hz1 .i64 .i64 n (by rw [hz2]; omega) (by omega) (Nat.le_refl _)
  refine ⟨w', h1, (Below.refl _ _).grown h3 (Nat.le_refl _) (fun j hj => by cases hj), ?_⟩
  rcases h2.2 with ⟨h0, _⟩ | ⟨g, cap, cur, he, _, hgg, hnc, _, hs, ht⟩
  · cases h0
  · simp only [Value.slice.injEq, Option.some.injEq, Addr.mk.injEq, and_true, true_and] at he
    obtain ⟨rfl, rfl⟩ := he
    rw [hgg]
    have h5 : cur.toList = List.replicate n (.bool false) := by
      rw [List.take_of_length_le (by rw [Array.length_toList, hs]; exact Nat.le_refl _)] at ht
      rw [ht, Nat.mul_one]
      exact toList_madeCells_one _ _
    have h6 : cur = ((List.replicate n false).map Value.bool).toArray := by
      rw [List.map_replicate, ← h5]
    rw [h6]

set_option maxHeartbeats 4000000 in
set_option maxRecDepth 100000 in
theorem before_any {w : World} {pv : Value} {P : List (List Int)} (h : ParsAt w pv P) (hn : P.length ≤ 1000) (a v : Nat) (ha : a < P.length) (hv : v < P.length) (Rel : Nat → Prop) (hrv : Rel v)
    (hcl : ∀ (k : Nat) ps p, Rel k → P[k]? = some ps → p ∈ ps → ∃ q : Nat, p = (q : Int) ∧ q < P.length ∧ Rel q) :
    Calls Tryz.prog 23 #[pv, .int .i64 (a : Int), .int .i64 (v : Int)] w (BeforePost Rel a w) := by
  obtain ⟨vs, hvl, ⟨pa, pcap, rfl, _, _, _, hpc⟩, hps⟩ := h
  obtain ⟨w1, hmk, hx1, hb1⟩ := make_bools w P.length (by omega)
  have hM1 : MkSt w P.length Rel ((List.replicate P.length false).set v true) (w1.setCell ⟨w.heap.size, v, none⟩ (.bool true)) := MkSt.set ⟨hx1, hb1, by simp, fun i hi => by
    rw [List.getElem?_replicate] at hi
    split at hi <;> cases hi⟩ hrv
  obtain ⟨W2, hW2⟩ : ∃ W2, W2 = w1.setCell ⟨w.heap.size, v, none⟩ (.bool true) := ⟨_, rfl⟩
  rw [← hW2] at hM1
  have c0 : w1.cell? ⟨w.heap.size, v, none⟩ = some (.bool false) := by
    rw [cell_of hb1]
    simp [hv]
  have f0 := frozen_of hb1 v
  obtain ⟨n, hne⟩ : ∃ n, P.length = n := ⟨_, rfl⟩
  rw [hne] at hmk hM1 hn ha hv
  have HM1 := Lib.hid hM1
  have HPC := Lib.hid hpc
  have HPS := Lib.hid hps
  have HVL := Lib.hid hvl
  have HCL := Lib.hid hcl
  have HNE := Lib.hid hne
  rw [hne]
  clear hM1 hpc hps hvl hcl hx1 hb1 hne hrv
  go_enter Tryz.func23, Tryz.ntmps23
  go_upto_region 3 with fail
  rw [← hW2]
  clear hW2 hmk c0 f0
  go_wp2_with fail
  go_loopw [8] (fun k wr => ∃ (kn : Nat) (ms : List Bool), kn ≤ v ∧ k = .int .i64 kn ∧ Hid (MkSt w n Rel ms wr)) (fun k _ => (intOf k).toNat)
  case atStart => exact ⟨v, _, Nat.le_refl _, rfl, HM1.out⟩
  case round =>
    obtain ⟨kn, ms, hkn, rfl, hM⟩ := hrel
    by_cases hgt : a < kn
    · obtain ⟨ps, hpk⟩ : ∃ ps, P[kn]? = some ps := ⟨_, List.getElem?_eq_getElem (by rw [HNE.out]; omega)⟩
      obtain ⟨u, huk⟩ : ∃ u, vs[kn]? = some u := ⟨_, List.getElem?_eq_getElem (by rw [HVL.out, HNE.out]; omega)⟩
      obtain ⟨pb, poff, rfl, hcu⟩ := HPC.out kn u huk
      obtain ⟨ua, ucap, rfl, hucap, huml, huel⟩ := (HPS.out kn u ps huk hpk).form
      unfold maxLen at huml
      have HCU := Lib.hid hcu
      have HUEL := Lib.hid huel
      have HPK := Lib.hid hpk
      have hgt' : (a : Int) < (kn : Int) := by omega
      clear hcu huel hpk huk hucap
      go_wp2_with fail
      go_loopw [9] (fun i wr => ∃ (j : Nat) (ms : List Bool), j ≤ ps.length ∧ i = .int .i64 j ∧ Hid (MkSt w n Rel ms wr)) (fun i _ => ps.length - (intOf i).toNat)
      case atStart => exact ⟨0, ms, Nat.zero_le _, rfl, hM⟩
      case round =>
        obtain ⟨j, ms2, hj, rfl, hM2⟩ := hrel
        have g1 : wr.cell? ⟨pb, poff + kn, none⟩ = some (.slice ua ps.length ucap) := hM2.out.ext.cell' HCU.out
        obtain ⟨bk, hbk⟩ : ∃ bk, ms2[kn]? = some bk := ⟨_, List.getElem?_eq_getElem (by rw [hM2.out.len]; omega)⟩
        have g2 : wr.cell? ⟨w.heap.size, kn, none⟩ = some (.bool bk) := by
          rw [cell_of hM2.out.row, List.getElem?_toArray, List.getElem?_map, hbk]; rfl
        by_cases hlt : j < ps.length
        · cases bk with
          | true =>
            have hrk := hM2.out.rel kn hbk
            obtain ⟨p, hp⟩ : ∃ p, ps[j]? = some p := ⟨_, List.getElem?_eq_getElem hlt⟩
            obtain ⟨q, rfl, hq, hrq⟩ := HCL.out kn ps p hrk HPK.out (List.mem_of_getElem? hp)
            rw [HNE.out] at hq
            obtain ⟨ub, uoff, rfl, huc⟩ := HUEL.out j _ hp
            have g3 : wr.cell? ⟨ub, uoff + j, none⟩ = some (.int .i64 (q : Int)) := hM2.out.ext.cell' huc
            obtain ⟨bq, hbq⟩ : ∃ bq, ms2[q]? = some bq := ⟨_, List.getElem?_eq_getElem (by rw [hM2.out.len]; omega)⟩
            have g4 : wr.cell? ⟨w.heap.size, q, none⟩ = some (.bool bq) := by
              rw [cell_of hM2.out.row, List.getElem?_toArray, List.getElem?_map, hbq]; rfl
            have f4 := frozen_of hM2.out.row q
            have hMs := Lib.hid (hM2.out.set hrq)
            clear hrk hp huc hbk hbq hrq hM2
            go_wp2_with fail
            exact ⟨⟨j + 1, _, by omega, rfl, hMs⟩, by simp [intOf]; omega⟩
          | false =>
            clear hbk
            have e1 : (kn : Int) - 1 = ((kn - 1 : Nat) : Int) := by omega
            go_wp2_with fail
            exact ⟨⟨kn - 1, ms2, by omega, rfl, hM2⟩, by simp [intOf]; omega⟩
        · obtain rfl : j = ps.length := by omega
          clear hbk
          have e1 : (kn : Int) - 1 = ((kn - 1 : Nat) : Int) := by omega
          go_wp2_with fail
          exact ⟨⟨kn - 1, ms2, by omega, rfl, hM2⟩, by simp [intOf]; omega⟩
    · have hgt' : ¬ ((a : Int) < (kn : Int)) := by omega
      obtain ⟨ba, hba⟩ : ∃ ba, ms[a]? = some ba := ⟨_, List.getElem?_eq_getElem (by rw [hM.out.len]; omega)⟩
      have g2 : wr.cell? ⟨w.heap.size, a, none⟩ = some (.bool ba) := by
        rw [cell_of hM.out.row, List.getElem?_toArray, List.getElem?_map, hba]; rfl
      have HR := Lib.hid (fun h : ba = true => hM.out.rel a (by rw [hba, h]))
      clear hba
      cases ba with
      | true =>
        have HRA := Lib.hid (HR.out rfl)
        clear HR
        go_wp2_with fail
        go_ret
        exact ⟨_, rfl, fun _ => HRA.out, hM.out.ext⟩
      | false =>
        clear HR
        go_wp2_with fail
        go_ret
        exact ⟨false, rfl, (fun h => by cases h), hM.out.ext⟩

end Go.Proofs.YtihfcjioilmmjaaGreat
namespace Go.Proofs.YtihfcjioilmmjaaGreat
open Go Go.RowKit
open Go.Lib Go.Proofs

/-- What was added or withdrawn in one version was so in the other. -/
def VSub (u v : Ver) : Prop := (∀ n, (look u.added n).isSome = true → (look v.added n).isSome = true) ∧ ∀ n, (look u.wd n).isSome = true → (look v.wd n).isSome = true
theorem VSub.trans {u v x : Ver} (h : VSub u v) (k : VSub v x) : VSub u x := ⟨fun n hn => k.1 n (h.1 n hn), fun n hn => k.2 n (h.2 n hn)⟩
theorem VSub.refl (v : Ver) : VSub v v := ⟨fun _ h => h, fun _ h => h⟩

/-- The parents of each version: all of them are older, and hold less. -/
structure Hist (R : Rec) (P : List (List Int)) : Prop where
  len : P.length = R.vers.length
  sub : ∀ (k : Nat) ver ps p, R.vers[k]? = some ver → P[k]? = some ps → p ∈ ps → ∃ (i : Nat) (vp : Ver), p = (i : Int) ∧ i < k ∧ R.vers[i]? = some vp ∧ VSub vp ver

theorem ComOk.vsub {R : Rec} {ps : List Int} {adds : List Fct} {wds : List Int} {frs : List FR} {la lw : List (Int × Value)} (h : ComOk R ps adds wds frs la lw) {p : Int} (hp : p ∈ ps) : ∃ (i : Nat) (vp : Ver), p = (i : Int) ∧ R.vers[i]? = some vp ∧ VSub vp ⟨la, lw⟩ := by
  obtain ⟨i, vp, rfl, h1, h2⟩ := verOf_has (h.has p hp)
  exact ⟨i, vp, rfl, h1, fun n hn => (h.added n).2 (.inl ⟨_, hp, vp, h2, hn⟩), fun n hn => (h.wd n).2 (.inl ⟨_, hp, vp, h2, hn⟩)⟩

theorem Hist.commit {R : Rec} {P : List (List Int)} (hh : Hist R P) {ps : List Int} {adds : List Fct} {wds : List Int} {frs : List FR} {la lw : List (Int × Value)} (h : ComOk R ps adds wds frs la lw) : Hist (commitR R frs la lw) (P ++ [ps]) := by
  refine ⟨by unfold commitR; simp [hh.len], fun k ver ps' p hk hpk hp => ?_⟩
  unfold commitR at hk ⊢
  by_cases hlt : k < R.vers.length
  · rw [List.getElem?_append_left hlt] at hk
    rw [List.getElem?_append_left (by rw [hh.len]; exact hlt)] at hpk
    obtain ⟨i, vp, e, h1, h2, h3⟩ := hh.sub k ver ps' p hk hpk hp
    exact ⟨i, vp, e, h1, by rw [List.getElem?_append_left (by omega)]; exact h2, h3⟩
  · have hk2 : k = R.vers.length := by
      have := (List.getElem?_eq_some_iff.1 hk).1
      simp at this
      omega
    subst hk2
    rw [List.getElem?_append_right (Nat.le_refl _), Nat.sub_self] at hk
    rw [List.getElem?_append_right (by rw [hh.len]; exact Nat.le_refl _), hh.len, Nat.sub_self] at hpk
    obtain rfl : (⟨la, lw⟩ : Ver) = ver := by simpa using hk
    obtain rfl : ps = ps' := by simpa using hpk
    obtain ⟨i, vp, e, h1, h2⟩ := h.vsub hp
    have hi := (List.getElem?_eq_some_iff.1 h1).1
    exact ⟨i, vp, e, hi, by rw [List.getElem?_append_left hi]; exact h1, h2⟩

theorem Hist.new (cols : List (Attr × Nat)) : Hist ⟨cols, [⟨[], []⟩], []⟩ [[]] := ⟨rfl, fun k ver ps p hk hpk hp => by
  match k, hpk with
  | 0, hpk =>
    obtain rfl := Option.some.inj hpk
    cases hp
  | k + 1, hpk => simp at hpk⟩

/-- What holds in a merge of two. -/
theorem merge_holds {R : Rec} {x y : Int} {vx vy : Ver} {frs : List FR} {la lw : List (Int × Value)} (h : ComOk R [x, y] [] [] frs la lw) (hx : verOf R x = some vx) (hy : verOf R y = some vy) (n : Int) :
    (⟨la, lw⟩ : Ver).holds n = (((look vx.added n).isSome || (look vy.added n).isSome) && !((look vx.wd n).isSome || (look vy.wd n).isSome)) := by
  have h1 := h.added n
  have h2 := h.wd n
  have e1 : (look la n).isSome = ((look vx.added n).isSome || (look vy.added n).isSome) := by
    rw [Bool.eq_iff_iff, h1, Bool.or_eq_true]
    constructor
    · rintro (⟨p, hp, ver, hv, hl⟩ | hl)
      · rcases List.mem_cons.1 hp with rfl | hp
        · rw [hx] at hv; obtain rfl := Option.some.inj hv; exact .inl hl
        · obtain rfl := List.mem_singleton.1 hp
          rw [hy] at hv; obtain rfl := Option.some.inj hv; exact .inr hl
      · simp at hl; omega
    · rintro (hl | hl)
      · exact .inl ⟨x, by simp, vx, hx, hl⟩
      · exact .inl ⟨y, by simp, vy, hy, hl⟩
  have e2 : (look lw n).isSome = ((look vx.wd n).isSome || (look vy.wd n).isSome) := by
    rw [Bool.eq_iff_iff, h2, Bool.or_eq_true]
    constructor
    · rintro (⟨p, hp, ver, hv, hl⟩ | hl)
      · rcases List.mem_cons.1 hp with rfl | hp
        · rw [hx] at hv; obtain rfl := Option.some.inj hv; exact .inl hl
        · obtain rfl := List.mem_singleton.1 hp
          rw [hy] at hv; obtain rfl := Option.some.inj hv; exact .inr hl
      · cases hl
    · rintro (hl | hl)
      · exact .inl ⟨x, by simp, vx, hx, hl⟩
      · exact .inl ⟨y, by simp, vy, hy, hl⟩
  show ((look la n).isSome && !(look lw n).isSome) = _
  rw [e1, e2]

theorem sorted_of {R : Rec} (hok : RecOk R) {v : Ver} (hv : v ∈ R.vers) : (heldV v).Pairwise (· < ·) := heldV_sorted v (hok.keys v hv).1

/-- The facts of a merge do not hang on the order. -/
theorem merge_comm {x y : Int} {vx vy : Ver} {R R' : Rec} {frs frs' : List FR} {la lw la' lw' : List (Int × Value)} (h : ComOk R [x, y] [] [] frs la lw) (h' : ComOk R' [y, x] [] [] frs' la' lw') (hx : verOf R x = some vx) (hy : verOf R y = some vy) (hx' : verOf R' x = some vx) (hy' : verOf R' y = some vy)
    (hs : (heldV ⟨la, lw⟩).Pairwise (· < ·)) (hs' : (heldV ⟨la', lw'⟩).Pairwise (· < ·)) : heldV ⟨la, lw⟩ = heldV ⟨la', lw'⟩ :=
  sorted_ext hs hs' fun n => by rw [heldV_mem, heldV_mem, merge_holds h hx hy, merge_holds h' hy' hx', Bool.or_comm, Bool.or_comm (look vx.wd n).isSome]

theorem merge_some {R : Rec} {x y : Int} {vx vy : Ver} {frs : List FR} {la lw : List (Int × Value)} (h : ComOk R [x, y] [] [] frs la lw) (hx : verOf R x = some vx) (hy : verOf R y = some vy) {n : Int} (hn : n ∈ heldV ⟨la, lw⟩) : n ∈ heldV vx ∨ n ∈ heldV vy := by
  rw [heldV_mem, merge_holds h hx hy] at hn
  rw [heldV_mem, heldV_mem]
  unfold Ver.holds
  revert hn
  cases (look vx.added n).isSome <;> cases (look vy.added n).isSome <;> cases (look vx.wd n).isSome <;> cases (look vy.wd n).isSome <;> simp

theorem merge_sub {R : Rec} {x y : Int} {vx vy : Ver} {frs : List FR} {la lw : List (Int × Value)} (h : ComOk R [x, y] [] [] frs la lw) (hx : verOf R x = some vx) (hy : verOf R y = some vy) (hsub : VSub vx vy) (hs : (heldV ⟨la, lw⟩).Pairwise (· < ·)) (hs' : (heldV vy).Pairwise (· < ·)) : heldV ⟨la, lw⟩ = heldV vy :=
  sorted_ext hs hs' fun n => by
    rw [heldV_mem, heldV_mem, merge_holds h hx hy]
    have h1 := hsub.1 n
    have h2 := hsub.2 n
    unfold Ver.holds
    revert h1 h2
    cases (look vx.added n).isSome <;> cases (look vy.added n).isSome <;> cases (look vx.wd n).isSome <;> cases (look vy.wd n).isSome <;> simp
theorem merge_sub' {R : Rec} {x y : Int} {vx vy : Ver} {frs : List FR} {la lw : List (Int × Value)} (h : ComOk R [x, y] [] [] frs la lw) (hx : verOf R x = some vx) (hy : verOf R y = some vy) (hsub : VSub vy vx) (hs : (heldV ⟨la, lw⟩).Pairwise (· < ·)) (hs' : (heldV vx).Pairwise (· < ·)) : heldV ⟨la, lw⟩ = heldV vx :=
  sorted_ext hs hs' fun n => by
    rw [heldV_mem, heldV_mem, merge_holds h hx hy]
    have h1 := hsub.1 n
    have h2 := hsub.2 n
    unfold Ver.holds
    revert h1 h2
    cases (look vx.added n).isSome <;> cases (look vy.added n).isSome <;> cases (look vx.wd n).isSome <;> cases (look vy.wd n).isSome <;> simp

end Go.Proofs.YtihfcjioilmmjaaGreat
namespace Go.Proofs.YtihfcjioilmmjaaGreat
open Go Go.RowKit
open Go.Lib Go.Proofs

theorem append_none {P : Program} {w : World} (base : Nat) (t ty e : TypeId) (i : TypeInfo) (size : Nat) (ht : P.underlying t = some (.slice e)) (hi : P.info? e = some i)
    (v : Value) (n : Nat) (xs : List Value) (hown : w.ownsRow base e size v n xs) (c : Nat) :
    (Builtin.append_ #[t, t] ty #[v, .slice none 0 c]).run P w = .ok v w := by
  rcases hown.2 with ⟨rfl, rfl⟩ | ⟨g, cap, cur, rfl, _, _, hnc, _⟩
  · simp [Builtin.append_, run_underlying ht, sizeOf, typeInfo, hi, Builtin.lenOf, Builtin.firstCells]
  · simp [Builtin.append_, run_underlying ht, sizeOf, typeInfo, hi, Builtin.lenOf, Builtin.firstCells, hnc, storeCells]

/-- Texts more, out of whatever slice. -/
theorem append_texts {W : World} {base : Nat} {v : Value} {k : Nat} {xs : List Value} (hown : W.ownsRow base 9 1 v k xs) {u : Value} {l : List ByteArray} (hu : StrsAt W u l) (hk : k + l.length ≤ 1000000) (hb : base ≤ W.heap.size) :
    ∃ v' w', (Builtin.append_ #[26, 26] 26 #[v, u]).run Tryz.prog W = .ok v' w' ∧ w'.ownsRow base 9 1 v' (k + l.length) (xs ++ l.map Value.string) ∧ W.grownBy w' v.ownBlock ∧ (v'.ownBlock = v.ownBlock ∨ v'.ownBlock = some W.heap.size) := by
  have hml : (1000000 : Nat) ≤ maxLen := by decide
  obtain ⟨i0, hi, hz0, hz1, hz2⟩ := info_parts vinfo9
  obtain ⟨a, cap, rfl, _, _, _, hc⟩ := hu.1
  rcases Nat.eq_zero_or_pos l.length with h0 | hpos
  · have h1 : l = [] := List.eq_nil_of_length_eq_zero h0
    subst h1
    cases a with
    | none => exact ⟨v, W, append_none base 26 26 9 i0 1 (by kernel_rfl) hi v k xs hown cap, by simpa using hown, ⟨rfl, rfl, rfl, Nat.le_refl _, fun _ _ _ => rfl⟩, .inl rfl⟩
    | some a =>
      obtain ⟨v', w', q1, q2, q3, _, q5⟩ := Go.run_append_own_at (P := Tryz.prog) (w := W) base 26 26 9 i0 _ 1 16 (by kernel_rfl) hi hz0 hz1 hz2 rfl (by decide) v k xs hown a 0 cap [] rfl (fun j u hj => by simp at hj) (fun u hu => by cases hu) (by simp at hk; omega) (by simp at hk; omega) hb
      exact ⟨v', w', q1, by simpa using q2, q3, q5⟩
  · obtain ⟨b, off, rfl, _⟩ := hc 0 (.string (l[0]'hpos)) (by simp [List.getElem?_eq_getElem hpos])
    obtain ⟨v', w', q1, q2, q3, _, q5⟩ := Go.run_append_own_at (P := Tryz.prog) (w := W) base 26 26 9 i0 _ 1 16 (by kernel_rfl) hi hz0 hz1 hz2 rfl (by decide) v k xs hown ⟨b, off, none⟩ l.length cap (l.map Value.string) (by simp) (fun j u hj => by
      obtain ⟨b', off', e, hcell⟩ := hc j u hj
      simp only [Option.some.injEq, Addr.mk.injEq] at e
      obtain ⟨rfl, rfl, _⟩ := e
      unfold Addr.add
      split
      · rename_i hj0; subst hj0; simpa using hcell
      · exact hcell) (fun u hu => by obtain ⟨s, _, rfl⟩ := List.mem_map.1 hu; rfl) (by omega) (by omega) hb
    exact ⟨v', w', q1, q2, q3, q5⟩

theorem info46 : (Tryz.prog.info? 46).map (fun i => (i.zero, i.size, i.bytes)) = some (some (.agg #[.string ⟨#[]⟩, .string ⟨#[]⟩, .slice none 0 0, .int .i64 0, .int .i64 0]), 5, 72) := by kernel_rfl
/-- A fact more. -/
theorem append_fct {W : World} {base : Nat} {v : Value} {k : Nat} {xs row : List Value} (hown : W.ownsRow base 46 5 v k xs) (ab m : Nat) (hl : row.length = m * 5) (hrow : ∀ j u, row[j]? = some u → W.cell? ⟨ab, 0 + j, none⟩ = some u) (h1 : ∀ u ∈ row, u.oneCell' = true) (hk : k + m ≤ 1000000) (hb : base ≤ W.heap.size) (c : Nat) :
    ∃ v' w', (Builtin.append_ #[24, 24] 24 #[v, .slice (some ⟨ab, 0, none⟩) m c]).run Tryz.prog W = .ok v' w' ∧ w'.ownsRow base 46 5 v' (k + m) (xs ++ row) ∧ W.grownBy w' v.ownBlock := by
  have hml : (1000000 : Nat) ≤ maxLen := by decide
  obtain ⟨i0, hi, hz0, hz1, hz2⟩ := info_parts info46
  obtain ⟨v', w', q1, q2, q3, _⟩ := run_append_own (P := Tryz.prog) (w := W) base 24 24 46 i0 _ 5 72 (by kernel_rfl) hi hz0 hz1 hz2 rfl (by decide) v k xs hown ⟨ab, 0, none⟩ m c row hl (fun j u hj => add_cell (hrow j u hj)) h1 (by omega) (by omega) hb
  exact ⟨v', w', q1, q2, q3⟩

/-- The copies so far: each fact's list of values is the call's own. -/
structure OwnI (N : Nat) (w : World) (l : List Fct) (v : Value) (vs : List Value) (wr : World) : Prop where
  ext : Ext w wr
  len : vs.length = l.length
  rows : wr.ownsRow N 46 5 v l.length ((l.zip vs).flatMap fun x => factCells x.1 x.2)
  vals : ∀ x ∈ l.zip vs, wr.ownsRow N 9 1 x.2 x.1.values.length (x.1.values.map Value.string)

theorem OwnI.facts {N : Nat} {w : World} {l : List Fct} {v : Value} {vs : List Value} {wr : World} (h : OwnI N w l v vs wr) (hl : ∀ f ∈ l, ∃ u, FactAt w f u) : FactsAt wr v l :=
  ⟨vs, h.len, SlAt.of_owns h.rows, fun x hx => by
    obtain ⟨u, hs, h1⟩ := hl x.1 (List.of_mem_zip (show (x.1, x.2) ∈ l.zip vs from hx)).1
    exact ⟨⟨SlAt.of_owns (h.vals x hx), hs.2⟩, h1⟩⟩

set_option maxHeartbeats 4000000 in
set_option maxRecDepth 100000 in
theorem ownL_any {w : World} {v : Value} {l : List Fct} (h : FactsAt w v l) (hl : l.length ≤ 1000) (hv : ∀ f ∈ l, f.values.length ≤ 1000) :
    Calls Tryz.prog 19 #[v] w fun e w' => ∃ v', e = .returned v' ∧ FactsAt w' v' l ∧ Ext w w' := by
  obtain ⟨a, cap, rfl, hcap, hel⟩ := RowsAt.at (cells := factCells) (by decide) (fun _ _ => rfl) h
  have hfa : ∀ f ∈ l, ∃ u, FactAt w f u := fun f hf => by
    obtain ⟨i, hi⟩ := List.mem_iff_getElem?.1 hf
    obtain ⟨_, _, u, _, hu, _⟩ := hel i f hi
    exact ⟨u, hu⟩
  obtain ⟨W1, hW1⟩ : ∃ W1, W1 = w.alloc (.cells #[] 46 (0, 0)) := ⟨_, rfl⟩
  have hx1 : Ext w W1 := by rw [hW1]; repeat' (first | with_reducible exact Below.refl _ _ | with_reducible assumption | with_reducible apply Below.drew | with_reducible exact below_drewN (by with_reducible assumption) _ | (with_reducible refine Below.setCell ?_ (by first | exact Nat.le_refl _ | assumption | (simp; done) | omega | (simp; omega)) _) | (with_reducible refine Below.alloc ?_ (by first | exact Nat.le_refl _ | assumption | (simp; done) | omega | (simp; omega)) _) | (with_reducible refine below_putObj ?_ (by first | exact Nat.le_refl _ | assumption | (simp; done) | omega | (simp; omega)) _) | (with_reducible refine below_drawn ?_ _))
  have hb1 : W1.heap[w.heap.size]? = some (.cells #[] 46 (0, 0)) := by rw [hW1]; simp only [heap_drawn_get, heap_drew_get, heap_setCell_get, heap_alloc_get, World.size_alloc, World.size_setCell, size_drawn, putObj_get, putObj_size]; (repeat (first | rw [if_pos trivial] | rw [if_pos rfl] | rw [if_neg (by omega)] | rw [if_pos (by omega)]))
  have hI0 : OwnI w.heap.size w [] (.slice (some ⟨w.heap.size, 0, none⟩) 0 0) [] W1 := ⟨hx1, rfl, ⟨rfl, .inr ⟨w.heap.size, 0, #[], rfl, Nat.le_refl _, hb1, Nat.le_refl _, Nat.zero_le _, rfl, rfl⟩⟩, fun x hx => by cases hx⟩
  have HI0 := Lib.hid hI0
  have HEL := Lib.hid hel
  have HV := Lib.hid hv
  have HFA := Lib.hid hfa
  clear hel h hcap hv hfa hI0 hx1 hb1
  go_enter Tryz.func19, Tryz.ntmps19
  go_upto_region 2 with fail
  rw [← hW1]
  clear hW1
  go_wp2_with fail
  go_loopw [3, 4] (fun v i wr => ∃ (j : Nat) (vs : List Value), j ≤ l.length ∧ i = .int .i64 j ∧ OwnI w.heap.size w (l.take j) v vs wr) (fun _ i _ => l.length - (intOf i).toNat)
  case atStart => exact ⟨0, [], Nat.zero_le _, rfl, HI0.out⟩
  case round =>
    obtain ⟨j, vs, hj, rfl, hI⟩ := hrel
    obtain ⟨op, oc, rfl⟩ := owns_form hI.rows
    have hlk : (l.take j).length = j := by rw [List.length_take]; omega
    rw [hlk] at hI
    rw [hlk]
    have HI := Lib.hid hI
    by_cases hlt : j < l.length
    · obtain ⟨f, hf⟩ : ∃ f, l[j]? = some f := ⟨_, List.getElem?_eq_getElem hlt⟩
      obtain ⟨b, off, u, rfl, hok, hc⟩ := HEL.out j f hf
      obtain ⟨up, uc, hue, hz1, hz2, hz3⟩ := hok.1.1
      subst hue
      have hx := hI.ext
      have g0 : wr.cell? ⟨b, off + j * 5, none⟩ = some (.string f.subject) := hx.cell' (hc 0 _ rfl)
      have g1 : wr.cell? ⟨b, off + j * 5 + 1, none⟩ = some (.string f.attr) := hx.cell' (hc 1 _ rfl)
      have g2 : wr.cell? ⟨b, off + j * 5 + 2, none⟩ = some (.slice up f.values.length uc) := hx.cell' (hc 2 _ rfl)
      have g3 : wr.cell? ⟨b, off + j * 5 + 3, none⟩ = some (.int .i64 f.low) := hx.cell' (hc 3 _ rfl)
      have g4 : wr.cell? ⟨b, off + j * 5 + 4, none⟩ = some (.int .i64 f.high) := hx.cell' (hc 4 _ rfl)
      obtain ⟨W3, hW3⟩ : ∃ W3, W3 = wr.alloc (.cells #[.string f.subject, .string f.attr, .slice up f.values.length uc, .int .i64 f.low, .int .i64 f.high] 46 (0, 0)) := ⟨_, rfl⟩
      have hx3 : Ext wr W3 := by rw [hW3]; repeat' (first | with_reducible exact Below.refl _ _ | with_reducible assumption | with_reducible apply Below.drew | with_reducible exact below_drewN (by with_reducible assumption) _ | (with_reducible refine Below.setCell ?_ (by first | exact Nat.le_refl _ | assumption | (simp; done) | omega | (simp; omega)) _) | (with_reducible refine Below.alloc ?_ (by first | exact Nat.le_refl _ | assumption | (simp; done) | omega | (simp; omega)) _) | (with_reducible refine below_putObj ?_ (by first | exact Nat.le_refl _ | assumption | (simp; done) | omega | (simp; omega)) _) | (with_reducible refine below_drawn ?_ _))
      have hb3 : W3.heap[wr.heap.size]? = some (.cells #[.string f.subject, .string f.attr, .slice up f.values.length uc, .int .i64 f.low, .int .i64 f.high] 46 (0, 0)) := by rw [hW3]; simp only [heap_drawn_get, heap_drew_get, heap_setCell_get, heap_alloc_get, World.size_alloc, World.size_setCell, size_drawn, putObj_get, putObj_size]; (repeat (first | rw [if_pos trivial] | rw [if_pos rfl] | rw [if_neg (by omega)] | rw [if_pos (by omega)]))
      have hs3 : W3.heap.size = wr.heap.size + 1 := by rw [hW3]; simp
      obtain ⟨W4, hW4⟩ : ∃ W4, W4 = W3.alloc (.cells #[] 9 (0, 0)) := ⟨_, rfl⟩
      have hx4 : Ext W3 W4 := by rw [hW4]; repeat' (first | with_reducible exact Below.refl _ _ | with_reducible assumption | with_reducible apply Below.drew | with_reducible exact below_drewN (by with_reducible assumption) _ | (with_reducible refine Below.setCell ?_ (by first | exact Nat.le_refl _ | assumption | (simp; done) | omega | (simp; omega)) _) | (with_reducible refine Below.alloc ?_ (by first | exact Nat.le_refl _ | assumption | (simp; done) | omega | (simp; omega)) _) | (with_reducible refine below_putObj ?_ (by first | exact Nat.le_refl _ | assumption | (simp; done) | omega | (simp; omega)) _) | (with_reducible refine below_drawn ?_ _))
      have hb4 : W4.heap[W3.heap.size]? = some (.cells #[] 9 (0, 0)) := by rw [hW4]; simp only [heap_drawn_get, heap_drew_get, heap_setCell_get, heap_alloc_get, World.size_alloc, World.size_setCell, size_drawn, putObj_get, putObj_size]; (repeat (first | rw [if_pos trivial] | rw [if_pos rfl] | rw [if_neg (by omega)] | rw [if_pos (by omega)]))
      have hst : StrsAt W4 (.slice up f.values.length uc) f.values := hok.1.ext (hx.trans' (hx3.trans' hx4))
      have hvl := HV.out f (List.mem_of_getElem? hf)
      obtain ⟨v', w5, happ, hrow5, hgrow, hat⟩ := append_texts (base := W3.heap.size) (v := .slice (some ⟨W3.heap.size, 0, none⟩) 0 0) (k := 0) (xs := []) ⟨rfl, .inr ⟨W3.heap.size, 0, #[], rfl, Nat.le_refl _, hb4, Nat.le_refl _, Nat.zero_le _, rfl, rfl⟩⟩ hst (by omega) hx4.size
      rw [Nat.zero_add, List.nil_append] at hrow5
      obtain ⟨sp, sc, rfl⟩ := owns_form hrow5
      have hx5 : Ext W3 w5 := hx4.grown hgrow hx4.size fun k hk => by simp [Value.ownBlock] at hk; omega
      have hb5 := hx5.obj hb3
      obtain ⟨W6, hW6⟩ : ∃ W6, W6 = w5.setCell ⟨wr.heap.size, 2, none⟩ (.slice sp f.values.length sc) := ⟨_, rfl⟩
      have hb6 : W6.heap[wr.heap.size]? = some (.cells #[.string f.subject, .string f.attr, .slice sp f.values.length sc, .int .i64 f.low, .int .i64 f.high] 46 (0, 0)) := by rw [hW6]; simp only [heap_drawn_get, heap_drew_get, heap_setCell_get, heap_alloc_get, World.size_alloc, World.size_setCell, size_drawn, putObj_get, putObj_size]; (repeat (first | rw [if_pos trivial] | rw [if_pos rfl] | rw [if_neg (by omega)] | rw [if_pos (by omega)])); rw [hb5]; rfl
      have hx36 : Ext wr w5 := hx3.trans' hx5
      have hx6 : Ext wr W6 := by rw [hW6]; repeat' (first | with_reducible exact Below.refl _ _ | with_reducible assumption | with_reducible apply Below.drew | with_reducible exact below_drewN (by with_reducible assumption) _ | (with_reducible refine Below.setCell ?_ (by first | exact Nat.le_refl _ | assumption | (simp; done) | omega | (simp; omega)) _) | (with_reducible refine Below.alloc ?_ (by first | exact Nat.le_refl _ | assumption | (simp; done) | omega | (simp; omega)) _) | (with_reducible refine below_putObj ?_ (by first | exact Nat.le_refl _ | assumption | (simp; done) | omega | (simp; omega)) _) | (with_reducible refine below_drawn ?_ _))
      have hrow6 : W6.ownsRow W3.heap.size 9 1 (.slice sp f.values.length sc) f.values.length (f.values.map Value.string) := owns_keep hrow5 fun g cs hge _ => by
        rw [hW6, heap_setCell_get, if_neg (by omega)]
      obtain ⟨W7, hW7⟩ : ∃ W7, W7 = W6.alloc (.cells #[.string f.subject, .string f.attr, .slice sp f.values.length sc, .int .i64 f.low, .int .i64 f.high] 46 (0, 0)) := ⟨_, rfl⟩
      have hx7 : Ext W6 W7 := by rw [hW7]; repeat' (first | with_reducible exact Below.refl _ _ | with_reducible assumption | with_reducible apply Below.drew | with_reducible exact below_drewN (by with_reducible assumption) _ | (with_reducible refine Below.setCell ?_ (by first | exact Nat.le_refl _ | assumption | (simp; done) | omega | (simp; omega)) _) | (with_reducible refine Below.alloc ?_ (by first | exact Nat.le_refl _ | assumption | (simp; done) | omega | (simp; omega)) _) | (with_reducible refine below_putObj ?_ (by first | exact Nat.le_refl _ | assumption | (simp; done) | omega | (simp; omega)) _) | (with_reducible refine below_drawn ?_ _))
      have hb7 : W7.heap[W6.heap.size]? = some (.cells #[.string f.subject, .string f.attr, .slice sp f.values.length sc, .int .i64 f.low, .int .i64 f.high] 46 (0, 0)) := by rw [hW7]; simp only [heap_drawn_get, heap_drew_get, heap_setCell_get, heap_alloc_get, World.size_alloc, World.size_setCell, size_drawn, putObj_get, putObj_size]; (repeat (first | rw [if_pos trivial] | rw [if_pos rfl] | rw [if_neg (by omega)] | rw [if_pos (by omega)]))
      have hxr7 := hx6.trans' hx7
      have hrow7 := owns_keep hI.rows fun g cs _ hgg => hxr7.block g (heap_lt hgg)
      obtain ⟨v'', w8, happ8, hrow8, hgrow8⟩ := append_fct (row := [.string f.subject, .string f.attr, .slice sp f.values.length sc, .int .i64 f.low, .int .i64 f.high]) hrow7 W6.heap.size 1 rfl (fun k u hj => by rw [Nat.zero_add, cell_of hb7 k, List.getElem?_toArray]; exact hj) (fun u hu => by simp at hu; rcases hu with rfl | rfl | rfl | rfl | rfl <;> rfl) (by omega) (Nat.le_trans hI.ext.size hxr7.size) 1
      have hx8 : Ext w w8 := (hI.ext.trans' hxr7).grown hgrow8 (Nat.le_trans hI.ext.size hxr7.size) fun k hk => (owns_block hrow7 hk).1
      have hfr := frm_grown hrow7 hgrow8
      have hN : w.heap.size ≤ W3.heap.size := Nat.le_trans hI.ext.size hx3.size
      have htk : l.take (j + 1) = l.take j ++ [f] := by rw [List.take_add_one, hf]; rfl
      have hzip : (l.take (j + 1)).zip (vs ++ [.slice sp f.values.length sc]) = (l.take j).zip vs ++ [(f, .slice sp f.values.length sc)] := by rw [htk, List.zip_append hI.len.symm]; rfl
      have hI8 : OwnI w.heap.size w (l.take (j + 1)) v'' (vs ++ [.slice sp f.values.length sc]) w8 := by
        refine ⟨hx8, by rw [htk]; simp [hI.len], ?_, fun x hx => ?_⟩
        · rw [hzip, List.flatMap_append, htk, List.length_append]
          exact hrow8
        · rw [hzip] at hx
          rcases List.mem_append.1 hx with hx | hx
          · exact hfr.owns (owns_keep (hI.vals x hx) fun g cs _ hgg => hxr7.block g (heap_lt hgg)) (by decide)
          · rw [List.mem_singleton.1 hx]
            exact hfr.owns (owns_mono (owns_keep hrow6 fun g cs _ hgg => hx7.block g (heap_lt hgg)) hN) (by decide)
      have d2 := cell_of ((hx4.obj hb3)) 2
      have e2 : w5.cell? ⟨wr.heap.size, 2, none⟩ = some (.slice up f.values.length uc) := cell_of hb5 2
      have fz := frozen_of hb5 2
      have k0 := cell_of hb6 0
      have k1 := cell_of hb6 1
      have k2 := cell_of hb6 2
      have k3 := cell_of hb6 3
      have k4 := cell_of hb6 4
      rw [hW7] at happ8
      rw [hW4] at happ d2
      have HAPP := Lib.hid happ
      have HAPP8 := Lib.hid happ8
      have HI8 := Lib.hid hI8
      have HI' := Lib.hid hI
      clear happ happ8 hI8 hI hx hok hc hz1 hz2 hz3 hx3 hb3 hx4 hb4 hst hvl hrow5 hgrow hat hx5 hb5 hx36 hx6 hb6 hrow6 hW7 hx7 hb7 hxr7 hrow7 hrow8 hgrow8 hx8 hfr hN htk hzip hf hs3 hlk
      go_upto_region 6 with fail
      rw [← hW3]
      clear hW3 g0 g1 g2 g3 g4 hW4
      go_upto_region 7 with (at_builtin; refine wpList_append_run rfl _ _ 26 rfl rfl rfl HAPP.out ?_)
      rw [← hW6]
      clear hW6 d2 e2 fz
      go_wp2_with (at_builtin; refine wpList_append_run rfl _ _ 24 rfl rfl rfl HAPP8.out ?_)
      exact ⟨⟨j + 1, _, by omega, rfl, HI8.out⟩, by simp [intOf]; omega⟩
    · obtain rfl : j = l.length := by omega
      go_wp2_with fail
      go_ret
      refine ⟨_, rfl, ?_, HI.out.ext⟩
      have := HI.out
      rw [List.take_length] at this
      exact this.facts HFA.out

end Go.Proofs.YtihfcjioilmmjaaGreat
namespace Go.Proofs.YtihfcjioilmmjaaGreat.Rt
open Go

section
variable {P : Program} {ops : Array Oper}

def pairsOkF (ops : Array Oper) (effs cls : List Nat) (f : Nat) : List Nat → Bool
  | [] => true
  | x :: r => (r.all fun y => y != x && pairOk ops cls x y && (!(effs.contains x || x == f) || y == f || dep cls y x)) && pairsOkF ops effs cls f r

def okF (ops : Array Oper) (π effs his cls : List Nat) (f : Nat) : Bool :=
  noSel ops &&
  ((List.range ops.size).all fun i => match ops[i]? with
    | some o => (o.after.all fun e => !Region.binds .any e || decide (e.on < i)) &&
        ((List.range ops.size).all fun j => !dep cls i j || o.after.any fun e => Region.binds .any e && (e.on == j || dep cls e.on j))
    | none => true) &&
  (cls.length == ops.size) &&
  (π.all fun i => decide (i < ops.size)) && ((List.range ops.size).all fun i => π.contains i) && pairsOkF ops effs cls f π &&
  (π.filter (fun i => effs.contains i) == effs) &&
  (π.all fun i => effs.contains i || match effs[his.getD i 1000]? with | some e => dep cls e i | none => true) &&
  (match ops[f]? with | some o => (o.looksAt ops).isEmpty && o.guard.isNone | none => false) && !effs.contains f

structure OkF (ops : Array Oper) (π effs his cls : List Nat) (f : Nat) : Prop where
  sel : ∀ (i : Nat) o cs b, ops[i]? = some o → o.op ≠ .select cs b
  down : ∀ (i : Nat) o, ops[i]? = some o → ∀ e ∈ o.after, Region.binds .any e = true → e.on < i
  cl : ∀ (i : Nat) o j, ops[i]? = some o → dep cls i j = true → j < ops.size → ∃ e ∈ o.after, Region.binds .any e = true ∧ (e.on = j ∨ dep cls e.on j = true)
  all : ∀ i, i < ops.size → i ∈ π
  lt : ∀ i ∈ π, i < ops.size
  pairs : pairsOkF ops effs cls f π = true
  effsEq : π.filter (fun i => effs.contains i) = effs
  hi : ∀ i ∈ π, effs.contains i = false → ∀ e, effs[his.getD i 1000]? = some e → dep cls e i = true
  fl : ∃ o, ops[f]? = some o ∧ o.looksAt ops = [] ∧ o.guard = none
  fe : effs.contains f = false

theorem okF_of {π effs his cls : List Nat} {f : Nat} (h : okF ops π effs his cls f = true) : OkF ops π effs his cls f := by
  simp only [okF, Bool.and_eq_true] at h
  obtain ⟨⟨⟨⟨⟨⟨⟨⟨⟨h1, h2⟩, _⟩, h3⟩, h4⟩, h5⟩, h6⟩, h7⟩, h8⟩, h9⟩ := h
  refine ⟨?_, ?_, ?_, ?_, ?_, h5, by simpa using h6, ?_, ?_, by simpa using h9⟩
  · intro i o cs b ho hs
    unfold noSel at h1
    rw [Array.all_eq_true_iff_forall_mem] at h1
    have := h1 o (Array.mem_of_getElem? ho)
    rw [hs] at this; cases this
  · intro i o ho e he hb
    have hlt : i < ops.size := (Array.getElem?_eq_some_iff.1 ho).1
    have := List.all_eq_true.1 h2 i (by simpa using hlt)
    simp only [ho, Bool.and_eq_true] at this
    have := (Array.all_eq_true_iff_forall_mem.1 this.1) e he
    simpa [hb] using this
  · intro i o j ho hd hj
    have hlt : i < ops.size := (Array.getElem?_eq_some_iff.1 ho).1
    have := List.all_eq_true.1 h2 i (by simpa using hlt)
    simp only [ho, Bool.and_eq_true] at this
    have := List.all_eq_true.1 this.2 j (by simpa using hj)
    simp only [hd, Bool.not_true, Bool.false_or] at this
    obtain ⟨e, he, hh⟩ := Array.any_eq_true'.1 this
    simp only [Bool.and_eq_true, Bool.or_eq_true, beq_iff_eq] at hh
    exact ⟨e, he, hh.1, hh.2⟩
  · intro i hi
    have := List.all_eq_true.1 h4 i (by simpa using hi)
    simpa using this
  · intro i hi
    have := List.all_eq_true.1 h3 i hi
    simpa using this
  · intro i hi he e hee
    have := List.all_eq_true.1 h7 i hi
    simp only [he, Bool.false_or, hee] at this
    exact this
  · cases ho : ops[f]? with
    | none => rw [ho] at h8; cases h8
    | some o =>
      rw [ho] at h8
      simp only [Bool.and_eq_true, List.isEmpty_iff, Option.isNone_iff_eq_none] at h8
      exact ⟨o, rfl, h8.1, h8.2⟩

theorem pairsF_spec {effs cls : List Nat} {f : Nat} : ∀ {π l1 : List Nat} {x : Nat} {l2 : List Nat}, pairsOkF ops effs cls f π = true → π = l1 ++ x :: l2 → ∀ y ∈ l2, y ≠ x ∧ pairOk ops cls x y = true ∧ (effs.contains x = true ∨ x = f → y ≠ f → dep cls y x = true)
  | [], l1, x, l2, _, h => by simp at h
  | p :: r, [], x, l2, hp, h => by
    obtain ⟨rfl, rfl⟩ : p = x ∧ r = l2 := by simpa using h
    simp only [pairsOkF, Bool.and_eq_true] at hp
    intro y hy
    have := List.all_eq_true.1 hp.1 y hy
    simp only [Bool.and_eq_true, bne_iff_ne, ne_eq, Bool.or_eq_true, Bool.not_eq_true', Bool.or_eq_false_iff, beq_iff_eq, beq_eq_false_iff_ne] at this
    refine ⟨this.1.1, this.1.2, fun he hy => ?_⟩
    rcases this.2 with (h0 | h0) | h0
    · rcases he with he | he
      · rw [he] at h0; cases h0.1
      · exact absurd he h0.2
    · exact absurd h0 hy
    · exact h0
  | p :: r, q :: l1, x, l2, hp, h => by
    obtain ⟨rfl, rfl⟩ : p = q ∧ r = l1 ++ x :: l2 := by simpa using h
    simp only [pairsOkF, Bool.and_eq_true] at hp
    exact pairsF_spec hp.2 rfl

theorem dep_listedF {π effs his cls : List Nat} {f : Nat} (hok : OkF ops π effs his cls f) {L : Nat → Bool}
    (hL : ∀ (i : Nat) o, ops[i]? = some o → L i = true → ∀ e ∈ o.after, Region.binds .any e = true → L e.on = true) :
    ∀ (n i : Nat) o, i < n → ops[i]? = some o → (∀ e ∈ o.after, Region.binds .any e = true → L e.on = true) → ∀ j, j < ops.size → dep cls i j = true → L j = true := by
  intro n
  induction n with
  | zero => intro i o h; omega
  | succ n ih =>
    intro i o hi ho he j hj hd
    obtain ⟨e, hm, hb, hh⟩ := hok.cl i o j ho hd hj
    rcases hh with rfl | hh
    · exact he e hm hb
    · have hlt := hok.down i o ho e hm hb
      have hi' : i < ops.size := (Array.getElem?_eq_some_iff.1 ho).1
      have ho' : ops[e.on]? = some ops[e.on] := Array.getElem?_eq_getElem (by omega)
      exact ih e.on _ (by omega) ho' (hL e.on _ ho' (he e hm hb)) j hj hh

/-- THE WALK, in the order π; 'f' floats: 'fo' is its value, once the walk has passed it. -/
def RSeqF (P : Program) (ops : Array Oper) (eff : Nat → Bool) (hi : Nat → Nat) (f : Nat) (J : Option Value → List Value → World → Prop) (Q : Act → World → Prop) : List Nat → List Value → Option Value → Act → Prop
  | [], us, fo, a => ∀ w, J fo us w → Q a w
  | i :: π, us, fo, a =>
    if i = f then ∀ v, (∃ us' w, J (some v) us' w) → RSeqF P ops eff hi f J Q π us (some v) (a.put (dstOf ops i) v)
    else if eff i = true then
      (∀ fo' w, (fo = none ∨ fo' = fo) → J fo' us w → stepAt P ops i a w (fun v w' => J fo' (us ++ [v]) w')) ∧ ∀ v, (∃ fo' w, J fo' (us ++ [v]) w) → RSeqF P ops eff hi f J Q π (us ++ [v]) fo (a.put (dstOf ops i) v)
    else
      ∃ v, (∀ us' fo' w, us <+: us' → us'.length ≤ hi i → (fo = none ∨ fo' = fo) → J fo' us' w → stepAt P ops i a w (fun v' w' => v' = v ∧ J fo' us' w')) ∧ RSeqF P ops eff hi f J Q π us fo (a.put (dstOf ops i) v)

variable {π effs his cls : List Nat} {f : Nat} {J : Option Value → List Value → World → Prop} {Q : Act → World → Prop}

def OblF (P : Program) (ops : Array Oper) (his : List Nat) (J : Option Value → List Value → World → Prop) (fi : Option Value) (us : List Value) (i : Nat) (v : Value) (a : Act) : Prop :=
  ∀ us' fo' w, us <+: us' → us'.length ≤ his.getD i 1000 → (fi = none ∨ fo' = fi) → J fo' us' w → stepAt P ops i a w (fun v' w' => v' = v ∧ J fo' us' w')
theorem oblF_weaken {fi : Option Value} {us us' : List Value} {i : Nat} {v : Value} {a : Act} (h : OblF P ops his J fi us i v a) (hp : us <+: us') : OblF P ops his J fi us' i v a :=
  fun us2 fo' w h1 h2 h3 h4 => h us2 fo' w (hp.trans h1) h2 h3 h4

theorem segmentF (us : List Value) (fo : Option Value) : ∀ (ρ : List Nat) (a : Act), RSeqF P ops (fun i => effs.contains i) (fun i => his.getD i 1000) f J Q ρ us fo a →
    ∃ T ρ', ρ = T.map (·.1) ++ ρ' ∧ (ρ' = [] ∨ ∃ e r, ρ' = e :: r ∧ (effs.contains e = true ∨ e = f)) ∧ (∀ x ∈ T, effs.contains x.1 = false ∧ x.1 ≠ f) ∧
      RSeqF P ops (fun i => effs.contains i) (fun i => his.getD i 1000) f J Q ρ' us fo (puts ops a T) ∧ ∀ T1 i v T2, T = T1 ++ (i, v) :: T2 → OblF P ops his J fo us i v (puts ops a T1)
  | [], a, h => ⟨[], [], rfl, .inl rfl, by simp, h, fun T1 i v T2 e => by simp at e⟩
  | i :: ρ, b, h => by
    by_cases hif : i = f
    · exact ⟨[], i :: ρ, rfl, .inr ⟨i, ρ, rfl, .inr hif⟩, by simp, h, fun T1 i v T2 e => by simp at e⟩
    cases he : effs.contains i with
    | true => exact ⟨[], i :: ρ, rfl, .inr ⟨i, ρ, rfl, .inl he⟩, by simp, h, fun T1 i v T2 e => by simp at e⟩
    | false =>
      unfold RSeqF at h
      rw [if_neg hif, if_neg (by simp only [he]; exact Bool.false_ne_true)] at h
      obtain ⟨v, h1, h2⟩ := h
      obtain ⟨T, ρ', e1, e2, e3, e4, e5⟩ := segmentF us fo ρ _ h2
      refine ⟨(i, v) :: T, ρ', by rw [e1]; rfl, e2, ?_, e4, ?_⟩
      · intro x hx
        rcases List.mem_cons.1 hx with rfl | hx
        · exact ⟨he, hif⟩
        · exact e3 x hx
      · intro T1 j u T2 e
        cases T1 with
        | nil =>
          obtain ⟨⟨rfl, rfl⟩, rfl⟩ : (i = j ∧ v = u) ∧ T = T2 := by simpa using e
          exact h1
        | cons y T1 =>
          obtain ⟨rfl, rfl⟩ : (i, v) = y ∧ T = T1 ++ (j, u) :: T2 := by simpa using e
          exact e5 T1 j u T2 rfl

/-- The frame: what was listed of the walk, and the floating value if it has come ahead of its place. -/
def Frm (ops : Array Oper) (a0 : Act) (T : List (Nat × Value)) (listed : Array Bool) (f : Nat) (fl : Option Value) : Act :=
  match fl with
  | none => puts ops a0 (T.filter fun x => listed.getD x.1 false)
  | some v => if f ∈ T.map (·.1) then puts ops a0 (T.filter fun x => listed.getD x.1 false) else (puts ops a0 (T.filter fun x => listed.getD x.1 false)).put (dstOf ops f) v

structure St (P : Program) (ops : Array Oper) (π effs his : List Nat) (f : Nat) (J : Option Value → List Value → World → Prop) (Q : Act → World → Prop) (a0 : Act) (listed : Array Bool) (a : Act) (w : World) (T : List (Nat × Value)) (ρ : List Nat) (us : List Value) (fo fl : Option Value) : Prop where
  hπ : π = T.map (·.1) ++ ρ
  hρ : ρ = [] ∨ ∃ e r, ρ = e :: r ∧ (effs.contains e = true ∨ e = f)
  hR : RSeqF P ops (fun i => effs.contains i) (fun i => his.getD i 1000) f J Q ρ us fo (puts ops a0 T)
  hT : ∀ i, listed.getD i false = true → i ∈ T.map (·.1) ∨ i = f
  hTe : ∀ x ∈ T, effs.contains x.1 = true ∨ x.1 = f → listed.getD x.1 false = true
  hus : us.length = ((T.map (·.1)).filter (fun i => effs.contains i)).length
  ha : a = Frm ops a0 T listed f fl
  hI : J fl us w
  hob : ∀ T1 i v T2, T = T1 ++ (i, v) :: T2 → listed.getD i false = false → ∃ fi, (fi = none ∨ fi = fl) ∧ OblF P ops his J fi us i v (puts ops a0 T1)
  hfl : listed.getD f false = fl.isSome
  hin : f ∈ T.map (·.1) → fo = fl
  hout : f ∉ T.map (·.1) → fo = none

theorem St.norm (hok : OkF ops π effs his cls f) {a0 : Act} {listed : Array Bool} {a : Act} {w : World} {T : List (Nat × Value)} {ρ : List Nat} {us : List Value} {fo fl : Option Value}
    (s : St P ops π effs his f J Q a0 listed a w T ρ us fo fl) : ∃ T' ρ' fo', St P ops π effs his f J Q a0 listed a w T' ρ' us fo' fl ∧ ∀ r, ρ' = f :: r → fl = none := by
  cases hfl : fl with
  | none => exact ⟨T, ρ, fo, by rw [← hfl]; exact s, fun _ _ => rfl⟩
  | some v =>
    by_cases hr : ∃ r, ρ = f :: r
    rotate_left
    · exact ⟨T, ρ, fo, by rw [← hfl]; exact s, fun r e => absurd ⟨r, e⟩ hr⟩
    obtain ⟨r, rfl⟩ := hr
    have hπn : ∀ l1 x l2, π = l1 ++ x :: l2 → ∀ y ∈ l2, y ≠ x ∧ pairOk ops cls x y = true ∧ (effs.contains x = true ∨ x = f → y ≠ f → dep cls y x = true) := fun l1 x l2 h => pairsF_spec hok.pairs h
    have hfT : f ∉ T.map (·.1) := fun hm => by
      obtain ⟨l1, l2, hl⟩ := List.append_of_mem hm
      exact (hπn l1 f (l2 ++ f :: r) (by rw [s.hπ, hl]; simp) f (by simp)).1 rfl
    have hfo := s.hout hfT
    have hR := s.hR
    unfold RSeqF at hR
    rw [if_pos rfl] at hR
    have hI := s.hI
    rw [hfl] at hI
    obtain ⟨T', ρ', e1, e2, e3, e4, e5⟩ := segmentF _ _ _ _ (hR v ⟨us, w, hI⟩)
    have hT'n : ∀ x ∈ T', x.1 ∉ T.map (·.1) ∧ x.1 ≠ f := fun x hx => by
      refine ⟨fun hm => ?_, (e3 x hx).2⟩
      obtain ⟨l1, l2, hl⟩ := List.append_of_mem hm
      exact (hπn l1 x.1 (l2 ++ f :: r) (by rw [s.hπ, hl]; simp) x.1 (by rw [e1]; simp; exact .inr (.inr (.inl ⟨x.2, hx⟩)))).1 rfl
    have hT'l : ∀ x ∈ T', listed.getD x.1 false = false := fun x hx => by
      cases hl : listed.getD x.1 false with
      | false => rfl
      | true =>
        rcases s.hT x.1 hl with h | h
        · exact absurd h (hT'n x hx).1
        · exact absurd h (hT'n x hx).2
    have hff : listed.getD f false = true := by rw [s.hfl, hfl]; rfl
    have hm2 : f ∈ (T ++ (f, v) :: T').map (·.1) := by simp
    refine ⟨T ++ (f, v) :: T', ρ', some v, ⟨?_, e2, ?_, ?_, ?_, ?_, ?_, ?_, ?_, ?_, fun _ => rfl, fun h => absurd hm2 h⟩, ?_⟩
    · rw [s.hπ, e1]; simp
    · rw [puts_append, puts_cons]; exact e4
    · intro i hi
      rcases s.hT i hi with h | h
      · exact .inl (by rw [List.map_append]; exact List.mem_append_left _ h)
      · exact .inr h
    · intro x hx he
      rcases List.mem_append.1 hx with hx | hx
      · exact s.hTe x hx he
      · rcases List.mem_cons.1 hx with rfl | hx
        · exact hff
        · rcases he with he | he
          · rw [(e3 x hx).1] at he; cases he
          · exact absurd he (e3 x hx).2
    · have hT'0 : (T'.map (·.1)).filter (fun i => effs.contains i) = [] := by
        rw [List.filter_eq_nil_iff]
        intro x hx
        obtain ⟨y, hy, rfl⟩ := List.mem_map.1 hx
        rw [(e3 y hy).1]; exact Bool.false_ne_true
      rw [s.hus, List.map_append, List.map_cons, List.filter_append, List.filter_cons_of_neg (by rw [hok.fe]; exact Bool.false_ne_true), hT'0, List.append_nil]
    · have f2 : T'.filter (fun x => listed.getD x.1 false) = [] := by
        rw [List.filter_eq_nil_iff]
        intro x hx
        rw [hT'l x hx]; exact Bool.false_ne_true
      rw [s.ha, hfl]
      unfold Frm
      simp only []
      rw [if_neg hfT, if_pos hm2, List.filter_append, List.filter_cons_of_pos (by exact hff), f2, puts_append, puts_cons, puts_nil]
    · exact hI
    · intro S1 j u S2 hS hj
      have hjf : j ≠ f := fun e => by rw [e, hff] at hj; cases hj
      rcases List.append_eq_append_iff.1 hS with ⟨c, hc1, hc2⟩ | ⟨c, hc1, hc2⟩
      · cases c with
        | nil =>
          obtain ⟨⟨h1, _⟩, _⟩ : (f = j ∧ v = u) ∧ T' = S2 := by simpa using hc2
          exact absurd h1.symm hjf
        | cons y c =>
          obtain ⟨rfl, hc3⟩ : (f, v) = y ∧ T' = c ++ (j, u) :: S2 := by simpa using hc2
          have := e5 c j u S2 hc3
          refine ⟨some v, .inr rfl, ?_⟩
          rw [hc1, puts_append, puts_cons]
          exact this
      · cases c with
        | nil =>
          obtain ⟨⟨h1, _⟩, _⟩ : (j = f ∧ u = v) ∧ S2 = T' := by simpa using hc2
          exact absurd h1 hjf
        | cons y c =>
          obtain ⟨rfl, _⟩ : (j, u) = y ∧ S2 = c ++ (f, v) :: T' := by simpa using hc2
          have := s.hob S1 j u c hc1 hj
          rw [hfl] at this
          exact this
    · rw [s.hfl, hfl]
    · intro r' e
      exfalso
      have hr' : f ∈ ρ' := by rw [e]; simp
      exact (hπn (T.map (·.1)) f r s.hπ f (by rw [e1]; exact List.mem_append_right _ hr')).1 rfl

theorem simF (hok : OkF ops π effs his cls f) (a0 : Act) (Q' : Exit → Act → World → Prop) (hQ : ∀ a w, Q a w → Q' .normal a w) (hF : ∀ us w, J none us w → stepAt P ops f a0 w (fun v w' => J (some v) us w')) :
    ∀ (fuel : Nat) (listed : Array Bool) (a : Act) (w : World) (T : List (Nat × Value)) (ρ : List Nat) (us : List Value) (fo fl : Option Value) (U : List Nat),
      listed.size = ops.size → U.length = fuel → (∀ i, i < ops.size → (listed.getD i false = false ↔ i ∈ U)) → U.Nodup →
      (∀ (i : Nat) o, ops[i]? = some o → listed.getD i false = true → ∀ e ∈ o.after, Region.binds .any e = true → listed.getD e.on false = true) →
      St P ops π effs his f J Q a0 listed a w T ρ us fo fl → (∀ r, ρ = f :: r → fl = none) → wpAny P .any ops Q' fuel listed a w := by
  have hπn : ∀ l1 x l2, π = l1 ++ x :: l2 → ∀ y ∈ l2, y ≠ x ∧ pairOk ops cls x y = true ∧ (effs.contains x = true ∨ x = f → y ≠ f → dep cls y x = true) := fun l1 x l2 h => pairsF_spec hok.pairs h
  obtain ⟨of, hof, hlook, hgrd⟩ := hok.fl
  have hfs : f < ops.size := (Array.getElem?_eq_some_iff.1 hof).1
  have fin : ∀ (listed : Array Bool) (a : Act) (w : World) (T : List (Nat × Value)) (ρ : List Nat) (us : List Value) (fo fl : Option Value),
      listed.size = ops.size → St P ops π effs his f J Q a0 listed a w T ρ us fo fl → (∀ r, ρ = f :: r → fl = none) → Region.ready .any ops listed = [] → Q' .normal a w := by
    intro listed a w T ρ us fo fl hsz s hn hr
    have hall : ∀ n i, i < n → i < ops.size → listed.getD i false = true := by
      intro n
      induction n with
      | zero => intro i h; omega
      | succ n ih =>
        intro i hi hlt
        cases hl : listed.getD i false with
        | true => rfl
        | false =>
          have ho : ops[i]? = some ops[i] := Array.getElem?_eq_getElem hlt
          have : i ∈ Region.ready .any ops listed := by
            rw [mem_ready]
            refine ⟨?_, _, ho, fun e he hb => ?_⟩
            · have hl' : i < listed.size := by omega
              simp [hl'] at hl ⊢; exact hl
            · have := hok.down i _ ho e he hb
              exact ih e.on (by omega) (by omega)
          rw [hr] at this; cases this
    have hfl : fl.isSome = true := by rw [← s.hfl]; exact hall _ f (Nat.lt_succ_self f) hfs
    have hnil : ρ = [] := by
      rcases s.hρ with h | ⟨e, r, rfl, hee⟩
      · exact h
      · exfalso
        have he : e ∈ π := by rw [s.hπ]; simp
        by_cases hef : e = f
        · subst hef
          have := hn r rfl
          rw [this] at hfl; cases hfl
        · rcases s.hT e (hall _ e (Nat.lt_succ_self e) (hok.lt e he)) with hm | hm
          · obtain ⟨l1, l2, hl⟩ := List.append_of_mem hm
            have := (hπn l1 e (l2 ++ e :: r) (by rw [s.hπ, hl]; simp) e (by simp)).1
            exact this rfl
          · exact hef hm
    subst hnil
    have hfT : f ∈ T.map (·.1) := by
      have := hok.all f hfs
      rw [s.hπ, List.append_nil] at this
      exact this
    have hf : T.filter (fun x => listed.getD x.1 false) = T := by
      rw [List.filter_eq_self]
      intro x hx
      have : x.1 ∈ π := by rw [s.hπ]; simp; exact ⟨x.2, hx⟩
      exact hall _ x.1 (Nat.lt_succ_self _) (hok.lt _ this)
    have hR := s.hR
    have hI := s.hI
    rw [s.hin hfT] at hR
    have ha : a = puts ops a0 T := by
      rw [s.ha]
      unfold Frm
      cases fl with
      | none => simp only []; rw [hf]
      | some v => simp only []; rw [if_pos hfT, hf]
    rw [ha]
    exact hQ _ _ (hR w hI)
  intro fuel
  induction fuel with
  | zero =>
    intro listed a w T ρ us fo fl U hsz hUl hU hUn hdc s hn
    have hr : Region.ready .any ops listed = [] := by
      rw [List.eq_nil_iff_forall_not_mem]
      intro i hi
      rw [mem_ready] at hi
      obtain ⟨hl, o, ho, _⟩ := hi
      have hlt : i < ops.size := (Array.getElem?_eq_some_iff.1 ho).1
      have hl' : i < listed.size := by omega
      have : i ∈ U := (hU i hlt).1 (by simp [hl'] at hl ⊢; exact hl)
      rw [List.eq_nil_of_length_eq_zero hUl] at this
      cases this
    exact ⟨hr, fin listed a w T ρ us fo fl hsz s hn hr⟩
  | succ fuel ih =>
    intro listed a w T ρ us fo fl U hsz hUl hU hUn hdc s hn
    refine ⟨fun hr => fin listed a w T ρ us fo fl hsz s hn hr, fun i hi => ?_⟩
    rw [mem_ready] at hi
    obtain ⟨hl, o, ho, hedge⟩ := hi
    have hlt : i < ops.size := (Array.getElem?_eq_some_iff.1 ho).1
    have hl' : i < listed.size := by omega
    have hli : listed.getD i false = false := by simp [hl'] at hl ⊢; exact hl
    have hdl : ∀ j, j < ops.size → dep cls i j = true → listed.getD j false = true := dep_listedF hok hdc _ i o (Nat.lt_succ_self i) ho hedge
    have hdl2 : ∀ x, listed.getD x false = true → x < ops.size → ∀ j, j < ops.size → dep cls x j = true → listed.getD j false = true := fun x hx hxs =>
      dep_listedF hok hdc _ x _ (Nat.lt_succ_self x) (Array.getElem?_eq_getElem hxs) (hdc x _ (Array.getElem?_eq_getElem hxs) hx)
    have hiU : i ∈ U := (hU i hlt).1 hli
    have hset : ∀ j, (listed.setIfInBounds i true).getD j false = (if j = i then true else listed.getD j false) := by
      intro j
      by_cases hj : j = i
      · subst hj; simp [hl']
      · rw [if_neg hj, getD_set_ne false (Ne.symm hj)]
    have hsz' : (listed.setIfInBounds i true).size = ops.size := by simpa using hsz
    have hU' : ∀ j, j < ops.size → ((listed.setIfInBounds i true).getD j false = false ↔ j ∈ U.erase i) := by
      intro j hj
      rw [hset, hUn.mem_erase_iff]
      by_cases hji : j = i
      · subst hji; simp
      · rw [if_neg hji, hU j hj]; simp [hji]
    have hUl' : (U.erase i).length = fuel := by rw [List.length_erase_of_mem hiU, hUl]; rfl
    have hdc' : ∀ (x : Nat) o', ops[x]? = some o' → (listed.setIfInBounds i true).getD x false = true → ∀ e ∈ o'.after, Region.binds .any e = true → (listed.setIfInBounds i true).getD e.on false = true := by
      intro x o' hx hxl e he hb
      rw [hset] at hxl ⊢
      by_cases hxi : x = i
      · subst hxi
        obtain rfl : o' = o := Option.some.inj (hx.symm.trans ho)
        rw [hedge e he hb]; simp
      · rw [if_neg hxi] at hxl
        rw [hdc x o' hx hxl e he hb]; simp
    have hapart : ∀ x y, x < ops.size → y < ops.size → pairOk ops cls x y = true → dep cls y x = false → (ops[x]!).apart ops (ops[y]!) = true := by
      intro x y hx hy hp hd
      unfold pairOk at hp
      rw [hd, Array.getElem?_eq_getElem hx, Array.getElem?_eq_getElem hy] at hp
      simpa [hx, hy] using hp
    have hlk : ∀ x, x < ops.size → dstOf ops x = (ops[x]!).dst := fun x hx => by simp [dstOf, hx]
    have ho! : ops[i]! = o := by
      have := Array.getElem?_eq_getElem hlt
      rw [ho] at this
      simp [hlt, Option.some.inj this]
    -- the end of each step: the walk is brought up behind f, then the next step
    have next : ∀ (a' : Act) (w' : World) (T' : List (Nat × Value)) (ρ' : List Nat) (us' : List Value) (fo' fl' : Option Value), St P ops π effs his f J Q a0 (listed.setIfInBounds i true) a' w' T' ρ' us' fo' fl' → wpAny P .any ops Q' fuel (listed.setIfInBounds i true) a' w' := by
      intro a' w' T' ρ' us' fo' fl' s'
      obtain ⟨T2, ρ2, fo2, s2, h2⟩ := s'.norm hok
      exact ih _ a' w' T2 ρ2 us' fo2 fl' (U.erase i) hsz' hUl' hU' (hUn.erase _) hdc' s2 h2
    by_cases hif : i = f
    · -- the floating one
      subst hif
      have hfl0 : fl = none := by
        have := s.hfl
        rw [hli] at this
        cases fl with
        | none => rfl
        | some v => cases this
      subst hfl0
      have hfT : i ∉ T.map (·.1) := fun hm => by
        obtain ⟨x, hx, hxe⟩ := List.mem_map.1 hm
        have := s.hTe x hx (.inr hxe)
        rw [hxe, hli] at this; cases this
      obtain rfl : of = o := Option.some.inj (hof.symm.trans ho)
      have hst : stepAt P ops i a w (fun v w' => J (some v) us w') := by
        obtain ⟨o', ho', hh⟩ := hF us w s.hI
        obtain rfl : o' = of := Option.some.inj (ho'.symm.trans ho)
        refine ⟨o', ho', ?_⟩
        have hag : Agree ops o' a0 a := fun t ht => by rw [hlook] at ht; cases ht
        rw [agree_wanted hag] at hh
        split
        · rename_i hw
          rw [if_pos hw] at hh
          exact gives_congr (agree_exec (fun cs b => hok.sel i o' cs b ho) hag) hh
        · rename_i hw
          rw [if_neg hw] at hh
          exact hh
      refine stepAt_wpOp hst ?_
      intro v w' hI'
      have hTn : ∀ x ∈ T, x.1 ≠ i := fun x hx e => hfT (by rw [← e]; exact List.mem_map_of_mem hx)
      refine next _ w' T ρ us fo (some v) ⟨s.hπ, s.hρ, s.hR, ?_, ?_, s.hus, ?_, hI', ?_, ?_, fun h => absurd h hfT, s.hout⟩
      · intro j hj
        rw [hset] at hj
        by_cases hji : j = i
        · exact .inr hji
        · rw [if_neg hji] at hj; exact s.hT j hj
      · intro x hx he
        rw [hset, if_neg (hTn x hx)]
        exact s.hTe x hx he
      · have f1 : T.filter (fun x => (listed.setIfInBounds i true).getD x.1 false) = T.filter (fun x => listed.getD x.1 false) :=
          List.filter_congr fun x hx => by rw [hset, if_neg (hTn x hx)]
        rw [s.ha]
        unfold Frm
        simp only []
        rw [if_neg hfT, f1]
      · intro S1 j u S2 hS hj
        rw [hset] at hj
        by_cases hji : j = i
        · subst hji; simp at hj
        · rw [if_neg hji] at hj
          obtain ⟨fi, h1, h2⟩ := s.hob S1 j u S2 hS hj
          exact ⟨fi, .inl (h1.elim id id), h2⟩
      · rw [hset]; simp
    -- what the floating value does to another one's frame
    have hflo : ∀ {S : List Nat} {R : List Nat}, π = S ++ i :: R → f ∉ T.map (·.1) → (f ∈ R) → fl.isSome = true → o.apart ops (ops[f]!) = true := by
      intro S R hSR hfT hfR hfs'
      have hpr := (hπn S i R hSR f hfR).2.1
      have hnd : dep cls f i = false := by
        cases hd : dep cls f i with
        | false => rfl
        | true =>
          have := hdl2 f (by rw [s.hfl]; exact hfs') hfs i hlt hd
          rw [hli] at this; cases this
      have := hapart _ _ hlt hfs hpr hnd
      rwa [ho!] at this
    have hfρ : f ∉ T.map (·.1) → f ∈ ρ := fun h => by
      have := hok.all f hfs
      rw [s.hπ] at this
      exact (List.mem_append.1 this).resolve_left h
    by_cases hiT : i ∈ T.map (·.1)
    · obtain ⟨⟨i', v⟩, hm, hii⟩ := List.mem_map.1 hiT
      obtain rfl : i' = i := hii
      obtain ⟨T1, T2, hTT⟩ := List.append_of_mem hm
      obtain ⟨fi, hfi, hobl⟩ := s.hob T1 i' v T2 hTT hli
      have heff : effs.contains i' = false := by
        cases he : effs.contains i' with
        | false => rfl
        | true => have := s.hTe _ hm (.inl he); rw [hli] at this; cases this
      have hπ1 : π = T1.map (·.1) ++ i' :: (T2.map (·.1) ++ ρ) := by rw [s.hπ, hTT]; simp
      have hp : us.length ≤ his.getD i' 1000 := by
        refine Nat.le_of_not_lt fun hgt => ?_
        have hflt : (T.map (·.1)).filter (fun i => effs.contains i) ++ ρ.filter (fun i => effs.contains i) = effs := by
          rw [← List.filter_append, ← s.hπ]; exact hok.effsEq
        have hus := s.hus
        have hlt2 : his.getD i' 1000 < ((T.map (·.1)).filter (fun i => effs.contains i)).length := by omega
        obtain ⟨e, he⟩ : ∃ e, ((T.map (·.1)).filter (fun i => effs.contains i))[his.getD i' 1000]? = some e := ⟨_, List.getElem?_eq_getElem hlt2⟩
        have he2 : effs[his.getD i' 1000]? = some e := by
          rw [← hflt, List.getElem?_append_left hlt2]; exact he
        have hem := List.mem_filter.1 (List.mem_of_getElem? he)
        obtain ⟨x, hx, hxe⟩ := List.mem_map.1 hem.1
        have hel : listed.getD e false = true := by rw [← hxe]; exact s.hTe x hx (.inl (by rw [hxe]; exact hem.2))
        have heπ : e ∈ π := by rw [s.hπ]; exact List.mem_append_left _ hem.1
        have hd := hok.hi i' (by rw [hπ1]; simp) heff e he2
        have := hdl2 e hel (hok.lt e heπ) i' hlt hd
        rw [hli] at this; cases this
      have hst := hobl us fl w (List.prefix_refl _) hp (hfi.elim .inl fun h => .inr h.symm) s.hI
      have hbefore : ∀ x ∈ T1, listed.getD x.1 false = false → ∀ t, dstOf ops x.1 = some t → t ∉ o.looksAt ops := by
        intro x hx hxl t ht
        obtain ⟨l1, l2, hs⟩ := List.append_of_mem hx
        have hxπ : x.1 ∈ π := by rw [hπ1, hs]; simp
        have hpr := (hπn (l1.map (·.1)) x.1 (l2.map (·.1) ++ i' :: (T2.map (·.1) ++ ρ)) (by rw [hπ1, hs]; simp) i' (by simp)).2.1
        have hnd : dep cls i' x.1 = false := by
          cases hd : dep cls i' x.1 with
          | false => rfl
          | true => have := hdl x.1 (hok.lt _ hxπ) hd; rw [hxl] at this; cases this
        have hap := hapart _ _ (hok.lt _ hxπ) hlt hpr hnd
        rw [ho!] at hap
        exact (Oper.apart_spec hap).1 t (by rw [← hlk _ (hok.lt _ hxπ)]; exact ht)
      have hafter : ∀ x ∈ T2, listed.getD x.1 false = true → o.apart ops (ops[x.1]!) = true := by
        intro x hx hxl
        have hxπ : x.1 ∈ π := by rw [hπ1]; simp; exact .inr (.inr (.inl ⟨x.2, hx⟩))
        have hpr := (hπn (T1.map (·.1)) i' (T2.map (·.1) ++ ρ) hπ1 x.1 (by simp; exact .inl ⟨x.2, hx⟩)).2.1
        have hnd : dep cls x.1 i' = false := by
          cases hd : dep cls x.1 i' with
          | false => rfl
          | true => have := hdl2 x.1 hxl (hok.lt _ hxπ) i' hlt hd; rw [hli] at this; cases this
        have hap := hapart _ _ hlt (hok.lt _ hxπ) hpr hnd
        rwa [ho!] at hap
      have hxlt : ∀ x ∈ T2, x.1 < ops.size := fun x hx => hok.lt _ (by rw [hπ1]; simp; exact .inr (.inr (.inl ⟨x.2, hx⟩)))
      have hTf : T.filter (fun x => listed.getD x.1 false) = T1.filter (fun x => listed.getD x.1 false) ++ T2.filter (fun x => listed.getD x.1 false) := by
        rw [hTT, List.filter_append, List.filter_cons_of_neg (by simp only [hli]; exact Bool.false_ne_true)]
      have hap3 : f ∉ T.map (·.1) → fl.isSome = true → o.apart ops (ops[f]!) = true := fun h1 h2 => hflo hπ1 h1 (List.mem_append_right _ (hfρ h1)) h2
      have hag0 : Agree ops o (puts ops a0 T1) (puts ops a0 (T.filter fun x => listed.getD x.1 false)) := by
        rw [hTf, puts_append]
        refine agree_apart _ _ _ (agree_filter (fun i => listed.getD i false) T1 a0 a0 (fun _ _ => rfl) hbefore) ?_
        intro x hx t ht
        obtain ⟨hx2, hxl⟩ := List.mem_filter.1 hx
        exact (Oper.apart_spec (hafter x hx2 hxl)).2.2 t (by rw [← hlk _ (hxlt x hx2)]; exact ht)
      have hag : Agree ops o (puts ops a0 T1) a := by
        rw [s.ha]
        unfold Frm
        cases hfe : fl with
        | none => exact hag0
        | some u =>
          simp only []
          split
          · exact hag0
          · rename_i hfT
            exact agree_right hag0 _ _ fun t ht => (Oper.apart_spec (hap3 hfT (by rw [hfe]; rfl))).2.2 t (by rw [← hlk _ hfs]; exact ht)
      have hst' : stepAt P ops i' a w (fun v' w' => v' = v ∧ J fl us w') := by
        obtain ⟨o', ho', hh⟩ := hst
        obtain rfl : o' = o := Option.some.inj (ho'.symm.trans ho)
        refine ⟨o', ho', ?_⟩
        rw [agree_wanted hag] at hh
        split
        · rename_i hw
          rw [if_pos hw] at hh
          exact gives_congr (agree_exec (fun cs b => hok.sel i' o' cs b ho) hag) hh
        · rename_i hw
          rw [if_neg hw] at hh
          exact hh
      refine stepAt_wpOp hst' ?_
      rintro v' w' ⟨rfl, hI'⟩
      have hTn1 : ∀ x ∈ T1, x.1 ≠ i' := by
        intro x hx
        obtain ⟨l1, l2, hs⟩ := List.append_of_mem hx
        exact fun e => (hπn (l1.map (·.1)) x.1 (l2.map (·.1) ++ i' :: (T2.map (·.1) ++ ρ)) (by rw [hπ1, hs]; simp) i' (by simp)).1 e.symm
      have hTn2 : ∀ x ∈ T2, x.1 ≠ i' := fun x hx =>
        (hπn (T1.map (·.1)) i' (T2.map (·.1) ++ ρ) hπ1 x.1 (by simp; exact .inl ⟨x.2, hx⟩)).1
      have e1 : T1.filter (fun x => (listed.setIfInBounds i' true).getD x.1 false) = T1.filter (fun x => listed.getD x.1 false) :=
        List.filter_congr fun x hx => by rw [hset, if_neg (hTn1 x hx)]
      have e2 : T2.filter (fun x => (listed.setIfInBounds i' true).getD x.1 false) = T2.filter (fun x => listed.getD x.1 false) :=
        List.filter_congr fun x hx => by rw [hset, if_neg (hTn2 x hx)]
      have hfr0 : (puts ops a0 (T.filter fun x => listed.getD x.1 false)).put (dstOf ops i') v' = puts ops a0 (T.filter fun x => (listed.setIfInBounds i' true).getD x.1 false) := by
        rw [hTf, puts_append]
        rw [hTT, List.filter_append, List.filter_cons_of_pos (by rw [hset]; simp), e1, e2, puts_append, puts_cons]
        refine puts_put _ _ _ _ ?_
        intro x hx t ht
        obtain ⟨hx2, hxl⟩ := List.mem_filter.1 hx
        have := (Oper.apart_spec (hafter x hx2 hxl)).2.1
        intro hd
        have h1 : o.dst = some t := by rw [← ho!, ← hlk _ hlt]; exact hd
        exact this t h1 (by rw [← hlk _ (hxlt x hx2)]; exact ht)
      refine next _ w' T ρ us fo fl ⟨s.hπ, s.hρ, s.hR, ?_, ?_, s.hus, ?_, hI', ?_, ?_, s.hin, s.hout⟩
      · intro j hj
        rw [hset] at hj
        by_cases hji : j = i'
        · subst hji; exact .inl hiT
        · rw [if_neg hji] at hj; exact s.hT j hj
      · intro x hx he
        rw [hset, s.hTe x hx he]; simp
      · rw [s.ha]
        unfold Frm
        cases hfe : fl with
        | none => exact hfr0
        | some u =>
          simp only []
          split
          · exact hfr0
          · rename_i hfT
            rw [← hfr0]
            refine Act.put_comm _ _ _ fun t ht hd => ?_
            have := (Oper.apart_spec (hap3 hfT (by rw [hfe]; rfl))).2.1
            exact this t (by rw [← ho!, ← hlk _ hlt]; exact hd) (by rw [← hlk _ hfs]; exact ht)
      · intro S1 j u S2 hS hj
        rw [hset] at hj
        by_cases hji : j = i'
        · subst hji; simp at hj
        · rw [if_neg hji] at hj
          exact s.hob S1 j u S2 hS hj
      · rw [hset, if_neg (Ne.symm hif)]; exact s.hfl
    · -- an effect
      have hiρ : i ∈ ρ := by
        have := hok.all i hlt
        rw [s.hπ] at this
        exact (List.mem_append.1 this).resolve_left hiT
      rcases s.hρ with rfl | ⟨e, r, rfl, hee⟩
      · cases hiρ
      have hie : i = e := by
        rcases List.mem_cons.1 hiρ with h | h
        · exact h
        · exfalso
          have hd := (hπn (T.map (·.1)) e r s.hπ i h).2.2 hee hif
          have heπ : e ∈ π := by rw [s.hπ]; simp
          have hel := hdl e (hok.lt e heπ) hd
          by_cases hef : e = f
          · subst hef
            have h0 := hn r rfl
            have := s.hfl
            rw [hel, h0] at this; cases this
          · rcases s.hT e hel with hm | hm
            · obtain ⟨l1, l2, hs⟩ := List.append_of_mem hm
              exact (hπn l1 e (l2 ++ e :: r) (by rw [s.hπ, hs]; simp) e (by simp)).1 rfl
            · exact hef hm
      subst hie
      have hec : effs.contains i = true := hee.resolve_right hif
      have hR := s.hR
      unfold RSeqF at hR
      rw [if_neg hif, if_pos hec] at hR
      obtain ⟨hstep, hnext⟩ := hR
      have hfofl : fo = none ∨ fl = fo := by
        by_cases hfT : f ∈ T.map (·.1)
        · exact .inr (s.hin hfT).symm
        · exact .inl (s.hout hfT)
      have hst := hstep fl w hfofl s.hI
      have hbefore : ∀ x ∈ T, listed.getD x.1 false = false → ∀ t, dstOf ops x.1 = some t → t ∉ o.looksAt ops := by
        intro x hx hxl t ht
        obtain ⟨l1, l2, hs⟩ := List.append_of_mem hx
        have hxπ : x.1 ∈ π := by rw [s.hπ, hs]; simp
        have hpr := (hπn (l1.map (·.1)) x.1 (l2.map (·.1) ++ i :: r) (by rw [s.hπ, hs]; simp) i (by simp)).2.1
        have hnd : dep cls i x.1 = false := by
          cases hd : dep cls i x.1 with
          | false => rfl
          | true => have := hdl x.1 (hok.lt _ hxπ) hd; rw [hxl] at this; cases this
        have hap := hapart _ _ (hok.lt _ hxπ) hlt hpr hnd
        rw [ho!] at hap
        exact (Oper.apart_spec hap).1 t (by rw [← hlk _ (hok.lt _ hxπ)]; exact ht)
      have hap3 : f ∉ T.map (·.1) → fl.isSome = true → o.apart ops (ops[f]!) = true := fun h1 h2 => hflo s.hπ h1 ((List.mem_cons.1 (hfρ h1)).resolve_left fun e => hif e.symm) h2
      have hag0 : Agree ops o (puts ops a0 T) (puts ops a0 (T.filter fun x => listed.getD x.1 false)) := agree_filter (fun i => listed.getD i false) T a0 a0 (fun _ _ => rfl) hbefore
      have hag : Agree ops o (puts ops a0 T) a := by
        rw [s.ha]
        unfold Frm
        cases hfe : fl with
        | none => exact hag0
        | some u =>
          simp only []
          split
          · exact hag0
          · rename_i hfT
            exact agree_right hag0 _ _ fun t ht => (Oper.apart_spec (hap3 hfT (by rw [hfe]; rfl))).2.2 t (by rw [← hlk _ hfs]; exact ht)
      have hst' : stepAt P ops i a w (fun v w' => J fl (us ++ [v]) w') := by
        obtain ⟨o', ho', hh⟩ := hst
        obtain rfl : o' = o := Option.some.inj (ho'.symm.trans ho)
        refine ⟨o', ho', ?_⟩
        rw [agree_wanted hag] at hh
        split
        · rename_i hw
          rw [if_pos hw] at hh
          exact gives_congr (agree_exec (fun cs b => hok.sel i o' cs b ho) hag) hh
        · rename_i hw
          rw [if_neg hw] at hh
          exact hh
      refine stepAt_wpOp hst' ?_
      intro v w' hI'
      have hR' := hnext v ⟨fl, w', hI'⟩
      obtain ⟨T', ρ', e1, e2, e3, e4, e5⟩ := segmentF _ _ _ _ hR'
      have hnotT' : ∀ x ∈ T', listed.getD x.1 false = false ∧ x.1 ≠ i := by
        intro x hx
        have hxr : x.1 ∈ r := by rw [e1]; simp; exact .inl ⟨x.2, hx⟩
        have hne := (hπn (T.map (·.1)) i r s.hπ x.1 hxr).1
        refine ⟨?_, hne⟩
        cases hl2 : listed.getD x.1 false with
        | false => rfl
        | true =>
          rcases s.hT x.1 hl2 with hm | hm
          · obtain ⟨l1, l2, hs⟩ := List.append_of_mem hm
            exact absurd rfl (hπn l1 x.1 (l2 ++ i :: r) (by rw [s.hπ, hs]; simp) x.1 (by simp [hxr])).1
          · exact absurd hm (e3 x hx).2
      have hTn : ∀ x ∈ T, x.1 ≠ i := by
        intro x hx e
        exact hiT (by rw [← e]; exact List.mem_map_of_mem hx)
      have hfT2 : f ∈ (T ++ (i, v) :: T').map (·.1) ↔ f ∈ T.map (·.1) := by
        simp only [List.map_append, List.map_cons, List.mem_append, List.mem_cons]
        constructor
        · rintro (h | h | h)
          · exact h
          · exact absurd h.symm hif
          · obtain ⟨y, hy, hye⟩ := List.mem_map.1 h
            exact absurd hye (e3 y hy).2
        · exact .inl
      have f1 : T.filter (fun x => (listed.setIfInBounds i true).getD x.1 false) = T.filter (fun x => listed.getD x.1 false) :=
        List.filter_congr fun x hx => by rw [hset, if_neg (hTn x hx)]
      have f2 : T'.filter (fun x => (listed.setIfInBounds i true).getD x.1 false) = [] := by
        rw [List.filter_eq_nil_iff]
        intro x hx
        rw [hset, if_neg (hnotT' x hx).2, (hnotT' x hx).1]
        exact Bool.false_ne_true
      have hfr0 : (puts ops a0 (T.filter fun x => listed.getD x.1 false)).put (dstOf ops i) v = puts ops a0 ((T ++ (i, v) :: T').filter fun x => (listed.setIfInBounds i true).getD x.1 false) := by
        rw [List.filter_append, List.filter_cons_of_pos (by rw [hset]; simp), f1, f2, puts_append, puts_cons, puts_nil]
      refine next _ w' (T ++ (i, v) :: T') ρ' (us ++ [v]) fo fl ⟨?_, e2, ?_, ?_, ?_, ?_, ?_, hI', ?_, ?_, fun h => s.hin (hfT2.1 h), fun h => s.hout fun h' => h (hfT2.2 h')⟩
      · rw [s.hπ, e1]; simp
      · rw [puts_append, puts_cons]; exact e4
      · intro j hj
        rw [hset] at hj
        by_cases hji : j = i
        · subst hji; exact .inl (by simp)
        · rw [if_neg hji] at hj
          refine (s.hT j hj).imp (fun h => ?_) id
          rw [List.map_append]
          exact List.mem_append_left _ h
      · intro x hx he
        rw [hset]
        rcases List.mem_append.1 hx with hx | hx
        · rw [s.hTe x hx he]; simp
        · rcases List.mem_cons.1 hx with rfl | hx
          · simp
          · rcases he with he | he
            · rw [(e3 x hx).1] at he; cases he
            · exact absurd he (e3 x hx).2
      · have hT'0 : (T'.map (·.1)).filter (fun i => effs.contains i) = [] := by
          rw [List.filter_eq_nil_iff]
          intro x hx
          obtain ⟨y, hy, rfl⟩ := List.mem_map.1 hx
          rw [(e3 y hy).1]; exact Bool.false_ne_true
        simp only [List.map_append, List.map_cons, List.filter_append, List.length_append, List.length_singleton]
        rw [List.filter_cons_of_pos (by exact hec), hT'0, s.hus]
        simp
      · rw [s.ha]
        unfold Frm
        cases hfe : fl with
        | none => exact hfr0
        | some u =>
          simp only []
          by_cases hfT : f ∈ T.map (·.1)
          · rw [if_pos hfT, if_pos (hfT2.2 hfT)]; exact hfr0
          · rw [if_neg hfT, if_neg (fun h => hfT (hfT2.1 h)), ← hfr0]
            refine Act.put_comm _ _ _ fun t ht hd => ?_
            have := (Oper.apart_spec (hap3 hfT (by rw [hfe]; rfl))).2.1
            exact this t (by rw [← ho!, ← hlk _ hlt]; exact hd) (by rw [← hlk _ hfs]; exact ht)
      · intro S1 j u S2 hS hj
        rw [hset] at hj
        by_cases hji : j = i
        · subst hji; simp at hj
        · rw [if_neg hji] at hj
          rcases List.append_eq_append_iff.1 hS with ⟨c, hc1, hc2⟩ | ⟨c, hc1, hc2⟩
          · cases c with
            | nil =>
              obtain ⟨⟨h1, _⟩, _⟩ : (i = j ∧ v = u) ∧ T' = S2 := by simpa using hc2
              exact absurd h1.symm hji
            | cons y c =>
              obtain ⟨rfl, hc3⟩ : (i, v) = y ∧ T' = c ++ (j, u) :: S2 := by simpa using hc2
              have := e5 c j u S2 hc3
              refine ⟨fo, hfofl.imp id Eq.symm, ?_⟩
              rw [hc1, puts_append, puts_cons]
              exact this
          · cases c with
            | nil =>
              obtain ⟨⟨h1, _⟩, _⟩ : (j = i ∧ u = v) ∧ S2 = T' := by simpa using hc2
              exact absurd h1 hji
            | cons y c =>
              obtain ⟨rfl, _⟩ : (j, u) = y ∧ S2 = c ++ (i, v) :: T' := by simpa using hc2
              obtain ⟨fi, h1, h2⟩ := s.hob S1 j u c hc1 hj
              exact ⟨fi, h1, oblF_weaken h2 (List.prefix_append _ _)⟩
      · rw [hset, if_neg (Ne.symm hif)]; exact s.hfl

/-- THE RULE, with one operation that floats. -/
theorem wp_region_rf {id : Nat} {l : List Oper} {a : Act} {w : World} {Q' : Exit → Act → World → Prop} (hm : P.follows .mixedOrders = true) (π effs his cls : List Nat) (f : Nat)
    (hok : okF l.toArray π effs his cls f = true) (J : Option Value → List Value → World → Prop) (h0 : J none [] { w with drawn := w.drawn + 1 })
    (hF : ∀ o, l.toArray[f]? = some o → ∀ us w, J none us w → gives P o a w (fun v w' => J (some v) us w'))
    (h : RSeqF P l.toArray (fun i => effs.contains i) (fun i => his.getD i 1000) f J (fun a w => Q' .normal a w) π [] none a) : (Code.region id l.toArray true).wp P Q' a w := by
  refine wp_region_any hm ?_
  have hk := okF_of hok
  obtain ⟨T, ρ, e1, e2, e3, e4, e5⟩ := segmentF _ _ _ _ h
  have hfalse : ∀ i : Nat, (Array.replicate l.toArray.size false).getD i false = false := by
    intro i
    rw [Array.getD_eq_getD_getElem?, Array.getElem?_replicate]
    split <;> rfl
  obtain ⟨of, hof, hlook, hgrd⟩ := hk.fl
  have hfT : f ∉ T.map (·.1) := fun hm => by
    obtain ⟨x, hx, hxe⟩ := List.mem_map.1 hm
    exact (e3 x hx).2 hxe
  refine simF (Q := fun a w => Q' .normal a w) hk a Q' (fun _ _ h => h) (fun us w hj => ⟨of, hof, ?_⟩) _ _ a _ T ρ [] none none (List.range l.toArray.size) (by simp) (by simp) ?_ List.nodup_range ?_ ⟨e1, e2, e4, ?_, ?_, ?_, ?_, h0, ?_, ?_, fun h => absurd h hfT, fun _ => rfl⟩ (fun _ _ => rfl)
  · have hw : Region.wanted of (yielded l.toArray a.tmps) = true := by unfold Region.wanted; rw [hgrd]
    rw [if_pos hw]
    exact hF of hof us w hj
  · intro i hi
    rw [hfalse]; simpa using hi
  · intro i o _ hi; rw [hfalse] at hi; cases hi
  · intro i hi; rw [hfalse] at hi; cases hi
  · intro x hx he
    rcases he with he | he
    · rw [(e3 x hx).1] at he; cases he
    · exact absurd he (e3 x hx).2
  · have : (T.map (·.1)).filter (fun i => effs.contains i) = [] := by
      rw [List.filter_eq_nil_iff]
      intro x hx
      obtain ⟨y, hy, rfl⟩ := List.mem_map.1 hx
      rw [(e3 y hy).1]; exact Bool.false_ne_true
    rw [this]; rfl
  · have : T.filter (fun x => (Array.replicate l.toArray.size false).getD x.1 false) = [] := by
      rw [List.filter_eq_nil_iff]
      intro x _
      rw [hfalse]; exact Bool.false_ne_true
    unfold Frm
    simp only []
    rw [this]; rfl
  · intro T1 i v T2 hT _
    exact ⟨none, .inl rfl, e5 T1 i v T2 hT⟩
  · rw [hfalse]; rfl

section steps
variable {eff : Nat → Bool} {hi : Nat → Nat} {f : Nat} {J : Option Value → List Value → World → Prop} {Q : Act → World → Prop} {π : List Nat} {us : List Value} {fo : Option Value} {a : Act} {i : Nat} {o : Oper}

theorem rf_nil (h : ∀ w, J fo us w → Q a w) : RSeqF P ops eff hi f J Q [] us fo a := h

theorem rf_quiet (ho : ops[i]? = some o) (hf : (i == f) = false) (he : eff i = false) (hw : Region.wanted o (yielded ops a.tmps) = true) {v : Value}
    (hr : ∀ us' fo' w, us <+: us' → us'.length ≤ hi i → (fo = none ∨ fo' = fo) → J fo' us' w → gives P o a w (fun v' w' => v' = v ∧ J fo' us' w')) (h : RSeqF P ops eff hi f J Q π us fo (a.put o.dst v)) : RSeqF P ops eff hi f J Q (i :: π) us fo a := by
  unfold RSeqF
  rw [if_neg (by simpa using hf), if_neg (by rw [he]; exact Bool.false_ne_true)]
  have hd : dstOf ops i = o.dst := by simp [dstOf, ho]
  exact ⟨v, fun us' fo' w h1 h2 h3 h4 => ⟨o, ho, by rw [if_pos hw]; exact hr us' fo' w h1 h2 h3 h4⟩, by rw [hd]; exact h⟩

theorem rf_sil (ho : ops[i]? = some o) (hf : (i == f) = false) (he : eff i = false) (hw : Region.wanted o (yielded ops a.tmps) = true)
    (h : ∀ K : Act → Prop, (∀ a, RSeqF P ops eff hi f J Q π us fo a → K a) → sil P o a K) : RSeqF P ops eff hi f J Q (i :: π) us fo a :=
  let ⟨_, h1, h2⟩ := h _ (fun _ h => h)
  rf_quiet ho hf he hw (fun _ _ w _ _ _ h4 => gives_value (h1 w) ⟨rfl, h4⟩) h2

theorem rf_rd (ho : ops[i]? = some o) (hf : (i == f) = false) (he : eff i = false) (hw : Region.wanted o (yielded ops a.tmps) = true)
    (h : ∃ v, (∀ us' fo' w, us <+: us' → us'.length ≤ hi i → J fo' us' w → (execOp a.eval o).run P w = .ok (.value v) w) ∧ RSeqF P ops eff hi f J Q π us fo (a.put o.dst v)) : RSeqF P ops eff hi f J Q (i :: π) us fo a :=
  let ⟨_, h1, h2⟩ := h
  rf_quiet ho hf he hw (fun us' fo' w k1 k2 _ k4 => gives_value (h1 us' fo' w k1 k2 k4) ⟨rfl, k4⟩) h2

theorem rf_skip (ho : ops[i]? = some o) (hf : (i == f) = false) (he : eff i = false) (hw : Region.wanted o (yielded ops a.tmps) = false) (h : RSeqF P ops eff hi f J Q π us fo (a.put o.dst undef)) : RSeqF P ops eff hi f J Q (i :: π) us fo a := by
  unfold RSeqF
  rw [if_neg (by simpa using hf), if_neg (by rw [he]; exact Bool.false_ne_true)]
  have hd : dstOf ops i = o.dst := by simp [dstOf, ho]
  exact ⟨undef, fun us' fo' w h1 h2 h3 h4 => ⟨o, ho, by rw [if_neg (by rw [hw]; exact Bool.false_ne_true)]; exact ⟨rfl, h4⟩⟩, by rw [hd]; exact h⟩

theorem rf_eff (ho : ops[i]? = some o) (hf : (i == f) = false) (he : eff i = true) (hw : Region.wanted o (yielded ops a.tmps) = true)
    (hr : ∀ fo' w, (fo = none ∨ fo' = fo) → J fo' us w → gives P o a w (fun v w' => J fo' (us ++ [v]) w')) (h : ∀ v, (∃ fo' w, J fo' (us ++ [v]) w) → RSeqF P ops eff hi f J Q π (us ++ [v]) fo (a.put o.dst v)) : RSeqF P ops eff hi f J Q (i :: π) us fo a := by
  unfold RSeqF
  rw [if_neg (by simpa using hf), if_pos he]
  have hd : dstOf ops i = o.dst := by simp [dstOf, ho]
  exact ⟨fun fo' w h1 h2 => ⟨o, ho, by rw [if_pos hw]; exact hr fo' w h1 h2⟩, fun v hv => by rw [hd]; exact h v hv⟩

theorem rf_fl (ho : ops[i]? = some o) (hf : (i == f) = true) (h : ∀ v, (∃ us' w, J (some v) us' w) → RSeqF P ops eff hi f J Q π us (some v) (a.put o.dst v)) : RSeqF P ops eff hi f J Q (i :: π) us fo a := by
  unfold RSeqF
  rw [if_pos (by simpa using hf)]
  have hd : dstOf ops i = o.dst := by simp [dstOf, ho]
  exact fun v hv => by rw [hd]; exact h v hv
end steps
end
end Go.Proofs.YtihfcjioilmmjaaGreat.Rt
namespace Go.Proofs.YtihfcjioilmmjaaGreat
open Go Go.RowKit
open Go.Lib Go.Proofs

/-- Numbers more, out of whatever slice. -/
theorem append_nums {W : World} {base : Nat} {v : Value} {k : Nat} {xs : List Value} (hown : W.ownsRow base 3 1 v k xs) {u : Value} {l : List Int} (hu : IntsAt W u l) (hk : k + l.length ≤ 1000000) (hb : base ≤ W.heap.size) :
    ∃ v' w', (Builtin.append_ #[35, 35] 35 #[v, u]).run Tryz.prog W = .ok v' w' ∧ w'.ownsRow base 3 1 v' (k + l.length) (xs ++ l.map (Value.int .i64)) ∧ W.grownBy w' v.ownBlock := by
  have hml : (1000000 : Nat) ≤ maxLen := by decide
  obtain ⟨i0, hi, hz0, hz1, hz2⟩ := info_parts vinfo3
  obtain ⟨a, cap, rfl, _, _, _, hc⟩ := hu
  rcases Nat.eq_zero_or_pos l.length with h0 | hpos
  · have h1 : l = [] := List.eq_nil_of_length_eq_zero h0
    subst h1
    cases a with
    | none => exact ⟨v, W, append_none base 35 35 3 i0 1 (by kernel_rfl) hi v k xs hown cap, by simpa using hown, ⟨rfl, rfl, rfl, Nat.le_refl _, fun _ _ _ => rfl⟩⟩
    | some a =>
      obtain ⟨v', w', q1, q2, q3, _, q5⟩ := Go.run_append_own_at (P := Tryz.prog) (w := W) base 35 35 3 i0 _ 1 8 (by kernel_rfl) hi hz0 hz1 hz2 rfl (by decide) v k xs hown a 0 cap [] rfl (fun j u hj => by simp at hj) (fun u hu => by cases hu) (by simp at hk; omega) (by simp at hk; omega) hb
      exact ⟨v', w', q1, by simpa using q2, q3⟩
  · obtain ⟨b, off, rfl, _⟩ := hc 0 (.int .i64 (l[0]'hpos)) (by simp [List.getElem?_eq_getElem hpos])
    obtain ⟨v', w', q1, q2, q3, _, q5⟩ := Go.run_append_own_at (P := Tryz.prog) (w := W) base 35 35 3 i0 _ 1 8 (by kernel_rfl) hi hz0 hz1 hz2 rfl (by decide) v k xs hown ⟨b, off, none⟩ l.length cap (l.map (Value.int .i64)) (by simp) (fun j u hj => by
      obtain ⟨b', off', e, hcell⟩ := hc j u hj
      simp only [Option.some.injEq, Addr.mk.injEq] at e
      obtain ⟨rfl, rfl, _⟩ := e
      unfold Addr.add
      split
      · rename_i hj0; subst hj0; simpa using hcell
      · exact hcell) (fun u hu => by obtain ⟨s, _, rfl⟩ := List.mem_map.1 hu; rfl) (by omega) (by omega) hb
    exact ⟨v', w', q1, q2, q3⟩

/-- What could be read can be read still. -/
def Kc (W W' : World) : Prop := ∀ a v, W.cell? a = some v → W'.cell? a = some v
theorem Kc.of_ext {W W' : World} (h : Ext W W') : Kc W W' := fun _ _ hc => h.cell' hc
theorem SlAt.kc {W W' : World} (h : Kc W W') {v : Value} {k n : Nat} {xs : List Value} (hs : SlAt W v k n xs) : SlAt W' v k n xs := by
  obtain ⟨a, cap, h1, h2, h2', h3, h4⟩ := hs
  exact ⟨a, cap, h1, h2, h2', h3, fun j u hu => let ⟨b, off, e, hc⟩ := h4 j u hu; ⟨b, off, e, h _ _ hc⟩⟩
theorem FactsAt.kc {W W' : World} (h : Kc W W') {v : Value} {l : List Fct} (hs : FactsAt W v l) : FactsAt W' v l := by
  obtain ⟨vs, h1, h2, h3⟩ := hs
  exact ⟨vs, h1, h2.kc h, fun x hx => ⟨⟨(h3 x hx).1.1.kc h, (h3 x hx).1.2⟩, (h3 x hx).2⟩⟩

/-- An empty slice of numbers, made since. -/
def EmptyAt (wr : World) (v : Value) (W : World) : Prop := ∃ b, v = .slice (some ⟨b, 0, none⟩) 0 0 ∧ wr.heap.size ≤ b ∧ W.heap[b]? = some (.cells #[] 3 (0, 0))
theorem EmptyAt.ext {wr : World} {v : Value} {W W' : World} (h : EmptyAt wr v W) (hx : Ext W W') : EmptyAt wr v W' := let ⟨b, h1, h2, h3⟩ := h; ⟨b, h1, h2, hx.obj h3⟩
theorem EmptyAt.owns {wr : World} {v : Value} {W : World} (h : EmptyAt wr v W) : W.ownsRow wr.heap.size 3 1 v 0 [] := by
  obtain ⟨b, rfl, h2, h3⟩ := h
  exact ⟨rfl, .inr ⟨b, 0, #[], rfl, h2, h3, Nat.le_refl _, Nat.zero_le _, rfl, rfl⟩⟩
/-- An append to an empty slice turns nothing that can be read. -/
theorem EmptyAt.kc {wr : World} {v : Value} {W W' : World} (h : EmptyAt wr v W) (hg : W.grownBy W' v.ownBlock) : Kc W W' := fun a u hc => by
  obtain ⟨b, rfl, h2, h3⟩ := h
  have hlt := cell_lt hc
  have hne : a.block ≠ b := fun e => by
    unfold World.cell? at hc
    rw [e, h3] at hc
    simp at hc
  have hk := hg.block a.block hlt (fun e => hne (by simpa [Value.ownBlock] using e))
  rw [World.cell?_of_block hk]
  exact hc
theorem EmptyAt.keep {wr : World} {v u : Value} {W W' : World} (h : EmptyAt wr v W) (hu : EmptyAt wr u W) (hne : v ≠ u) (hg : W.grownBy W' u.ownBlock) : EmptyAt wr v W' := by
  obtain ⟨b, rfl, h2, h3⟩ := h
  obtain ⟨c, rfl, _, _⟩ := hu
  refine ⟨b, rfl, h2, ?_⟩
  have hbk := hg.block b (heap_lt h3) (fun e => hne (by simp only [Value.ownBlock, Option.some.injEq] at e; rw [e]))
  rw [hbk]
  exact h3
theorem EmptyAt.grown {wr : World} {u : Value} {W W' : World} (hx : Ext wr W) (hu : EmptyAt wr u W) (hg : W.grownBy W' u.ownBlock) : Ext wr W' := by
  obtain ⟨c, rfl, h2, _⟩ := hu
  exact Below.grown hx hg hx.size fun j hj => by simp [Value.ownBlock] at hj; omega

/-- In the region that makes a commit: the parents and the withdrawn numbers are copied, the facts too; the slice for the withdrawn may be made at any time. -/
def MrJ (wr : World) (ps : List Int) (adds : List Fct) (ws : List Int) (Out : Value → World → Prop) (fo : Option Value) (us : List Value) (W : World) : Prop := match us with
  | [] => Ext wr W ∧ (∀ v, fo = some v → EmptyAt wr v W)
  | [u1] => Ext wr W ∧ (∀ v, fo = some v → EmptyAt wr v W) ∧ EmptyAt wr u1 W ∧ ∀ v, fo = some v → v ≠ u1
  | [_, u7] => Ext wr W ∧ (∀ v, fo = some v → EmptyAt wr v W) ∧ IntsAt W u7 ps
  | [_, u7, u13] => Ext wr W ∧ (∀ v, fo = some v → EmptyAt wr v W) ∧ IntsAt W u7 ps ∧ FactsAt W u13 adds
  | [_, u7, u13, u20] => fo.isSome = true ∧ Ext wr W ∧ IntsAt W u7 ps ∧ FactsAt W u13 adds ∧ IntsAt W u20 ws
  | _ :: _ :: _ :: _ :: u21 :: _ => fo.isSome = true ∧ Out u21 W

theorem MrJ.pre {wr : World} {ps : List Int} {adds : List Fct} {ws : List Int} {Out : Value → World → Prop} {fo : Option Value} {us : List Value} {W : World} (h : MrJ wr ps adds ws Out fo us W) (hl : us.length ≤ 4) : Ext wr W := by
  match us, h, hl with
  | [], h, _ => exact h.1
  | [_], h, _ => exact h.1
  | [_, _], h, _ => exact h.1
  | [_, _, _], h, _ => exact h.1
  | [_, _, _, _], h, _ => exact h.2.1
  | _ :: _ :: _ :: _ :: _ :: _, _, h => simp at h

/-- The floating slice is made. -/
theorem MrJ.float {wr : World} {ps : List Int} {adds : List Fct} {ws : List Int} {Out : Value → World → Prop} {us : List Value} {W : World} (h : MrJ wr ps adds ws Out none us W) : MrJ wr ps adds ws Out (some (.slice (some ⟨W.heap.size, 0, none⟩) 0 0)) us (W.alloc (.cells #[] 3 (0, 0))) := by
  have hx : Ext W (W.alloc (.cells #[] 3 (0, 0))) := by repeat' (first | with_reducible exact Below.refl _ _ | with_reducible assumption | with_reducible apply Below.drew | with_reducible exact below_drewN (by with_reducible assumption) _ | (with_reducible refine Below.setCell ?_ (by first | exact Nat.le_refl _ | assumption | (simp; done) | omega | (simp; omega)) _) | (with_reducible refine Below.alloc ?_ (by first | exact Nat.le_refl _ | assumption | (simp; done) | omega | (simp; omega)) _) | (with_reducible refine below_putObj ?_ (by first | exact Nat.le_refl _ | assumption | (simp; done) | omega | (simp; omega)) _) | (with_reducible refine below_drawn ?_ _))
  obtain ⟨W', hW⟩ : ∃ W', W' = W.alloc (.cells #[] 3 (0, 0)) := ⟨_, rfl⟩
  have hb : W'.heap[W.heap.size]? = some (.cells #[] 3 (0, 0)) := by rw [hW]; simp only [heap_drawn_get, heap_drew_get, heap_setCell_get, heap_alloc_get, World.size_alloc, World.size_setCell, size_drawn, putObj_get, putObj_size]; (repeat (first | rw [if_pos trivial] | rw [if_pos rfl] | rw [if_neg (by omega)] | rw [if_pos (by omega)]))
  rw [← hW] at hx ⊢
  clear hW
  have he : wr.heap.size ≤ W.heap.size → ∀ v, some (Value.slice (some ⟨W.heap.size, 0, none⟩) 0 0) = some v → EmptyAt wr v W' := fun hpre v hv => by
    obtain rfl := Option.some.inj hv
    exact ⟨W.heap.size, rfl, hpre, hb⟩
  match us, h with
  | [], h => exact ⟨h.1.trans' hx, he h.1.size⟩
  | [_], h =>
    refine ⟨h.1.trans' hx, he h.1.size, h.2.2.1.ext hx, fun v hv => ?_⟩
    obtain rfl := Option.some.inj hv
    obtain ⟨b, rfl, _, hb⟩ := h.2.2.1
    have := heap_lt hb
    intro e
    simp only [Value.slice.injEq, Option.some.injEq, Addr.mk.injEq] at e
    omega
  | [_, _], h => exact ⟨h.1.trans' hx, he h.1.size, h.2.2.ext hx⟩
  | [_, _, _], h => exact ⟨h.1.trans' hx, he h.1.size, h.2.2.1.ext hx, h.2.2.2.ext hx⟩
  | [_, _, _, _], h => cases h.1
  | _ :: _ :: _ :: _ :: _ :: _, h => cases h.1

theorem MrJ.first {wr : World} {ps : List Int} {adds : List Fct} {ws : List Int} {Out : Value → World → Prop} {fo : Option Value} {W : World} (h : MrJ wr ps adds ws Out fo [] W) : MrJ wr ps adds ws Out fo [.slice (some ⟨W.heap.size, 0, none⟩) 0 0] (W.alloc (.cells #[] 3 (0, 0))) := by
  have hx : Ext W (W.alloc (.cells #[] 3 (0, 0))) := by repeat' (first | with_reducible exact Below.refl _ _ | with_reducible assumption | with_reducible apply Below.drew | with_reducible exact below_drewN (by with_reducible assumption) _ | (with_reducible refine Below.setCell ?_ (by first | exact Nat.le_refl _ | assumption | (simp; done) | omega | (simp; omega)) _) | (with_reducible refine Below.alloc ?_ (by first | exact Nat.le_refl _ | assumption | (simp; done) | omega | (simp; omega)) _) | (with_reducible refine below_putObj ?_ (by first | exact Nat.le_refl _ | assumption | (simp; done) | omega | (simp; omega)) _) | (with_reducible refine below_drawn ?_ _))
  obtain ⟨W', hW⟩ : ∃ W', W' = W.alloc (.cells #[] 3 (0, 0)) := ⟨_, rfl⟩
  have hb : W'.heap[W.heap.size]? = some (.cells #[] 3 (0, 0)) := by rw [hW]; simp only [heap_drawn_get, heap_drew_get, heap_setCell_get, heap_alloc_get, World.size_alloc, World.size_setCell, size_drawn, putObj_get, putObj_size]; (repeat (first | rw [if_pos trivial] | rw [if_pos rfl] | rw [if_neg (by omega)] | rw [if_pos (by omega)]))
  rw [← hW] at hx ⊢
  clear hW
  refine ⟨h.1.trans' hx, fun v hv => (h.2 v hv).ext hx, ⟨_, rfl, h.1.size, hb⟩, fun v hv => ?_⟩
  obtain ⟨b, rfl, _, hc⟩ := h.2 v hv
  have := heap_lt hc
  intro e
  simp only [Value.slice.injEq, Option.some.injEq, Addr.mk.injEq] at e
  omega

theorem MrJ.second {wr : World} {ps : List Int} {adds : List Fct} {ws : List Int} {Out : Value → World → Prop} {fo : Option Value} {u1 u : Value} {W : World} (h : MrJ wr ps adds ws Out fo [u1] W) (hu : IntsAt wr u ps) (hl : ps.length ≤ 1000) :
    ∃ v' w', (Builtin.append_ #[35, 35] 35 #[u1, u]).run Tryz.prog W = .ok v' w' ∧ MrJ wr ps adds ws Out fo [u1, v'] w' := by
  obtain ⟨hx, hf, he, hne⟩ := h
  obtain ⟨v', w', q1, q2, q3⟩ := append_nums he.owns (hu.ext hx) (by omega) hx.size
  refine ⟨v', w', q1, EmptyAt.grown hx he q3, fun v hv => (hf v hv).keep he (hne v hv) q3, ?_⟩
  have := SlAt.of_owns q2
  rw [Nat.zero_add, List.nil_append] at this
  exact this

theorem MrJ.third {wr : World} {ps : List Int} {adds : List Fct} {ws : List Int} {Out : Value → World → Prop} {fo : Option Value} {u1 u7 v : Value} {W W' : World} (h : MrJ wr ps adds ws Out fo [u1, u7] W) (hf : FactsAt W' v adds) (hx : Ext W W') : MrJ wr ps adds ws Out fo [u1, u7, v] W' :=
  ⟨h.1.trans' hx, fun v hv => (h.2.1 v hv).ext hx, h.2.2.ext hx, hf⟩

theorem MrJ.fourth {wr : World} {ps : List Int} {adds : List Fct} {ws : List Int} {Out : Value → World → Prop} {v u1 u7 u13 u : Value} {W : World} (h : MrJ wr ps adds ws Out (some v) [u1, u7, u13] W) (hu : IntsAt wr u ws) (hl : ws.length ≤ 1000) :
    ∃ v' w', (Builtin.append_ #[35, 35] 35 #[v, u]).run Tryz.prog W = .ok v' w' ∧ MrJ wr ps adds ws Out (some v) [u1, u7, u13, v'] w' := by
  obtain ⟨hx, hf, hp, ha⟩ := h
  have he := hf v rfl
  obtain ⟨v', w', q1, q2, q3⟩ := append_nums he.owns (hu.ext hx) (by omega) hx.size
  refine ⟨v', w', q1, rfl, EmptyAt.grown hx he q3, hp.kc (he.kc q3), ha.kc (he.kc q3), ?_⟩
  have := SlAt.of_owns q2
  rw [Nat.zero_add, List.nil_append] at this
  exact this

/-- Behind a commit nothing that lay there before the record has turned. -/
theorem ext_keep {w W2 W3 : World} {B : Nat} (h1 : Ext w W2) (hs : w.heap.size ≤ B) (hK : Keep B W2 W3) : Ext w W3 := by
  refine ⟨hK.os.trans h1.os, hK.tape.trans h1.tape, hK.output.trans h1.output, Nat.le_trans h1.size hK.size, fun k hk => ?_⟩
  obtain ⟨o, ho⟩ : ∃ o, w.heap[k]? = some o := ⟨_, Array.getElem?_eq_getElem hk⟩
  rw [ho]
  exact hK.block k o (h1.obj ho) (.inl (by omega))
theorem Keep.owns {B : Nat} {W W' : World} (hK : Keep B W W') {base : Nat} {T : TypeId} {k : Nat} {v : Value} {n : Nat} {xs : List Value} (h : W.ownsRow base T k v n xs) (hT : T ≠ 100 ∧ T ≠ 96 ∧ T ≠ 122) : W'.ownsRow base T k v n xs :=
  owns_keep h fun g cs _ hg => (hK.block g _ hg (.inr fun cs' T' fr' e => by
    injection e with e1 e2 e3
    subst e2
    exact hT)).trans hg.symm

/-- The state of the loop that makes the commits. -/
structure MgI (w : World) (N : Nat) (ops : List OpD) (rb : Nat) (pv : Value) (j : Nat) (R : Rec) (P : List (List Int)) (pvs : List Value) (cm : Nat) (vv fv : Value) (os : List (Option Nat × Option Nat)) (xs : List (List Value)) (B : Nat) (wr : World) : Prop where
  ext : Ext w wr
  base : w.heap.size ≤ B
  reco : RecAt B wr rb R cm vv fv os xs
  hist : Hist R P
  few : P.length ≤ j + 1
  one : 1 ≤ P.length
  row : wr.ownsRow N 35 1 pv P.length pvs
  low : w.heap.size ≤ N
  size : N ≤ wr.heap.size
  pars : ∀ (i : Nat) u ps, pvs[i]? = some u → P[i]? = some ps → IntsAt w u ps
  facts : R.facts.length ≤ 8 * j

/-- What a commit leaves. -/
def MgOut (B : Nat) (wr : World) (rb : Nat) (R : Rec) (cm : Nat) (ps : List Int) (adds : List Fct) (ws : List Int) (u : Value) (W : World) : Prop := ∃ n e : Int, u = .tuple #[.int .i64 n, .int .i64 e] ∧ ((e ≠ 0 ∧ Ext wr W) ∨ (e = 0 ∧ n = (R.vers.length : Int) ∧ ∃ frs la lw v' f' os' xs' W0, ComOk R ps adds ws frs la lw ∧ RecAt B W rb (commitR R frs la lw) cm v' f' os' xs' ∧ Ext wr W0 ∧ Keep B W0 W))

theorem RecAt.frm {B : Nat} {w w' : World} {rb : Nat} {R : Rec} {cm : Nat} {vv fv : Value} {os : List (Option Nat × Option Nat)} {xs : List (List Value)} (h : RecAt B w rb R cm vv fv os xs) {e : TypeId} (hf : Frm e w w') (he : (100 : TypeId) ≠ e ∧ (96 : TypeId) ≠ e ∧ (122 : TypeId) ≠ e ∧ (104 : TypeId) ≠ e ∧ (9 : TypeId) ≠ e) : RecAt B w' rb R cm vv fv os xs :=
  { base := h.base, blk := hf.cells h.blk he.1, cols := hf.map h.cols, colAt := fun c hc => (h.colAt c hc |> hf.colK he.2.2.2.1 he.2.2.2.2)
    vers := hf.owns h.vers he.2.1
    verLen := h.verLen
    verAt := fun i o v ho hv => ⟨hf.mapV (h.verAt i o v ho hv).1, hf.mapV (h.verAt i o v ho hv).2⟩
    facts := hf.owns h.facts he.2.2.1
    factLen := h.factLen, four := h.four, ok := h.ok }

theorem MgI.stay {w : World} {N : Nat} {ops : List OpD} {rb : Nat} {pv : Value} {j : Nat} {R : Rec} {P : List (List Int)} {pvs : List Value} {cm : Nat} {vv fv : Value} {os : List (Option Nat × Option Nat)} {xs : List (List Value)} {B : Nat} {wr W : World} (h : MgI w N ops rb pv j R P pvs cm vv fv os xs B wr) (hx : Ext wr W) {j' : Nat} (hj : j ≤ j') : MgI w N ops rb pv j' R P pvs cm vv fv os xs B W :=
  { ext := h.ext.trans' hx, base := h.base, reco := h.reco.ext hx, hist := h.hist, few := by have := h.few; omega, one := h.one
    row := owns_keep h.row fun g cs _ hg => hx.block g (heap_lt hg)
    low := h.low, size := Nat.le_trans h.size hx.size, pars := h.pars, facts := by have := h.facts; omega }

theorem info35 : (Tryz.prog.info? 35).map (fun i => (i.zero, i.size, i.bytes)) = some (some (.slice none 0 0), 1, 24) := by kernel_rfl

theorem MgI.step {w : World} {N : Nat} {ops : List OpD} {rb : Nat} {pv : Value} {j : Nat} {R : Rec} {P : List (List Int)} {pvs : List Value} {cm : Nat} {vv fv : Value} {os : List (Option Nat × Option Nat)} {xs : List (List Value)} {B : Nat} {wr W W0 : World} (h : MgI w N ops rb pv j R P pvs cm vv fv os xs B wr)
    {ps : List Int} {adds : List Fct} {ws : List Int} {frs : List FR} {la lw : List (Int × Value)} {v' f' : Value} {os' : List (Option Nat × Option Nat)} {xs' : List (List Value)} (hC : ComOk R ps adds ws frs la lw) (hR : RecAt B W rb (commitR R frs la lw) cm v' f' os' xs') (hx : Ext wr W0) (hK : Keep B W0 W) {u : Value} (hu : IntsAt w u ps) (h1 : u.oneCell' = true) (ha : adds.length ≤ 8) (hj : j ≤ 25) (hBN : B ≤ N) :
    ∃ pv' w', (Builtin.append_ #[71, 71] 71 #[pv, .slice (some ⟨W.heap.size, 0, none⟩) 1 1]).run Tryz.prog (W.alloc (.cells #[u] 35 (0, 0))) = .ok pv' w' ∧ MgI w N ops rb pv' (j + 1) (commitR R frs la lw) (P ++ [ps]) (pvs ++ [u]) cm v' f' os' xs' B w' := by
  have hx0 : Ext w W := ext_keep (h.ext.trans' hx) h.base hK
  have hlen := h.row.1
  have hrow0 : W.ownsRow N 35 1 pv P.length pvs := hK.owns (owns_keep h.row fun g cs _ hg => hx.block g (heap_lt hg)) (by decide)
  obtain ⟨W9, hW9⟩ : ∃ W9, W9 = W.alloc (.cells #[u] 35 (0, 0)) := ⟨_, rfl⟩
  have hx9 : Ext W W9 := by rw [hW9]; repeat' (first | with_reducible exact Below.refl _ _ | with_reducible assumption | with_reducible apply Below.drew | with_reducible exact below_drewN (by with_reducible assumption) _ | (with_reducible refine Below.setCell ?_ (by first | exact Nat.le_refl _ | assumption | (simp; done) | omega | (simp; omega)) _) | (with_reducible refine Below.alloc ?_ (by first | exact Nat.le_refl _ | assumption | (simp; done) | omega | (simp; omega)) _) | (with_reducible refine below_putObj ?_ (by first | exact Nat.le_refl _ | assumption | (simp; done) | omega | (simp; omega)) _) | (with_reducible refine below_drawn ?_ _))
  have hb9 : W9.heap[W.heap.size]? = some (.cells #[u] 35 (0, 0)) := by rw [hW9]; simp only [heap_drawn_get, heap_drew_get, heap_setCell_get, heap_alloc_get, World.size_alloc, World.size_setCell, size_drawn, putObj_get, putObj_size]; (repeat (first | rw [if_pos trivial] | rw [if_pos rfl] | rw [if_neg (by omega)] | rw [if_pos (by omega)]))
  have hrow9 : W9.ownsRow N 35 1 pv P.length pvs := owns_keep hrow0 fun g cs _ hg => hx9.block g (heap_lt hg)
  have hN : N ≤ W9.heap.size := Nat.le_trans h.size (Nat.le_trans hx.size (Nat.le_trans hK.size hx9.size))
  rw [← hW9]
  have hml : (1000000 : Nat) ≤ maxLen := by decide
  have hfew := h.few
  obtain ⟨i0, hi, hz0, hz1, hz2⟩ := info_parts info35
  obtain ⟨pv', w', q1, q2, q3, _⟩ := run_append_own (P := Tryz.prog) (w := W9) N 71 71 35 i0 _ 1 24 (by kernel_rfl) hi hz0 hz1 hz2 rfl (by decide) pv P.length pvs hrow9 ⟨W.heap.size, 0, none⟩ 1 1 [u] rfl (fun j u hj => add_cell (by rw [Nat.zero_add, cell_of hb9 j, List.getElem?_toArray]; exact hj)) (fun x hx => by obtain rfl := List.mem_singleton.1 hx; exact h1) (by omega) (by omega) hN
  have hfr := frm_grown hrow9 q3
  refine ⟨pv', w', q1, ?_⟩
  exact
    { ext := (hx0.trans' hx9).grown q3 (Nat.le_trans hx0.size hx9.size) fun k hk => Nat.le_trans h.low (owns_block hrow9 hk).1
      base := h.base
      reco := (hR.ext hx9).frm hfr (by decide)
      hist := h.hist.commit hC
      few := by rw [List.length_append]; simp; omega
      one := by rw [List.length_append]; simp
      row := by rw [List.length_append]; exact q2
      low := h.low
      size := Nat.le_trans hN q3.size
      pars := fun i x ps' hxi hpi => by
        have hpl : pvs.length = P.length := by simpa using hlen
        by_cases hlt : i < P.length
        · rw [List.getElem?_append_left (by omega)] at hxi
          rw [List.getElem?_append_left hlt] at hpi
          exact h.pars i x ps' hxi hpi
        · have hi2 := (List.getElem?_eq_some_iff.1 hpi).1
          simp at hi2
          have e : i = P.length := by omega
          subst e
          rw [List.getElem?_append_right (by omega), hpl, Nat.sub_self] at hxi
          rw [List.getElem?_append_right (Nat.le_refl _), Nat.sub_self] at hpi
          obtain rfl := Option.some.inj hxi
          obtain rfl := Option.some.inj hpi
          exact hu
      facts := by
        have := h.facts
        have := hC.len
        unfold commitR
        simp only [List.length_append]
        omega }

theorem nil_ints (w : World) : IntsAt w (.slice none 0 0) [] := ⟨none, 0, rfl, Nat.le_refl _, Nat.zero_le _, rfl, fun j u hu => by simp at hu⟩
theorem nil_facts (w : World) : FactsAt w (.slice none 0 0) [] := ⟨[], rfl, ⟨none, 0, rfl, Nat.le_refl _, Nat.zero_le _, rfl, fun j u hu => by simp at hu⟩, fun x hx => by cases hx⟩

/-- A merge of two versions is always made. -/
theorem commit_pair {B : Nat} {w : World} {rb : Nat} {R : Rec} {cm : Nat} {vv fv : Value} {os : List (Option Nat × Option Nat)} {xs : List (List Value)} (h : RecAt B w rb R cm vv fv os xs) (hg : Glob w) {pv : Value} {x y : Nat} (hps : IntsAt w pv [(x : Int), (y : Int)]) (hx : x < R.vers.length) (hy : y < R.vers.length) (hne : ¬ (x : Int) = (y : Int)) (hv : R.vers.length < 200) (hf : R.facts.length ≤ 300) :
    Calls Tryz.prog 12 #[encP rb, pv, .slice none 0 0, .slice none 0 0] w fun e W => ∃ la lw v' f' os' xs', e = .returned (.tuple #[.int .i64 (R.vers.length : Int), .int .i64 0]) ∧ ComOk R [(x : Int), (y : Int)] [] [] [] la lw ∧ RecAt B W rb (commitR R [] la lw) cm v' f' os' xs' ∧ Keep B w W := by
  have hhas : ∀ p ∈ [(x : Int), (y : Int)], hasV R p = true := fun p hp => by
    unfold hasV
    rcases List.mem_cons.1 hp with rfl | hp
    · simp; omega
    · obtain rfl := List.mem_singleton.1 hp
      simp; omega
  refine commit_try h hg pv _ _ [(x : Int), (y : Int)] hps (by simp) [] (nil_facts w) (by simp) (fun f hf => by cases hf) [] (nil_ints w) _ ?_ ?_ ?_ ?_ ?_ ?_
  · intro W _ h
    exfalso
    have : parOk [(x : Int), (y : Int)] = true := by
      unfold parOk
      simp [hne]
    rw [this] at h
    cases h
  · rintro W _ _ ⟨p, hp, h⟩
    rw [hhas p hp] at h
    cases h
  · intro W _ _ _ h
    cases h
  · intro W _ h
    exact absurd rfl h
  · rintro W _ (h | h)
    · omega
    · simp at h; omega
  · intro W frs la lw v' f' os' xs' hC hR hK
    obtain rfl : frs = [] := List.eq_nil_of_length_eq_zero hC.len
    exact ⟨la, lw, v', f', os', xs', rfl, hC, hR, hK⟩

/-- What is told of two merges of the same two versions. -/
structure MgEnd (R : Rec) (vx vy : Ver) (la lw la2 lw2 : List (Int × Value)) : Prop where
  same : heldV ⟨la, lw⟩ = heldV ⟨la2, lw2⟩
  some : ∀ n ∈ heldV ⟨la, lw⟩, n ∈ heldV vx ∨ n ∈ heldV vy
  sub : VSub vx vy → heldV ⟨la, lw⟩ = heldV vy
  sub' : VSub vy vx → heldV ⟨la, lw⟩ = heldV vx
  at1 : (commitR (commitR R [] la lw) [] la2 lw2).vers[R.vers.length]? = Option.some ⟨la, lw⟩
  at2 : (commitR (commitR R [] la lw) [] la2 lw2).vers[(commitR R [] la lw).vers.length]? = Option.some ⟨la2, lw2⟩
  len : (commitR (commitR R [] la lw) [] la2 lw2).vers.length = R.vers.length + 2

theorem verOf_get {R : Rec} {x : Nat} {v : Ver} (h : R.vers[x]? = some v) : verOf R (x : Int) = some v := by
  unfold verOf
  rw [if_pos (by omega)]
  exact h

theorem mgEnd {R : Rec} {x y : Nat} {vx vy : Ver} {la lw la2 lw2 : List (Int × Value)} (hvx : R.vers[x]? = some vx) (hvy : R.vers[y]? = some vy) (h : ComOk R [(x : Int), (y : Int)] [] [] [] la lw) (h' : ComOk (commitR R [] la lw) [(y : Int), (x : Int)] [] [] [] la2 lw2) (hok : RecOk (commitR (commitR R [] la lw) [] la2 lw2)) : MgEnd R vx vy la lw la2 lw2 := by
  have hx := (List.getElem?_eq_some_iff.1 hvx).1
  have hy := (List.getElem?_eq_some_iff.1 hvy).1
  have a1 : (commitR (commitR R [] la lw) [] la2 lw2).vers[R.vers.length]? = some ⟨la, lw⟩ := by
    unfold commitR
    simp
  have a2 : (commitR (commitR R [] la lw) [] la2 lw2).vers[(commitR R [] la lw).vers.length]? = some ⟨la2, lw2⟩ := by
    unfold commitR
    simp
  have ax : (commitR (commitR R [] la lw) [] la2 lw2).vers[x]? = some vx := by
    unfold commitR
    rw [List.getElem?_append_left (by simp; omega), List.getElem?_append_left hx]
    exact hvx
  have ay : (commitR (commitR R [] la lw) [] la2 lw2).vers[y]? = some vy := by
    unfold commitR
    rw [List.getElem?_append_left (by simp; omega), List.getElem?_append_left hy]
    exact hvy
  have bx : (commitR R [] la lw).vers[x]? = some vx := by
    unfold commitR
    rw [List.getElem?_append_left hx]
    exact hvx
  have bY : (commitR R [] la lw).vers[y]? = some vy := by
    unfold commitR
    rw [List.getElem?_append_left hy]
    exact hvy
  have s1 := sorted_of hok (List.mem_of_getElem? a1)
  have s2 := sorted_of hok (List.mem_of_getElem? a2)
  have sx := sorted_of hok (List.mem_of_getElem? ax)
  have sy := sorted_of hok (List.mem_of_getElem? ay)
  exact
    { same := merge_comm h h' (verOf_get hvx) (verOf_get hvy) (verOf_get bx) (verOf_get bY) s1 s2
      some := fun n hn => merge_some h (verOf_get hvx) (verOf_get hvy) hn
      sub := fun hs => merge_sub h (verOf_get hvx) (verOf_get hvy) hs s1 sy
      sub' := fun hs => merge_sub' h (verOf_get hvx) (verOf_get hvy) hs s1 sx
      at1 := a1, at2 := a2
      len := by unfold commitR; simp }

/-- A version of which another is made holds no more. -/
theorem Hist.closed {R : Rec} {P : List (List Int)} (h : Hist R P) (top : Ver) : ∀ (k : Nat) ps p, (∃ ver, R.vers[k]? = some ver ∧ VSub ver top) → P[k]? = some ps → p ∈ ps → ∃ q : Nat, p = (q : Int) ∧ q < P.length ∧ ∃ ver, R.vers[q]? = some ver ∧ VSub ver top := by
  rintro k ps p ⟨ver, hv, hs⟩ hp hm
  obtain ⟨i, vp, rfl, h1, h2, h3⟩ := h.sub k ver ps p hv hp hm
  exact ⟨i, rfl, by rw [h.len]; exact (List.getElem?_eq_some_iff.1 h2).1, vp, h2, h3.trans hs⟩

theorem before_hist {w : World} {pv : Value} {R : Rec} {P : List (List Int)} (hh : Hist R P) (h : ParsAt w pv P) (hn : P.length ≤ 1000) {a v : Nat} {va vb : Ver} (ha : R.vers[a]? = some va) (hb : R.vers[v]? = some vb) :
    Calls Tryz.prog 23 #[pv, .int .i64 (a : Int), .int .i64 (v : Int)] w fun e w' => ∃ b, e = .returned (.bool b) ∧ (b = true → VSub va vb) ∧ Ext w w' := by
  refine (before_any h hn a v (by rw [hh.len]; exact (List.getElem?_eq_some_iff.1 ha).1) (by rw [hh.len]; exact (List.getElem?_eq_some_iff.1 hb).1) (fun k => ∃ ver, R.vers[k]? = some ver ∧ VSub ver vb) ⟨vb, hb, VSub.refl vb⟩ (hh.closed vb)).mono ?_
  rintro e w' ⟨b, rfl, hr, hx⟩
  refine ⟨b, rfl, fun h => ?_, hx⟩
  obtain ⟨ver, hv, hs⟩ := hr h
  rw [ha] at hv
  obtain rfl := Option.some.inj hv
  exact hs

end Go.Proofs.YtihfcjioilmmjaaGreat
