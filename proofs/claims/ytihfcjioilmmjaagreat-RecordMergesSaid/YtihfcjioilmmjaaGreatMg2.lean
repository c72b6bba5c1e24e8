/- Parts of a proof, joined: RecordMerges: its walk. Over the given program.; What every row wants. Plain laws over the given program.; RecordMerges: for every input the call returns true, and the input reads as it did. No condition. -/
import Derived.Test.YtihfcjioilmmjaaGreatMg1
import Derived.Test.YtihfcjioilmmjaaGreatNa13
import Derived.Test.YtihfcjioilmmjaaGreatNa15
import Derived.WalkKit
import Derived.WalkSpells
import Derived.WalkLawsBesides
import Derived.Outline
import Derived.BigRegion
import Derived.Deep.QuietTactic
import Derived.BigQuiet
import Derived.StillTailTactics
import Derived.Deep.RegionLaw
import Derived.Deep.LoopGhost
import Derived.Deep.DeepFit
import Derived.Deep.DeepCutAuto
import Derived.Handy
import Derived.Lib.Hide
import Derived.Test.YtihfcjioilmmjaaGreatNa9
import Derived.HandedShaped
import Derived.ProofKit
import Derived.Shelf.Vars
import Derived.Carry
import Derived.Test.YtihfcjioilmmjaaGreatRows
set_option linter.all false
namespace Go.Proofs.YtihfcjioilmmjaaGreat
open Go Go.RowKit
open Go.Lib Go.Proofs

theorem narrow_op {o : OpD} (h : wideOp o = false) : o.parents.length ≤ 8 ∧ o.withdraw.length ≤ 20 ∧ o.add.length ≤ 8 ∧ ∀ f ∈ o.add, f.values.length ≤ 10 ∧ f.subject.size ≤ 60 := by
  unfold wideOp wideFactsF at h
  simp only [Bool.or_eq_false_iff, decide_eq_false_iff_not] at h
  obtain ⟨⟨h1, h2⟩, _, h3, h4, _⟩ := h
  refine ⟨by omega, by omega, by omega, fun f hf => ?_⟩
  have := (List.any_eq_false.1 h1) f hf
  unfold wideFact at this
  simp only [Bool.or_eq_true, decide_eq_true_eq] at this
  omega

theorem tmod_nat (A : Int) (n : Nat) (h : 0 ≤ A) (hn : 1 ≤ n) : ∃ x : Nat, x < n ∧ A.tmod (n : Int) = (x : Int) := by
  have h1 := Int.tmod_nonneg (n : Int) h
  have h2 := Int.tmod_lt_of_pos A (show (0 : Int) < (n : Int) by omega)
  exact ⟨(A.tmod n).toNat, by omega, by omega⟩

set_option maxHeartbeats 16000000 in
set_option maxRecDepth 100000 in
theorem merges_any {w : World} (hg : Glob w) {sv cv : Value} {schema : List Attr} {ops : List OpD} (hatt : AttrsAt w sv schema) (hbig : ∀ a ∈ schema, a.values.length * 16 ≤ 140737488355328) (hops : OpsAt w cv ops) (A B : Int) (hA : 0 ≤ A ∧ A ≤ 255) (hB : 0 ≤ B ∧ B ≤ 255) :
    Calls Tryz.prog 4 #[.agg #[sv, cv, .int .u8 A, .int .u8 B]] w fun e w' => e = .returned (.bool true) ∧ Ext w w' := by
  obtain ⟨vs, hvs, ⟨sp, sc, rfl, hv0⟩, hv1⟩ := id hatt
  obtain ⟨op, oc, rfl, holm, hoel⟩ := hops.at
  clear hvs hv0 hv1 vs
  obtain ⟨W1, hW1⟩ : ∃ W1, W1 = w.alloc (.cells #[.slice sp schema.length sc, .slice op ops.length oc, .int .u8 A, .int .u8 B] 70 (0, 0)) := ⟨_, rfl⟩
  have hx1 : Ext w W1 := by rw [hW1]; repeat' (first | with_reducible exact Below.refl _ _ | with_reducible assumption | with_reducible apply Below.drew | with_reducible exact below_drewN (by with_reducible assumption) _ | (with_reducible refine Below.setCell ?_ (by first | exact Nat.le_refl _ | assumption | (simp; done) | omega | (simp; omega)) _) | (with_reducible refine Below.alloc ?_ (by first | exact Nat.le_refl _ | assumption | (simp; done) | omega | (simp; omega)) _) | (with_reducible refine below_putObj ?_ (by first | exact Nat.le_refl _ | assumption | (simp; done) | omega | (simp; omega)) _) | (with_reducible refine below_drawn ?_ _))
  have hb1 : W1.heap[w.heap.size]? = some (.cells #[.slice sp schema.length sc, .slice op ops.length oc, .int .u8 A, .int .u8 B] 70 (0, 0)) := by rw [hW1]; simp only [heap_drawn_get, heap_drew_get, heap_setCell_get, heap_alloc_get, World.size_alloc, World.size_setCell, size_drawn, putObj_get, putObj_size]; (repeat (first | rw [if_pos trivial] | rw [if_pos rfl] | rw [if_neg (by omega)] | rw [if_pos (by omega)]))
  have HB1 := Lib.hid hb1
  have HX1 := Lib.hid hx1
  have HGLB := Lib.hid hg
  have HATT := Lib.hid hatt
  have HBIG := Lib.hid hbig
  have HOPS := Lib.hid hops
  have HOEL := Lib.hid hoel
  clear hx1 hb1 hg hatt hbig hops hoel
  go_enter Tryz.func4, Tryz.ntmps4
  go_upto_region 1 with fail
  rw [← hW1]
  clear hW1
  refine Rt.wp_region_rt (by kernel_rfl) [0, 1, 2, 3, 4, 5, 6, 7, 8, 9, 10, 11] [] [1000, 1000, 1000, 1000, 1000, 1000, 1000, 1000, 1000, 1000, 1000, 1000] [0, 1, 0, 4, 0, 16, 0, 64, 3, 271, 831, 2047] (by kernel_rfl) (fun _ W => Ext W1 W) ?_ ?_
  · exact below_drawn (ext_refl _) _
  (refine Rt.rs_sil rfl rfl rfl (fun K hK => ?_); go_simp; refine hK _ ?_; clear hK K)
  (refine Rt.rs_rd rfl rfl rfl ?_; apply Exists.intro; refine ⟨fun us' W hp hl hI => ?_, ?_⟩; · (have g1 := cell_of (Ext.obj hI HB1.out) 0; go_simp; rfl)); simp only [Act.put, List.getElem_toArray, List.getElem_cons_succ, List.getElem_cons_zero, List.setIfInBounds_toArray, List.set_cons_succ, List.set_cons_zero]
  (refine Rt.rs_sil rfl rfl rfl (fun K hK => ?_); go_simp; refine hK _ ?_; clear hK K)
  (refine Rt.rs_rd rfl rfl rfl ?_; apply Exists.intro; refine ⟨fun us' W hp hl hI => ?_, ?_⟩; · (have g1 := cell_of (Ext.obj hI HB1.out) 1; go_simp; rfl)); simp only [Act.put, List.getElem_toArray, List.getElem_cons_succ, List.getElem_cons_zero, List.setIfInBounds_toArray, List.set_cons_succ, List.set_cons_zero]
  (refine Rt.rs_sil rfl rfl rfl (fun K hK => ?_); go_simp; refine hK _ ?_; clear hK K)
  (refine Rt.rs_rd rfl rfl rfl ?_; apply Exists.intro; refine ⟨fun us' W hp hl hI => ?_, ?_⟩; · (have g1 := cell_of (Ext.obj hI HB1.out) 2; go_simp; rfl)); simp only [Act.put, List.getElem_toArray, List.getElem_cons_succ, List.getElem_cons_zero, List.setIfInBounds_toArray, List.set_cons_succ, List.set_cons_zero]
  (refine Rt.rs_sil rfl rfl rfl (fun K hK => ?_); go_simp; refine hK _ ?_; clear hK K)
  (refine Rt.rs_rd rfl rfl rfl ?_; apply Exists.intro; refine ⟨fun us' W hp hl hI => ?_, ?_⟩; · (have g1 := cell_of (Ext.obj hI HB1.out) 3; go_simp; rfl)); simp only [Act.put, List.getElem_toArray, List.getElem_cons_succ, List.getElem_cons_zero, List.setIfInBounds_toArray, List.set_cons_succ, List.set_cons_zero]
  iterate 4 (refine Rt.rs_sil rfl rfl rfl (fun K hK => ?_); go_simp; refine hK _ ?_; clear hK K)
  refine Rt.rs_nil (fun W2 hI => ?_)
  have HX2 := Lib.hid (HX1.out.trans' hI)
  have hwide := wide_any (HATT.out.ext HX2.out) (HOPS.out.ext HX2.out)
  have HWIDE := Lib.hid hwide
  clear hwide hI
  go_wp2_with fail
  refine HWIDE.out.mono ?_
  rintro e w3 ⟨b, rfl, hnar, hx3⟩
  have HX3 := Lib.hid (HX2.out.trans' hx3)
  have hkn := fun W (hW : Ext w W) => knows_any W (HGLB.out.ext hW)
  have HKN := Lib.hid hkn
  clear hkn hx3
  cases b with
  | true =>
    clear hnar
    go_wp2_with fail
    refine (HKN.out w3 HX3.out).mono ?_
    rintro e w4 ⟨rfl, hx4⟩
    go_wp2_with fail
    go_ret
    exact ⟨rfl, HX3.out.trans' hx4⟩
  | false =>
    have HNAR := Lib.hid (hnar rfl)
    have hnew := new_any _ schema w3 (HATT.out.ext HX3.out) HBIG.out
    have HNEW := Lib.hid hnew
    clear hnar hnew
    go_wp2_with fail
    refine HNEW.out.mono ?_
    rintro e w4 ⟨hx4, ⟨_, rfl⟩ | ⟨_, rb, cm, vv, cols, hcm, rfl, hrec⟩⟩
    · have HX4 := Lib.hid (HX3.out.trans' hx4)
      clear hx4
      go_wp2_with fail
      refine (HKN.out w4 HX4.out).mono ?_
      rintro e w5 ⟨rfl, hx5⟩
      go_wp2_with fail
      go_ret
      exact ⟨rfl, HX4.out.trans' hx5⟩
    have HSZ := Lib.hid hx4.size
    have HX4 := Lib.hid (HX3.out.trans' hx4)
    obtain ⟨W5, hW5⟩ : ∃ W5, W5 = w4.alloc (.cells #[.slice none 0 0] 35 (0, 0)) := ⟨_, rfl⟩
    have hx5 : Ext w4 W5 := by rw [hW5]; repeat' (first | with_reducible exact Below.refl _ _ | with_reducible assumption | with_reducible apply Below.drew | with_reducible exact below_drewN (by with_reducible assumption) _ | (with_reducible refine Below.setCell ?_ (by first | exact Nat.le_refl _ | assumption | (simp; done) | omega | (simp; omega)) _) | (with_reducible refine Below.alloc ?_ (by first | exact Nat.le_refl _ | assumption | (simp; done) | omega | (simp; omega)) _) | (with_reducible refine below_putObj ?_ (by first | exact Nat.le_refl _ | assumption | (simp; done) | omega | (simp; omega)) _) | (with_reducible refine below_drawn ?_ _))
    have hb5 : W5.heap[w4.heap.size]? = some (.cells #[.slice none 0 0] 35 (0, 0)) := by rw [hW5]; simp only [heap_drawn_get, heap_drew_get, heap_setCell_get, heap_alloc_get, World.size_alloc, World.size_setCell, size_drawn, putObj_get, putObj_size]; (repeat (first | rw [if_pos trivial] | rw [if_pos rfl] | rw [if_neg (by omega)] | rw [if_pos (by omega)]))
    have hI5 : MgI w w4.heap.size ops rb (.slice (some ⟨w4.heap.size, 0, none⟩) 1 1) 0 ⟨cols, [⟨[], []⟩], []⟩ [[]] [.slice none 0 0] cm vv (.slice none 0 0) [(none, none)] [] w3.heap.size W5 :=
      { ext := HX4.out.trans' hx5, base := HX3.out.size, reco := hrec.ext hx5, hist := Hist.new cols, few := by simp, one := by simp
        row := ⟨rfl, .inr ⟨w4.heap.size, 1, _, rfl, Nat.le_refl _, hb5, Nat.le_refl _, by decide, rfl, rfl⟩⟩, low := HX4.out.size, size := hx5.size
        pars := fun i u ps hu hp => by
          match i, hu, hp with
          | 0, hu, hp =>
            obtain rfl := Option.some.inj hu
            obtain rfl := Option.some.inj hp
            exact ⟨none, 0, rfl, Nat.le_refl _, Nat.zero_le _, rfl, fun j u hu => by simp at hu⟩
          | i + 1, hu, _ => simp at hu
        facts := by simp }
    have HI5 := Lib.hid hI5
    have hol := HNAR.out.lenO
    clear hx4 hrec hx5 hb5 hI5
    unfold encP
    go_upto_region 8 with fail
    rw [← hW5]
    clear hW5
    go_wp2_with fail
    go_loopw [9, 10] (fun pv i wr => ∃ (j : Nat) (R : Rec) (P : List (List Int)) (pvs : List Value) (cm : Nat) (vv fv : Value) (os : List (Option Nat × Option Nat)) (xs : List (List Value)), j ≤ ops.length ∧ i = .int .i64 j ∧ MgI w w4.heap.size ops rb pv j R P pvs cm vv fv os xs w3.heap.size wr) (fun _ i _ => ops.length - (intOf i).toNat)
    case atStart => exact ⟨0, _, _, _, _, _, _, _, _, Nat.zero_le _, rfl, HI5.out⟩
    case round =>
      obtain ⟨j, R, P, pvs, cm, vv, fv, os, xs, hj, rfl, hI⟩ := hrel
      obtain ⟨qp, qc, rfl⟩ := owns_form hI.row
      have HI := Lib.hid hI
      by_cases hlt : j < ops.length
      · obtain ⟨o, hoj⟩ : ∃ o, ops[j]? = some o := ⟨_, List.getElem?_eq_getElem hlt⟩
        obtain ⟨b, off, cs, rfl, hop, hc⟩ := HOEL.out j o hoj
        obtain ⟨pv, wv, av, pc, rfl, hpv, hwv, hav, _⟩ := hop.cells
        have hnw := narrow_op (HNAR.out.op o (List.mem_of_getElem? hoj))
        have hbg := hop.big
        obtain ⟨pp, pcap, rfl, _, hpm, _⟩ := id hpv
        obtain ⟨wp, wcap, rfl, _, hwm, _⟩ := id hwv
        have G1 : Hid (wr.cell? ⟨b, off + j * 15 + 1, none⟩ = some (.slice pp o.parents.length pcap)) := hI.ext.cell' (hc 1 _ rfl)
        have GW1 : Hid (w.cell? ⟨b, off + j * 15 + 1, none⟩ = some (.slice pp o.parents.length pcap)) := hc 1 _ rfl
        have G2 : Hid (wr.cell? ⟨b, off + j * 15 + 2, none⟩ = some (.slice wp o.withdraw.length wcap)) := hI.ext.cell' (hc 2 _ rfl)
        have G3 : Hid (wr.cell? ⟨b, off + j * 15 + 3, none⟩ = some (av)) := hI.ext.cell' (hc 3 _ rfl)
        have HPV := Lib.hid (hpv.ext hI.ext)
        have HPV0 := Lib.hid hpv
        have HWV := Lib.hid (hwv.ext hI.ext)
        have HAV := Lib.hid (hav.ext hI.ext)
        have HNW := Lib.hid hnw
        have HBG := Lib.hid hbg
        have HGL := Lib.hid (HGLB.out.ext hI.ext)
        clear hc hop hpv hwv hav hnw hbg hpm hwm hI hoj
        go_upto_region 11 with fail
        refine Rt.wp_region_rf (by kernel_rfl) [0, 2, 3, 4, 5, 6, 8, 9, 10, 11, 12, 15, 16, 17, 18, 19, 1, 7, 13, 14, 20, 21, 22, 23, 24, 25, 26] [1, 7, 13, 20, 21] [4, 1000, 1, 1, 1, 1, 1, 1000, 2, 2, 2, 2, 2, 1000, 1000, 3, 3, 3, 3, 3, 1000, 1000, 1000, 1000, 1000, 1000, 1000] [0, 0, 0, 0, 12, 28, 60, 126, 0, 0, 768, 1792, 3840, 8190, 0, 0, 0, 98304, 229376, 491520, 1048574, 2097151, 4194303, 8388607, 8388607, 16777215, 67108863] 14 (by kernel_rfl) (MrJ wr o.parents o.add o.withdraw (MgOut w3.heap.size wr rb R cm o.parents o.add o.withdraw)) ?_ ?_ ?_
        · exact ⟨below_drawn (ext_refl _) _, fun v hv => by cases hv⟩
        · intro o ho us W hI
          obtain rfl := Option.some.inj ho.symm
          clear ho
          refine Rt.gives_val ?_
          apply Exists.intro
          apply Exists.intro
          refine ⟨by go_simp; exact ⟨rfl, rfl⟩, ?_⟩
          exact hI.float
        iterate 3 (refine Rt.rf_sil rfl rfl rfl rfl (fun K hK => ?_); go_simp; refine hK _ ?_; clear hK K)
        (refine Rt.rf_rd rfl rfl rfl rfl ?_; apply Exists.intro; refine ⟨fun us' fo' W hp hl hI => ?_, ?_⟩; · (skip; go_simp; rfl)); simp only [Act.put, List.getElem_toArray, List.getElem_cons_succ, List.getElem_cons_zero, List.setIfInBounds_toArray, List.set_cons_succ, List.set_cons_zero]
        (refine Rt.rf_sil rfl rfl rfl rfl (fun K hK => ?_); go_simp; refine hK _ ?_; clear hK K)
        (refine Rt.rf_rd rfl rfl rfl rfl ?_; apply Exists.intro; refine ⟨fun us' fo' W hp hl hI => ?_, ?_⟩; · (have hE := hI.pre (Nat.le_trans hl (by decide)); have g1 := hE.cell' G1.out; go_simp; rfl)); simp only [Act.put, List.getElem_toArray, List.getElem_cons_succ, List.getElem_cons_zero, List.setIfInBounds_toArray, List.set_cons_succ, List.set_cons_zero]
        iterate 2 (refine Rt.rf_sil rfl rfl rfl rfl (fun K hK => ?_); go_simp; refine hK _ ?_; clear hK K)
        (refine Rt.rf_rd rfl rfl rfl rfl ?_; apply Exists.intro; refine ⟨fun us' fo' W hp hl hI => ?_, ?_⟩; · (skip; go_simp; rfl)); simp only [Act.put, List.getElem_toArray, List.getElem_cons_succ, List.getElem_cons_zero, List.setIfInBounds_toArray, List.set_cons_succ, List.set_cons_zero]
        (refine Rt.rf_sil rfl rfl rfl rfl (fun K hK => ?_); go_simp; refine hK _ ?_; clear hK K)
        (refine Rt.rf_rd rfl rfl rfl rfl ?_; apply Exists.intro; refine ⟨fun us' fo' W hp hl hI => ?_, ?_⟩; · (have hE := hI.pre (Nat.le_trans hl (by decide)); have g1 := hE.cell' G3.out; go_simp; rfl)); simp only [Act.put, List.getElem_toArray, List.getElem_cons_succ, List.getElem_cons_zero, List.setIfInBounds_toArray, List.set_cons_succ, List.set_cons_zero]
        iterate 2 (refine Rt.rf_sil rfl rfl rfl rfl (fun K hK => ?_); go_simp; refine hK _ ?_; clear hK K)
        (refine Rt.rf_rd rfl rfl rfl rfl ?_; apply Exists.intro; refine ⟨fun us' fo' W hp hl hI => ?_, ?_⟩; · (skip; go_simp; rfl)); simp only [Act.put, List.getElem_toArray, List.getElem_cons_succ, List.getElem_cons_zero, List.setIfInBounds_toArray, List.set_cons_succ, List.set_cons_zero]
        (refine Rt.rf_sil rfl rfl rfl rfl (fun K hK => ?_); go_simp; refine hK _ ?_; clear hK K)
        (refine Rt.rf_rd rfl rfl rfl rfl ?_; apply Exists.intro; refine ⟨fun us' fo' W hp hl hI => ?_, ?_⟩; · (have hE := hI.pre (Nat.le_trans hl (by decide)); have g1 := hE.cell' G2.out; go_simp; rfl)); simp only [Act.put, List.getElem_toArray, List.getElem_cons_succ, List.getElem_cons_zero, List.setIfInBounds_toArray, List.set_cons_succ, List.set_cons_zero]
        refine Rt.rf_eff rfl rfl rfl rfl (fun fo W hfo hI => ?_) (fun v hv => ?_)
        · refine Rt.gives_val ?_
          apply Exists.intro
          apply Exists.intro
          refine ⟨by go_simp; exact ⟨rfl, rfl⟩, ?_⟩
          exact hI.first
        obtain ⟨ab, rfl⟩ : ∃ ab, v = .slice (some ⟨ab, 0, none⟩) 0 0 := let ⟨fo, W, hI⟩ := hv; let ⟨ab, h, _⟩ := hI.2.2.1; ⟨ab, h⟩
        clear hv
        simp only [Act.put, List.getElem_toArray, List.getElem_cons_succ, List.getElem_cons_zero, List.setIfInBounds_toArray, List.set_cons_succ, List.set_cons_zero]
        refine Rt.rf_eff rfl rfl rfl rfl (fun fo W hfo hI => ?_) (fun v hv => ?_)
        · obtain ⟨v', w', q1, q2⟩ := hI.second HPV.out (Nat.le_trans HNW.out.1 (by decide))
          exact gives_append_run _ _ 35 rfl rfl rfl q1 q2
        clear hv
        simp only [Act.put, List.getElem_toArray, List.getElem_cons_succ, List.getElem_cons_zero, List.setIfInBounds_toArray, List.set_cons_succ, List.set_cons_zero]
        refine Rt.rf_eff rfl rfl rfl rfl (fun fo W hfo hI => ?_) (fun v hv => ?_)
        · refine Rt.gives_cal ?_
          apply Exists.intro
          apply Exists.intro
          apply Exists.intro
          refine ⟨by go_simp; exact ⟨⟨rfl, rfl⟩, rfl⟩, ?_⟩
          refine (ownL_any (HAV.out.ext hI.1) (Nat.le_trans HNW.out.2.2.1 (by decide)) (fun f hf => Nat.le_trans (HNW.out.2.2.2 f hf).1 (by decide))).mono ?_
          rintro e W2 ⟨v', rfl, hf, hx⟩
          exact ⟨_, rfl, hI.third hf hx⟩
        clear hv
        simp only [Act.put, List.getElem_toArray, List.getElem_cons_succ, List.getElem_cons_zero, List.setIfInBounds_toArray, List.set_cons_succ, List.set_cons_zero]
        refine Rt.rf_fl rfl rfl (fun v hv => ?_)
        obtain ⟨v14, rfl⟩ : ∃ v14, v14 = v := ⟨_, rfl⟩
        clear hv
        simp only [Act.put, List.getElem_toArray, List.getElem_cons_succ, List.getElem_cons_zero, List.setIfInBounds_toArray, List.set_cons_succ, List.set_cons_zero]
        refine Rt.rf_eff rfl rfl rfl rfl (fun fo W hfo hI => ?_) (fun v hv => ?_)
        · obtain rfl : fo = some v14 := by simpa using hfo
          obtain ⟨v', w', q1, q2⟩ := hI.fourth HWV.out (Nat.le_trans HNW.out.2.1 (by decide))
          exact gives_append_run _ _ 35 rfl rfl rfl q1 q2
        clear hv
        simp only [Act.put, List.getElem_toArray, List.getElem_cons_succ, List.getElem_cons_zero, List.setIfInBounds_toArray, List.set_cons_succ, List.set_cons_zero]
        refine Rt.rf_eff rfl rfl rfl rfl (fun fo W hfo hI => ?_) (fun v hv => ?_)
        · refine Rt.gives_cal ?_
          apply Exists.intro
          apply Exists.intro
          apply Exists.intro
          refine ⟨by go_simp; exact ⟨⟨rfl, rfl⟩, rfl⟩, ?_⟩
          have hfo2 : fo.isSome = true := hI.1
          have hx := hI.2.1
          refine commit_try (HI.out.reco.ext hx) (HGL.out.ext hx) _ _ _ o.parents hI.2.2.1 (Nat.le_trans HNW.out.1 (by decide)) o.add hI.2.2.2.1 (Nat.le_trans HNW.out.2.2.1 (by decide)) (fun f hf => ⟨Nat.lt_of_le_of_lt (HNW.out.2.2.2 f hf).2 (by decide), HBG.out f hf⟩) o.withdraw hI.2.2.2.2 _ ?_ ?_ ?_ ?_ ?_ ?_
          · exact fun W2 hx2 _ => ⟨_, rfl, hfo2, 0, 2, rfl, .inl ⟨by decide, hx.trans' hx2⟩⟩
          · exact fun W2 hx2 _ _ => ⟨_, rfl, hfo2, 0, 110, rfl, .inl ⟨by decide, hx.trans' hx2⟩⟩
          · exact fun W2 hx2 _ _ _ => ⟨_, rfl, hfo2, 0, 112, rfl, .inl ⟨by decide, hx.trans' hx2⟩⟩
          · exact fun W2 hx2 _ => ⟨_, rfl, hfo2, 0, 7, rfl, .inl ⟨by decide, hx.trans' hx2⟩⟩
          · exact fun W2 hx2 _ => ⟨_, rfl, hfo2, 0, 8, rfl, .inl ⟨by decide, hx.trans' hx2⟩⟩
          · exact fun W2 frs la lw v' f' os' xs' hC hR hK => ⟨_, rfl, hfo2, _, 0, rfl, .inr ⟨rfl, rfl, frs, la, lw, v', f', os', xs', W, hC, hR, hx, hK⟩⟩
        obtain ⟨n21, e21, rfl⟩ : ∃ n e : Int, v = .tuple #[.int .i64 n, .int .i64 e] := let ⟨fo, W, hI⟩ := hv; let ⟨n, e, h, _⟩ := hI.2; ⟨n, e, h⟩
        clear hv
        simp only [Act.put, List.getElem_toArray, List.getElem_cons_succ, List.getElem_cons_zero, List.setIfInBounds_toArray, List.set_cons_succ, List.set_cons_zero]
        iterate 5 (refine Rt.rf_sil rfl rfl rfl rfl (fun K hK => ?_); go_simp; refine hK _ ?_; clear hK K)
        refine Rt.rf_nil (fun W6 hI6 => ?_)
        obtain ⟨_, n, e, he, hcase⟩ := hI6
        simp only [Value.tuple.injEq, Array.mk.injEq, List.cons.injEq, Value.int.injEq, true_and, and_true] at he
        obtain ⟨rfl, rfl⟩ := he
        rcases hcase with ⟨hne, hx6⟩ | ⟨rfl, rfl, frs, la, lw, v', f', os', xs', W0, hC, hR, hx0, hK⟩
        · have HI6 := Lib.hid (HI.out.stay hx6 (Nat.le_succ j))
          clear hx6
          go_wp2_with fail
          exact ⟨⟨j + 1, R, P, pvs, cm, vv, fv, os, xs, by omega, rfl, HI6.out⟩, by simp [intOf]; omega⟩
        · have hgo := HI.out.step hC hR hx0 hK HPV0.out rfl HNW.out.2.2.1 (by omega) HSZ.out
          obtain ⟨pv', w10, happ, hnew⟩ := hgo
          have g1 := (ext_keep (HI.out.ext.trans' hx0) HI.out.base hK).cell' GW1.out
          have HAPP := Lib.hid happ
          have HNEWI := Lib.hid hnew
          have e1 := HI.out.hist.len
          rw [← e1]
          clear hC hR hx0 hK happ hnew e1
          go_wp2_with (at_builtin; refine wpList_append_run rfl _ _ 71 rfl rfl rfl HAPP.out ?_)
          exact ⟨⟨j + 1, _, _, _, _, _, _, _, _, by omega, rfl, HNEWI.out⟩, by simp [intOf]; omega⟩
      · obtain rfl : j = ops.length := by omega
        have HOL := Lib.hid hol
        have HDL := Lib.hid hI.hist.len
        have HFEW := Lib.hid hI.few
        have hP : P ≠ [] := fun e => by have := hI.one; rw [e] at this; simp at this
        obtain ⟨x, hx1, hx2⟩ := tmod_nat A P.length hA.1 hI.one
        obtain ⟨y, hy1, hy2⟩ := tmod_nat B P.length hB.1 hI.one
        have hA1 : IntKind.i64.wrap A = A := by rw [IntKind.wrap_i64]; omega
        have hB1 : IntKind.i64.wrap B = B := by rw [IntKind.wrap_i64]; omega
        clear hI
        go_upto_region 16 with fail
        refine Rt.wp_region_rt (by kernel_rfl) [0, 1, 2, 3, 4, 5, 6, 7, 8, 9, 10, 11] [] [1000, 1000, 1000, 1000, 1000, 1000, 1000, 1000, 1000, 1000, 1000, 1000] [0, 1, 0, 4, 15, 0, 32, 0, 128, 480, 31, 2047] (by kernel_rfl) (fun _ W => Ext wr W) ?_ ?_
        · exact below_drawn (ext_refl _) _
        iterate 12 (refine Rt.rs_sil rfl rfl rfl (fun K hK => ?_); go_simp; refine hK _ ?_; clear hK K)
        refine Rt.rs_nil (fun W8 hI => ?_)
        have HI8 := Lib.hid (HI.out.stay hI (Nat.le_refl _))
        clear hI hA1 hB1 hx2 hy2
        by_cases hxy : (x : Int) = y
        · go_wp2_with fail
          refine (HKN.out W8 HI8.out.ext).mono ?_
          rintro e w9 ⟨rfl, hx9⟩
          go_wp2_with fail
          go_ret
          exact ⟨rfl, HI8.out.ext.trans' hx9⟩
        obtain ⟨vx, hvx⟩ : ∃ vx, R.vers[x]? = some vx := ⟨_, List.getElem?_eq_getElem (by rw [← HDL.out]; exact hx1)⟩
        obtain ⟨vy, hvy⟩ : ∃ vy, R.vers[y]? = some vy := ⟨_, List.getElem?_eq_getElem (by rw [← HDL.out]; exact hy1)⟩
        have HVX := Lib.hid hvx
        have HVY := Lib.hid hvy
        clear hvx hvy
        have hf1 := facts_any HI8.out.reco HVX.out
        have HF1 := Lib.hid hf1
        clear hf1
        unfold encP at HF1
        go_wp2_with fail
        refine HF1.out.mono ?_
        rintro e w9 ⟨fxv, rfl, hfx, hx9⟩
        have HFX9 := Lib.hid hfx
        have HI9 := Lib.hid (HI8.out.stay hx9 (Nat.le_refl _))
        have hf2 := facts_any HI9.out.reco HVY.out
        have HF2 := Lib.hid hf2
        clear hf2 hfx hx9
        unfold encP at HF2
        go_wp2_with fail
        refine HF2.out.mono ?_
        rintro e w10 ⟨fyv, rfl, hfy, hx10⟩
        have HFY := Lib.hid hfy
        have HFX := Lib.hid (owns_keep HFX9.out fun g cs _ hg => hx10.block g (heap_lt hg))
        have HI10 := Lib.hid (HI9.out.stay hx10 (Nat.le_refl _))
        clear hfy hx10
        obtain ⟨W11, hW11⟩ : ∃ W11, W11 = w10.alloc (.cells #[.int .i64 (x : Int), .int .i64 (y : Int)] 3 (0, 0)) := ⟨_, rfl⟩
        have hx11 : Ext w10 W11 := by rw [hW11]; repeat' (first | with_reducible exact Below.refl _ _ | with_reducible assumption | with_reducible apply Below.drew | with_reducible exact below_drewN (by with_reducible assumption) _ | (with_reducible refine Below.setCell ?_ (by first | exact Nat.le_refl _ | assumption | (simp; done) | omega | (simp; omega)) _) | (with_reducible refine Below.alloc ?_ (by first | exact Nat.le_refl _ | assumption | (simp; done) | omega | (simp; omega)) _) | (with_reducible refine below_putObj ?_ (by first | exact Nat.le_refl _ | assumption | (simp; done) | omega | (simp; omega)) _) | (with_reducible refine below_drawn ?_ _))
        have hb11 : W11.heap[w10.heap.size]? = some (.cells #[.int .i64 (x : Int), .int .i64 (y : Int)] 3 (0, 0)) := by rw [hW11]; simp only [heap_drawn_get, heap_drew_get, heap_setCell_get, heap_alloc_get, World.size_alloc, World.size_setCell, size_drawn, putObj_get, putObj_size]; (repeat (first | rw [if_pos trivial] | rw [if_pos rfl] | rw [if_neg (by omega)] | rw [if_pos (by omega)]))
        have hp11 : IntsAt W11 (.slice (some ⟨w10.heap.size, 0, none⟩) 2 2) [(x : Int), (y : Int)] := SlAt.of_owns (base := w10.heap.size) (e := 3) ⟨rfl, .inr ⟨w10.heap.size, 2, _, rfl, Nat.le_refl _, hb11, Nat.le_refl _, by decide, rfl, rfl⟩⟩
        have HI11 := Lib.hid (HI10.out.stay hx11 (Nat.le_refl _))
        have HFX11 := Lib.hid (owns_keep HFX.out fun g cs _ hg => hx11.block g (heap_lt hg))
        have HFY11 := Lib.hid (owns_keep HFY.out fun g cs _ hg => hx11.block g (heap_lt hg))
        have hx1v : x < R.vers.length := by rw [← HDL.out]; exact hx1
        have hy1v : y < R.vers.length := by rw [← HDL.out]; exact hy1
        have hvl : R.vers.length ≤ 26 := by rw [← HDL.out]; exact Nat.le_trans HFEW.out (by omega)
        have hfl : R.facts.length ≤ 200 := by have := HI11.out.facts; omega
        have HVL := Lib.hid hvl
        have HFL := Lib.hid hfl
        have hc1 := commit_pair HI11.out.reco (HGLB.out.ext HI11.out.ext) hp11 hx1v hy1v hxy (by omega) (by omega)
        have HC1 := Lib.hid hc1
        clear hc1 hp11 hb11 hx11 hvl hfl hx1v hy1v
        unfold encP at HC1
        go_wp2_with fail
        rw [← hW11]
        clear hW11
        refine HC1.out.mono ?_
        rintro e W12 ⟨la, lw, v1, f1, os1, xs1, rfl, hC1, hR1, hK1⟩
        have hB12 := hK1
        have hP12 : ParsAt W12 (.slice qp P.length qc) P := ⟨pvs, by simpa using HI11.out.row.1, SlAt.of_owns (hK1.owns HI11.out.row (by decide)), fun i u ps hu hp => (HI11.out.pars i u ps hu hp).ext (ext_keep HI11.out.ext HI11.out.base hK1)⟩
        have HX12 := Lib.hid (ext_keep HI11.out.ext HI11.out.base hK1)
        have HFX12 := Lib.hid (hK1.owns HFX11.out (by decide))
        have HFY12 := Lib.hid (hK1.owns HFY11.out (by decide))
        have HP12 := Lib.hid (hK1.owns HI11.out.row (by decide))
        have HC1C := Lib.hid hC1
        have HR1 := Lib.hid hR1
        clear hC1 hR1 hK1 hB12 hP12
        obtain ⟨R1, hR1d⟩ : ∃ R1, R1 = commitR R [] la lw := ⟨_, rfl⟩
        have hl1 : R1.vers.length = R.vers.length + 1 := by rw [hR1d]; unfold commitR; simp
        have hf1 : R1.facts.length = R.facts.length := by rw [hR1d]; unfold commitR; simp
        have HL1 := Lib.hid hl1
        have HF1L := Lib.hid hf1
        have HR1D := Lib.hid hR1d
        rw [← hR1d] at HR1
        clear hl1 hf1 hR1d
        obtain ⟨W13, hW13⟩ : ∃ W13, W13 = W12.alloc (.cells #[.int .i64 (y : Int), .int .i64 (x : Int)] 3 (0, 0)) := ⟨_, rfl⟩
        have hx13 : Ext W12 W13 := by rw [hW13]; repeat' (first | with_reducible exact Below.refl _ _ | with_reducible assumption | with_reducible apply Below.drew | with_reducible exact below_drewN (by with_reducible assumption) _ | (with_reducible refine Below.setCell ?_ (by first | exact Nat.le_refl _ | assumption | (simp; done) | omega | (simp; omega)) _) | (with_reducible refine Below.alloc ?_ (by first | exact Nat.le_refl _ | assumption | (simp; done) | omega | (simp; omega)) _) | (with_reducible refine below_putObj ?_ (by first | exact Nat.le_refl _ | assumption | (simp; done) | omega | (simp; omega)) _) | (with_reducible refine below_drawn ?_ _))
        have hb13 : W13.heap[W12.heap.size]? = some (.cells #[.int .i64 (y : Int), .int .i64 (x : Int)] 3 (0, 0)) := by rw [hW13]; simp only [heap_drawn_get, heap_drew_get, heap_setCell_get, heap_alloc_get, World.size_alloc, World.size_setCell, size_drawn, putObj_get, putObj_size]; (repeat (first | rw [if_pos trivial] | rw [if_pos rfl] | rw [if_neg (by omega)] | rw [if_pos (by omega)]))
        have hp13 : IntsAt W13 (.slice (some ⟨W12.heap.size, 0, none⟩) 2 2) [(y : Int), (x : Int)] := SlAt.of_owns (base := W12.heap.size) (e := 3) ⟨rfl, .inr ⟨W12.heap.size, 2, _, rfl, Nat.le_refl _, hb13, Nat.le_refl _, by decide, rfl, rfl⟩⟩
        have HX13 := Lib.hid (HX12.out.trans' hx13)
        have HFX13 := Lib.hid (owns_keep HFX12.out fun g cs _ hg => hx13.block g (heap_lt hg))
        have HFY13 := Lib.hid (owns_keep HFY12.out fun g cs _ hg => hx13.block g (heap_lt hg))
        have HP13 := Lib.hid (owns_keep HP12.out fun g cs _ hg => hx13.block g (heap_lt hg))
        have hx1v : x < R1.vers.length := by rw [HL1.out, ← HDL.out]; omega
        have hy1v : y < R1.vers.length := by rw [HL1.out, ← HDL.out]; omega
        have hxy2 : ¬ (y : Int) = (x : Int) := fun e => hxy e.symm
        have hvl := HVL.out
        have hfl := HFL.out
        have hc2 := commit_pair (HR1.out.ext hx13) (HGLB.out.ext HX13.out) hp13 hy1v hx1v hxy2 (by rw [HL1.out]; omega) (by rw [HF1L.out]; omega)
        have HC2 := Lib.hid hc2
        clear hc2 hp13 hb13 hx13 hvl hfl hx1v hy1v hxy2
        unfold encP at HC2
        go_wp2_with fail
        rw [← hW13]
        clear hW13
        refine HC2.out.mono ?_
        rintro e W14 ⟨la2, lw2, v2, f2, os2, xs2, rfl, hC2, hR2, hK2⟩
        have hx14 := ext_keep HX13.out HI11.out.base hK2
        have hfx := SlAt.of_owns (hK2.owns HFX13.out (by decide))
        have hfy := SlAt.of_owns (hK2.owns HFY13.out (by decide))
        have hpr := SlAt.of_owns (hK2.owns HP13.out (by decide))
        have hpa : ParsAt W14 (.slice qp P.length qc) P := ⟨pvs, by simpa using HI11.out.row.1, hpr, fun i u ps hu hp => (HI11.out.pars i u ps hu hp).ext hx14⟩
        have hR1d := HR1D.out
        subst hR1d
        have HEND := Lib.hid (mgEnd HVX.out HVY.out HC1C.out hC2 hR2.ok)
        have hr3 := facts_any hR2 HEND.out.at1
        have HR3 := Lib.hid hr3
        have HR2 := Lib.hid hR2
        have HX14 := Lib.hid hx14
        have HFX14 := Lib.hid hfx
        have HFY14 := Lib.hid hfy
        have HP14 := Lib.hid hpa
        clear hC2 hR2 hK2 hx14 hfx hfy hpr hpa hr3
        unfold encP at HR3
        go_wp2_with fail
        refine HR3.out.mono ?_
        rintro e W15 ⟨mv, rfl, hm, hx15⟩
        have HM15 := Lib.hid (SlAt.of_owns hm)
        have hr4 := facts_any (HR2.out.ext hx15) HEND.out.at2
        have HR4 := Lib.hid hr4
        have HX15 := Lib.hid hx15
        clear hr4 hm hx15
        unfold encP at HR4
        go_wp2_with fail
        refine HR4.out.mono ?_
        rintro e W16 ⟨mv2, rfl, hm2, hx16⟩
        have hs := sameInts_any (IntsAt.ext (l := heldV ⟨la, lw⟩) HM15.out hx16) (show IntsAt W16 mv2 (heldV ⟨la2, lw2⟩) from SlAt.of_owns hm2)
        rw [show decide (heldV ⟨la, lw⟩ = heldV ⟨la2, lw2⟩) = true from decide_eq_true HEND.out.same] at hs
        have HS := Lib.hid hs
        have HX16 := Lib.hid (HX15.out.trans' hx16)
        have HX56 := Lib.hid hx16
        clear hs hm2 hx16
        go_wp2_with fail
        refine HS.out.mono ?_
        rintro e W17 ⟨rfl, hx17⟩
        have HX17 := Lib.hid (HX16.out.trans' hx17)
        have hm17 := IntsAt.ext (l := heldV ⟨la, lw⟩) HM15.out (HX56.out.trans' hx17)
        obtain ⟨m, hmd⟩ : ∃ m, m = heldV ⟨la, lw⟩ := ⟨_, rfl⟩
        have HSOME := Lib.hid (show ∀ n ∈ m, n ∈ heldV vx ∨ n ∈ heldV vy by rw [hmd]; exact HEND.out.some)
        have HSUB := Lib.hid (show VSub vx vy → m = heldV vy by rw [hmd]; exact HEND.out.sub)
        have HSUB' := Lib.hid (show VSub vy vx → m = heldV vx by rw [hmd]; exact HEND.out.sub')
        rw [← hmd] at hm17
        have HM17 := Lib.hid hm17
        obtain ⟨ma, mc, rfl, _, hml, hmel⟩ := hm17.form
        unfold maxLen at hml
        have HMEL := Lib.hid hmel
        have HFXQ := Lib.hid (IntsAt.ext (l := heldV vx) HFX14.out HX17.out)
        have HFYQ := Lib.hid (IntsAt.ext (l := heldV vy) HFY14.out HX17.out)
        have HPQ := Lib.hid (HP14.out.ext HX17.out)
        have HRQ := Lib.hid (HR2.out.ext HX17.out)
        have HX0 := Lib.hid (HX14.out.trans' HX17.out)
        have HLEN := Lib.hid HEND.out.len
        have HBXY := Lib.hid (fun W (hW : Ext W17 W) => before_hist HI11.out.hist (HPQ.out.ext hW) (Nat.le_trans HFEW.out (by omega)) HVX.out HVY.out)
        have HBYX := Lib.hid (fun W (hW : Ext W17 W) => before_hist HI11.out.hist (HPQ.out.ext hW) (Nat.le_trans HFEW.out (by omega)) HVY.out HVX.out)
        have hsy : VSub vx vy → ∀ W, Ext W17 W → Calls Tryz.prog 21 #[.slice ma m.length mc, fyv] W fun e w' => e = .returned (.bool true) ∧ Ext W w' := fun hv W hW => by
          have h := sameInts_any (HM17.out.ext hW) (HFYQ.out.ext hW)
          rw [show decide (m = heldV vy) = true from decide_eq_true (HSUB.out hv)] at h
          exact h
        have hsx : VSub vy vx → ∀ W, Ext W17 W → Calls Tryz.prog 21 #[.slice ma m.length mc, fxv] W fun e w' => e = .returned (.bool true) ∧ Ext W w' := fun hv W hW => by
          have h := sameInts_any (HM17.out.ext hW) (HFXQ.out.ext hW)
          rw [show decide (m = heldV vx) = true from decide_eq_true (HSUB'.out hv)] at h
          exact h
        have hvers : ∀ W, Ext W17 W → Calls Tryz.prog 24 #[.pointer (some ⟨rb, 0, none⟩)] W fun e w' => e = .returned (.int .i64 ((P.length : Int) + 2)) ∧ W = w' := fun W hW => by
          have hrq := HRQ.out.ext hW
          obtain ⟨vp, vc, rfl⟩ := owns_form hrq.vers
          have h := versions_any rb vp _ vc W (cell_of hrq.blk 1)
          rw [HLEN.out, ← HDL.out] at h
          exact h
        have HSY := Lib.hid hsy
        have HSX := Lib.hid hsx
        have HVERS := Lib.hid hvers
        have hpw : wrap64 ((P.length : Int) + 2) = (P.length : Int) + 2 := wrap64_small (by have := HFEW.out; omega)
        clear hsy hsx hvers
        clear hm17 hx17 hmel hmd HM15 HX15 HX16 HX56 HX14 HX17 HS HR4 HR3 HEND HR2 HFX14 HFY14 HP14 HC2 HC1C HR1D
        go_wp2_with fail
        go_loopw [24] (fun i wr => ∃ j : Nat, j ≤ m.length ∧ i = .int .i64 j ∧ Hid (Ext W17 wr)) (fun i _ => m.length - (intOf i).toNat)
        case atStart => exact ⟨0, Nat.zero_le _, rfl, ext_refl _⟩
        case round =>
          obtain ⟨j, hj2, rfl, hx⟩ := hrel
          by_cases hlt2 : j < m.length
          · obtain ⟨n, hn⟩ : ∃ n, m[j]? = some n := ⟨_, List.getElem?_eq_getElem hlt2⟩
            obtain ⟨mb, mo, rfl, hmc⟩ := HMEL.out j n hn
            have g1 := hx.out.cell' hmc
            have hs := HSOME.out n (List.mem_of_getElem? hn)
            have hl1 := has_list (HFXQ.out.ext hx.out) n
            have hl2 := has_list (HFYQ.out.ext hx.out) n
            obtain ⟨c1, hc1⟩ : ∃ c1, decide (n ∈ heldV vx) = c1 := ⟨_, rfl⟩
            obtain ⟨c2, hc2⟩ : ∃ c2, decide (n ∈ heldV vy) = c2 := ⟨_, rfl⟩
            have hor : c1 = true ∨ c2 = true := hs.imp (fun h => by rw [← hc1]; exact decide_eq_true h) (fun h => by rw [← hc2]; exact decide_eq_true h)
            rw [hc1] at hl1
            rw [hc2] at hl2
            have HL1 := Lib.hid hl1
            have HL2 := Lib.hid hl2
            have HX := Lib.hid hx.out
            clear hs hl1 hl2 hc1 hc2 hn hmc hx
            go_wp2_with fail
            refine HL1.out.mono ?_
            rintro e w' ⟨rfl, rfl⟩
            cases c1 with
            | true =>
              clear hor
              go_wp2_with fail
              exact ⟨⟨j + 1, by omega, rfl, HX⟩, by simp [intOf]; omega⟩
            | false =>
              obtain rfl : c2 = true := hor.resolve_left (by decide)
              go_wp2_with fail
              refine HL2.out.mono ?_
              rintro e w' ⟨rfl, rfl⟩
              go_wp2_with fail
              exact ⟨⟨j + 1, by omega, rfl, HX⟩, by simp [intOf]; omega⟩
          · obtain rfl : j = m.length := by omega
            have HX := Lib.hid hx.out
            clear hx
            go_wp2_with fail
            refine (HBXY.out _ HX.out).mono ?_
            rintro e W18 ⟨b1, rfl, hr1, hx18⟩
            have HX18 := Lib.hid (HX.out.trans' hx18)
            have HR1b := Lib.hid hr1
            clear hx18 hr1
            cases b1 with
            | false =>
              go_wp2_with fail
              refine (HBYX.out W18 HX18.out).mono ?_
              rintro e W20 ⟨b2, rfl, hr2, hx20⟩
              have HX20 := Lib.hid (HX18.out.trans' hx20)
              have HR2b := Lib.hid hr2
              clear hx20 hr2
              cases b2 with
              | false =>
                go_wp2_with fail
                refine (HVERS.out W20 HX20.out).mono ?_
                rintro e w' ⟨rfl, rfl⟩
                go_wp2_with fail
                refine (HKN.out W20 (HX0.out.trans' HX20.out)).mono ?_
                rintro e w' ⟨rfl, hz⟩
                go_wp2_with fail
                go_ret
                exact ⟨rfl, (HX0.out.trans' HX20.out).trans' hz⟩
              | true =>
                go_wp2_with fail
                refine (HSX.out (HR2b.out (by trivial)) W20 HX20.out).mono ?_
                rintro e W21 ⟨rfl, hx21⟩
                have HX21 := Lib.hid (HX20.out.trans' hx21)
                clear hx21
                go_wp2_with fail
                refine (HVERS.out W21 HX21.out).mono ?_
                rintro e w' ⟨rfl, rfl⟩
                go_wp2_with fail
                refine (HKN.out W21 (HX0.out.trans' HX21.out)).mono ?_
                rintro e w' ⟨rfl, hz⟩
                go_wp2_with fail
                go_ret
                exact ⟨rfl, (HX0.out.trans' HX21.out).trans' hz⟩
            | true =>
              go_wp2_with fail
              refine (HSY.out (HR1b.out (by trivial)) W18 HX18.out).mono ?_
              rintro e W19 ⟨rfl, hx19⟩
              have HX19 := Lib.hid (HX18.out.trans' hx19)
              clear hx19
              go_wp2_with fail
              refine (HBYX.out W19 HX19.out).mono ?_
              rintro e W20 ⟨b2, rfl, hr2, hx20⟩
              have HX20 := Lib.hid (HX19.out.trans' hx20)
              have HR2b := Lib.hid hr2
              clear hx20 hr2
              cases b2 with
              | false =>
                go_wp2_with fail
                refine (HVERS.out W20 HX20.out).mono ?_
                rintro e w' ⟨rfl, rfl⟩
                go_wp2_with fail
                refine (HKN.out W20 (HX0.out.trans' HX20.out)).mono ?_
                rintro e w' ⟨rfl, hz⟩
                go_wp2_with fail
                go_ret
                exact ⟨rfl, (HX0.out.trans' HX20.out).trans' hz⟩
              | true =>
                go_wp2_with fail
                refine (HSX.out (HR2b.out (by trivial)) W20 HX20.out).mono ?_
                rintro e W21 ⟨rfl, hx21⟩
                have HX21 := Lib.hid (HX20.out.trans' hx21)
                clear hx21
                go_wp2_with fail
                refine (HVERS.out W21 HX21.out).mono ?_
                rintro e w' ⟨rfl, rfl⟩
                go_wp2_with fail
                refine (HKN.out W21 (HX0.out.trans' HX21.out)).mono ?_
                rintro e w' ⟨rfl, hz⟩
                go_wp2_with fail
                go_ret
                exact ⟨rfl, (HX0.out.trans' HX21.out).trans' hz⟩

end Go.Proofs.YtihfcjioilmmjaaGreat
namespace Go.Proofs.YtihfcjioilmmjaaGreat
open Go Go.RowKit
open Go.ChangeShapes Go.WideShapes Go.ChangeAt Go.Lib Go.Proofs

theorem ownKnobs : ownKnob Tryz.prog.godebug = none := by kernel_rfl
theorem laidOuts : laidOutB Tryz.prog = true := by kernel_rfl

theorem glob_of {W : World} (h : W.ShapedOpen Tryz.prog) : Glob W :=
  cell_of_shapedOpen_int (g := 0) (t := 3) (zero := #[.int .i64 0]) h (of_decide_eq_true (by kernel_rfl)) (by kernel_rfl) rfl (by kernel_rfl) (by kernel_rfl) Tryz.underlying3

theorem wt_of {H : Type} {t : TypeId} {d : DataW H} (h : (DataW.weightsEach Tryz.prog [t] [d]).all (· ≤ reachBytes) = true) : ∀ k ∈ d.weights Tryz.prog t, k ≤ reachBytes := fun k hk => by
  have := List.all_eq_true.1 h k (weightsEach_mem [t] [d] 0 t d rfl rfl k hk)
  simpa using this


end Go.Proofs.YtihfcjioilmmjaaGreat
namespace Go.Proofs.YtihfcjioilmmjaaGreat
open Go Go.RowKit
open Go.ChangeShapes Go.WideShapes Go.ChangeAt Go.Lib Go.Proofs

theorem cells4of {W : World} {H : Type} {enc : TypeId × Value → H} {n : Nat} {cs : List Value} (h : Rd enc W n 70 cs) : ∃ sv cv schema ops A B, cs = [sv, cv, .int .u8 A, .int .u8 B] ∧ AttrsAt W sv schema ∧ (∀ a ∈ schema, a.values.length * 16 ≤ 140737488355328) ∧ OpsAt W cv ops ∧ (0 ≤ A ∧ A ≤ 255) ∧ 0 ≤ B ∧ B ≤ 255 := by
  obtain ⟨m, rfl, hl, hf⟩ := rd_struct Tryz.underlying70 h
  obtain ⟨a, b, c, d, rfl⟩ := four (hl.trans (by kernel_rfl))
  have h0 := rd_fld cells22 (hf 0 _ rfl)
  have h1 := rd_fld cells38 (hf 1 _ rfl)
  have h2 := rd_fld cells5 (hf 2 _ rfl)
  have h3 := rd_fld cells5 (hf 3 _ rfl)
  obtain ⟨sv, schema, e0, hs, hb⟩ := rd_attrs h0
  obtain ⟨cv, ops, e1, ho⟩ := rd_ops h1
  obtain ⟨A, e2, hA⟩ := rd_int Tryz.underlying5 h2
  obtain ⟨B, e3, hB⟩ := rd_int Tryz.underlying5 h3
  obtain rfl : a = sv := by simpa using e0
  obtain rfl : b = cv := by simpa using e1
  obtain rfl : c = .int .u8 A := by simpa using e2
  obtain rfl : d = .int .u8 B := by simpa using e3
  have k : ∀ i : Int, (Lit.int .u8 i).wf = true → 0 ≤ i ∧ i ≤ 255 := fun i hi => by
    have h0 : IntKind.u8.min = 0 := by decide
    have h1 : IntKind.u8.max = 255 := by decide
    simp [Lit.wf] at hi
    omega
  exact ⟨_, _, schema, ops, A, B, rfl, hs, hb, ho, k A hA, (k B hB).1, (k B hB).2⟩

set_option maxRecDepth 100000 in
theorem merges_lifted (os : Os) (started : os.Started) (H : Type) (enc : TypeId × Value → H) :
    ReturnsInHanded {} Tryz.checked os 4 .any (Rows.recordMergesSpec.pre6 enc Tryz.prog Tryz.f4 Rows.recordMergesRow.domain false) (Rows.recordMergesSpec.post enc Tryz.prog Tryz.f4 false true false false) := by
  refine returnsInHanded_of_change_shaped (C := Tryz.checked) ownKnobs started (by kernel_rfl) Tryz.func4
    (ChangeSpec.witness6 (enc := enc) (C := Tryz.checked) false ⟨#[], #[.agg #[.slice none 0 0, .slice none 0 0, .int .u8 0, .int .u8 0]], []⟩ 8 (by kernel_rfl) (by kernel_rfl) (by kernel_rfl) (by kernel_rfl)) ?_
  intro W base args ds gs before hval0 hW hcnd0 hwt hsh _
  clear hcnd0
  have hval : ∀ (j : Nat) t v, Tryz.f4.params[j]? = some t → args[j]? = some v → Value.okWide Tryz.prog W .any base t v := hval0
  have hW' := hW
  obtain ⟨p, q, hA0, hV, rfl, hfz, hnd⟩ := hW
  have hA : DataW.TrodAll enc Tryz.prog W 0 (fun _ => true) true Tryz.f4.params.toList args.toList ds p := hA0
  rw [Tryz.params4] at hA hval
  obtain ⟨v0, vs0, d0, ds0, p0, q0, hargs, rfl, rfl, h0, r0⟩ := trodAll_cons hA
  obtain ⟨rfl, rfl, rfl⟩ := trodAll_nil r0
  obtain rfl : args = #[v0] := by cases args; simp_all
  obtain ⟨rfl, rfl⟩ := trodVars_none hV
  obtain ⟨cs, rfl, _⟩ := okWide_struct Tryz.underlying70 (hval 0 70 v0 rfl rfl)
  clear hA0 hval0
  have hwt' : (DataW.weightsEach Tryz.prog [70] [d0]).all (· ≤ reachBytes) = true := hwt
  obtain ⟨fuel, hf⟩ := id h0
  have hrd : Rd enc W fuel 70 cs.toList := ⟨_, hf, wt_of hwt'⟩
  obtain ⟨sv, cv, schema, ops, A, B, hcl, hs, hb, ho, hAr, hBr⟩ := cells4of hrd
  have hlt : ∀ x ∈ p0, x.block < W.heap.size := fun x hx => hW'.lt x (by simp [hx])
  have hcs : (.agg cs : Value) = .agg #[sv, cv, .int .u8 A, .int .u8 B] := by
    rw [show cs = cs.toList.toArray by simp, hcl]
  refine (show Calls Tryz.prog 4 #[.agg cs] W _ from ?_)
  rw [hcs]
  refine (merges_any (glob_of hsh) hs hb ho A B hAr hBr).mono ?_
  rintro e W' ⟨rfl, hb⟩
  rw [← hcs]
  exact ⟨_, rfl, _, _, _, [], _, [], hW', trodAll_mk1 (shut_bool Tryz.underlying4 _), trodAll_cons_mk (Below.trod laidOuts (by kernel_rfl) (of_decide_eq_true (by kernel_rfl)) h0 hb hlt) trodAll_mk0, rfl, hb.frame _, fun h => by cases h⟩

/-- The statement. -/
theorem merges_hold : Rows.RecordMergesSaid :=
  OpenClaim.holds_of_wide 4 Tryz.f4 rfl rfl rfl rfl rfl rfl rfl ⟨rfl, rfl, rfl, rfl, rfl⟩ rfl rfl rfl rfl rfl (by kernel_rfl) Tryz.func4 (by kernel_rfl)
    (of_decide_eq_true (by kernel_rfl)) (by unfold Func.isWrapper; first | (rw [if_pos (by decide +kernel)]; kernel_rfl) | (rw [if_neg (by decide +kernel)]; exact ⟨rfl, rfl⟩))
    (fun os started H enc _ => merges_lifted os started H enc)

end Go.Proofs.YtihfcjioilmmjaaGreat
