/- Parts of a proof, joined: (*Record).read, of a pattern without parts. Over the given program.; (*Record).Query, over contracts of read and like. Over the given program.; (*Record).Like, over contracts of read and like. Over the given program.; What a likeness says: plain laws on the worlds.; Query and Like of a pattern without parts, where no subject has parts. Over the given program.; The small record of the examples, as data. Plain laws; no condition.; The law's own small functions: material, and the calls of known(). Over the given program.; What the small record answers to Query and Like. Over the given program.; known() holds: the small record does what the examples say. Over the given program.; How wide an input is: count, over the given program. -/
import Derived.Test.YtihfcjioilmmjaaGreatNa10
import Derived.Test.YtihfcjioilmmjaaGreatNa11
import Derived.Test.YtihfcjioilmmjaaGreatNa12
import Derived.WalkKit
import Derived.WalkSpells
import Derived.WalkLawsBesides
import Derived.Outline
import Derived.BigRegion
import Derived.Deep.QuietTactic
import Derived.BigQuiet
import Derived.StillTailTactics
import Derived.Deep.RegionLaw
import Derived.Deep.LoopGhost
import Derived.Deep.DeepFit
import Derived.Deep.DeepCutAuto
import Derived.Handy
import Derived.Lib.Hide
import Derived.Test.YtihfcjioilmmjaaGreatNa9
set_option linter.all false
namespace Go.Proofs.YtihfcjioilmmjaaGreat
open Go Go.RowKit
open Go.Lib Go.Sort Go.Maps Go.Shelf Go.Proofs

/-- How many columns a question marks. -/
def marksN (R : Rec) (q : Qn) : Nat := (R.cols.filter fun x => (q.marks x.2).isSome).length

/-- What read makes of a pattern without parts. -/
def readF0 (R : Rec) (e : Exp) : Option Qn := match askF R e with
  | none => none
  | some q => if q.size ≤ 30 ∧ marksN R q ≤ 4 then some q else none

theorem cols_nodup {B : Nat} {w : World} {rb : Nat} {R : Rec} {cm : Nat} {vv fv : Value} {os : List (Option Nat × Option Nat)} {xs : List (List Value)} (h : RecAt B w rb R cm vv fv os xs) : (R.cols.map (·.2)).Nodup := by
  have hn := h.ok.names
  rw [List.Nodup, List.pairwise_map] at hn ⊢
  refine hn.imp_of_mem fun {x y} hx hy hne e => hne ?_
  obtain ⟨a, c⟩ := x
  obtain ⟨a', c'⟩ := y
  obtain rfl : c = c' := e
  rw [cols_unique h hx hy]

theorem marks_len {B : Nat} {w : World} {rb : Nat} {R : Rec} {cm : Nat} {vv fv : Value} {os : List (Option Nat × Option Nat)} {xs : List (List Value)} (h : RecAt B w rb R cm vv fv os xs) {Bq : Nat} {W : World} {mb : Nat} {lm : List (Nat × Value)} {q : Qn} (hm : MarksAt Bq R W mb lm q.marks) : lm.length = marksN R q := by
  have h1 := hm.nodup
  have h2 : ((R.cols.filter fun x => (q.marks x.2).isSome).map (·.2)).Nodup := ((List.filter_sublist (l := R.cols) (p := fun x => (q.marks x.2).isSome)).map (fun x : Attr × Nat => x.2)).nodup (cols_nodup h)
  have h3 := nodup_sub h1 (m := (R.cols.filter fun x => (q.marks x.2).isSome).map (·.2)) fun c hc => by
    obtain ⟨x, hx, rfl⟩ := List.mem_map.1 hc
    obtain ⟨a, ha⟩ := hm.cols x hx
    refine List.mem_map.2 ⟨(a, x.1), List.mem_filter.2 ⟨ha, ?_⟩, rfl⟩
    obtain ⟨v, hv⟩ := Option.isSome_iff_exists.1 (look_isSome_iff.2 hc)
    obtain ⟨l, hl, _⟩ := hm.some_ _ v hv
    show (q.marks x.1).isSome = true
    rw [hl]; rfl
  have h4 := nodup_sub h2 (m := lm.map (·.1)) fun c hc => by
    obtain ⟨x, hx, rfl⟩ := List.mem_map.1 hc
    have hs := (List.mem_filter.1 hx).2
    refine look_isSome_iff.1 ?_
    cases hl : look lm x.2 with
    | none => rw [hm.none_ _ hl] at hs; simp at hs
    | some v => rfl
  rw [List.length_map, List.length_map] at h3 h4
  unfold marksN
  omega

theorem owns_low {w : World} {b b' : Nat} {e : TypeId} {k : Nat} {v : Value} {n : Nat} {xs : List Value} (h : w.ownsRow b e k v n xs) (hb : b' ≤ b) : w.ownsRow b' e k v n xs :=
  ⟨h.1, h.2.imp id fun ⟨g, cap, cur, h1, h2, h3⟩ => ⟨g, cap, cur, h1, Nat.le_trans hb h2, h3⟩⟩

theorem QAt.wide {B B' hi hi' : Nat} {R : Rec} {w : World} {qb : Nat} {q : Qn} {tv : Value} {mb : Nat} {lm : List (Nat × Value)} (h : QAt B hi R w qb q tv mb lm) (h1 : B' ≤ B) (h2 : hi ≤ hi') (h3 : hi' ≤ w.heap.size) : QAt B' hi' R w qb q tv mb lm := by
  obtain ⟨g, lb, t1, t2, t3⟩ := h.test
  obtain ⟨b1, b2, b3, b4⟩ := h.bk
  exact { blk := h.blk, test := ⟨g, lb, t1, t2, fun W wb lw ρ hW => t3 W wb lw ρ (hW.mono h1 h2)⟩, hiW := h3, bk := ⟨by omega, by omega, by omega, by omega⟩,
          marks := { h.marks with some_ := fun c v hc => let ⟨l, k1, k2⟩ := h.marks.some_ c v hc; ⟨l, k1, owns_low k2 h1⟩ } }

def ReadPost0 (R : Rec) (x : Exp) (w : World) (e : Ending) (w' : World) : Prop :=
  Ext w w' ∧ ((readF0 R x = none ∧ e = .returned (.tuple #[.pointer none, .int .i64 113])) ∨ ∃ q sb qb tv mb lm, readF0 R x = some q ∧ e = .returned (.tuple #[.pointer (some ⟨sb, 0, none⟩), .int .i64 0]) ∧ QAt w.heap.size w'.heap.size R w' qb q tv mb lm ∧ w'.heap[sb]? = some (.cells #[.pointer (some ⟨qb, 0, none⟩), .slice none 0 0] 163 (0, 0)))

set_option maxHeartbeats 4000000 in
set_option maxRecDepth 100000 in
theorem read0_any {B : Nat} {w : World} {rb : Nat} {R : Rec} {cm : Nat} {vv fv : Value} {os : List (Option Nat × Option Nat)} {xs : List (List Value)} (h : RecAt B w rb R cm vv fv os xs) {x0 : Int} {x1 : ByteArray} {p2 : Option Addr} {n2 c2 : Nat} {x3 x4 : Int} {p5 : Option Addr} {n5 c5 : Nat} {e : Exp} (he : ExpAt w [.int .u8 x0, .string x1, .slice p2 n2 c2, .int .i64 x3, .int .i64 x4, .slice p5 n5 c5] e) (hn : e.nodes ≤ 1000) (p6 : Option Addr) (c6 : Nat) :
    Calls Tryz.prog 47 #[encP rb, .agg #[.int .u8 x0, .string x1, .slice p2 n2 c2, .int .i64 x3, .int .i64 x4, .slice p5 n5 c5, .slice p6 0 c6]] w fun r w' => ReadPost0 R e w r w' := by
  obtain ⟨W1, hW1⟩ : ∃ W1, W1 = w.alloc (.cells #[.int .u8 x0, .string x1, .slice p2 n2 c2, .int .i64 x3, .int .i64 x4, .slice p5 n5 c5, .slice p6 0 c6] 31 (0, 0)) := ⟨_, rfl⟩
  have hx1 : Ext w W1 := by rw [hW1]; repeat' (first | with_reducible exact Below.refl _ _ | with_reducible assumption | with_reducible apply Below.drew | with_reducible exact below_drewN (by with_reducible assumption) _ | (with_reducible refine Below.setCell ?_ (by first | exact Nat.le_refl _ | assumption | (simp; done) | omega | (simp; omega)) _) | (with_reducible refine Below.alloc ?_ (by first | exact Nat.le_refl _ | assumption | (simp; done) | omega | (simp; omega)) _) | (with_reducible refine below_putObj ?_ (by first | exact Nat.le_refl _ | assumption | (simp; done) | omega | (simp; omega)) _) | (with_reducible refine below_drawn ?_ _))
  have hb1 : W1.heap[w.heap.size]? = some (.cells #[.int .u8 x0, .string x1, .slice p2 n2 c2, .int .i64 x3, .int .i64 x4, .slice p5 n5 c5, .slice p6 0 c6] 31 (0, 0)) := by rw [hW1]; simp only [heap_drawn_get, heap_drew_get, heap_setCell_get, heap_alloc_get, World.size_alloc, World.size_setCell, size_drawn, putObj_get, putObj_size]; (repeat (first | rw [if_pos trivial] | rw [if_pos rfl] | rw [if_neg (by omega)] | rw [if_pos (by omega)]))
  have hask := ask_any (h.ext hx1) (he.ext hx1) hn
  replace hask : Calls Tryz.prog 64 #[.pointer (some ⟨rb, 0, none⟩), .agg #[.int .u8 x0, .string x1, .slice p2 n2 c2, .int .i64 x3, .int .i64 x4, .slice p5 n5 c5]] W1 fun r w' => AskPost R e W1 r w' := hask
  have d0 := cell_of hb1 0
  have d1 := cell_of hb1 1
  have d2 := cell_of hb1 2
  have d3 := cell_of hb1 3
  have d4 := cell_of hb1 4
  have d5 := cell_of hb1 5
  have d6 := cell_of hb1 6
  have HASK := Lib.hid hask
  have HREC := Lib.hid h
  have HX1 := Lib.hid hx1
  have HB1 := Lib.hid hb1
  have hmm : ∀ t w, (Instr.makeMap t none).run Tryz.prog w = .ok (.map (some w.heap.size)) (w.alloc (.map #[] 0)) := fun _ _ => rfl
  clear hask h hx1 hb1 he
  unfold encP at *
  go_enter Tryz.func47, Tryz.ntmps47
  go_upto_region 1 with fail
  rw [← hW1]
  clear hW1
  go_wp2_with fail
  refine HASK.out.mono ?_
  rintro r w2 ⟨hx, ⟨hnone, v, rfl⟩ | ⟨q, qb, tv, mb, lm, hsome, rfl, hq⟩⟩
  · clear d0 d1 d2 d3 d4 d5 d6
    go_wp2_with fail
    refine bodyPost_ret (v := .tuple #[.pointer none, .int .i64 113]) (by simp [results, Tryz.results47, go_sem]) rfl ?_
    refine ⟨HX1.out.trans' hx, .inl ⟨?_, rfl⟩⟩
    unfold readF0
    rw [hnone]
  · replace d6 := hx.cell' d6
    clear d0 d1 d2 d3 d4 d5
    simp only [List.getElem_toArray, List.getElem_cons_succ, List.getElem_cons_zero] at d6
    obtain ⟨Wa, hWa⟩ : ∃ Wa, Wa = w2.alloc (.cells #[.pointer (some ⟨qb, 0, none⟩), .slice none 0 0] 163 (0, 0)) := ⟨_, rfl⟩
    have hxa : Ext w2 Wa := by rw [hWa]; repeat' (first | with_reducible exact Below.refl _ _ | with_reducible assumption | with_reducible apply Below.drew | with_reducible exact below_drewN (by with_reducible assumption) _ | (with_reducible refine Below.setCell ?_ (by first | exact Nat.le_refl _ | assumption | (simp; done) | omega | (simp; omega)) _) | (with_reducible refine Below.alloc ?_ (by first | exact Nat.le_refl _ | assumption | (simp; done) | omega | (simp; omega)) _) | (with_reducible refine below_putObj ?_ (by first | exact Nat.le_refl _ | assumption | (simp; done) | omega | (simp; omega)) _) | (with_reducible refine below_drawn ?_ _))
    have hba : Wa.heap[w2.heap.size]? = some (.cells #[.pointer (some ⟨qb, 0, none⟩), .slice none 0 0] 163 (0, 0)) := by rw [hWa]; simp only [heap_drawn_get, heap_drew_get, heap_setCell_get, heap_alloc_get, World.size_alloc, World.size_setCell, size_drawn, putObj_get, putObj_size]; (repeat (first | rw [if_pos trivial] | rw [if_pos rfl] | rw [if_neg (by omega)] | rw [if_pos (by omega)]))
    have hsa : Wa.heap.size = w2.heap.size + 1 := by rw [hWa]; simp
    obtain ⟨W3, hW3⟩ : ∃ W3, W3 = Wa.alloc (.map #[] 0) := ⟨_, rfl⟩
    have hx3' : Ext Wa W3 := by rw [hW3]; repeat' (first | with_reducible exact Below.refl _ _ | with_reducible assumption | with_reducible apply Below.drew | with_reducible exact below_drewN (by with_reducible assumption) _ | (with_reducible refine Below.setCell ?_ (by first | exact Nat.le_refl _ | assumption | (simp; done) | omega | (simp; omega)) _) | (with_reducible refine Below.alloc ?_ (by first | exact Nat.le_refl _ | assumption | (simp; done) | omega | (simp; omega)) _) | (with_reducible refine below_putObj ?_ (by first | exact Nat.le_refl _ | assumption | (simp; done) | omega | (simp; omega)) _) | (with_reducible refine below_drawn ?_ _))
    have hx3 := hxa.trans' hx3'
    have hb3 : W3.heap[w2.heap.size]? = some (.cells #[.pointer (some ⟨qb, 0, none⟩), .slice none 0 0] 163 (0, 0)) := hx3'.obj hba
    have hm3 : MapIs encP W3 (w2.heap.size + 1) [] := by rw [hW3]; unfold MapIs; rw [← hsa]; simp only [heap_drawn_get, heap_drew_get, heap_setCell_get, heap_alloc_get, World.size_alloc, World.size_setCell, size_drawn, putObj_get, putObj_size]; (repeat (first | rw [if_pos trivial] | rw [if_pos rfl] | rw [if_neg (by omega)] | rw [if_pos (by omega)])); rfl
    have hml := marks_len HREC.out hq.marks
    have hl1 : ∀ z, (Builtin.len_ #[166] z #[.map (some mb)]).run Tryz.prog W3 = .ok (.int .i64 (lm.length : Int)) W3 := fun z => run_lenMap (K := 101) (E := 35) (by kernel_rfl) (hq.marks.map.ext hx3) z
    have hl2 : ∀ z, (Builtin.len_ #[169] z #[.map (some (w2.heap.size + 1))]).run Tryz.prog W3 = .ok (.int .i64 0) W3 := fun z => run_lenMap (K := 101) (E := 3) (by kernel_rfl) hm3 z
    have q1 : W3.cell? ⟨qb, 1, none⟩ = some (.int .i64 (q.size : Int)) := cell_of (hq.ext hx3).blk 1
    have q2 : W3.cell? ⟨qb, 2, none⟩ = some (.map (some mb)) := cell_of (hq.ext hx3).blk 2
    have q10 : Wa.cell? ⟨qb, 1, none⟩ = some (.int .i64 (q.size : Int)) := cell_of (hq.ext hxa).blk 1
    have d63 : W3.cell? ⟨w.heap.size, 6, none⟩ = some (.slice p6 0 c6) := (hx.trans' hx3).cell' (cell_of HB1.out 6)
    have HQ := Lib.hid hq
    have HX := Lib.hid hx
    have HX3 := Lib.hid hx3
    have HB3 := Lib.hid hb3
    have HML := Lib.hid hml
    have HSO := Lib.hid hsome
    clear hq hx hx3 hb3 hm3 hml hsome hxa hba hx3'
    go_upto_region 5 with fail
    rw [← hWa]
    clear hWa d6
    go_upto_region 7 with fail
    rw [← hW3]
    clear hW3 q10
    go_wp2_with fail
    clear d63
    go_loopw [9, 42] (fun z i wr => z = .int .i64 (q.size : Int) ∧ i = .int .i64 0 ∧ wr = W3) (fun _ _ _ => 0)
    case atStart => exact ⟨rfl, rfl, rfl⟩
    case round =>
      obtain ⟨rfl, rfl, rfl⟩ := hrel
      by_cases hz : 30 < q.size
      · go_wp2_with fail
        refine bodyPost_ret (v := .tuple #[.pointer none, .int .i64 113]) (by simp [results, Tryz.results47, go_sem]) rfl ?_
        refine ⟨(HX1.out.trans' HX.out).trans' HX3.out, .inl ⟨?_, rfl⟩⟩
        unfold readF0
        rw [HSO.out]
        show (if q.size ≤ 30 ∧ marksN R q ≤ 4 then some q else none) = none
        rw [if_neg (by omega)]
      · by_cases hm : 4 < lm.length
        · go_wp2_with fail
          refine bodyPost_ret (v := .tuple #[.pointer none, .int .i64 113]) (by simp [results, Tryz.results47, go_sem]) rfl ?_
          refine ⟨(HX1.out.trans' HX.out).trans' HX3.out, .inl ⟨?_, rfl⟩⟩
          unfold readF0
          rw [HSO.out]
          show (if q.size ≤ 30 ∧ marksN R q ≤ 4 then some q else none) = none
          rw [if_neg (by rw [← HML.out]; omega)]
        · go_wp2_with fail
          refine bodyPost_ret (v := .tuple #[.pointer (some ⟨w2.heap.size, 0, none⟩), .int .i64 0]) (by simp [results, Tryz.results47, go_sem]) rfl ?_
          refine ⟨(HX1.out.trans' HX.out).trans' HX3.out, .inr ⟨q, w2.heap.size, qb, tv, mb, lm, ?_, rfl, ?_, HB3.out⟩⟩
          · unfold readF0
            rw [HSO.out]
            show (if q.size ≤ 30 ∧ marksN R q ≤ 4 then some q else none) = some q
            rw [if_pos ⟨by omega, by rw [← HML.out]; omega⟩]
          · exact (HQ.out.ext HX3.out).wide HX1.out.size HX3.out.size (Nat.le_refl _)

end Go.Proofs.YtihfcjioilmmjaaGreat
namespace Go.Proofs.YtihfcjioilmmjaaGreat
open Go Go.RowKit
open Go.Lib Go.Sort Go.Maps Go.Shelf Go.Proofs

theorem held_len {R : Rec} (hok : RecOk R) {ver : Ver} (hv : ver ∈ R.vers) : (heldF R ver).length ≤ 300 := by
  obtain ⟨k1, _, k3⟩ := hok.keys ver hv
  have h1 := nodup_bound R.facts.length (ver.added.map (·.1)) k1 k3
  have h2 := hok.facts
  have h3 : (heldV ver).length ≤ (ver.added.map (·.1)).length := by
    unfold heldV
    exact Nat.le_trans (List.length_filter_le _ _) (by rw [List.length_mergeSort]; exact Nat.le_refl _)
  have h4 : (heldF R ver).length = (heldV ver).length := List.length_map _
  omega

theorem subsV_len (hf : List (Int × FR)) (h : hf.length ≤ 300) : (subsV hf).length ≤ 600 := by
  have h1 : (subsV hf).length ≤ (sortB (subsL hf)).length := compact_le _
  have h2 : (sortB (subsL hf)).length = (subsL hf).length := by unfold sortB; rw [List.length_mergeSort, List.length_map]
  have h3 := subsL_len hf
  omega

theorem info64 : (Tryz.prog.info? 64).map (fun i => (i.zero, i.size, i.bytes)) = some (some (.agg #[.string ⟨#[]⟩, .int .u8 0]), 2, 24) := by kernel_rfl

/-- A match more. -/
theorem append_match {W : World} {base : Nat} {v : Value} {k : Nat} {xs row : List Value} (hown : W.ownsRow base 64 2 v k xs) (ab m : Nat) (hl : row.length = m * 2) (hrow : ∀ j u, row[j]? = some u → W.cell? ⟨ab, 0 + j, none⟩ = some u) (h1 : ∀ u ∈ row, u.oneCell' = true) (hk : k + m ≤ 1000000) (hb : base ≤ W.heap.size) (c : Nat) :
    ∃ v' w', (Builtin.append_ #[55, 55] 55 #[v, .slice (some ⟨ab, 0, none⟩) m c]).run Tryz.prog W = .ok v' w' ∧ w'.ownsRow base 64 2 v' (k + m) (xs ++ row) ∧ W.grownBy w' v.ownBlock := by
  have hml : (1000000 : Nat) ≤ maxLen := by decide
  obtain ⟨i0, hi, hz0, hz1, hz2⟩ := info_parts info64
  obtain ⟨v', w', q1, q2, q3, _⟩ := run_append_own (P := Tryz.prog) (w := W) base 55 55 64 i0 _ 2 24 (by kernel_rfl) hi hz0 hz1 hz2 rfl (by decide) v k xs hown ⟨ab, 0, none⟩ m c row hl (fun j u hj => add_cell (hrow j u hj)) h1 (by omega) (by omega) hb
  exact ⟨v', w', q1, q2, q3⟩

/-- What read gives, told by what is known of the pattern. -/
def ReadRel (S : Nat → World → Prop) (bad : Prop) (w : World) (r : Ending) (w' : World) : Prop :=
  Ext w w' ∧ ((bad ∧ r = .returned (.tuple #[.pointer none, .int .i64 113])) ∨ ∃ sb, r = .returned (.tuple #[.pointer (some ⟨sb, 0, none⟩), .int .i64 0]) ∧ S sb w')

/-- The matches of some subjects with their likenesses. -/
def matchL (l : List (List UInt8)) (ks : List Int) : List (List UInt8 × Int) := (l.zip ks).filter fun x => decide (x.2 ≠ 3)
def matchCells (x : List UInt8 × Int) : List Value := [encStr x.1, .int .u8 x.2]
theorem matchL_snoc (l : List (List UInt8)) (t : List UInt8) (ks : List Int) (k : Int) (h : ks.length = l.length) : matchL (l ++ [t]) (ks ++ [k]) = if k = 3 then matchL l ks else matchL l ks ++ [(t, k)] := by
  unfold matchL
  rw [List.zip_append h.symm, List.filter_append]
  by_cases hk : k = 3 <;> simp [hk]
theorem matchL_le (l : List (List UInt8)) (ks : List Int) : (matchL l ks).length ≤ l.length := Nat.le_trans (List.length_filter_le _ _) (by rw [List.length_zip]; omega)

def KsOk (LK : ByteArray → Int → Prop) (l : List (List UInt8)) (ks : List Int) : Prop := ks.length = l.length ∧ ∀ (i : Nat) t k, l[i]? = some t → ks[i]? = some k → LK (ofBytes t) k ∧ 1 ≤ k ∧ k ≤ 3

theorem KsOk.snoc {LK : ByteArray → Int → Prop} {l : List (List UInt8)} {ks : List Int} (h : KsOk LK l ks) {t : List UInt8} {k : Int} (hk : LK (ofBytes t) k ∧ 1 ≤ k ∧ k ≤ 3) : KsOk LK (l ++ [t]) (ks ++ [k]) := by
  refine ⟨by simp [h.1], fun i t' k' ht hk' => ?_⟩
  by_cases hi : i < l.length
  · rw [List.getElem?_append_left hi] at ht
    rw [List.getElem?_append_left (by rw [h.1]; exact hi)] at hk'
    exact h.2 i t' k' ht hk'
  · rw [List.getElem?_append_right (by omega)] at ht
    rw [List.getElem?_append_right (by rw [h.1]; omega), h.1] at hk'
    cases hz : i - l.length with
    | zero =>
      rw [hz] at ht hk'
      obtain rfl : t = t' := by simpa using ht
      obtain rfl : k = k' := by simpa using hk'
      exact hk
    | succ n => rw [hz] at ht; simp at ht

/-- What Query gives. -/
def QueryRel (hf : List (Int × FR)) (bad : Prop) (LK : ByteArray → Int → Prop) (w : World) (r : Ending) (w' : World) : Prop :=
  Ext w w' ∧ ((bad ∧ r = .returned (.tuple #[.slice none 0 0, .int .i64 113])) ∨ (tooMany hf = true ∧ r = .returned (.tuple #[.slice none 0 0, .int .i64 5])) ∨
    (tooMany hf = false ∧ ∃ v ks, r = .returned (.tuple #[v, .int .i64 0]) ∧ KsOk LK (wholesV hf) ks ∧ w'.ownsRow w.heap.size 64 2 v (matchL (wholesV hf) ks).length ((matchL (wholesV hf) ks).flatMap matchCells)))

set_option maxHeartbeats 4000000 in
set_option maxRecDepth 100000 in
theorem query_any {B : Nat} {w : World} {rb : Nat} {R : Rec} {cm : Nat} {vv fv : Value} {os : List (Option Nat × Option Nat)} {xs : List (List Value)} (h : RecAt B w rb R cm vv fv os xs) (hg : Glob w) {iv : Nat} {ver : Ver} (hv : R.vers[iv]? = some ver)
    (x0 : Int) (x1 : ByteArray) (p2 : Option Addr) (n2 c2 : Nat) (x3 x4 : Int) (p5 : Option Addr) (n5 c5 : Nat) (p6 : Option Addr) (n6 c6 : Nat) (S : Nat → World → Prop) (hS : ∀ sb W W', S sb W → Ext W W' → S sb W') (bad : Prop) (LK : ByteArray → Int → Prop)
    (hread : ∀ W, Ext w W → Calls Tryz.prog 47 #[encP rb, .agg #[.int .u8 x0, .string x1, .slice p2 n2 c2, .int .i64 x3, .int .i64 x4, .slice p5 n5 c5, .slice p6 n6 c6]] W (ReadRel S bad W))
    (hlike : ∀ (W : World) (sb B2 vb : Nat) (sv : Value) (mp mk mf md : Nat) (lp : List (ByteArray × Value)) (lk lf ld : List ((ByteArray × Nat) × Value)) (t : List UInt8), Ext w W → S sb W → ViewAt B2 W vb (heldF R ver) sv mp mk mf md lp lk lf ld → t ∈ wholesV (heldF R ver) →
      Calls Tryz.prog 49 #[.pointer (some ⟨vb, 0, none⟩), .string (ofBytes t), .pointer (some ⟨sb, 0, none⟩)] W fun e w' => ∃ k, e = .returned (.int .u8 k) ∧ (LK (ofBytes t) k ∧ 1 ≤ k ∧ k ≤ 3) ∧ Ext W w') :
    Calls Tryz.prog 14 #[encP rb, .int .i64 (iv : Int), .agg #[.int .u8 x0, .string x1, .slice p2 n2 c2, .int .i64 x3, .int .i64 x4, .slice p5 n5 c5, .slice p6 n6 c6]] w fun r w' => QueryRel (heldF R ver) bad LK w r w' := by
  have hvm : ver ∈ R.vers := List.mem_of_getElem? hv
  have hsl := subsV_len _ (held_len h.ok hvm)
  have hwl : (wholesV (heldF R ver)).length ≤ 600 := Nat.le_trans (List.length_filter_le _ _) hsl
  obtain ⟨vp, vc, rfl⟩ := owns_form h.vers
  obtain ⟨W1, hW1⟩ : ∃ W1, W1 = w.alloc (.cells #[.int .u8 x0, .string x1, .slice p2 n2 c2, .int .i64 x3, .int .i64 x4, .slice p5 n5 c5, .slice p6 n6 c6] 31 (0, 0)) := ⟨_, rfl⟩
  have hx1 : Ext w W1 := by rw [hW1]; repeat' (first | with_reducible exact Below.refl _ _ | with_reducible assumption | with_reducible apply Below.drew | with_reducible exact below_drewN (by with_reducible assumption) _ | (with_reducible refine Below.setCell ?_ (by first | exact Nat.le_refl _ | assumption | (simp; done) | omega | (simp; omega)) _) | (with_reducible refine Below.alloc ?_ (by first | exact Nat.le_refl _ | assumption | (simp; done) | omega | (simp; omega)) _) | (with_reducible refine below_putObj ?_ (by first | exact Nat.le_refl _ | assumption | (simp; done) | omega | (simp; omega)) _) | (with_reducible refine below_drawn ?_ _))
  have hb1 : W1.heap[w.heap.size]? = some (.cells #[.int .u8 x0, .string x1, .slice p2 n2 c2, .int .i64 x3, .int .i64 x4, .slice p5 n5 c5, .slice p6 n6 c6] 31 (0, 0)) := by rw [hW1]; simp only [heap_drawn_get, heap_drew_get, heap_setCell_get, heap_alloc_get, World.size_alloc, World.size_setCell, size_drawn, putObj_get, putObj_size]; (repeat (first | rw [if_pos trivial] | rw [if_pos rfl] | rw [if_neg (by omega)] | rw [if_pos (by omega)]))
  have hr1 : W1.cell? ⟨rb, 1, none⟩ = some (.slice vp R.vers.length vc) := hx1.cell' (cell_of h.blk 1)
  have hck := checkVersion_any rb vp R.vers.length vc (iv : Int) W1 hr1
  have hi : iv < R.vers.length := (List.getElem?_eq_some_iff.1 hv).1
  rw [show (if decide (0 ≤ (iv : Int)) && decide ((iv : Int) < (R.vers.length : Int)) then (0 : Int) else 110) = 0 by simp [hi]] at hck
  have hrd := hread W1 hx1
  have d0 := cell_of hb1 0
  have d1 := cell_of hb1 1
  have d2 := cell_of hb1 2
  have d3 := cell_of hb1 3
  have d4 := cell_of hb1 4
  have d5 := cell_of hb1 5
  have d6 := cell_of hb1 6
  have HCK := Lib.hid hck
  have HRD := Lib.hid hrd
  have HREC := Lib.hid h
  have HGLB := Lib.hid hg
  have HV := Lib.hid hv
  have HS := Lib.hid hS
  have HLIKE := Lib.hid hlike
  have HX1 := Lib.hid hx1
  have HSL := Lib.hid hsl
  obtain ⟨hf, hhf⟩ : ∃ hf, heldF R ver = hf := ⟨_, rfl⟩
  rw [hhf] at HLIKE HSL hwl ⊢
  have HHF := Lib.hid hhf
  clear hck hrd h hg hv hS hlike hx1 hb1 hr1 hread hvm hsl hhf hi
  unfold encP at *
  go_enter Tryz.func14, Tryz.ntmps14
  go_upto_region 1 with fail
  rw [← hW1]
  clear hW1
  go_wp2_with fail
  refine HCK.out.mono ?_
  rintro e w1 ⟨rfl, rfl⟩
  go_wp2_with fail
  refine HRD.out.mono ?_
  rintro e w2 ⟨hx2, ⟨hbad, rfl⟩ | ⟨sb, rfl, hsb⟩⟩
  · go_wp2_with fail
    refine bodyPost_ret (v := .tuple #[.slice none 0 0, .int .i64 113]) (by simp [results, Tryz.results14, go_sem]) rfl ?_
    exact ⟨HX1.out.trans' hx2, .inl ⟨hbad, rfl⟩⟩
  have HX2 := Lib.hid (HX1.out.trans' hx2)
  have HSB := Lib.hid hsb
  have hlook := look_any (HREC.out.ext HX2.out) (HGLB.out.ext HX2.out) HV.out
  unfold encP at hlook
  rw [HHF.out] at hlook
  have HLOOK := Lib.hid hlook
  clear hx2 hsb hlook d0 d1 d2 d3 d4 d5 d6
  go_wp2_with fail
  refine HLOOK.out.mono ?_
  rintro e w3 ⟨vb, sv, mp, mk, mf, md, lp, lk, lf, ld, rfl, hV, hx3⟩
  have hwh := wholes_any hV (by have := HSL.out; omega)
  have HWH := Lib.hid hwh
  have HVW := Lib.hid hV
  have HX3 := Lib.hid (HX2.out.trans' hx3)
  have HSB3 := Lib.hid (HS.out sb w2 w3 HSB.out hx3)
  clear hwh hV hx3
  go_wp2_with fail
  refine HWH.out.mono ?_
  rintro e w4 ⟨⟨hto, rfl⟩ | ⟨hto, v, rfl, hrow⟩, hx4⟩
  · have HX4 := Lib.hid (HX3.out.trans' hx4)
    clear hx4
    go_wp2_with fail
    go_loopw [13, 42] (fun v i wr => v = .slice none 0 0 ∧ i = .int .i64 0 ∧ wr = w4) (fun _ _ _ => 0)
    case atStart => exact ⟨rfl, rfl, rfl⟩
    case round =>
      obtain ⟨rfl, rfl, rfl⟩ := hrel
      go_wp2_with fail
      refine bodyPost_ret (v := .tuple #[.slice none 0 0, .int .i64 5]) (by simp [results, Tryz.results14, go_sem]) rfl ?_
      exact ⟨HX4.out, .inr (.inl ⟨hto, rfl⟩)⟩
  obtain ⟨l, hl⟩ : ∃ l, wholesV hf = l := ⟨_, rfl⟩
  rw [hl] at hrow HLIKE hwl
  obtain ⟨lp', lc', rfl⟩ := owns_form hrow
  have hel : ∀ (j : Nat) t, l[j]? = some t → ∃ g, lp' = some ⟨g, 0, none⟩ ∧ w4.cell? ⟨g, j, none⟩ = some (encStr t) := fun j t ht => by
    have hlt := (List.getElem?_eq_some_iff.1 ht).1
    rcases hrow.2 with ⟨_, h0⟩ | ⟨g, cap, cur, he, _, hgg, _, _, _, ht'⟩
    · omega
    · simp only [Value.slice.injEq] at he
      refine ⟨g, he.1, ?_⟩
      rw [cell_of hgg]
      have h2 : (l.map encStr)[j]? = some (encStr t) := by rw [List.getElem?_map, ht]; rfl
      rw [← ht', List.getElem?_take] at h2
      split at h2
      · simpa using h2
      · cases h2
  have HX4 := Lib.hid (HX3.out.trans' hx4)
  have HSB4 := Lib.hid (HS.out sb w3 w4 HSB3.out hx4)
  have HV4 := Lib.hid (HVW.out.ext hx4)
  have HEL := Lib.hid hel
  have HL := Lib.hid hl
  have HTO := Lib.hid hto
  clear hx4 hrow hel hl hto
  go_wp2_with fail
  go_loopw [13, 42] (fun v i wr => ∃ (j : Nat) (ks : List Int), j ≤ l.length ∧ i = .int .i64 j ∧ Ext w4 wr ∧ KsOk LK (l.take j) ks ∧ wr.ownsRow w4.heap.size 64 2 v (matchL (l.take j) ks).length ((matchL (l.take j) ks).flatMap matchCells)) (fun _ i _ => l.length - (intOf i).toNat)
  case atStart => exact ⟨0, [], Nat.zero_le _, rfl, ext_refl _, ⟨rfl, fun i t k h => by simp at h⟩, World.ownsRow_nil _ _ _ _⟩
  case round =>
    obtain ⟨j, ks, hj, rfl, hx, hks, hrow⟩ := hrel
    have HXR := Lib.hid hx
    have HXW := Lib.hid (HX4.out.trans' hx)
    have HKS := Lib.hid hks
    obtain ⟨op, oc, rfl⟩ := owns_form hrow
    have HROW := Lib.hid hrow
    by_cases hlt : j < l.length
    · obtain ⟨t, ht⟩ : ∃ t, l[j]? = some t := ⟨_, List.getElem?_eq_getElem hlt⟩
      obtain ⟨tb, rfl, hct0⟩ := HEL.out j t ht
      have hct : wr.cell? ⟨tb, j, none⟩ = some (encStr t) := hx.cell' hct0
      rw [show encStr t = .string (ofBytes t) from rfl] at hct
      have htk : l.take (j + 1) = l.take j ++ [t] := by rw [List.take_add_one, ht]; rfl
      have hcall := HLIKE.out wr sb _ vb sv mp mk mf md lp lk lf ld t HXW.out (HS.out sb w4 wr HSB4.out hx) (HV4.out.ext hx) (List.mem_of_getElem? ht)
      obtain ⟨s, hs⟩ : ∃ s, ofBytes t = s := ⟨_, rfl⟩
      rw [hs] at hct hcall
      have hle : (matchL (l.take j) ks).length ≤ 600 := by
        have h1 := matchL_le (l.take j) ks
        rw [List.length_take] at h1
        omega
      have HTK := Lib.hid htk
      have HSE := Lib.hid hs
      have HCALL := Lib.hid hcall
      clear htk hs hcall hx hks hrow hct0 ht
      go_wp2_with fail
      refine HCALL.out.mono ?_
      rintro e w5 ⟨k, rfl, hk, hx5⟩
      have hk13 := hk.2
      have hms := matchL_snoc (l.take j) t ks k HKS.out.1
      rw [← HTK.out] at hms
      have hks' : Hid (KsOk LK (l.take (j + 1)) (ks ++ [k])) := by
        rw [HTK.out]
        exact HKS.out.snoc (by rw [HSE.out]; exact hk)
      have HMS := Lib.hid hms
      have HX5 := Lib.hid (HXR.out.trans' hx5)
      have HROW5 := Lib.hid (owns_keep HROW.out fun g cs _ hgg => hx5.block g (heap_lt hgg))
      have hsz5 := (HXR.out.trans' hx5).size
      clear hms hx5 hk hct
      by_cases hk3 : k = 3
      · subst hk3
        go_wp2_with fail
        refine ⟨⟨j + 1, ks ++ [3], by omega, rfl, HX5.out, hks'.out, ?_⟩, by simp [intOf]; omega⟩
        have h2 := HMS.out
        rw [if_pos trivial] at h2
        rw [h2]; exact HROW5.out
      · have hk3' : (k != 3) = true := by rw [bne_iff_ne]; exact hk3
        obtain ⟨W9, hW9⟩ : ∃ W9, W9 = w5.alloc (.cells #[.string s, .int .u8 k] 64 (0, 0)) := ⟨_, rfl⟩
        have hx9 : Ext w5 W9 := by rw [hW9]; repeat' (first | with_reducible exact Below.refl _ _ | with_reducible assumption | with_reducible apply Below.drew | with_reducible exact below_drewN (by with_reducible assumption) _ | (with_reducible refine Below.setCell ?_ (by first | exact Nat.le_refl _ | assumption | (simp; done) | omega | (simp; omega)) _) | (with_reducible refine Below.alloc ?_ (by first | exact Nat.le_refl _ | assumption | (simp; done) | omega | (simp; omega)) _) | (with_reducible refine below_putObj ?_ (by first | exact Nat.le_refl _ | assumption | (simp; done) | omega | (simp; omega)) _) | (with_reducible refine below_drawn ?_ _))
        have hb9 : W9.heap[w5.heap.size]? = some (.cells #[.string s, .int .u8 k] 64 (0, 0)) := by rw [hW9]; simp only [heap_drawn_get, heap_drew_get, heap_setCell_get, heap_alloc_get, World.size_alloc, World.size_setCell, size_drawn, putObj_get, putObj_size]; (repeat (first | rw [if_pos trivial] | rw [if_pos rfl] | rw [if_neg (by omega)] | rw [if_pos (by omega)]))
        have hrow9 := owns_keep HROW5.out fun g cs _ hgg => hx9.block g (heap_lt hgg)
        obtain ⟨v', w10, happ, hrow', hgrow⟩ := append_match (row := [.string s, .int .u8 k]) hrow9 w5.heap.size 1 rfl (fun k u hj => by rw [Nat.zero_add, cell_of hb9 k, List.getElem?_toArray]; exact hj) (fun u hu => by simp at hu; rcases hu with rfl | rfl <;> rfl) (by omega) (Nat.le_trans hsz5 hx9.size) 1
        have hx10 : Ext w4 w10 := (HX5.out.trans' hx9).grown hgrow (Nat.le_trans HX5.out.size hx9.size) fun k hk => (owns_block hrow9 hk).1
        rw [hW9] at happ
        have HAPP := Lib.hid happ
        have HX10 := Lib.hid hx10
        have HROW' := Lib.hid hrow'
        clear hW9 hx9 hb9 hrow9 happ hrow' hgrow hx10
        go_wp2_with (at_builtin; refine wpList_append_run rfl _ _ 55 rfl rfl rfl HAPP.out ?_)
        refine ⟨⟨j + 1, ks ++ [k], by omega, rfl, HX10.out, hks'.out, ?_⟩, by simp [intOf]; omega⟩
        have h2 := HMS.out
        rw [if_neg hk3] at h2
        rw [h2, List.length_append, List.flatMap_append, List.flatMap_cons, List.flatMap_nil, List.append_nil, show matchCells (t, k) = [.string s, .int .u8 k] from congrArg (fun z => [Value.string z, .int .u8 k]) HSE.out]
        exact HROW'.out
    · obtain rfl : j = l.length := by omega
      have hta : l.take l.length = l := List.take_length
      clear hx hks hrow
      go_wp2_with fail
      refine bodyPost_ret (v := .tuple #[.slice op (matchL (l.take l.length) ks).length oc, .int .i64 0]) (by simp [results, Tryz.results14, go_sem]) rfl ?_
      refine ⟨HXW.out, .inr (.inr ⟨HTO.out, _, ks, rfl, ?_, ?_⟩)⟩
      · rw [HL.out, ← hta]; exact HKS.out
      · rw [HL.out]
        have h1 := owns_low HROW.out HX4.out.size
        rw [hta] at h1 ⊢
        exact h1

end Go.Proofs.YtihfcjioilmmjaaGreat
namespace Go.Proofs.YtihfcjioilmmjaaGreat
open Go Go.RowKit
open Go.Lib Go.Sort Go.Maps Go.Shelf Go.Proofs

/-- What Like gives. -/
def LikeRel (hf : List (Int × FR)) (s : ByteArray) (bad : Prop) (LK : ByteArray → Int → Prop) (w : World) (r : Ending) (w' : World) : Prop :=
  Ext w w' ∧ ((nm s = false ∧ r = .returned (.tuple #[.int .u8 0, .int .i64 2])) ∨ (nm s = true ∧ bad ∧ r = .returned (.tuple #[.int .u8 0, .int .i64 113])) ∨
    (nm s = true ∧ 12 < (partsV hf s).length ∧ r = .returned (.tuple #[.int .u8 0, .int .i64 5])) ∨
    (nm s = true ∧ (partsV hf s).length ≤ 12 ∧ ∃ k, r = .returned (.tuple #[.int .u8 k, .int .i64 0]) ∧ LK s k ∧ 1 ≤ k ∧ k ≤ 3))

set_option maxHeartbeats 4000000 in
set_option maxRecDepth 100000 in
theorem like_any {B : Nat} {w : World} {rb : Nat} {R : Rec} {cm : Nat} {vv fv : Value} {os : List (Option Nat × Option Nat)} {xs : List (List Value)} (h : RecAt B w rb R cm vv fv os xs) (hg : Glob w) {iv : Nat} {ver : Ver} (hv : R.vers[iv]? = some ver) (s : ByteArray) (hs : s.size ≤ maxLen)
    (x0 : Int) (x1 : ByteArray) (p2 : Option Addr) (n2 c2 : Nat) (x3 x4 : Int) (p5 : Option Addr) (n5 c5 : Nat) (p6 : Option Addr) (n6 c6 : Nat) (S : Nat → World → Prop) (hS : ∀ sb W W', S sb W → Ext W W' → S sb W') (bad : Prop) (LK : ByteArray → Int → Prop)
    (hread : ∀ W, Ext w W → Calls Tryz.prog 47 #[encP rb, .agg #[.int .u8 x0, .string x1, .slice p2 n2 c2, .int .i64 x3, .int .i64 x4, .slice p5 n5 c5, .slice p6 n6 c6]] W (ReadRel S bad W))
    (hlike : ∀ (W : World) (sb B2 vb : Nat) (sv : Value) (mp mk mf md : Nat) (lp : List (ByteArray × Value)) (lk lf ld : List ((ByteArray × Nat) × Value)), Ext w W → S sb W → ViewAt B2 W vb (heldF R ver) sv mp mk mf md lp lk lf ld → nm s = true → (partsV (heldF R ver) s).length ≤ 12 →
      Calls Tryz.prog 49 #[.pointer (some ⟨vb, 0, none⟩), .string s, .pointer (some ⟨sb, 0, none⟩)] W fun e w' => ∃ k, e = .returned (.int .u8 k) ∧ (LK s k ∧ 1 ≤ k ∧ k ≤ 3) ∧ Ext W w') :
    Calls Tryz.prog 17 #[encP rb, .int .i64 (iv : Int), .string s, .agg #[.int .u8 x0, .string x1, .slice p2 n2 c2, .int .i64 x3, .int .i64 x4, .slice p5 n5 c5, .slice p6 n6 c6]] w fun r w' => LikeRel (heldF R ver) s bad LK w r w' := by
  have hvm : ver ∈ R.vers := List.mem_of_getElem? hv
  have hsl := subsV_len _ (held_len h.ok hvm)
  obtain ⟨vp, vc, rfl⟩ := owns_form h.vers
  obtain ⟨W1, hW1⟩ : ∃ W1, W1 = w.alloc (.cells #[.int .u8 x0, .string x1, .slice p2 n2 c2, .int .i64 x3, .int .i64 x4, .slice p5 n5 c5, .slice p6 n6 c6] 31 (0, 0)) := ⟨_, rfl⟩
  have hx1 : Ext w W1 := by rw [hW1]; repeat' (first | with_reducible exact Below.refl _ _ | with_reducible assumption | with_reducible apply Below.drew | with_reducible exact below_drewN (by with_reducible assumption) _ | (with_reducible refine Below.setCell ?_ (by first | exact Nat.le_refl _ | assumption | (simp; done) | omega | (simp; omega)) _) | (with_reducible refine Below.alloc ?_ (by first | exact Nat.le_refl _ | assumption | (simp; done) | omega | (simp; omega)) _) | (with_reducible refine below_putObj ?_ (by first | exact Nat.le_refl _ | assumption | (simp; done) | omega | (simp; omega)) _) | (with_reducible refine below_drawn ?_ _))
  have hb1 : W1.heap[w.heap.size]? = some (.cells #[.int .u8 x0, .string x1, .slice p2 n2 c2, .int .i64 x3, .int .i64 x4, .slice p5 n5 c5, .slice p6 n6 c6] 31 (0, 0)) := by rw [hW1]; simp only [heap_drawn_get, heap_drew_get, heap_setCell_get, heap_alloc_get, World.size_alloc, World.size_setCell, size_drawn, putObj_get, putObj_size]; (repeat (first | rw [if_pos trivial] | rw [if_pos rfl] | rw [if_neg (by omega)] | rw [if_pos (by omega)]))
  have hr1 : W1.cell? ⟨rb, 1, none⟩ = some (.slice vp R.vers.length vc) := hx1.cell' (cell_of h.blk 1)
  have hck := checkVersion_any rb vp R.vers.length vc (iv : Int) W1 hr1
  have hi : iv < R.vers.length := (List.getElem?_eq_some_iff.1 hv).1
  rw [show (if decide (0 ≤ (iv : Int)) && decide ((iv : Int) < (R.vers.length : Int)) then (0 : Int) else 110) = 0 by simp [hi]] at hck
  have hrd := hread W1 hx1
  have hnm := isName_any s W1 hs
  obtain ⟨b, hb⟩ : ∃ b, nm s = b := ⟨_, rfl⟩
  rw [hb] at hnm
  have HB := Lib.hid hb
  have d0 := cell_of hb1 0
  have d1 := cell_of hb1 1
  have d2 := cell_of hb1 2
  have d3 := cell_of hb1 3
  have d4 := cell_of hb1 4
  have d5 := cell_of hb1 5
  have d6 := cell_of hb1 6
  have HCK := Lib.hid hck
  have HRD := Lib.hid hrd
  have HNM := Lib.hid hnm
  have HREC := Lib.hid h
  have HGLB := Lib.hid hg
  have HV := Lib.hid hv
  have HS := Lib.hid hS
  have HLIKE := Lib.hid hlike
  have HX1 := Lib.hid hx1
  have HSL := Lib.hid hsl
  obtain ⟨hf, hhf⟩ : ∃ hf, heldF R ver = hf := ⟨_, rfl⟩
  rw [hhf] at HLIKE HSL ⊢
  have HHF := Lib.hid hhf
  clear hck hrd h hg hv hS hlike hx1 hb1 hr1 hread hvm hsl hhf hi hnm hb
  unfold encP at *
  go_enter Tryz.func17, Tryz.ntmps17
  go_upto_region 1 with fail
  rw [← hW1]
  clear hW1
  go_wp2_with fail
  refine HCK.out.mono ?_
  rintro e w1 ⟨rfl, rfl⟩
  go_wp2_with fail
  refine HNM.out.mono ?_
  rintro e w1 ⟨rfl, rfl⟩
  cases b with
  | false =>
    go_wp2_with fail
    refine bodyPost_ret (v := .tuple #[.int .u8 0, .int .i64 2]) (by simp [results, Tryz.results17, go_sem]) rfl ?_
    exact ⟨HX1.out, .inl ⟨HB.out, rfl⟩⟩
  | true =>
    go_wp2_with fail
    refine HRD.out.mono ?_
    rintro e w2 ⟨hx2, ⟨hbad, rfl⟩ | ⟨sb, rfl, hsb⟩⟩
    · go_wp2_with fail
      refine bodyPost_ret (v := .tuple #[.int .u8 0, .int .i64 113]) (by simp [results, Tryz.results17, go_sem]) rfl ?_
      exact ⟨HX1.out.trans' hx2, .inr (.inl ⟨HB.out, hbad, rfl⟩)⟩
    have HX2 := Lib.hid (HX1.out.trans' hx2)
    have HSB := Lib.hid hsb
    have hlook := look_any (HREC.out.ext HX2.out) (HGLB.out.ext HX2.out) HV.out
    unfold encP at hlook
    rw [HHF.out] at hlook
    have HLOOK := Lib.hid hlook
    clear hx2 hsb hlook d0 d1 d2 d3 d4 d5 d6
    go_wp2_with fail
    refine HLOOK.out.mono ?_
    rintro e w3 ⟨vb, sv, mp, mk, mf, md, lp, lk, lf, ld, rfl, hV, hx3⟩
    obtain ⟨pp, pc, _, hpl⟩ := hV.partLook s
    have hlk := hpl w3 (ext_refl _)
    have hpn : (partsV hf s).length ≤ 600 := by
      have h1 : (partsV hf s).length ≤ (subsV hf).length := List.length_filter_le _ _
      have := HSL.out
      omega
    obtain ⟨pn, hpe⟩ : ∃ pn, (partsV hf s).length = pn := ⟨_, rfl⟩
    rw [hpe] at hlk hpn
    have HPE := Lib.hid hpe
    have v1 := cell_of hV.view 1
    have HVW := Lib.hid hV
    have HX3 := Lib.hid (HX2.out.trans' hx3)
    have HSB3 := Lib.hid (HS.out sb w2 w3 HSB.out hx3)
    clear hV hx3 hpl hpe
    by_cases h12 : 12 < pn
    · go_wp2_with fail
      refine bodyPost_ret (v := .tuple #[.int .u8 0, .int .i64 5]) (by simp [results, Tryz.results17, go_sem]) rfl ?_
      exact ⟨HX3.out, .inr (.inr (.inl ⟨HB.out, by rw [HPE.out]; exact h12, rfl⟩))⟩
    · have hcall := HLIKE.out w3 sb _ vb sv mp mk mf md lp lk lf ld HX3.out HSB3.out HVW.out HB.out (by rw [HPE.out]; omega)
      have HCALL := Lib.hid hcall
      clear hcall
      go_wp2_with fail
      refine HCALL.out.mono ?_
      rintro e w5 ⟨k, rfl, hk, hx5⟩
      have HK := Lib.hid hk
      have HX5 := Lib.hid (HX3.out.trans' hx5)
      clear hk hx5
      go_wp2_with fail
      refine bodyPost_ret (v := .tuple #[.int .u8 k, .int .i64 0]) (by simp [results, Tryz.results17, go_sem]) rfl ?_
      exact ⟨HX5.out, .inr (.inr (.inr ⟨HB.out, by rw [HPE.out]; omega, k, rfl, HK.out⟩))⟩

end Go.Proofs.YtihfcjioilmmjaaGreat
namespace Go.Proofs.YtihfcjioilmmjaaGreat
open Go Go.RowKit
open Go.Lib Go.Sort Go.Maps Go.Shelf Go.Proofs

/-- A world over some columns. -/
def Grid (smp : Nat → List Int) (cols : List Nat) (ρ : Nat → Int) : Prop := (∀ d ∈ cols, ρ d ∈ smp d) ∧ ∀ d, d ∉ cols → ρ d = 0

/-- The outcomes of one question. -/
def outs1 (smp : Nat → List Int) (φ : (Nat → Int) → Bool) (cols : List Nat) : List Nat := (runW smp (fun ρ => bitsK [φ ρ] 1) cols (fun _ => 0, [])).2

theorem outs1_one {smp : Nat → List Int} {φ : (Nat → Int) → Bool} {cols : List Nat} (hn : cols.Nodup) : 1 ∈ outs1 smp φ cols ↔ ∃ ρ, Grid smp cols ρ ∧ φ ρ = true := by
  unfold outs1
  rw [runW_mem hn]
  constructor
  · rintro ⟨ρ, h1, h2, h3⟩
    refine ⟨ρ, ⟨h1, h2⟩, ?_⟩
    rw [bitsK_one] at h3
    cases h : φ ρ with
    | true => rfl
    | false => rw [h] at h3; simp at h3
  · rintro ⟨ρ, ⟨h1, h2⟩, h3⟩
    exact ⟨ρ, h1, h2, by rw [bitsK_one, h3]; rfl⟩
theorem outs1_zero {smp : Nat → List Int} {φ : (Nat → Int) → Bool} {cols : List Nat} (hn : cols.Nodup) : 0 ∈ outs1 smp φ cols ↔ ∃ ρ, Grid smp cols ρ ∧ φ ρ = false := by
  unfold outs1
  rw [runW_mem hn]
  constructor
  · rintro ⟨ρ, h1, h2, h3⟩
    refine ⟨ρ, ⟨h1, h2⟩, ?_⟩
    rw [bitsK_one] at h3
    cases h : φ ρ with
    | false => rfl
    | true => rw [h] at h3; simp at h3
  · rintro ⟨ρ, ⟨h1, h2⟩, h3⟩
    exact ⟨ρ, h1, h2, by rw [bitsK_one, h3]; rfl⟩
theorem outs1_sub {smp : Nat → List Int} {φ : (Nat → Int) → Bool} {cols : List Nat} (hn : cols.Nodup) : ∀ x ∈ outs1 smp φ cols, x = 0 ∨ x = 1 := fun x hx => by
  obtain ⟨ρ, _, _, rfl⟩ := (runW_mem hn x).1 hx
  rw [bitsK_one]
  split <;> simp
theorem outs1_nodup {smp : Nat → List Int} {φ : (Nat → Int) → Bool} {cols : List Nat} : (outs1 smp φ cols).Nodup := runW_nodup _ _ _ _ List.nodup_nil

theorem outs1_len {smp : Nat → List Int} {φ : (Nat → Int) → Bool} {cols : List Nat} (hn : cols.Nodup) (h1 : 1 ∈ outs1 smp φ cols) : (outs1 smp φ cols).length = 1 ↔ 0 ∉ outs1 smp φ cols := by
  obtain ⟨l, hl⟩ : ∃ l, outs1 smp φ cols = l := ⟨_, rfl⟩
  have hs := outs1_sub (smp := smp) (φ := φ) hn
  have hnd := outs1_nodup (smp := smp) (φ := φ) (cols := cols)
  rw [hl] at h1 hs hnd ⊢
  constructor
  · intro h h0
    obtain ⟨x, rfl⟩ := List.length_eq_one_iff.1 h
    have e1 := List.mem_singleton.1 h1
    have e2 := List.mem_singleton.1 h0
    omega
  · intro h0
    have h2 := nodup_sub (m := [1]) hnd fun x hx => by
      rcases hs x hx with rfl | rfl
      · exact absurd hx h0
      · simp
    have h3 := List.length_pos_of_mem h1
    simp at h2
    omega

/-- The likeness: 3: no world; 1: every world; 2: some, and some not. -/
theorem likeK_spec {smp : Nat → List Int} {φ : (Nat → Int) → Bool} {cols : List Nat} (hn : cols.Nodup) :
    (likeK (outs1 smp φ cols) = 3 ∧ ∀ ρ, Grid smp cols ρ → φ ρ = false) ∨ (likeK (outs1 smp φ cols) = 1 ∧ (∃ ρ, Grid smp cols ρ) ∧ ∀ ρ, Grid smp cols ρ → φ ρ = true) ∨
    (likeK (outs1 smp φ cols) = 2 ∧ (∃ ρ, Grid smp cols ρ ∧ φ ρ = true) ∧ ∃ ρ, Grid smp cols ρ ∧ φ ρ = false) := by
  unfold likeK
  by_cases h1 : 1 ∈ outs1 smp φ cols
  · rw [if_pos h1]
    obtain ⟨ρ, hg, hf⟩ := (outs1_one hn).1 h1
    by_cases h0 : 0 ∈ outs1 smp φ cols
    · rw [if_neg fun h => (outs1_len hn h1).1 h h0]
      exact .inr (.inr ⟨rfl, ⟨ρ, hg, hf⟩, (outs1_zero hn).1 h0⟩)
    · rw [if_pos ((outs1_len hn h1).2 h0)]
      refine .inr (.inl ⟨rfl, ⟨ρ, hg⟩, fun ρ' hg' => ?_⟩)
      cases h : φ ρ' with
      | true => rfl
      | false => exact absurd ((outs1_zero hn).2 ⟨ρ', hg', h⟩) h0
  · rw [if_neg h1]
    refine .inl ⟨rfl, fun ρ hg => ?_⟩
    cases h : φ ρ with
    | false => rfl
    | true => exact absurd ((outs1_one hn).2 ⟨ρ, hg, h⟩) h1
theorem likeK_range (l : List Nat) : 1 ≤ likeK l ∧ likeK l ≤ 3 := by unfold likeK; split <;> (try split) <;> omega

/-- Two lists in strict order that have the same members are one. -/
theorem sorted_ext : ∀ {l m : List Int}, l.Pairwise (· < ·) → m.Pairwise (· < ·) → (∀ n, n ∈ l ↔ n ∈ m) → l = m
  | [], [], _, _, _ => rfl
  | [], b :: m, _, _, h => by have := (h b).2 List.mem_cons_self; cases this
  | a :: l, [], _, _, h => by have := (h a).1 List.mem_cons_self; cases this
  | a :: l, b :: m, h1, h2, h => by
    obtain ⟨ha, hl⟩ := List.pairwise_cons.1 h1
    obtain ⟨hb, hm⟩ := List.pairwise_cons.1 h2
    have hab : a = b := by
      rcases List.mem_cons.1 ((h a).1 List.mem_cons_self) with h3 | h3
      · exact h3
      · rcases List.mem_cons.1 ((h b).2 List.mem_cons_self) with h4 | h4
        · exact h4.symm
        · have := hb a h3; have := ha b h4; omega
    subst hab
    congr 1
    refine sorted_ext hl hm fun n => ⟨fun hn => ?_, fun hn => ?_⟩
    · rcases List.mem_cons.1 ((h n).1 (List.mem_cons_of_mem _ hn)) with rfl | h3
      · have := ha n hn; omega
      · exact h3
    · rcases List.mem_cons.1 ((h n).2 (List.mem_cons_of_mem _ hn)) with rfl | h3
      · have := hb n hn; omega
      · exact h3

theorem holds_added {v : Ver} {n : Int} (h : v.holds n = true) : (look v.added n).isSome = true := by
  unfold Ver.holds at h
  simp only [Bool.and_eq_true] at h
  exact h.1
theorem heldV_mem (v : Ver) (n : Int) : n ∈ heldV v ↔ v.holds n = true := by
  unfold heldV
  rw [List.mem_filter, List.mem_mergeSort]
  exact ⟨fun h => h.2, fun h => ⟨look_isSome_iff.1 (holds_added h), h⟩⟩
theorem heldV_sorted (v : Ver) (h : (v.added.map (·.1)).Nodup) : (heldV v).Pairwise (· < ·) := by
  unfold heldV
  refine List.Pairwise.filter _ ?_
  have h1 : ((v.added.map (·.1)).mergeSort (fun x y => decide (x ≤ y))).Pairwise (fun a b : Int => a ≤ b) := by
    have := List.pairwise_mergeSort (le := fun x y : Int => decide (x ≤ y)) (fun a b c h1 h2 => by simp at *; omega) (fun a b => by simp; omega) (v.added.map (·.1))
    exact List.Pairwise.imp (fun h => by simpa using h) this
  have h2 : ((v.added.map (·.1)).mergeSort (fun x y => decide (x ≤ y))).Nodup := (List.mergeSort_perm _ _).nodup_iff.2 h
  exact (h1.and h2).imp fun ⟨a, b⟩ => by omega

end Go.Proofs.YtihfcjioilmmjaaGreat
namespace Go.Proofs.YtihfcjioilmmjaaGreat
open Go Go.RowKit
open Go.Lib Go.Sort Go.Maps Go.Shelf Go.Proofs

/-- The likeness of a subject without parts to a pattern without parts. -/
def LK0 (R : Rec) (hf : List (Int × FR)) (q : Qn) (s : ByteArray) (k : Int) : Prop := ∃ (smp : Nat → List Int) (cols : List Nat), cols.Nodup ∧ (∀ c, c ∈ cols ↔ (q.marks c).isSome = true) ∧ (∀ a c, (a, c) ∈ R.cols → smp c = sampF a (ofV hf (s, c) a) ((q.marks c).getD [])) ∧ k = likeK (outs1 smp q.φ cols)

/-- The values that are tried, of each column. -/
def smpOf (R : Rec) (hf : List (Int × FR)) (s : ByteArray) (μ : Nat → Option (List Int)) (c : Nat) : List Int := match R.cols.find? fun x => decide (x.2 = c) with
  | none => []
  | some x => sampF x.1 (ofV hf (s, c) x.1) ((μ c).getD [])
theorem smpOf_at {B : Nat} {w : World} {rb : Nat} {R : Rec} {cm : Nat} {vv fv : Value} {os : List (Option Nat × Option Nat)} {xs : List (List Value)} (h : RecAt B w rb R cm vv fv os xs) (hf : List (Int × FR)) (s : ByteArray) (μ : Nat → Option (List Int)) {a : Attr} {c : Nat} (hc : (a, c) ∈ R.cols) :
    smpOf R hf s μ c = sampF a (ofV hf (s, c) a) ((μ c).getD []) := by
  unfold smpOf
  cases hfi : R.cols.find? fun x => decide (x.2 = c) with
  | none => exact absurd (List.find?_eq_none.1 hfi (a, c) hc) (by simp)
  | some x =>
    have h1 := List.find?_some hfi
    have h2 := List.mem_of_find?_eq_some hfi
    obtain ⟨a', c'⟩ := x
    obtain rfl : c' = c := by simpa using h1
    rw [cols_unique h h2 hc]

theorem readF0_ask {R : Rec} {e : Exp} {q : Qn} (h : readF0 R e = some q) : askF R e = some q ∧ q.size ≤ 30 := by
  unfold readF0 at h
  cases ha : askF R e with
  | none => rw [ha] at h; cases h
  | some q' =>
    rw [ha] at h
    simp only at h
    split at h
    · rename_i hq
      obtain rfl := Option.some.inj h
      exact ⟨rfl, hq.1⟩
    · cases h

/-- What read leaves: a search without parts. -/
def Srch0 (R : Rec) (q : Qn) (sb : Nat) (W : World) : Prop := ∃ Bq hi qb tv mb lm, QAt Bq hi R W qb q tv mb lm ∧ W.heap[sb]? = some (.cells #[.pointer (some ⟨qb, 0, none⟩), .slice none 0 0] 163 (0, 0))
theorem Srch0.ext {R : Rec} {q : Qn} {sb : Nat} {W W' : World} (h : Srch0 R q sb W) (hx : Ext W W') : Srch0 R q sb W' := let ⟨a, b, c, d, e, f, h1, h2⟩ := h; ⟨a, b, c, d, e, f, h1.ext hx, hx.obj h2⟩

theorem like0_srch {B : Nat} {w : World} {rb : Nat} {R : Rec} {cm : Nat} {vv fv : Value} {os : List (Option Nat × Option Nat)} {xs : List (List Value)} (h : RecAt B w rb R cm vv fv os xs) {ver : Ver} (hvm : ver ∈ R.vers) {e : Exp} {q : Qn} (hr : readF0 R e = some q) {W : World} (hx : Ext w W) {sb B2 vb : Nat} {sv : Value} {mp mk mf md : Nat} {lp : List (ByteArray × Value)} {lk lf ld : List ((ByteArray × Nat) × Value)}
    (hs : Srch0 R q sb W) (hV : ViewAt B2 W vb (heldF R ver) sv mp mk mf md lp lk lf ld) (s : ByteArray) (hp : partsV (heldF R ver) s = []) :
    Calls Tryz.prog 49 #[.pointer (some ⟨vb, 0, none⟩), .string s, .pointer (some ⟨sb, 0, none⟩)] W fun e w' => ∃ k, e = .returned (.int .u8 k) ∧ (LK0 R (heldF R ver) q s k ∧ 1 ≤ k ∧ k ≤ 3) ∧ Ext W w' := by
  obtain ⟨Bq, hi, qb, tv, mb, lm, hq, hsb⟩ := hs
  obtain ⟨ha, hz⟩ := readF0_ask hr
  have hm := fun (y : Int × FR) (hy : y ∈ heldF R ver) => heldF_mem h.ok hvm hy
  have hsm := fun a c (hc : (a, c) ∈ R.cols) => smpOf_at h (heldF R ver) s q.marks hc
  refine (like0_any (h.ext hx) hV (fun y hy => (h.ok.fact _ (hm y hy)).1) (fun y hy => (h.ok.fact _ (hm y hy)).2.2.2.1) hq sb hsb (fun c l hl => by
    have := (askF_ok R e q ha).2 c l hl
    omega) s hp (smpOf R (heldF R ver) s q.marks) hsm).mono ?_
  rintro e' w' ⟨cols, rfl, hn, hk, hx'⟩
  exact ⟨_, rfl, ⟨⟨_, cols, hn, hk, hsm, rfl⟩, likeK_range _⟩, hx'⟩

theorem read0_rel {B : Nat} {w : World} {rb : Nat} {R : Rec} {cm : Nat} {vv fv : Value} {os : List (Option Nat × Option Nat)} {xs : List (List Value)} (h : RecAt B w rb R cm vv fv os xs) {x0 : Int} {x1 : ByteArray} {p2 : Option Addr} {n2 c2 : Nat} {x3 x4 : Int} {p5 : Option Addr} {n5 c5 : Nat} {e : Exp} (he : ExpAt w [.int .u8 x0, .string x1, .slice p2 n2 c2, .int .i64 x3, .int .i64 x4, .slice p5 n5 c5] e) (hn : e.nodes ≤ 1000) (p6 : Option Addr) (c6 : Nat) {q : Qn} (hr : readF0 R e = some q) :
    ∀ W, Ext w W → Calls Tryz.prog 47 #[encP rb, .agg #[.int .u8 x0, .string x1, .slice p2 n2 c2, .int .i64 x3, .int .i64 x4, .slice p5 n5 c5, .slice p6 0 c6]] W (ReadRel (Srch0 R q) False W) := by
  intro W hx
  refine (read0_any (h.ext hx) (he.ext hx) hn p6 c6).mono ?_
  rintro r w' ⟨hx', ⟨hno, _⟩ | ⟨q', sb, qb, tv, mb, lm, hq', rfl, hq, hsb⟩⟩
  · rw [hr] at hno; cases hno
  · rw [hr] at hq'
    obtain rfl := Option.some.inj hq'
    exact ⟨hx', .inr ⟨sb, rfl, _, _, _, _, _, _, hq, hsb⟩⟩

theorem query0_any {B : Nat} {w : World} {rb : Nat} {R : Rec} {cm : Nat} {vv fv : Value} {os : List (Option Nat × Option Nat)} {xs : List (List Value)} (h : RecAt B w rb R cm vv fv os xs) (hg : Glob w) {iv : Nat} {ver : Ver} (hv : R.vers[iv]? = some ver) {x0 : Int} {x1 : ByteArray} {p2 : Option Addr} {n2 c2 : Nat} {x3 x4 : Int} {p5 : Option Addr} {n5 c5 : Nat} {e : Exp} (he : ExpAt w [.int .u8 x0, .string x1, .slice p2 n2 c2, .int .i64 x3, .int .i64 x4, .slice p5 n5 c5] e) (hn : e.nodes ≤ 1000) (p6 : Option Addr) (c6 : Nat) {q : Qn} (hr : readF0 R e = some q) (hp : ∀ t ∈ wholesV (heldF R ver), partsV (heldF R ver) (ofBytes t) = []) :
    Calls Tryz.prog 14 #[encP rb, .int .i64 (iv : Int), .agg #[.int .u8 x0, .string x1, .slice p2 n2 c2, .int .i64 x3, .int .i64 x4, .slice p5 n5 c5, .slice p6 0 c6]] w fun r w' => QueryRel (heldF R ver) False (LK0 R (heldF R ver) q) w r w' :=
  query_any h hg hv x0 x1 p2 n2 c2 x3 x4 p5 n5 c5 p6 0 c6 (Srch0 R q) (fun _ _ _ h hx => h.ext hx) False _ (read0_rel h he hn p6 c6 hr) fun _ _ _ _ _ _ _ _ _ _ _ _ _ t hx hs hV ht => like0_srch h (List.mem_of_getElem? hv) hr hx hs hV (ofBytes t) (hp t ht)

theorem likes0_any {B : Nat} {w : World} {rb : Nat} {R : Rec} {cm : Nat} {vv fv : Value} {os : List (Option Nat × Option Nat)} {xs : List (List Value)} (h : RecAt B w rb R cm vv fv os xs) (hg : Glob w) {iv : Nat} {ver : Ver} (hv : R.vers[iv]? = some ver) (s : ByteArray) (hs : s.size ≤ maxLen) {x0 : Int} {x1 : ByteArray} {p2 : Option Addr} {n2 c2 : Nat} {x3 x4 : Int} {p5 : Option Addr} {n5 c5 : Nat} {e : Exp} (he : ExpAt w [.int .u8 x0, .string x1, .slice p2 n2 c2, .int .i64 x3, .int .i64 x4, .slice p5 n5 c5] e) (hn : e.nodes ≤ 1000) (p6 : Option Addr) (c6 : Nat) {q : Qn} (hr : readF0 R e = some q) (hp : partsV (heldF R ver) s = []) :
    Calls Tryz.prog 17 #[encP rb, .int .i64 (iv : Int), .string s, .agg #[.int .u8 x0, .string x1, .slice p2 n2 c2, .int .i64 x3, .int .i64 x4, .slice p5 n5 c5, .slice p6 0 c6]] w fun r w' => LikeRel (heldF R ver) s False (LK0 R (heldF R ver) q) w r w' :=
  like_any h hg hv s hs x0 x1 p2 n2 c2 x3 x4 p5 n5 c5 p6 0 c6 (Srch0 R q) (fun _ _ _ h hx => h.ext hx) False _ (read0_rel h he hn p6 c6 hr) fun _ _ _ _ _ _ _ _ _ _ _ _ _ hx hs hV _ _ => like0_srch h (List.mem_of_getElem? hv) hr hx hs hV s hp

end Go.Proofs.YtihfcjioilmmjaaGreat
namespace Go.Proofs.YtihfcjioilmmjaaGreat
open Go Go.RowKit
open Go.Lib Go.Sort Go.Maps Go.Shelf Go.Proofs

def tSteel : ByteArray := ⟨#[115, 116, 101, 101, 108]⟩
def tIron : ByteArray := ⟨#[105, 114, 111, 110]⟩
def tWood : ByteArray := ⟨#[119, 111, 111, 100]⟩
def tMat : ByteArray := ⟨#[109, 97, 116, 101, 114, 105, 97, 108]⟩
def tBuilt : ByteArray := ⟨#[98, 117, 105, 108, 116]⟩
def tTay : ByteArray := ⟨#[116, 97, 121]⟩
def tForth : ByteArray := ⟨#[102, 111, 114, 116, 104]⟩
def kMat : Attr := ⟨tMat, [tSteel, tIron, tWood], 0, 0⟩
def kBuilt : Attr := ⟨tBuilt, [], 1800, 2030⟩
def kAdds : List Fct := [⟨tTay, tMat, [tIron, tWood], 0, 0⟩, ⟨tTay, tMat, [tSteel, tIron], 0, 0⟩, ⟨tTay, tBuilt, [], 1870, 1880⟩]
def kCols (c1 c2 : Nat) : List (Attr × Nat) := [(kMat, c1), (kBuilt, c2)]
def kRows (c1 c2 : Nat) : List FR := [⟨tTay, kMat, c1, ⟨6, 0, 0⟩⟩, ⟨tTay, kMat, c1, ⟨3, 0, 0⟩⟩, ⟨tTay, kBuilt, c2, ⟨0, 1870, 1880⟩⟩]

theorem k_mat : AttrOk kMat where
  name := by kernel_rfl
  small := by decide
  names := fun v hv => List.all_eq_true.1 (show [tSteel, tIron, tWood].all (fun v => nm v) = true from by kernel_rfl) v hv
  nodup := by decide
  low := by decide
  ends := by decide
  high := by decide
  zero := fun _ => ⟨rfl, rfl⟩
theorem k_built : AttrOk kBuilt where
  name := by kernel_rfl
  small := by decide
  names := fun v hv => by cases hv
  nodup := by decide
  low := by decide
  ends := by decide
  high := by decide
  zero := fun h => absurd rfl h
theorem k_new : NewOk [kMat, kBuilt] := by
  refine ⟨by decide, fun a ha => ?_, by decide⟩
  rcases List.mem_cons.1 ha with rfl | ha
  · exact k_mat
  · rcases List.mem_cons.1 ha with rfl | ha
    · exact k_built
    · cases ha

theorem k_rows (c1 c2 : Nat) : rowsF ⟨kCols c1 c2, [⟨[], []⟩], []⟩ kAdds = some (kRows c1 c2) := by
  kernel_rfl

theorem k_col1 (c1 c2 : Nat) (v : List Ver) (f : List FR) : colOf ⟨kCols c1 c2, v, f⟩ tMat = some (kMat, c1) := by kernel_rfl
theorem k_col2 (c1 c2 : Nat) (v : List Ver) (f : List FR) : colOf ⟨kCols c1 c2, v, f⟩ tBuilt = some (kBuilt, c2) := by kernel_rfl

/-- The facts that hold behind the first commit. -/
theorem k_held {c1 c2 : Nat} {la lw : List (Int × Value)} (h : ComOk ⟨kCols c1 c2, [⟨[], []⟩], []⟩ [0] kAdds [] (kRows c1 c2) la lw) (hn : (la.map (·.1)).Nodup) :
    heldF (commitR ⟨kCols c1 c2, [⟨[], []⟩], []⟩ (kRows c1 c2) la lw) ⟨la, lw⟩ = [(1, ⟨tTay, kMat, c1, ⟨6, 0, 0⟩⟩), (2, ⟨tTay, kMat, c1, ⟨3, 0, 0⟩⟩), (3, ⟨tTay, kBuilt, c2, ⟨0, 1870, 1880⟩⟩)] := by
  have h0 : ∀ p ∈ ([0] : List Int), ∀ ver, verOf ⟨kCols c1 c2, [⟨[], []⟩], []⟩ p = some ver → ver = ⟨[], []⟩ := fun p hp ver hv => by
    rw [List.mem_singleton.1 hp] at hv
    unfold verOf at hv
    simpa using hv.symm
  have hl : heldV ⟨la, lw⟩ = [1, 2, 3] := by
    refine sorted_ext (heldV_sorted _ hn) (by decide) fun n => ?_
    rw [heldV_mem]
    unfold Ver.holds
    have h1 := h.added n
    have h2 := h.wd n
    have hw : (look lw n).isSome = false := by
      cases hb : (look lw n).isSome with
      | false => rfl
      | true =>
        rcases h2.1 hb with ⟨p, hp, ver, hv, hk⟩ | hk
        · rw [h0 p hp ver hv] at hk; simp [look] at hk
        · cases hk
    show ((look la n).isSome && !(look lw n).isSome) = true ↔ _
    rw [hw]
    simp only [Bool.not_false, Bool.and_true]
    rw [h1]
    constructor
    · rintro (⟨p, hp, ver, hv, hk⟩ | hk)
      · rw [h0 p hp ver hv] at hk; simp [look] at hk
      · have e : kAdds.length = 3 := rfl
        simp only [List.length_nil, e] at hk
        have : n = 1 ∨ n = 2 ∨ n = 3 := by omega
        rcases this with rfl | rfl | rfl <;> simp
    · intro hk
      refine .inr ?_
      have e : kAdds.length = 3 := rfl
      simp only [List.length_nil, e]
      simp at hk
      omega
  unfold heldF
  rw [hl]
  rfl

def kHeld (c1 c2 : Nat) : List (Int × FR) := [(1, ⟨tTay, kMat, c1, ⟨6, 0, 0⟩⟩), (2, ⟨tTay, kMat, c1, ⟨3, 0, 0⟩⟩), (3, ⟨tTay, kBuilt, c2, ⟨0, 1870, 1880⟩⟩)]

theorem k_subsL (c1 c2 : Nat) : (subsL (kHeld c1 c2)).map bytesOf = List.replicate 6 (bytesOf tTay) := by kernel_rfl
theorem k_subs (c1 c2 : Nat) : subsV (kHeld c1 c2) = [bytesOf tTay] := by
  unfold subsV sortB
  rw [k_subsL]
  rw [List.perm_replicate.1 (List.mergeSort_perm (List.replicate 6 (bytesOf tTay)) (fun x y => decide (x ≤ y)))]
  kernel_rfl
theorem k_wholes (c1 c2 : Nat) : wholesV (kHeld c1 c2) = [bytesOf tTay] := by unfold wholesV; rw [k_subs]; kernel_rfl
theorem k_parts1 (c1 c2 : Nat) : partsV (kHeld c1 c2) tTay = [] := by unfold partsV; rw [k_subs]; kernel_rfl
theorem k_parts2 (c1 c2 : Nat) : partsV (kHeld c1 c2) tForth = [] := by unfold partsV; rw [k_subs]; kernel_rfl
theorem k_many (c1 c2 : Nat) : tooMany (kHeld c1 c2) = false := by
  unfold tooMany
  rw [k_subs]
  have : ofBytes (bytesOf tTay) = tTay := by kernel_rfl
  simp [this, k_parts1]

theorem k_step1 (c1 : Nat) : stepK (some (stepK none ⟨tTay, kMat, c1, ⟨6, 0, 0⟩⟩)) ⟨tTay, kMat, c1, ⟨3, 0, 0⟩⟩ = (⟨2, 0, 0⟩, false, kMat) := by kernel_rfl
theorem k_step2 (c2 : Nat) : stepK none ⟨tTay, kBuilt, c2, ⟨0, 1870, 1880⟩⟩ = (⟨0, 1870, 1880⟩, false, kBuilt) := by kernel_rfl

theorem k_of1 {c1 c2 : Nat} (hc : c1 ≠ c2) : ofV (kHeld c1 c2) (tTay, c1) kMat = ⟨2, 0, 0⟩ := by
  have h1 : knowK (kHeld c1 c2) (tTay, c1) = some (⟨2, 0, 0⟩, false, kMat) := by
    unfold knowK kHeld
    simp only [List.foldl_cons, List.foldl_nil, keyOf, if_pos, Prod.mk.injEq, true_and, hc.symm, if_false]
    rw [k_step1]
  unfold ofV knowV
  rw [h1]; rfl
theorem k_of2 {c1 c2 : Nat} (hc : c1 ≠ c2) : ofV (kHeld c1 c2) (tTay, c2) kBuilt = ⟨0, 1870, 1880⟩ := by
  have h1 : knowK (kHeld c1 c2) (tTay, c2) = some (⟨0, 1870, 1880⟩, false, kBuilt) := by
    unfold knowK kHeld
    simp only [List.foldl_cons, List.foldl_nil, keyOf, if_pos, Prod.mk.injEq, true_and, hc, if_false]
    rw [k_step2]
  unfold ofV knowV
  rw [h1]; rfl
theorem k_of3 (c1 c2 c : Nat) (a : Attr) : ofV (kHeld c1 c2) (tForth, c) a = allSt a := by
  have hne : ¬ (tTay = tForth) := by decide
  have h1 : knowK (kHeld c1 c2) (tForth, c) = none := by
    unfold knowK kHeld
    simp only [List.foldl_cons, List.foldl_nil, keyOf, Prod.mk.injEq, hne, false_and, if_false]
  unfold ofV knowV
  rw [h1]; rfl
theorem k_doubt {c1 c2 : Nat} (hc : c1 ≠ c2) : doubtK (kHeld c1 c2) (tTay, c1) = false := by
  have h1 : knowK (kHeld c1 c2) (tTay, c1) = some (⟨2, 0, 0⟩, false, kMat) := by
    unfold knowK kHeld
    simp only [List.foldl_cons, List.foldl_nil, keyOf, if_pos, Prod.mk.injEq, true_and, hc.symm, if_false]
    rw [k_step1]
  unfold doubtK
  rw [h1]; rfl
theorem k_facts {c1 c2 : Nat} (hc : c1 ≠ c2) : factsK (kHeld c1 c2) (tTay, c1) = [1, 2] := by
  unfold factsK kHeld
  simp [keyOf, hc.symm]
theorem k_vals : valsB 2 kMat.values.zipIdx = [tIron] := by kernel_rfl

def kE1 : Exp := .mk 1 tMat [tIron] 0 0 []
def kE2 : Exp := .mk 1 tBuilt [] 1800 1874 []
def kQ1 : Exp := .mk 3 ⟨#[]⟩ [] 0 0 [kE1, kE2]
def kQ2 : Exp := .mk 4 ⟨#[]⟩ [] 0 0 [kE1, .mk 2 ⟨#[]⟩ [] 0 0 [kE1]]

theorem k_askF1 (c1 c2 : Nat) (v : List Ver) (f : List FR) : ∃ q, askF ⟨kCols c1 c2, v, f⟩ kQ1 = some q ∧ q.size = 3 ∧ q.marks = mergeM (mergeM (fun _ => none) (inQ kMat c1 ⟨2, 0, 0⟩ 0 0).marks) (inQ kBuilt c2 ⟨0, 1800, 1874⟩ 1800 1874).marks ∧ ∀ ρ, q.φ ρ = ((2 : Nat).testBit (ρ c1).toNat && (decide (1800 ≤ ρ c2) && decide (ρ c2 ≤ 1874))) := by
  refine ⟨_, rfl, rfl, rfl, fun ρ => ?_⟩
  show ((inQ kMat c1 ⟨2, 0, 0⟩ 0 0).φ ρ && ((inQ kBuilt c2 ⟨0, 1800, 1874⟩ 1800 1874).φ ρ && true)) = _
  rw [Bool.and_true]
  rfl

theorem k_marksN (c1 c2 : Nat) (hc : c1 ≠ c2) (v : List Ver) (f : List FR) (q : Qn) : marksN ⟨kCols c1 c2, v, f⟩ q ≤ 2 := by
  unfold marksN
  exact List.length_filter_le _ _

theorem k_read1 (c1 c2 : Nat) (hc : c1 ≠ c2) (v : List Ver) (f : List FR) : ∃ q, readF0 ⟨kCols c1 c2, v, f⟩ kQ1 = some q ∧ q.marks = mergeM (mergeM (fun _ => none) (inQ kMat c1 ⟨2, 0, 0⟩ 0 0).marks) (inQ kBuilt c2 ⟨0, 1800, 1874⟩ 1800 1874).marks ∧ ∀ ρ, q.φ ρ = ((2 : Nat).testBit (ρ c1).toNat && (decide (1800 ≤ ρ c2) && decide (ρ c2 ≤ 1874))) := by
  obtain ⟨q, h1, h2, h3, h4⟩ := k_askF1 c1 c2 v f
  refine ⟨q, ?_, h3, h4⟩
  unfold readF0
  rw [h1]
  have := k_marksN c1 c2 hc v f q
  exact if_pos ⟨by omega, by omega⟩

theorem k_askF2 (c1 c2 : Nat) (v : List Ver) (f : List FR) : ∃ q, askF ⟨kCols c1 c2, v, f⟩ kQ2 = some q ∧ q.size = 4 ∧ q.marks = mergeM (mergeM (fun _ => none) (inQ kMat c1 ⟨2, 0, 0⟩ 0 0).marks) (mergeM (fun _ => none) (inQ kMat c1 ⟨2, 0, 0⟩ 0 0).marks) ∧ ∀ ρ, q.φ ρ = true := by
  refine ⟨_, rfl, rfl, rfl, fun ρ => ?_⟩
  show ((inQ kMat c1 ⟨2, 0, 0⟩ 0 0).φ ρ || (!(inQ kMat c1 ⟨2, 0, 0⟩ 0 0).φ ρ || false)) = true
  cases (inQ kMat c1 ⟨2, 0, 0⟩ 0 0).φ ρ <;> rfl
theorem k_read2 (c1 c2 : Nat) (hc : c1 ≠ c2) (v : List Ver) (f : List FR) : ∃ q, readF0 ⟨kCols c1 c2, v, f⟩ kQ2 = some q ∧ q.marks = mergeM (mergeM (fun _ => none) (inQ kMat c1 ⟨2, 0, 0⟩ 0 0).marks) (mergeM (fun _ => none) (inQ kMat c1 ⟨2, 0, 0⟩ 0 0).marks) ∧ ∀ ρ, q.φ ρ = true := by
  obtain ⟨q, h1, h2, h3, h4⟩ := k_askF2 c1 c2 v f
  refine ⟨q, ?_, h3, h4⟩
  unfold readF0
  rw [h1]
  have := k_marksN c1 c2 hc v f q
  exact if_pos ⟨by omega, by omega⟩

theorem inQ_marks (a : Attr) (c : Nat) (s : St) (lo hi : Int) (d : Nat) : (inQ a c s lo hi).marks d = if d = c then some (if a.values = [] then [lo, hi + 1] else []) else none := rfl

theorem k_comp : Lib.compact ([1870, 1875] : List Int) = [1870, 1875] := by kernel_rfl

theorem k_like1 {c1 c2 : Nat} (hc : c1 ≠ c2) {v : List Ver} {f : List FR} {q : Qn} (hm : q.marks = mergeM (mergeM (fun _ => none) (inQ kMat c1 ⟨2, 0, 0⟩ 0 0).marks) (inQ kBuilt c2 ⟨0, 1800, 1874⟩ 1800 1874).marks)
    (hφ : ∀ ρ, q.φ ρ = ((2 : Nat).testBit (ρ c1).toNat && (decide (1800 ≤ ρ c2) && decide (ρ c2 ≤ 1874)))) {k : Int} (h : LK0 ⟨kCols c1 c2, v, f⟩ (kHeld c1 c2) q tTay k) : k = 2 := by
  obtain ⟨smp, cols, hn, hk, hs, rfl⟩ := h
  have m1 : q.marks c1 = some [] := by rw [hm]; unfold mergeM; simp only [inQ_marks, if_neg hc, if_pos]; rfl
  have m2 : q.marks c2 = some [1800, 1875] := by rw [hm]; unfold mergeM; simp only [inQ_marks, if_neg hc.symm, if_pos]; rfl
  have hcs : ∀ c ∈ cols, c = c1 ∨ c = c2 := fun c hcc => by
    have := (hk c).1 hcc
    rw [hm] at this
    unfold mergeM at this
    simp only [inQ_marks] at this
    by_cases e2 : c = c2
    · exact .inr e2
    · by_cases e1 : c = c1
      · exact .inl e1
      · simp [e1, e2] at this
  have s1 : smp c1 = [1] := by
    rw [hs kMat c1 (by unfold kCols; simp), k_of1 hc, m1]
    kernel_rfl
  have s2 : smp c2 = [1870, 1875] := by
    rw [hs kBuilt c2 (by unfold kCols; simp), k_of2 hc, m2]
    unfold sampF
    rw [if_pos (show kBuilt.values = [] from rfl)]
    have e : ((1870 : Int) :: ([1800, 1875] : List Int).filter (inS ⟨0, 1870, 1880⟩)) = [1870, 1875] := by decide
    show Lib.compact (sortedP ((1870 : Int) :: ([1800, 1875] : List Int).filter (inS ⟨0, 1870, 1880⟩))) = _
    rw [e]
    have e2 : sortedP [1870, 1875] = [1870, 1875] := List.mergeSort_of_pairwise (by decide)
    rw [e2, k_comp]
  have hg : ∀ n : Int, n ∈ smp c2 → Grid smp cols (fun d => if d = c1 then 1 else if d = c2 then n else 0) := fun n hn2 => by
    refine ⟨fun d hd => ?_, fun d hd => ?_⟩
    · rcases hcs d hd with rfl | rfl
      · simp [s1]
      · simp only [if_neg hc.symm, if_pos]; exact hn2
    · have h1 : d ≠ c1 := fun e => hd (e ▸ (hk c1).2 (by rw [m1]; rfl))
      have h2 : d ≠ c2 := fun e => hd (e ▸ (hk c2).2 (by rw [m2]; rfl))
      simp [h1, h2]
  have t1 : ∃ ρ, Grid smp cols ρ ∧ q.φ ρ = true := ⟨_, hg 1870 (by rw [s2]; simp), by rw [hφ]; simp only [if_pos, if_neg hc.symm]; decide⟩
  have t2 : ∃ ρ, Grid smp cols ρ ∧ q.φ ρ = false := ⟨_, hg 1875 (by rw [s2]; simp), by rw [hφ]; simp only [if_pos, if_neg hc.symm]; decide⟩
  obtain ⟨ρ1, g1, f1⟩ := t1
  obtain ⟨ρ2, g2, f2⟩ := t2
  rcases likeK_spec (smp := smp) (φ := q.φ) hn with ⟨_, h3⟩ | ⟨_, _, h3⟩ | ⟨h3, _⟩
  · rw [h3 ρ1 g1] at f1; cases f1
  · rw [h3 ρ2 g2] at f2; cases f2
  · exact h3

theorem k_like2 {c1 c2 : Nat} {v : List Ver} {f : List FR} {q : Qn} (hm : q.marks = mergeM (mergeM (fun _ => none) (inQ kMat c1 ⟨2, 0, 0⟩ 0 0).marks) (mergeM (fun _ => none) (inQ kMat c1 ⟨2, 0, 0⟩ 0 0).marks))
    (hφ : ∀ ρ, q.φ ρ = true) {k : Int} (h : LK0 ⟨kCols c1 c2, v, f⟩ (kHeld c1 c2) q tForth k) : k = 1 := by
  obtain ⟨smp, cols, hn, hk, hs, rfl⟩ := h
  have m1 : q.marks c1 = some [] := by rw [hm]; unfold mergeM; simp only [inQ_marks, if_pos]; rfl
  have hcs : ∀ c ∈ cols, c = c1 := fun c hcc => by
    have := (hk c).1 hcc
    rw [hm] at this
    unfold mergeM at this
    simp only [inQ_marks] at this
    by_cases e1 : c = c1
    · exact e1
    · simp [e1] at this
  have s1 : smp c1 = [0, 1, 2] := by
    rw [hs kMat c1 (by unfold kCols; simp), k_of3, m1]
    kernel_rfl
  have hg : Grid smp cols (fun _ => 0) := ⟨fun d hd => by rw [hcs d hd, s1]; simp, fun _ _ => rfl⟩
  rcases likeK_spec (smp := smp) (φ := q.φ) hn with ⟨_, h3⟩ | ⟨h3, _⟩ | ⟨_, _, ρ, _, h3⟩
  · have := h3 _ hg; rw [hφ] at this; cases this
  · exact h3
  · rw [hφ] at h3; cases h3

end Go.Proofs.YtihfcjioilmmjaaGreat
namespace Go.Proofs.YtihfcjioilmmjaaGreat
open Go Go.RowKit
open Go.Lib Go.Sort Go.Maps Go.Shelf Go.Proofs

set_option maxHeartbeats 1000000 in
set_option maxRecDepth 100000 in
theorem material_any (p : Option Addr) (n c : Nat) (w : World) : Calls Tryz.prog 28 #[.slice p n c] w fun e w' => e = .returned (.agg #[.int .u8 1, .string tMat, .slice p n c, .int .i64 0, .int .i64 0, .slice none 0 0]) ∧ Ext w w' := by
  obtain ⟨W1, hW1⟩ : ∃ W1, W1 = w.alloc (.cells #[.int .u8 0, .string ⟨#[]⟩, .slice none 0 0, .int .i64 0, .int .i64 0, .slice none 0 0] 29 (0, 0)) := ⟨_, rfl⟩
  have hx1 : Ext w W1 := by rw [hW1]; repeat' (first | with_reducible exact Below.refl _ _ | with_reducible assumption | with_reducible apply Below.drew | with_reducible exact below_drewN (by with_reducible assumption) _ | (with_reducible refine Below.setCell ?_ (by first | exact Nat.le_refl _ | assumption | (simp; done) | omega | (simp; omega)) _) | (with_reducible refine Below.alloc ?_ (by first | exact Nat.le_refl _ | assumption | (simp; done) | omega | (simp; omega)) _) | (with_reducible refine below_putObj ?_ (by first | exact Nat.le_refl _ | assumption | (simp; done) | omega | (simp; omega)) _) | (with_reducible refine below_drawn ?_ _))
  have hb : W1.heap[w.heap.size]? = some (.cells #[.int .u8 0, .string ⟨#[]⟩, .slice none 0 0, .int .i64 0, .int .i64 0, .slice none 0 0] 29 (0, 0)) := by rw [hW1]; simp only [heap_drawn_get, heap_drew_get, heap_setCell_get, heap_alloc_get, World.size_alloc, World.size_setCell, size_drawn, putObj_get, putObj_size]; (repeat (first | rw [if_pos trivial] | rw [if_pos rfl] | rw [if_neg (by omega)] | rw [if_pos (by omega)]))
  have y0 := cell_of hb 0
  have y1 := cell_of hb 1
  have y2 := cell_of hb 2
  have y3 := cell_of hb 3
  have y4 := cell_of hb 4
  have y5 := cell_of hb 5
  have f0 := frozen_of hb 0
  have f1 := frozen_of hb 1
  have f2 := frozen_of hb 2
  have f3 := frozen_of hb 3
  have f4 := frozen_of hb 4
  have f5 := frozen_of hb 5
  have HB := Lib.hid hb
  have HX1 := Lib.hid hx1
  clear hb hx1
  unfold tMat
  go_enter Tryz.func28, Tryz.ntmps28
  go_upto_region 1 with fail
  rw [← hW1]
  clear hW1
  go_wp2_with fail
  obtain ⟨W9, hW9⟩ : ∃ W9, W9 = ((((((W1.setCell ⟨w.heap.size, 0, none⟩ (.int .u8 1)).setCell ⟨w.heap.size, 1, none⟩ (.string ⟨#[109, 97, 116, 101, 114, 105, 97, 108]⟩)).setCell ⟨w.heap.size, 2, none⟩ (.slice p n c)).setCell ⟨w.heap.size, 3, none⟩ (.int .i64 0)).setCell ⟨w.heap.size, 4, none⟩ (.int .i64 0)).setCell ⟨w.heap.size, 5, none⟩ (.slice none 0 0)) := ⟨_, rfl⟩
  rw [← hW9]
  have hbe : Below w.heap.size w W9 := by
    have hx := HX1.out
    rw [hW9]; repeat' (first | with_reducible exact Below.refl _ _ | with_reducible assumption | with_reducible apply Below.drew | with_reducible exact below_drewN (by with_reducible assumption) _ | (with_reducible refine Below.setCell ?_ (by first | exact Nat.le_refl _ | assumption | (simp; done) | omega | (simp; omega)) _) | (with_reducible refine Below.alloc ?_ (by first | exact Nat.le_refl _ | assumption | (simp; done) | omega | (simp; omega)) _) | (with_reducible refine below_putObj ?_ (by first | exact Nat.le_refl _ | assumption | (simp; done) | omega | (simp; omega)) _) | (with_reducible refine below_drawn ?_ _))
  have hb9 : W9.heap[w.heap.size]? = some (.cells #[.int .u8 1, .string ⟨#[109, 97, 116, 101, 114, 105, 97, 108]⟩, .slice p n c, .int .i64 0, .int .i64 0, .slice none 0 0] 29 (0, 0)) := by
    have hb := HB.out
    rw [hW9]; simp only [heap_drawn_get, heap_drew_get, heap_setCell_get, heap_alloc_get, World.size_alloc, World.size_setCell, size_drawn, putObj_get, putObj_size]; (repeat (first | rw [if_pos trivial] | rw [if_pos rfl] | rw [if_neg (by omega)] | rw [if_pos (by omega)]))
    rw [hb]; rfl
  have r0 := cell_of hb9 0
  have r1 := cell_of hb9 1
  have r2 := cell_of hb9 2
  have r3 := cell_of hb9 3
  have r4 := cell_of hb9 4
  have r5 := cell_of hb9 5
  simp only [List.getElem?_toArray, List.getElem?_cons_zero, List.getElem?_cons_succ] at r0 r1 r2 r3 r4 r5
  refine bodyPost_ret (v := .agg #[.int .u8 1, .string ⟨#[109, 97, 116, 101, 114, 105, 97, 108]⟩, .slice p n c, .int .i64 0, .int .i64 0, .slice none 0 0]) (by simp [results, Tryz.results28, go_sem, r0, r1, r2, r3, r4, r5]) rfl ?_
  exact ⟨rfl, hbe⟩

theorem strs_of {w : World} {b : Nat} {l : List ByteArray} {n : Nat} (hn : l.length = n) (h : w.heap[b]? = some (.cells (l.map Value.string).toArray 9 (0, 0))) (hl : n ≤ maxLen) (hs : ∀ s ∈ l, s.size ≤ maxLen) : StrsAt w (.slice (some ⟨b, 0, none⟩) n n) l := by
  subst hn
  exact ⟨⟨_, _, rfl, Nat.le_refl _, hl, by simp, fun j u hu => ⟨b, 0, rfl, by rw [cell_of h, Nat.zero_add, List.getElem?_toArray]; exact hu⟩⟩, hs⟩
theorem strs_none (w : World) : StrsAt w (.slice none 0 0) [] := ⟨⟨none, 0, rfl, Nat.le_refl _, Nat.zero_le _, rfl, fun j u hu => by simp at hu⟩, fun s hs => by cases hs⟩
theorem i64_small {n : Int} (h : -1000000 ≤ n ∧ n ≤ 1000000) : i64ok n := by unfold i64ok; omega

theorem i64_zero : i64ok 0 := i64_small (by decide)
theorem k_size : ∀ s ∈ [tSteel, tIron, tWood, tMat, tBuilt, tTay, tForth], s.size ≤ maxLen := by decide
theorem k_matAt {w : World} {b : Nat} (h : w.heap[b]? = some (.cells #[.string tSteel, .string tIron, .string tWood] 9 (0, 0))) : AttrAt w kMat (.slice (some ⟨b, 0, none⟩) 3 3) :=
  ⟨strs_of (l := [tSteel, tIron, tWood]) rfl h (by decide) (by decide), k_size tMat (by simp), i64_small (by decide), i64_small (by decide)⟩
theorem k_builtAt (w : World) : AttrAt w kBuilt (.slice none 0 0) := ⟨strs_none w, k_size tBuilt (by simp), i64_small (by decide), i64_small (by decide)⟩
theorem k_factAt {w : World} {b : Nat} {s t : ByteArray} (h : w.heap[b]? = some (.cells #[.string s, .string t] 9 (0, 0))) (hs : s.size ≤ maxLen) (ht : t.size ≤ maxLen) : FactAt w ⟨tTay, tMat, [s, t], 0, 0⟩ (.slice (some ⟨b, 0, none⟩) 2 2) :=
  ⟨strs_of (l := [s, t]) rfl h (by decide) (fun x hx => by
    rcases List.mem_cons.1 hx with rfl | hx
    · exact hs
    · rw [List.mem_singleton.1 hx]; exact ht), k_size tTay (by simp), k_size tMat (by simp), i64_zero, i64_zero⟩
theorem k_factAt3 (w : World) : FactAt w ⟨tTay, tBuilt, [], 1870, 1880⟩ (.slice none 0 0) := ⟨strs_none w, k_size tTay (by simp), k_size tBuilt (by simp), i64_small (by decide), i64_small (by decide)⟩

theorem k_addsAt {w : World} {b2 b3 b4 : Nat} (h2 : w.heap[b2]? = some (.cells #[.string tIron, .string tWood] 9 (0, 0))) (h3 : w.heap[b3]? = some (.cells #[.string tSteel, .string tIron] 9 (0, 0)))
    (h4 : w.heap[b4]? = some (.cells #[.string tTay, .string tMat, .slice (some ⟨b2, 0, none⟩) 2 2, .int .i64 0, .int .i64 0, .string tTay, .string tMat, .slice (some ⟨b3, 0, none⟩) 2 2, .int .i64 0, .int .i64 0, .string tTay, .string tBuilt, .slice none 0 0, .int .i64 1870, .int .i64 1880] 46 (0, 0))) :
    FactsAt w (.slice (some ⟨b4, 0, none⟩) 3 3) kAdds := by
  refine ⟨[.slice (some ⟨b2, 0, none⟩) 2 2, .slice (some ⟨b3, 0, none⟩) 2 2, .slice none 0 0], rfl, ⟨_, 3, rfl, Nat.le_refl _, (by decide : (3 : Nat) ≤ maxLen), rfl, fun j u hu => ⟨b4, 0, rfl, ?_⟩⟩, fun x hx => ?_⟩
  · rw [cell_of h4, Nat.zero_add, List.getElem?_toArray]; exact hu
  · rcases List.mem_cons.1 hx with rfl | hx
    · exact k_factAt h2 (k_size tIron (by simp)) (k_size tWood (by simp))
    · rcases List.mem_cons.1 hx with rfl | hx
      · exact k_factAt h3 (k_size tSteel (by simp)) (k_size tIron (by simp))
      · rcases List.mem_cons.1 hx with rfl | hx
        · exact k_factAt3 w
        · cases hx
theorem k_schemaAt {w : World} {b b1 : Nat} (hb0 : w.heap[b]? = some (.cells #[.string tSteel, .string tIron, .string tWood] 9 (0, 0))) (hb1 : w.heap[b1]? = some (.cells #[.string tMat, .slice (some ⟨b, 0, none⟩) 3 3, .int .i64 0, .int .i64 0, .string tBuilt, .slice none 0 0, .int .i64 1800, .int .i64 2030] 90 (0, 0))) :
    AttrsAt w (.slice (some ⟨b1, 0, none⟩) 2 2) [kMat, kBuilt] := by
  refine ⟨[.slice (some ⟨b, 0, none⟩) 3 3, .slice none 0 0], rfl, ⟨_, 2, rfl, Nat.le_refl _, (by decide : (2 : Nat) ≤ maxLen), rfl, fun j u hu => ⟨b1, 0, rfl, ?_⟩⟩, fun x hx => ?_⟩
  · rw [cell_of hb1, Nat.zero_add, List.getElem?_toArray]; exact hu
  · rcases List.mem_cons.1 hx with rfl | hx
    · exact k_matAt hb0
    · rcases List.mem_cons.1 hx with rfl | hx
      · exact k_builtAt w
      · cases hx

theorem k_e1At {w : World} {b : Nat} (h : w.heap[b]? = some (.cells #[.string tIron] 9 (0, 0))) : ExpAt w [.int .u8 1, .string tMat, .slice (some ⟨b, 0, none⟩) 1 1, .int .i64 0, .int .i64 0, .slice none 0 0] kE1 :=
  .mk (css := []) (by decide) (k_size tMat (by simp)) i64_zero i64_zero (strs_of (l := [tIron]) rfl h (by decide) (fun s hs => by rw [List.mem_singleton.1 hs]; exact k_size tIron (by simp))) rfl ⟨none, 0, rfl, Nat.le_refl _, Nat.zero_le _, rfl, fun j u hu => by simp at hu⟩ (fun c hc => by cases hc) fun i c k hc => by simp at hc
theorem k_e2At (w : World) : ExpAt w [.int .u8 1, .string tBuilt, .slice none 0 0, .int .i64 1800, .int .i64 1874, .slice none 0 0] kE2 :=
  .mk (css := []) (by decide) (k_size tBuilt (by simp)) (i64_small (by decide)) (i64_small (by decide)) (strs_none w) rfl ⟨none, 0, rfl, Nat.le_refl _, Nat.zero_le _, rfl, fun j u hu => by simp at hu⟩ (fun c hc => by cases hc) fun i c k hc => by simp at hc

/-- An expression of kids whose cells lie in one block. -/
theorem exp_node {w : World} {b : Nat} {css : List (List Value)} {kids : List Exp} {n : Nat} (op : Int) (hop : 0 ≤ op ∧ op ≤ 255) (hn : kids.length = n) (hl : css.length = kids.length) (hm : n ≤ maxLen) (h : w.heap[b]? = some (.cells css.flatten.toArray 29 (0, 0))) (h6 : ∀ c ∈ css, c.length = 6) (hk : ∀ (i : Nat) c k, css[i]? = some c → kids[i]? = some k → ExpAt w c k) :
    ExpAt w [.int .u8 op, .string ⟨#[]⟩, .slice none 0 0, .int .i64 0, .int .i64 0, .slice (some ⟨b, 0, none⟩) n n] (.mk op ⟨#[]⟩ [] 0 0 kids) := by
  subst hn
  refine .mk hop (Nat.zero_le _) i64_zero i64_zero (strs_none w) hl ⟨_, _, rfl, Nat.le_refl _, hm, ?_, fun j u hu => ⟨b, 0, rfl, by rw [cell_of h, Nat.zero_add, List.getElem?_toArray]; exact hu⟩⟩ h6 hk
  rw [List.length_flatten, List.eq_replicate_iff.2 (⟨by rw [List.length_map]; exact hl, fun x hx => by
    obtain ⟨c, hc, rfl⟩ := List.mem_map.1 hx
    exact h6 c hc⟩ : (css.map List.length).length = kids.length ∧ _), List.sum_replicate_nat]

theorem k_q1At {w : World} {b2 b5 : Nat} (h2 : w.heap[b2]? = some (.cells #[.string tIron] 9 (0, 0))) (h5 : w.heap[b5]? = some (.cells #[.int .u8 1, .string tMat, .slice (some ⟨b2, 0, none⟩) 1 1, .int .i64 0, .int .i64 0, .slice none 0 0, .int .u8 1, .string tBuilt, .slice none 0 0, .int .i64 1800, .int .i64 1874, .slice none 0 0] 29 (0, 0))) :
    ExpAt w [.int .u8 3, .string ⟨#[]⟩, .slice none 0 0, .int .i64 0, .int .i64 0, .slice (some ⟨b5, 0, none⟩) 2 2] kQ1 := by
  refine exp_node (css := [[.int .u8 1, .string tMat, .slice (some ⟨b2, 0, none⟩) 1 1, .int .i64 0, .int .i64 0, .slice none 0 0], [.int .u8 1, .string tBuilt, .slice none 0 0, .int .i64 1800, .int .i64 1874, .slice none 0 0]]) 3 (by decide) rfl rfl (by decide) h5 (fun c hc => ?_) fun i c k hc hk => ?_
  · rcases List.mem_cons.1 hc with rfl | hc
    · rfl
    · rw [List.mem_singleton.1 hc]; rfl
  · match i, hc, hk with
    | 0, hc, hk =>
      obtain rfl := Option.some.inj hc
      obtain rfl := Option.some.inj hk
      exact k_e1At h2
    | 1, hc, hk =>
      obtain rfl := Option.some.inj hc
      obtain rfl := Option.some.inj hk
      exact k_e2At w
    | i + 2, hc, _ => simp at hc

theorem k_q2At {w : World} {b1 b2 b3 b4 : Nat} (h1 : w.heap[b1]? = some (.cells #[.string tIron] 9 (0, 0))) (h2 : w.heap[b2]? = some (.cells #[.string tIron] 9 (0, 0))) (h3 : w.heap[b3]? = some (.cells #[.int .u8 1, .string tMat, .slice (some ⟨b2, 0, none⟩) 1 1, .int .i64 0, .int .i64 0, .slice none 0 0] 29 (0, 0)))
    (h4 : w.heap[b4]? = some (.cells #[.int .u8 1, .string tMat, .slice (some ⟨b1, 0, none⟩) 1 1, .int .i64 0, .int .i64 0, .slice none 0 0, .int .u8 2, .string ⟨#[]⟩, .slice none 0 0, .int .i64 0, .int .i64 0, .slice (some ⟨b3, 0, none⟩) 1 1] 29 (0, 0))) :
    ExpAt w [.int .u8 4, .string ⟨#[]⟩, .slice none 0 0, .int .i64 0, .int .i64 0, .slice (some ⟨b4, 0, none⟩) 2 2] kQ2 := by
  have hn : ExpAt w [.int .u8 2, .string ⟨#[]⟩, .slice none 0 0, .int .i64 0, .int .i64 0, .slice (some ⟨b3, 0, none⟩) 1 1] (.mk 2 ⟨#[]⟩ [] 0 0 [kE1]) := by
    refine exp_node (css := [[.int .u8 1, .string tMat, .slice (some ⟨b2, 0, none⟩) 1 1, .int .i64 0, .int .i64 0, .slice none 0 0]]) 2 (by decide) rfl rfl (by decide) h3 (fun c hc => by rw [List.mem_singleton.1 hc]; rfl) fun i c k hc hk => ?_
    match i, hc, hk with
    | 0, hc, hk =>
      obtain rfl := Option.some.inj hc
      obtain rfl := Option.some.inj hk
      exact k_e1At h2
    | i + 1, hc, _ => simp at hc
  refine exp_node (css := [[.int .u8 1, .string tMat, .slice (some ⟨b1, 0, none⟩) 1 1, .int .i64 0, .int .i64 0, .slice none 0 0], [.int .u8 2, .string ⟨#[]⟩, .slice none 0 0, .int .i64 0, .int .i64 0, .slice (some ⟨b3, 0, none⟩) 1 1]]) 4 (by decide) rfl rfl (by decide) h4 (fun c hc => ?_) fun i c k hc hk => ?_
  · rcases List.mem_cons.1 hc with rfl | hc
    · rfl
    · rw [List.mem_singleton.1 hc]; rfl
  · match i, hc, hk with
    | 0, hc, hk =>
      obtain rfl := Option.some.inj hc
      obtain rfl := Option.some.inj hk
      exact k_e1At h1
    | 1, hc, hk =>
      obtain rfl := Option.some.inj hc
      obtain rfl := Option.some.inj hk
      exact hn
    | i + 2, hc, _ => simp at hc

/-- What holds in the region that asks for the matches. -/
def KqI (W6 : World) (us : List Value) (W : World) : Prop := Ext W6 W ∧ match us with
  | [] => True
  | [u2] => ∃ b2, u2 = .slice (some ⟨b2, 0, none⟩) 1 1 ∧ W.heap[b2]? = some (.cells #[.string tIron] 9 (0, 0))
  | [_, u3] => ∃ b2, u3 = .agg #[.int .u8 1, .string tMat, .slice (some ⟨b2, 0, none⟩) 1 1, .int .i64 0, .int .i64 0, .slice none 0 0] ∧ W.heap[b2]? = some (.cells #[.string tIron] 9 (0, 0))
  | [_, _, u5] => ∃ b2 b5, u5 = .slice (some ⟨b5, 0, none⟩) 2 2 ∧ W.heap[b2]? = some (.cells #[.string tIron] 9 (0, 0)) ∧ W.heap[b5]? = some (.cells #[.int .u8 1, .string tMat, .slice (some ⟨b2, 0, none⟩) 1 1, .int .i64 0, .int .i64 0, .slice none 0 0, .int .u8 1, .string tBuilt, .slice none 0 0, .int .i64 1800, .int .i64 1874, .slice none 0 0] 29 (0, 0))
  | _ :: _ :: _ :: u8 :: _ => ∃ mg mc, u8 = .tuple #[.slice (some ⟨mg, 0, none⟩) 1 mc, .int .i64 0] ∧ W.cell? ⟨mg, 0, none⟩ = some (.string tTay) ∧ W.cell? ⟨mg, 1, none⟩ = some (.int .u8 2)

end Go.Proofs.YtihfcjioilmmjaaGreat
namespace Go.Proofs.YtihfcjioilmmjaaGreat
open Go Go.RowKit
open Go.Lib Go.Sort Go.Maps Go.Shelf Go.Proofs

section
variable {B : Nat} {w : World} {rb : Nat} {R : Rec} {cm : Nat} {vv fv : Value} {os : List (Option Nat × Option Nat)} {xs : List (List Value)} {c1 c2 : Nat} {ver : Ver}

theorem k_query (h : RecAt B w rb R cm vv fv os xs) (hg : Glob w) (hcols : R.cols = kCols c1 c2) (hc : c1 ≠ c2) (hv : R.vers[1]? = some ver) (hhf : heldF R ver = kHeld c1 c2) {b2 b5 : Nat} (h2 : w.heap[b2]? = some (.cells #[.string tIron] 9 (0, 0)))
    (h5 : w.heap[b5]? = some (.cells #[.int .u8 1, .string tMat, .slice (some ⟨b2, 0, none⟩) 1 1, .int .i64 0, .int .i64 0, .slice none 0 0, .int .u8 1, .string tBuilt, .slice none 0 0, .int .i64 1800, .int .i64 1874, .slice none 0 0] 29 (0, 0))) :
    Calls Tryz.prog 14 #[encP rb, .int .i64 1, .agg #[.int .u8 3, .string ⟨#[]⟩, .slice none 0 0, .int .i64 0, .int .i64 0, .slice (some ⟨b5, 0, none⟩) 2 2, .slice none 0 0]] w fun e w' =>
      ∃ mg mc, e = .returned (.tuple #[.slice (some ⟨mg, 0, none⟩) 1 mc, .int .i64 0]) ∧ w'.cell? ⟨mg, 0, none⟩ = some (.string tTay) ∧ w'.cell? ⟨mg, 1, none⟩ = some (.int .u8 2) ∧ Ext w w' := by
  obtain ⟨q, hq, hm, hφ⟩ : ∃ q, readF0 R kQ1 = some q ∧ q.marks = mergeM (mergeM (fun _ => none) (inQ kMat c1 ⟨2, 0, 0⟩ 0 0).marks) (inQ kBuilt c2 ⟨0, 1800, 1874⟩ 1800 1874).marks ∧ ∀ ρ, q.φ ρ = ((2 : Nat).testBit (ρ c1).toNat && (decide (1800 ≤ ρ c2) && decide (ρ c2 ≤ 1874))) := by
    obtain ⟨cols, v, f⟩ := R
    obtain rfl : cols = kCols c1 c2 := hcols
    exact k_read1 c1 c2 hc v f
  have hp : ∀ t ∈ wholesV (heldF R ver), partsV (heldF R ver) (ofBytes t) = [] := fun t ht => by
    rw [hhf] at ht ⊢
    rw [k_wholes] at ht
    rw [List.mem_singleton.1 ht]
    exact k_parts1 c1 c2
  refine (query0_any h hg hv (k_q1At h2 h5) (by decide) none 0 hq hp).mono ?_
  rw [hhf]
  rintro e w' ⟨hx, ⟨hb, _⟩ | ⟨ht, _⟩ | ⟨_, v, ks, rfl, hks, hrow⟩⟩
  · exact hb.elim
  · rw [k_many] at ht; cases ht
  rw [k_wholes] at hks hrow
  obtain ⟨k, rfl⟩ : ∃ k, ks = [k] := List.length_eq_one_iff.1 hks.1
  have hk := (hks.2 0 _ _ rfl rfl).1
  obtain rfl : k = 2 := by
    obtain ⟨cols, vl, f⟩ := R
    obtain rfl : cols = kCols c1 c2 := hcols
    exact k_like1 hc hm hφ hk
  have hrow' : w'.ownsRow w.heap.size 64 2 v 1 [.string tTay, .int .u8 2] := hrow
  rcases hrow'.2 with ⟨_, h0⟩ | ⟨g, cap, cur, rfl, _, hgg, _, _, _, ht⟩
  · cases h0
  · refine ⟨g, cap, rfl, ?_, ?_, hx⟩
    · rw [cell_of hgg]
      have h2 : (cur.toList.take (1 * 2))[0]? = some (.string tTay) := by rw [ht]; rfl
      rw [List.getElem?_take] at h2
      simpa using h2
    · rw [cell_of hgg]
      have h2 : (cur.toList.take (1 * 2))[1]? = some (.int .u8 2) := by rw [ht]; rfl
      rw [List.getElem?_take] at h2
      simpa using h2

theorem k_likes (h : RecAt B w rb R cm vv fv os xs) (hg : Glob w) (hcols : R.cols = kCols c1 c2) (hc : c1 ≠ c2) (hv : R.vers[1]? = some ver) (hhf : heldF R ver = kHeld c1 c2) {b1 b2 b3 b4 : Nat} (h1 : w.heap[b1]? = some (.cells #[.string tIron] 9 (0, 0))) (h2 : w.heap[b2]? = some (.cells #[.string tIron] 9 (0, 0))) (h3 : w.heap[b3]? = some (.cells #[.int .u8 1, .string tMat, .slice (some ⟨b2, 0, none⟩) 1 1, .int .i64 0, .int .i64 0, .slice none 0 0] 29 (0, 0)))
    (h4 : w.heap[b4]? = some (.cells #[.int .u8 1, .string tMat, .slice (some ⟨b1, 0, none⟩) 1 1, .int .i64 0, .int .i64 0, .slice none 0 0, .int .u8 2, .string ⟨#[]⟩, .slice none 0 0, .int .i64 0, .int .i64 0, .slice (some ⟨b3, 0, none⟩) 1 1] 29 (0, 0))) :
    Calls Tryz.prog 17 #[encP rb, .int .i64 1, .string tForth, .agg #[.int .u8 4, .string ⟨#[]⟩, .slice none 0 0, .int .i64 0, .int .i64 0, .slice (some ⟨b4, 0, none⟩) 2 2, .slice none 0 0]] w fun e w' => e = .returned (.tuple #[.int .u8 1, .int .i64 0]) ∧ Ext w w' := by
  obtain ⟨q, hq, hm, hφ⟩ : ∃ q, readF0 R kQ2 = some q ∧ q.marks = mergeM (mergeM (fun _ => none) (inQ kMat c1 ⟨2, 0, 0⟩ 0 0).marks) (mergeM (fun _ => none) (inQ kMat c1 ⟨2, 0, 0⟩ 0 0).marks) ∧ ∀ ρ, q.φ ρ = true := by
    obtain ⟨cols, v, f⟩ := R
    obtain rfl : cols = kCols c1 c2 := hcols
    exact k_read2 c1 c2 hc v f
  have hp : partsV (heldF R ver) tForth = [] := by rw [hhf]; exact k_parts2 c1 c2
  refine (likes0_any h hg hv tForth (k_size tForth (by simp)) (k_q2At h1 h2 h3 h4) (by decide) none 0 hq hp).mono ?_
  rw [hhf]
  have hnm : nm tForth = true := by kernel_rfl
  rintro e w' ⟨hx, ⟨hb, _⟩ | ⟨_, hb, _⟩ | ⟨_, hb, _⟩ | ⟨_, _, k, rfl, hk, _⟩⟩
  · rw [hnm] at hb; cases hb
  · exact hb.elim
  · rw [k_parts2] at hb; exact absurd hb (by simp)
  · obtain rfl : k = 1 := by
      obtain ⟨cols, vl, f⟩ := R
      obtain rfl : cols = kCols c1 c2 := hcols
      exact k_like2 hm hφ hk
    exact ⟨rfl, hx⟩
end

end Go.Proofs.YtihfcjioilmmjaaGreat
namespace Go.Proofs.YtihfcjioilmmjaaGreat
open Go Go.RowKit
open Go.Lib Go.Sort Go.Maps Go.Shelf Go.Proofs

set_option maxHeartbeats 16000000 in
set_option maxRecDepth 100000 in
theorem knows_any (w : World) (hg : Glob w) : Calls Tryz.prog 9 #[] w fun e w' => e = .returned (.bool true) ∧ Ext w w' := by
  obtain ⟨W0, hW0⟩ : ∃ W0, W0 = (w.alloc (.cells #[.string tSteel, .string tIron, .string tWood] 9 (0, 0))).alloc (.cells #[.string tMat, .slice (some ⟨w.heap.size, 0, none⟩) 3 3, .int .i64 0, .int .i64 0, .string tBuilt, .slice none 0 0, .int .i64 1800, .int .i64 2030] 90 (0, 0)) := ⟨_, rfl⟩
  have hx0 : Ext w W0 := by rw [hW0]; repeat' (first | with_reducible exact Below.refl _ _ | with_reducible assumption | with_reducible apply Below.drew | with_reducible exact below_drewN (by with_reducible assumption) _ | (with_reducible refine Below.setCell ?_ (by first | exact Nat.le_refl _ | assumption | (simp; done) | omega | (simp; omega)) _) | (with_reducible refine Below.alloc ?_ (by first | exact Nat.le_refl _ | assumption | (simp; done) | omega | (simp; omega)) _) | (with_reducible refine below_putObj ?_ (by first | exact Nat.le_refl _ | assumption | (simp; done) | omega | (simp; omega)) _) | (with_reducible refine below_drawn ?_ _))
  have hb0 : W0.heap[w.heap.size]? = some (.cells #[.string tSteel, .string tIron, .string tWood] 9 (0, 0)) := by rw [hW0]; simp only [heap_drawn_get, heap_drew_get, heap_setCell_get, heap_alloc_get, World.size_alloc, World.size_setCell, size_drawn, putObj_get, putObj_size]; (repeat (first | rw [if_pos trivial] | rw [if_pos rfl] | rw [if_neg (by omega)] | rw [if_pos (by omega)]))
  have hb1 : W0.heap[w.heap.size + 1]? = some (.cells #[.string tMat, .slice (some ⟨w.heap.size, 0, none⟩) 3 3, .int .i64 0, .int .i64 0, .string tBuilt, .slice none 0 0, .int .i64 1800, .int .i64 2030] 90 (0, 0)) := by rw [hW0]; simp only [heap_drawn_get, heap_drew_get, heap_setCell_get, heap_alloc_get, World.size_alloc, World.size_setCell, size_drawn, putObj_get, putObj_size]; (repeat (first | rw [if_pos trivial] | rw [if_pos rfl] | rw [if_neg (by omega)] | rw [if_pos (by omega)]))
  have hat := k_schemaAt hb0 hb1
  have hnew := new_any _ [kMat, kBuilt] W0 hat (fun a ha => by
    rcases List.mem_cons.1 ha with rfl | ha
    · decide
    · rw [List.mem_singleton.1 ha]; decide)
  have HNEW := Lib.hid hnew
  have HX0 := Lib.hid hx0
  have HGLB := Lib.hid hg
  clear hnew hx0 hb0 hb1 hat hg
  unfold tSteel tIron tWood tMat tBuilt at hW0
  go_enter Tryz.func9, Tryz.ntmps9
  go_wp2_with fail
  rw [← hW0]
  clear hW0
  refine HNEW.out.mono ?_
  rintro e w1 ⟨hx1, ⟨hno, _⟩ | ⟨_, rb, cm, vv, cols, hcm, rfl, hrec⟩⟩
  · exact absurd k_new hno
  obtain ⟨c1, c2, rfl⟩ : ∃ c1 c2, cols = kCols c1 c2 := by
    match cols, hcm with
    | [(a, c1), (b, c2)], hcm =>
      simp only [List.map_cons, List.map_nil, List.cons.injEq, and_true] at hcm
      obtain ⟨rfl, rfl⟩ := hcm
      exact ⟨c1, c2, rfl⟩
  have hc : c1 ≠ c2 := fun e => by
    subst e
    have := cols_unique hrec (a := kMat) (a' := kBuilt) (c := c1) (by simp [kCols]) (by simp [kCols])
    exact absurd (congrArg Attr.low this) (by decide)
  have HC := Lib.hid hc
  have HX1 := Lib.hid (HX0.out.trans' hx1)
  have HREC := Lib.hid hrec
  clear hx1 hrec hc hcm
  obtain ⟨W2, hW2⟩ : ∃ W2, W2 = (((w1.alloc (.cells #[.int .i64 0] 3 (0, 0))).alloc (.cells #[.string tIron, .string tWood] 9 (0, 0))).alloc (.cells #[.string tSteel, .string tIron] 9 (0, 0))).alloc (.cells #[.string tTay, .string tMat, .slice (some ⟨w1.heap.size + 1, 0, none⟩) 2 2, .int .i64 0, .int .i64 0, .string tTay, .string tMat, .slice (some ⟨w1.heap.size + 1 + 1, 0, none⟩) 2 2, .int .i64 0, .int .i64 0, .string tTay, .string tBuilt, .slice none 0 0, .int .i64 1870, .int .i64 1880] 46 (0, 0)) := ⟨_, rfl⟩
  have hx2 : Ext w1 W2 := by rw [hW2]; repeat' (first | with_reducible exact Below.refl _ _ | with_reducible assumption | with_reducible apply Below.drew | with_reducible exact below_drewN (by with_reducible assumption) _ | (with_reducible refine Below.setCell ?_ (by first | exact Nat.le_refl _ | assumption | (simp; done) | omega | (simp; omega)) _) | (with_reducible refine Below.alloc ?_ (by first | exact Nat.le_refl _ | assumption | (simp; done) | omega | (simp; omega)) _) | (with_reducible refine below_putObj ?_ (by first | exact Nat.le_refl _ | assumption | (simp; done) | omega | (simp; omega)) _) | (with_reducible refine below_drawn ?_ _))
  have hb1 : W2.heap[w1.heap.size]? = some (.cells #[.int .i64 0] 3 (0, 0)) := by rw [hW2]; simp only [heap_drawn_get, heap_drew_get, heap_setCell_get, heap_alloc_get, World.size_alloc, World.size_setCell, size_drawn, putObj_get, putObj_size]; (repeat (first | rw [if_pos trivial] | rw [if_pos rfl] | rw [if_neg (by omega)] | rw [if_pos (by omega)]))
  have hb2 : W2.heap[w1.heap.size + 1]? = some (.cells #[.string tIron, .string tWood] 9 (0, 0)) := by rw [hW2]; simp only [heap_drawn_get, heap_drew_get, heap_setCell_get, heap_alloc_get, World.size_alloc, World.size_setCell, size_drawn, putObj_get, putObj_size]; (repeat (first | rw [if_pos trivial] | rw [if_pos rfl] | rw [if_neg (by omega)] | rw [if_pos (by omega)]))
  have hb3 : W2.heap[w1.heap.size + 1 + 1]? = some (.cells #[.string tSteel, .string tIron] 9 (0, 0)) := by rw [hW2]; simp only [heap_drawn_get, heap_drew_get, heap_setCell_get, heap_alloc_get, World.size_alloc, World.size_setCell, size_drawn, putObj_get, putObj_size]; (repeat (first | rw [if_pos trivial] | rw [if_pos rfl] | rw [if_neg (by omega)] | rw [if_pos (by omega)]))
  have hb4 : W2.heap[w1.heap.size + 1 + 1 + 1]? = some (.cells #[.string tTay, .string tMat, .slice (some ⟨w1.heap.size + 1, 0, none⟩) 2 2, .int .i64 0, .int .i64 0, .string tTay, .string tMat, .slice (some ⟨w1.heap.size + 1 + 1, 0, none⟩) 2 2, .int .i64 0, .int .i64 0, .string tTay, .string tBuilt, .slice none 0 0, .int .i64 1870, .int .i64 1880] 46 (0, 0)) := by rw [hW2]; simp only [heap_drawn_get, heap_drew_get, heap_setCell_get, heap_alloc_get, World.size_alloc, World.size_setCell, size_drawn, putObj_get, putObj_size]; (repeat (first | rw [if_pos trivial] | rw [if_pos rfl] | rw [if_neg (by omega)] | rw [if_pos (by omega)]))
  have hadds := k_addsAt hb2 hb3 hb4
  have hps : IntsAt W2 (.slice (some ⟨w1.heap.size, 0, none⟩) 1 1) [0] := sl_one hb1
  have hwd : IntsAt W2 (.slice none 0 0) [] := ⟨none, 0, rfl, Nat.le_refl _, Nat.zero_le _, rfl, fun j u hu => by simp at hu⟩
  have HX2 := Lib.hid (HX1.out.trans' hx2)
  have HREC2 := Lib.hid (HREC.out.ext hx2)
  have HAD := Lib.hid hadds
  have HPS := Lib.hid hps
  have HWD := Lib.hid hwd
  clear hadds hps hwd hx2 hb1 hb2 hb3 hb4
  unfold tSteel tIron tWood tMat tBuilt tTay at hW2
  unfold encP
  go_wp2_with fail
  rw [← hW2]
  clear hW2
  refine commit_try HREC2.out (HGLB.out.ext HX2.out) _ _ _ [0] HPS.out (by decide) kAdds HAD.out (by decide) (fun f hf => by
    rcases List.mem_cons.1 hf with rfl | hf
    · decide
    · rcases List.mem_cons.1 hf with rfl | hf
      · decide
      · rw [List.mem_singleton.1 hf]; decide) [] HWD.out _ ?_ ?_ ?_ ?_ ?_ ?_
  · intro W _ h; exact absurd h (by decide)
  · rintro W _ _ ⟨p, hp, h⟩; rw [List.mem_singleton.1 hp] at h; exact absurd h (by simp [hasV])
  · intro W _ _ _ h; rw [k_rows] at h; cases h
  · intro W _ h; exact absurd rfl h
  · rintro W _ (h | h)
    · exact absurd h (by show ¬ 200 ≤ 1; decide)
    · exact absurd h (by show ¬ 300 < 0 + 3; decide)
  intro W3 frs la lw v' f' os' xs' hC hR3 hK
  obtain rfl : frs = kRows c1 c2 := by
    have := hC.rows
    rw [k_rows] at this
    exact (Option.some.inj this).symm
  have hx3 : Ext w W3 := by
    have h1 := HX2.out
    have hs : w.heap.size ≤ W0.heap.size := HX0.out.size
    refine ⟨hK.os.trans h1.os, hK.tape.trans h1.tape, hK.output.trans h1.output, Nat.le_trans h1.size hK.size, fun k hk => ?_⟩
    obtain ⟨o, ho⟩ : ∃ o, w.heap[k]? = some o := ⟨_, Array.getElem?_eq_getElem hk⟩
    rw [ho]
    exact hK.block k o (h1.obj ho) (.inl (by omega))
  obtain ⟨R, hRe⟩ : ∃ R, commitR ⟨kCols c1 c2, [⟨[], []⟩], []⟩ (kRows c1 c2) la lw = R := ⟨_, rfl⟩
  have hv1 : R.vers[1]? = some ⟨la, lw⟩ := by rw [← hRe]; rfl
  have hcm1 : colOf R tMat = some (kMat, c1) := by rw [← hRe]; exact k_col1 _ _ _ _
  have hhf : heldF R ⟨la, lw⟩ = kHeld c1 c2 := by
    rw [← hRe]
    exact k_held hC (by rw [hRe] at hR3; exact (hR3.ok.keys ⟨la, lw⟩ (List.mem_of_getElem? hv1)).1)
  rw [hRe] at hR3
  have hkn := known_any hR3 (HGLB.out.ext hx3) hv1 tTay tMat (by decide) (by kernel_rfl) hcm1
  rw [hhf, k_of1 HC.out, k_doubt HC.out, k_facts HC.out] at hkn
  replace hkn : Calls Tryz.prog 13 #[encP rb, .int .i64 1, .string tTay, .string tMat] W3 fun e w' => ∃ xv fvs, e = .returned (.tuple #[.agg #[xv, .int .i64 0, .int .i64 0, fvs, .bool false], .int .i64 0]) ∧
      w'.ownsRow W3.heap.size 9 1 xv (valsB 2 kMat.values.zipIdx).length ((valsB 2 kMat.values.zipIdx).map Value.string) ∧ w'.ownsRow W3.heap.size 3 1 fvs 2 [.int .i64 1, .int .i64 2] ∧ Ext W3 w' := hkn
  rw [k_vals] at hkn
  have HKN := Lib.hid hkn
  have HREC3 := Lib.hid hR3
  have HX3 := Lib.hid hx3
  have HHF := Lib.hid hhf
  have HV1 := Lib.hid hv1
  have HCOL := Lib.hid (show R.cols = kCols c1 c2 by rw [← hRe]; rfl)
  clear hkn hR3 hx3 hhf hv1 hRe hcm1 hC hK HREC HREC2
  unfold encP at HKN
  rw [show (((({ cols := kCols c1 c2, vers := [{ added := [], wd := [] }], facts := [] } : Rec).vers.length : Nat)) : Int) = 1 from rfl]
  go_wp2_with fail
  refine HKN.out.mono ?_
  rintro e w4 ⟨xv, fvs, rfl, hxr, hfr, hx4⟩
  obtain ⟨g, xc, rfl, hxc⟩ : ∃ g xc, xv = .slice (some ⟨g, 0, none⟩) 1 xc ∧ w4.cell? ⟨g, 0, none⟩ = some (.string tIron) := by
    rcases hxr.2 with ⟨_, h0⟩ | ⟨g, cap, cur, he, _, hgg, _, _, _, ht⟩
    · cases h0
    · refine ⟨g, cap, he, ?_⟩
      rw [cell_of hgg]
      have h2 : (cur.toList.take (1 * 1))[0]? = some (.string tIron) := by
        have : cur.toList.take ([tIron].length * 1) = [.string tIron] := ht
        rw [show (1 * 1 : Nat) = [tIron].length * 1 from rfl, this]; rfl
      rw [List.getElem?_take] at h2
      simpa using h2
  obtain ⟨fp, fc, rfl⟩ := owns_form hfr
  obtain ⟨W5, hW5⟩ : ∃ W5, W5 = w4.alloc (.cells #[.slice (some ⟨g, 0, none⟩) 1 xc, .int .i64 0, .int .i64 0, .slice fp 2 fc, .bool false] 52 (0, 0)) := ⟨_, rfl⟩
  have hx5 : Ext w4 W5 := by rw [hW5]; repeat' (first | with_reducible exact Below.refl _ _ | with_reducible assumption | with_reducible apply Below.drew | with_reducible exact below_drewN (by with_reducible assumption) _ | (with_reducible refine Below.setCell ?_ (by first | exact Nat.le_refl _ | assumption | (simp; done) | omega | (simp; omega)) _) | (with_reducible refine Below.alloc ?_ (by first | exact Nat.le_refl _ | assumption | (simp; done) | omega | (simp; omega)) _) | (with_reducible refine below_putObj ?_ (by first | exact Nat.le_refl _ | assumption | (simp; done) | omega | (simp; omega)) _) | (with_reducible refine below_drawn ?_ _))
  have hb5 : W5.heap[w4.heap.size]? = some (.cells #[.slice (some ⟨g, 0, none⟩) 1 xc, .int .i64 0, .int .i64 0, .slice fp 2 fc, .bool false] 52 (0, 0)) := by rw [hW5]; simp only [heap_drawn_get, heap_drew_get, heap_setCell_get, heap_alloc_get, World.size_alloc, World.size_setCell, size_drawn, putObj_get, putObj_size]; (repeat (first | rw [if_pos trivial] | rw [if_pos rfl] | rw [if_neg (by omega)] | rw [if_pos (by omega)]))
  have d0 := cell_of hb5 0
  have d3 := cell_of hb5 3
  have d4 := cell_of hb5 4
  have dg := hx5.cell' hxc
  have HX5 := Lib.hid (hx4.trans' hx5)
  clear hx4 hx5 hb5 hxr hfr hxc
  go_upto_region 6 with fail
  rw [← hW5]
  clear hW5
  have hti : tIron.toList = [105, 114, 111, 110] := by kernel_rfl
  go_upto_region 8 with fail
  obtain ⟨W6, hW6⟩ : ∃ W6, W6 = W5.alloc (.cells #[.int .u8 1, .string tBuilt, .slice none 0 0, .int .i64 1800, .int .i64 1874, .slice none 0 0] 29 (0, 0)) := ⟨_, rfl⟩
  have hx6 : Ext W5 W6 := by rw [hW6]; repeat' (first | with_reducible exact Below.refl _ _ | with_reducible assumption | with_reducible apply Below.drew | with_reducible exact below_drewN (by with_reducible assumption) _ | (with_reducible refine Below.setCell ?_ (by first | exact Nat.le_refl _ | assumption | (simp; done) | omega | (simp; omega)) _) | (with_reducible refine Below.alloc ?_ (by first | exact Nat.le_refl _ | assumption | (simp; done) | omega | (simp; omega)) _) | (with_reducible refine below_putObj ?_ (by first | exact Nat.le_refl _ | assumption | (simp; done) | omega | (simp; omega)) _) | (with_reducible refine below_drawn ?_ _))
  have hb6 : W6.heap[W5.heap.size]? = some (.cells #[.int .u8 1, .string tBuilt, .slice none 0 0, .int .i64 1800, .int .i64 1874, .slice none 0 0] 29 (0, 0)) := by rw [hW6]; simp only [heap_drawn_get, heap_drew_get, heap_setCell_get, heap_alloc_get, World.size_alloc, World.size_setCell, size_drawn, putObj_get, putObj_size]; (repeat (first | rw [if_pos trivial] | rw [if_pos rfl] | rw [if_neg (by omega)] | rw [if_pos (by omega)]))
  have HX6 := Lib.hid (HX5.out.trans' hx6)
  have HB6 := Lib.hid hb6
  clear hx6 hb6 d0 d3 d4 dg hti
  unfold tBuilt at hW6
  go_upto_region 9 with fail
  rw [← hW6]
  clear hW6
  refine Rt.wp_region_rt (by kernel_rfl) [0, 1, 4, 2, 3, 5, 6, 7, 8, 9, 10, 11, 12, 13] [2, 3, 5, 8] [3, 3, 1000, 1000, 2, 1000, 3, 3, 1000, 1000, 1000, 1000, 1000, 1000] [0, 0, 0, 4, 0, 28, 60, 124, 255, 511, 1023, 1023, 2047, 8191] (by kernel_rfl) (KqI W6) ?_ ?_
  · exact ⟨(below_drawn (ext_refl _) _ : Ext _ _), trivial⟩
  iterate 2 (refine Rt.rs_sil rfl rfl rfl (fun K hK => ?_); go_simp; refine hK _ ?_; clear hK K)
  (refine Rt.rs_rd rfl rfl rfl ?_; apply Exists.intro; refine ⟨fun us' W hp hl hI => ?_, ?_⟩; · (have hE := HB6.out; have hF := hI.1; have g0 := cell_of (hF.obj hE) 0; have g1 := cell_of (hF.obj hE) 1; have g2 := cell_of (hF.obj hE) 2; have g3 := cell_of (hF.obj hE) 3; have g4 := cell_of (hF.obj hE) 4; have g5 := cell_of (hF.obj hE) 5; go_simp; rfl)); simp only [Act.put, List.getElem_toArray, List.getElem_cons_succ, List.getElem_cons_zero, List.setIfInBounds_toArray, List.set_cons_succ, List.set_cons_zero]
  refine Rt.rs_eff rfl rfl rfl (fun W hI => ?_) (fun v hv => ?_)
  · have hE := hI.1
    refine Rt.gives_val ?_
    apply Exists.intro
    apply Exists.intro
    refine ⟨by go_simp; exact ⟨rfl, rfl⟩, ?_⟩
    refine ⟨hE.trans' (by repeat' (first | with_reducible exact Below.refl _ _ | with_reducible assumption | with_reducible apply Below.drew | with_reducible exact below_drewN (by with_reducible assumption) _ | (with_reducible refine Below.setCell ?_ (by first | exact Nat.le_refl _ | assumption | (simp; done) | omega | (simp; omega)) _) | (with_reducible refine Below.alloc ?_ (by first | exact Nat.le_refl _ | assumption | (simp; done) | omega | (simp; omega)) _) | (with_reducible refine below_putObj ?_ (by first | exact Nat.le_refl _ | assumption | (simp; done) | omega | (simp; omega)) _) | (with_reducible refine below_drawn ?_ _))), _, rfl, ?_⟩
    simp only [heap_drawn_get, heap_drew_get, heap_setCell_get, heap_alloc_get, World.size_alloc, World.size_setCell, size_drawn, putObj_get, putObj_size]; (repeat (first | rw [if_pos trivial] | rw [if_pos rfl] | rw [if_neg (by omega)] | rw [if_pos (by omega)]))
    rfl
  obtain ⟨b2, rfl⟩ : ∃ b2, v = .slice (some ⟨b2, 0, none⟩) 1 1 := let ⟨W, hI⟩ := hv; let ⟨b2, h, _⟩ := hI.2; ⟨b2, h⟩
  clear hv
  simp only [Act.put, List.getElem_toArray, List.getElem_cons_succ, List.getElem_cons_zero, List.setIfInBounds_toArray, List.set_cons_succ, List.set_cons_zero]
  refine Rt.rs_eff rfl rfl rfl (fun W hI => ?_) (fun v hv => ?_)
  · obtain ⟨hE, b', e, hb⟩ := hI
    simp only [Value.slice.injEq, Option.some.injEq, Addr.mk.injEq, and_true] at e
    subst e
    refine Rt.gives_cal ?_
    apply Exists.intro
    apply Exists.intro
    apply Exists.intro
    refine ⟨by go_simp; exact ⟨⟨rfl, rfl⟩, rfl⟩, ?_⟩
    refine (material_any _ 1 1 _).mono ?_
    rintro e w5 ⟨rfl, hx5⟩
    exact ⟨_, rfl, hE.trans' hx5, b2, rfl, hx5.obj hb⟩
  obtain ⟨b2', rfl⟩ : ∃ b2', v = .agg #[.int .u8 1, .string tMat, .slice (some ⟨b2', 0, none⟩) 1 1, .int .i64 0, .int .i64 0, .slice none 0 0] := let ⟨W, hI⟩ := hv; let ⟨b, h, _⟩ := hI.2; ⟨b, h⟩
  clear hv
  simp only [Act.put, List.getElem_toArray, List.getElem_cons_succ, List.getElem_cons_zero, List.setIfInBounds_toArray, List.set_cons_succ, List.set_cons_zero]
  refine Rt.rs_eff rfl rfl rfl (fun W hI => ?_) (fun v hv => ?_)
  · obtain ⟨hE, b', e, hb⟩ := hI
    simp only [Value.agg.injEq, Array.mk.injEq, List.cons.injEq, Value.slice.injEq, Option.some.injEq, Addr.mk.injEq, and_true, true_and] at e
    subst e
    refine Rt.gives_val ?_
    apply Exists.intro
    apply Exists.intro
    refine ⟨by go_simp; exact ⟨rfl, rfl⟩, ?_⟩
    refine ⟨hE.trans' (by repeat' (first | with_reducible exact Below.refl _ _ | with_reducible assumption | with_reducible apply Below.drew | with_reducible exact below_drewN (by with_reducible assumption) _ | (with_reducible refine Below.setCell ?_ (by first | exact Nat.le_refl _ | assumption | (simp; done) | omega | (simp; omega)) _) | (with_reducible refine Below.alloc ?_ (by first | exact Nat.le_refl _ | assumption | (simp; done) | omega | (simp; omega)) _) | (with_reducible refine below_putObj ?_ (by first | exact Nat.le_refl _ | assumption | (simp; done) | omega | (simp; omega)) _) | (with_reducible refine below_drawn ?_ _))), b2', _, rfl, ?_, ?_⟩
    · exact (show Ext W (W.alloc _) by repeat' (first | with_reducible exact Below.refl _ _ | with_reducible assumption | with_reducible apply Below.drew | with_reducible exact below_drewN (by with_reducible assumption) _ | (with_reducible refine Below.setCell ?_ (by first | exact Nat.le_refl _ | assumption | (simp; done) | omega | (simp; omega)) _) | (with_reducible refine Below.alloc ?_ (by first | exact Nat.le_refl _ | assumption | (simp; done) | omega | (simp; omega)) _) | (with_reducible refine below_putObj ?_ (by first | exact Nat.le_refl _ | assumption | (simp; done) | omega | (simp; omega)) _) | (with_reducible refine below_drawn ?_ _))).obj hb
    · simp only [heap_drawn_get, heap_drew_get, heap_setCell_get, heap_alloc_get, World.size_alloc, World.size_setCell, size_drawn, putObj_get, putObj_size]; (repeat (first | rw [if_pos trivial] | rw [if_pos rfl] | rw [if_neg (by omega)] | rw [if_pos (by omega)]))
  obtain ⟨b5, rfl⟩ : ∃ b5, v = .slice (some ⟨b5, 0, none⟩) 2 2 := let ⟨W, hI⟩ := hv; let ⟨_, b5, h, _⟩ := hI.2; ⟨b5, h⟩
  clear hv
  simp only [Act.put, List.getElem_toArray, List.getElem_cons_succ, List.getElem_cons_zero, List.setIfInBounds_toArray, List.set_cons_succ, List.set_cons_zero]
  iterate 2 (refine Rt.rs_sil rfl rfl rfl (fun K hK => ?_); go_simp; refine hK _ ?_; clear hK K)
  refine Rt.rs_eff rfl rfl rfl (fun W hI => ?_) (fun v hv => ?_)
  · obtain ⟨hE, b2'', b5', e, hb2, hb5⟩ := hI
    simp only [Value.slice.injEq, Option.some.injEq, Addr.mk.injEq, and_true] at e
    subst e
    refine Rt.gives_cal ?_
    apply Exists.intro
    apply Exists.intro
    apply Exists.intro
    refine ⟨by go_simp; exact ⟨⟨rfl, rfl⟩, rfl⟩, ?_⟩
    have hEW := HX6.out.trans' hE
    have hq := k_query (HREC3.out.ext hEW) (HGLB.out.ext (HX3.out.trans' hEW)) HCOL.out HC.out HV1.out HHF.out hb2 hb5
    unfold encP at hq
    refine hq.mono ?_
    rintro e w5 ⟨mg, mc, rfl, h1, h2, hx5⟩
    exact ⟨_, rfl, hE.trans' hx5, mg, mc, rfl, h1, h2⟩
  obtain ⟨mg, mc, rfl⟩ : ∃ mg mc, v = .tuple #[.slice (some ⟨mg, 0, none⟩) 1 mc, .int .i64 0] := let ⟨W, hI⟩ := hv; let ⟨mg, mc, h, _⟩ := hI.2; ⟨mg, mc, h⟩
  clear hv
  simp only [Act.put, List.getElem_toArray, List.getElem_cons_succ, List.getElem_cons_zero, List.setIfInBounds_toArray, List.set_cons_succ, List.set_cons_zero]
  iterate 5 (refine Rt.rs_sil rfl rfl rfl (fun K hK => ?_); go_simp; refine hK _ ?_; clear hK K)
  refine Rt.rs_nil (fun W7 hI => ?_)
  obtain ⟨hx7, mg', mc', e, hm0, hm1⟩ := hI
  simp only [Value.tuple.injEq, Array.mk.injEq, List.cons.injEq, Value.slice.injEq, Option.some.injEq, Addr.mk.injEq, and_true, true_and] at e
  obtain ⟨rfl, rfl⟩ := e
  obtain ⟨W8, hW8⟩ : ∃ W8, W8 = W7.alloc (.cells #[.string tIron] 9 (0, 0)) := ⟨_, rfl⟩
  have hx8 : Ext W7 W8 := by rw [hW8]; repeat' (first | with_reducible exact Below.refl _ _ | with_reducible assumption | with_reducible apply Below.drew | with_reducible exact below_drewN (by with_reducible assumption) _ | (with_reducible refine Below.setCell ?_ (by first | exact Nat.le_refl _ | assumption | (simp; done) | omega | (simp; omega)) _) | (with_reducible refine Below.alloc ?_ (by first | exact Nat.le_refl _ | assumption | (simp; done) | omega | (simp; omega)) _) | (with_reducible refine below_putObj ?_ (by first | exact Nat.le_refl _ | assumption | (simp; done) | omega | (simp; omega)) _) | (with_reducible refine below_drawn ?_ _))
  have hb8 : W8.heap[W7.heap.size]? = some (.cells #[.string tIron] 9 (0, 0)) := by rw [hW8]; simp only [heap_drawn_get, heap_drew_get, heap_setCell_get, heap_alloc_get, World.size_alloc, World.size_setCell, size_drawn, putObj_get, putObj_size]; (repeat (first | rw [if_pos trivial] | rw [if_pos rfl] | rw [if_neg (by omega)] | rw [if_pos (by omega)]))
  have HX7 := Lib.hid hx7
  have HX8 := Lib.hid hx8
  have HB8 := Lib.hid hb8
  have HM0 := Lib.hid hm0
  have HM1 := Lib.hid hm1
  clear hx7 hx8 hb8 hm0 hm1
  unfold tIron at hW8
  go_wp2_with fail
  rw [← hW8]
  clear hW8
  refine (material_any (some ⟨W7.heap.size, 0, none⟩) 1 1 W8).mono ?_
  rintro e w9 ⟨rfl, hx9⟩
  obtain ⟨W10, hW10⟩ : ∃ W10, W10 = w9.alloc (.cells #[.string tIron] 9 (0, 0)) := ⟨_, rfl⟩
  have hx10 : Ext w9 W10 := by rw [hW10]; repeat' (first | with_reducible exact Below.refl _ _ | with_reducible assumption | with_reducible apply Below.drew | with_reducible exact below_drewN (by with_reducible assumption) _ | (with_reducible refine Below.setCell ?_ (by first | exact Nat.le_refl _ | assumption | (simp; done) | omega | (simp; omega)) _) | (with_reducible refine Below.alloc ?_ (by first | exact Nat.le_refl _ | assumption | (simp; done) | omega | (simp; omega)) _) | (with_reducible refine below_putObj ?_ (by first | exact Nat.le_refl _ | assumption | (simp; done) | omega | (simp; omega)) _) | (with_reducible refine below_drawn ?_ _))
  have hb10 : W10.heap[w9.heap.size]? = some (.cells #[.string tIron] 9 (0, 0)) := by rw [hW10]; simp only [heap_drawn_get, heap_drew_get, heap_setCell_get, heap_alloc_get, World.size_alloc, World.size_setCell, size_drawn, putObj_get, putObj_size]; (repeat (first | rw [if_pos trivial] | rw [if_pos rfl] | rw [if_neg (by omega)] | rw [if_pos (by omega)]))
  have HX10 := Lib.hid (HX8.out.trans' (hx9.trans' hx10))
  have HB8' := Lib.hid ((hx9.trans' hx10).obj HB8.out)
  have HB10 := Lib.hid hb10
  clear hx9 hx10 hb10
  unfold tIron at hW10
  go_wp2_with fail
  rw [← hW10]
  clear hW10
  refine (material_any (some ⟨w9.heap.size, 0, none⟩) 1 1 W10).mono ?_
  rintro e w11 ⟨rfl, hx11⟩
  obtain ⟨W12, hW12⟩ : ∃ W12, W12 = (w11.alloc (.cells #[.int .u8 1, .string tMat, .slice (some ⟨w9.heap.size, 0, none⟩) 1 1, .int .i64 0, .int .i64 0, .slice none 0 0] 29 (0, 0))).alloc (.cells #[.int .u8 1, .string tMat, .slice (some ⟨W7.heap.size, 0, none⟩) 1 1, .int .i64 0, .int .i64 0, .slice none 0 0, .int .u8 2, .string ⟨#[]⟩, .slice none 0 0, .int .i64 0, .int .i64 0, .slice (some ⟨w11.heap.size, 0, none⟩) 1 1] 29 (0, 0)) := ⟨_, rfl⟩
  have hx12 : Ext w11 W12 := by rw [hW12]; repeat' (first | with_reducible exact Below.refl _ _ | with_reducible assumption | with_reducible apply Below.drew | with_reducible exact below_drewN (by with_reducible assumption) _ | (with_reducible refine Below.setCell ?_ (by first | exact Nat.le_refl _ | assumption | (simp; done) | omega | (simp; omega)) _) | (with_reducible refine Below.alloc ?_ (by first | exact Nat.le_refl _ | assumption | (simp; done) | omega | (simp; omega)) _) | (with_reducible refine below_putObj ?_ (by first | exact Nat.le_refl _ | assumption | (simp; done) | omega | (simp; omega)) _) | (with_reducible refine below_drawn ?_ _))
  have hb12 : W12.heap[w11.heap.size]? = some (.cells #[.int .u8 1, .string tMat, .slice (some ⟨w9.heap.size, 0, none⟩) 1 1, .int .i64 0, .int .i64 0, .slice none 0 0] 29 (0, 0)) := by rw [hW12]; simp only [heap_drawn_get, heap_drew_get, heap_setCell_get, heap_alloc_get, World.size_alloc, World.size_setCell, size_drawn, putObj_get, putObj_size]; (repeat (first | rw [if_pos trivial] | rw [if_pos rfl] | rw [if_neg (by omega)] | rw [if_pos (by omega)]))
  have hb13 : W12.heap[w11.heap.size + 1]? = some (.cells #[.int .u8 1, .string tMat, .slice (some ⟨W7.heap.size, 0, none⟩) 1 1, .int .i64 0, .int .i64 0, .slice none 0 0, .int .u8 2, .string ⟨#[]⟩, .slice none 0 0, .int .i64 0, .int .i64 0, .slice (some ⟨w11.heap.size, 0, none⟩) 1 1] 29 (0, 0)) := by rw [hW12]; simp only [heap_drawn_get, heap_drew_get, heap_setCell_get, heap_alloc_get, World.size_alloc, World.size_setCell, size_drawn, putObj_get, putObj_size]; (repeat (first | rw [if_pos trivial] | rw [if_pos rfl] | rw [if_neg (by omega)] | rw [if_pos (by omega)]))
  have hx712 := HX10.out.trans' (hx11.trans' hx12)
  have hEW := (HX6.out.trans' HX7.out).trans' hx712
  have hlk := k_likes (HREC3.out.ext hEW) (HGLB.out.ext (HX3.out.trans' hEW)) HCOL.out HC.out HV1.out HHF.out ((hx11.trans' hx12).obj HB8'.out) ((hx11.trans' hx12).obj HB10.out) hb12 hb13
  unfold encP tForth at hlk
  have HLK := Lib.hid hlk
  have HEW := Lib.hid hEW
  have HM0' := Lib.hid (hx712.cell' HM0.out)
  have HM1' := Lib.hid (hx712.cell' HM1.out)
  clear hlk hx11 hx12 hb12 hb13 hx712 hEW
  go_wp2_with fail
  rw [← hW12]
  clear hW12
  refine HLK.out.mono ?_
  rintro e w13 ⟨rfl, hx13⟩
  have m0 := hx13.cell' HM0'.out
  have m1 := hx13.cell' HM1'.out
  have HX13 := Lib.hid (HX3.out.trans' (HEW.out.trans' hx13))
  have htt : tTay.toList = [116, 97, 121] := by kernel_rfl
  clear hx13
  go_wp2_with fail
  go_ret
  exact ⟨rfl, HX13.out⟩

end Go.Proofs.YtihfcjioilmmjaaGreat
namespace Go.Proofs.YtihfcjioilmmjaaGreat
open Go Go.RowKit
open Go.Lib Go.Proofs

mutual
/-- How many expressions, up to a depth and a number. -/
def countF : Nat → Exp → Nat
  | d, .mk _ _ values _ _ kids => match d with
    | 0 => 1000
    | d + 1 => countL d kids (1 + values.length / 10)
def countL : Nat → List Exp → Nat → Nat
  | _, [], n => n
  | d, k :: r, n => if n < 100 then countL d r (n + countF d k) else n
end

theorem countL_stop {d : Nat} {l : List Exp} {n : Nat} (h : ¬ n < 100) : countL d l n = n := by
  cases l with
  | nil => rw [countL]
  | cons k r => rw [countL, if_neg h]

def cntMax : Nat := 1000000000000000000 + 5000
theorem countL_le {d b : Nat} : ∀ (l : List Exp) (n : Nat), n ≤ b + 100 → (∀ k ∈ l, countF d k ≤ b) → countL d l n ≤ b + 100
  | [], n, h, _ => by rw [countL]; exact h
  | k :: r, n, h, hk => by
    rw [countL]
    split
    · have h1 := hk k List.mem_cons_self
      exact countL_le r _ (by omega) fun k hm => hk k (List.mem_cons_of_mem _ hm)
    · exact h

theorem countF_le {w : World} {cs : List Value} {e : Exp} (h : ExpAt w cs e) : ∀ d, countF d e ≤ 1000000000000000000 + 1000 + d * 100 := by
  induction h with
  | @mk op attr vv kv lo hi values kids css hop hattr hlo hhi hv hlen hs h6 hkid ih =>
    intro d
    cases d with
    | zero => rw [countF]; omega
    | succ d =>
      have hm := hv.1.len
      unfold maxLen at hm
      rw [countF]
      show countL d kids (1 + values.length / 10) ≤ _
      have := countL_le (d := d) (b := 1000000000000000000 + 1000 + d * 100) kids (1 + values.length / 10) (by omega) fun k hk => by
        obtain ⟨i, hi⟩ := List.mem_iff_getElem?.1 hk
        have hil : i < css.length := by rw [hlen]; exact (List.getElem?_eq_some_iff.1 hi).1
        exact ih i _ k (List.getElem?_eq_getElem hil) hi d
      rw [Nat.add_mul]
      omega

theorem tdiv10 (n : Nat) : Int.tdiv (n : Int) 10 = ((n / 10 : Nat) : Int) := by
  rw [Int.tdiv_eq_ediv_of_nonneg (by omega)]; rfl

set_option maxHeartbeats 4000000 in
set_option maxRecDepth 100000 in
theorem count_all : ∀ (d : Nat), d ≤ 12 → ∀ (e : Exp) (w : World) (cs : List Value), ExpAt w cs e →
    Calls Tryz.prog 55 #[.agg cs.toArray, .int .i64 (d : Int)] w fun r w' => r = .returned (.int .i64 ((countF d e : Nat) : Int)) ∧ Ext w w'
  | 0, _, .mk op attr values lo hi kids, w, cs, h => by
    obtain ⟨o, at_, p, n, c', l, h', p2, n2, c2, rfl⟩ := exp_form h
    go_enter Tryz.func55, Tryz.ntmps55
    go_wp2_with fail
    go_ret
    exact ⟨by rw [countF]; rfl, by repeat' (first | with_reducible exact Below.refl _ _ | with_reducible assumption | with_reducible apply Below.drew | with_reducible exact below_drewN (by with_reducible assumption) _ | (with_reducible refine Below.setCell ?_ (by first | exact Nat.le_refl _ | assumption | (simp; done) | omega | (simp; omega)) _) | (with_reducible refine Below.alloc ?_ (by first | exact Nat.le_refl _ | assumption | (simp; done) | omega | (simp; omega)) _) | (with_reducible refine below_putObj ?_ (by first | exact Nat.le_refl _ | assumption | (simp; done) | omega | (simp; omega)) _) | (with_reducible refine below_drawn ?_ _))⟩
  | d + 1, hd, e, w, cs, h => by
    have HIH := Lib.hid (count_all d (by omega))
    cases h with
    | @mk op attr vv kv lo hi values kids css hop hattr hlo hhi hv hlen hs h6 hkid =>
    obtain ⟨vp, vc, rfl, hvz, hvm, hvz2, hvz3⟩ := hv.1
    obtain ⟨kp, kc, rfl, hkcap, hkml, hkz, hkcell⟩ := hs
    clear hvz hvz2 hvz3 hkz hv hkcap hop hattr hlo hhi
    unfold maxLen at hkml hvm
    have HKC := Lib.hid hkcell
    have HLEN := Lib.hid hlen
    have H6 := Lib.hid h6
    have HK := Lib.hid hkid
    clear hkcell hlen h6 hkid
    rw [show countF (d + 1) (.mk op attr values lo hi kids) = countL d kids (1 + values.length / 10) by rw [countF]]
    obtain ⟨W1, hW1⟩ : ∃ W1, W1 = w.alloc (.cells #[.int .u8 op, .string attr, .slice vp values.length vc, .int .i64 lo, .int .i64 hi, .slice kp kids.length kc] 29 (0, 0)) := ⟨_, rfl⟩
    have hx1 : Ext w W1 := by rw [hW1]; repeat' (first | with_reducible exact Below.refl _ _ | with_reducible assumption | with_reducible apply Below.drew | with_reducible exact below_drewN (by with_reducible assumption) _ | (with_reducible refine Below.setCell ?_ (by first | exact Nat.le_refl _ | assumption | (simp; done) | omega | (simp; omega)) _) | (with_reducible refine Below.alloc ?_ (by first | exact Nat.le_refl _ | assumption | (simp; done) | omega | (simp; omega)) _) | (with_reducible refine below_putObj ?_ (by first | exact Nat.le_refl _ | assumption | (simp; done) | omega | (simp; omega)) _) | (with_reducible refine below_drawn ?_ _))
    have hb1 : W1.heap[w.heap.size]? = some (.cells #[.int .u8 op, .string attr, .slice vp values.length vc, .int .i64 lo, .int .i64 hi, .slice kp kids.length kc] 29 (0, 0)) := by rw [hW1]; simp only [heap_drawn_get, heap_drew_get, heap_setCell_get, heap_alloc_get, World.size_alloc, World.size_setCell, size_drawn, putObj_get, putObj_size]; (repeat (first | rw [if_pos trivial] | rw [if_pos rfl] | rw [if_neg (by omega)] | rw [if_pos (by omega)]))
    have d2 := cell_of hb1 2
    have d5 := cell_of hb1 5
    have HX1 := Lib.hid hx1
    have HB1 := Lib.hid hb1
    have hdi : ((d + 1 : Nat) : Int) = (d : Int) + 1 := by omega
    rw [hdi]
    have he1 : (((d : Int) + 1) == 0) = false := by rw [beq_eq_false_iff_ne]; omega
    have hq := tdiv10 values.length
    obtain ⟨n0, hn0⟩ : ∃ n0, 1 + values.length / 10 = n0 := ⟨_, rfl⟩
    have hq1 : ((values.length / 10 : Nat) : Int) = (n0 : Int) - 1 := by omega
    have hn1 : 1 ≤ n0 ∧ n0 ≤ 1000000000000000000 := by omega
    rw [hn0]
    rw [hq1] at hq
    clear hx1 hb1 hdi hq1 hn0
    show Calls Tryz.prog 55 #[.agg #[.int .u8 op, .string attr, .slice vp values.length vc, .int .i64 lo, .int .i64 hi, .slice kp kids.length kc], .int .i64 ((d : Int) + 1)] w _
    go_enter Tryz.func55, Tryz.ntmps55
    go_upto_region 1 with fail
    rw [← hW1]
    clear hW1
    go_upto_region 3 with fail
    clear he1 d5
    go_wp2_with fail
    clear d2 hq
    go_loopw [5, 6] (fun n i wr => ∃ (j acc : Nat), j ≤ kids.length ∧ i = .int .i64 j ∧ n = .int .i64 (acc : Int) ∧ acc ≤ 2000000000000000000 ∧ Hid (countL d kids n0 = countL d (kids.drop j) acc) ∧ Hid (Ext W1 wr)) (fun _ i _ => kids.length - (intOf i).toNat)
    case atStart => exact ⟨0, n0, Nat.zero_le _, rfl, by congr 1; omega, by omega, rfl, ext_refl _⟩
    case round =>
      obtain ⟨j, acc, hj, rfl, rfl, hacc, hr, hx⟩ := hrel
      have d5 : wr.cell? ⟨w.heap.size, 5, none⟩ = some (.slice kp kids.length kc) := hx.out.cell' (cell_of HB1.out 5)
      by_cases hlt : j < kids.length
      · by_cases h100 : acc < 100
        · obtain ⟨k, hkj⟩ : ∃ k, kids[j]? = some k := ⟨_, List.getElem?_eq_getElem hlt⟩
          obtain ⟨cs, hcj⟩ : ∃ cs, css[j]? = some cs := ⟨_, List.getElem?_eq_getElem (by rw [HLEN.out]; exact hlt)⟩
          have hek := HK.out j cs k hcj hkj
          obtain ⟨yo, ya, yp, yn, yc, yl, yh, zp, zn, zc, rfl⟩ := exp_form hek
          have hcell : ∀ (q : Nat) (u : Value), ([.int .u8 yo, .string ya, .slice yp yn yc, .int .i64 yl, .int .i64 yh, .slice zp zn zc] : List Value)[q]? = some u → ∃ b off, kp = some ⟨b, off, none⟩ ∧ w.cell? ⟨b, off + (j * 6 + q), none⟩ = some u := fun q u hu => by
            have hq : q < 6 := (List.getElem?_eq_some_iff.1 hu).1
            have h2 := flatten_get 6 css H6.out j q _ hcj hq
            rw [hu] at h2
            exact HKC.out _ u h2
          obtain ⟨kb, koff, rfl, hc0⟩ := hcell 0 (.int .u8 yo) rfl
          have hcell' : ∀ (q : Nat) (u : Value), ([.int .u8 yo, .string ya, .slice yp yn yc, .int .i64 yl, .int .i64 yh, .slice zp zn zc] : List Value)[q]? = some u → wr.cell? ⟨kb, koff + (j * 6 + q), none⟩ = some u := fun q u hu => by
            obtain ⟨b, off, e, hc⟩ := hcell q u hu
            simp only [Option.some.injEq, Addr.mk.injEq] at e
            obtain ⟨rfl, rfl, _⟩ := e
            exact (HX1.out.trans' hx.out).cell' hc
          have g0 : wr.cell? ⟨kb, koff + j * 6, none⟩ = some (.int .u8 yo) := hcell' 0 _ rfl
          have g1 : wr.cell? ⟨kb, koff + j * 6 + 1, none⟩ = some (.string ya) := hcell' 1 _ rfl
          have g2 : wr.cell? ⟨kb, koff + j * 6 + 2, none⟩ = some (.slice yp yn yc) := hcell' 2 _ rfl
          have g3 : wr.cell? ⟨kb, koff + j * 6 + 3, none⟩ = some (.int .i64 yl) := hcell' 3 _ rfl
          have g4 : wr.cell? ⟨kb, koff + j * 6 + 4, none⟩ = some (.int .i64 yh) := hcell' 4 _ rfl
          have g5 : wr.cell? ⟨kb, koff + j * 6 + 5, none⟩ = some (.slice zp zn zc) := hcell' 5 _ rfl
          have hcall := HIH.out k wr _ (hek.ext (HX1.out.trans' hx.out))
          have hle := countF_le hek d
          have hd2 : kids.drop j = k :: kids.drop (j + 1) := by
            rw [List.drop_eq_getElem_cons hlt]
            congr 1
            rw [List.getElem?_eq_getElem hlt] at hkj
            exact Option.some.inj hkj
          obtain ⟨q, hqe⟩ : ∃ q, countF d k = q := ⟨_, rfl⟩
          rw [hqe] at hcall hle
          have HCALL := Lib.hid hcall
          have HR : Hid (countL d kids n0 = countL d (kids.drop (j + 1)) (acc + q)) := by
            refine hr.out.trans ?_
            rw [hd2, countL, if_pos h100, hqe]
          have e1 : (d : Int) + 1 - 1 = (d : Int) := by omega
          clear hcall hcell hcell' hc0 hkj hcj hek hd2 hqe hr
          go_wp2_with fail
          refine HCALL.out.mono ?_
          rintro e w4 ⟨rfl, hx4⟩
          have HX4 := Lib.hid (hx.out.trans' hx4)
          clear hx4 hx d5 g0 g1 g2 g3 g4 g5 e1
          go_wp2_with fail
          exact ⟨⟨j + 1, acc + q, by omega, rfl, by first | rfl | (congr 1; omega), by omega, HR, HX4⟩, by simp [intOf]; omega⟩
        · go_wp2_with fail
          go_ret
          refine ⟨?_, HX1.out.trans' hx.out⟩
          rw [hr.out, countL_stop h100]; rfl
      · obtain rfl : j = kids.length := by omega
        go_wp2_with fail
        go_ret
        refine ⟨?_, HX1.out.trans' hx.out⟩
        rw [hr.out, List.drop_length, countL]; rfl

theorem count_any {w : World} {cs : List Value} {e : Exp} (h : ExpAt w cs e) : Calls Tryz.prog 55 #[.agg cs.toArray, .int .i64 12] w fun r w' => r = .returned (.int .i64 ((countF 12 e : Nat) : Int)) ∧ Ext w w' :=
  count_all 12 (Nat.le_refl _) e w cs h

theorem countF_big : ∀ (d : Nat) (e : Exp), expBig e → countF d e ≤ 1000000000000 + 1000 + d * 100
  | 0, .mk _ _ _ _ _ _, _ => by rw [countF]; omega
  | d + 1, .mk _ _ values _ _ kids, h => by
    rw [expBig] at h
    rw [countF]
    show countL d kids (1 + values.length / 10) ≤ _
    have := countL_le (d := d) (b := 1000000000000 + 1000 + d * 100) kids (1 + values.length / 10) (by omega) fun k hk => countF_big d k ((expsBig_iff _).1 h.2 k hk)
    rw [Nat.add_mul]
    omega

end Go.Proofs.YtihfcjioilmmjaaGreat
