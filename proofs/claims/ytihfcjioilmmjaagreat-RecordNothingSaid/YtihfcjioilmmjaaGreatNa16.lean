/- RecordNothing: for every input the call returns true, and the input reads as it did. No condition. -/
import Derived.Test.YtihfcjioilmmjaaGreatNa15
import Derived.Test.YtihfcjioilmmjaaGreatNa4
import Derived.WalkKit
import Derived.WalkSpells
import Derived.WalkLawsBesides
import Derived.Outline
import Derived.BigRegion
import Derived.Deep.QuietTactic
import Derived.BigQuiet
import Derived.StillTailTactics
import Derived.Deep.RegionLaw
import Derived.Deep.LoopGhost
import Derived.Deep.DeepFit
import Derived.Deep.DeepCutAuto
import Derived.Handy
import Derived.Lib.Hide
import Derived.Test.YtihfcjioilmmjaaGreatNa13
import Derived.Test.YtihfcjioilmmjaaGreatNa10
import Derived.Test.YtihfcjioilmmjaaGreatRows
import Derived.HandedShaped
import Derived.ProofKit
import Derived.Shelf.Vars
import Derived.Carry
set_option linter.all false
namespace Go.Proofs.YtihfcjioilmmjaaGreat
open Go Go.RowKit
open Go.Lib Go.Proofs

theorem append_none {P : Program} {w : World} (base : Nat) (t ty e : TypeId) (i : TypeInfo) (size : Nat) (ht : P.underlying t = some (.slice e)) (hi : P.info? e = some i)
    (v : Value) (n : Nat) (xs : List Value) (hown : w.ownsRow base e size v n xs) (c : Nat) :
    (Builtin.append_ #[t, t] ty #[v, .slice none 0 c]).run P w = .ok v w := by
  rcases hown.2 with ⟨rfl, rfl⟩ | ⟨g, cap, cur, rfl, _, _, hnc, _⟩
  · simp [Builtin.append_, run_underlying ht, sizeOf, typeInfo, hi, Builtin.lenOf, Builtin.firstCells]
  · simp [Builtin.append_, run_underlying ht, sizeOf, typeInfo, hi, Builtin.lenOf, Builtin.firstCells, hnc, storeCells]

/-- Texts more, out of whatever slice. -/
theorem append_texts {W : World} {base : Nat} {v : Value} {k : Nat} {xs : List Value} (hown : W.ownsRow base 9 1 v k xs) {u : Value} {l : List ByteArray} (hu : StrsAt W u l) (hk : k + l.length ≤ 1000000) (hb : base ≤ W.heap.size) :
    ∃ v' w', (Builtin.append_ #[26, 26] 26 #[v, u]).run Tryz.prog W = .ok v' w' ∧ w'.ownsRow base 9 1 v' (k + l.length) (xs ++ l.map Value.string) ∧ W.grownBy w' v.ownBlock ∧ (v'.ownBlock = v.ownBlock ∨ v'.ownBlock = some W.heap.size) := by
  have hml : (1000000 : Nat) ≤ maxLen := by decide
  obtain ⟨i0, hi, hz0, hz1, hz2⟩ := info_parts vinfo9
  obtain ⟨a, cap, rfl, _, _, _, hc⟩ := hu.1
  rcases Nat.eq_zero_or_pos l.length with h0 | hpos
  · have h1 : l = [] := List.eq_nil_of_length_eq_zero h0
    subst h1
    cases a with
    | none => exact ⟨v, W, append_none base 26 26 9 i0 1 (by kernel_rfl) hi v k xs hown cap, by simpa using hown, ⟨rfl, rfl, rfl, Nat.le_refl _, fun _ _ _ => rfl⟩, .inl rfl⟩
    | some a =>
      obtain ⟨v', w', q1, q2, q3, _, q5⟩ := Go.run_append_own_at (P := Tryz.prog) (w := W) base 26 26 9 i0 _ 1 16 (by kernel_rfl) hi hz0 hz1 hz2 rfl (by decide) v k xs hown a 0 cap [] rfl (fun j u hj => by simp at hj) (fun u hu => by cases hu) (by simp at hk; omega) (by simp at hk; omega) hb
      exact ⟨v', w', q1, by simpa using q2, q3, q5⟩
  · obtain ⟨b, off, rfl, _⟩ := hc 0 (.string (l[0]'hpos)) (by simp [List.getElem?_eq_getElem hpos])
    obtain ⟨v', w', q1, q2, q3, _, q5⟩ := Go.run_append_own_at (P := Tryz.prog) (w := W) base 26 26 9 i0 _ 1 16 (by kernel_rfl) hi hz0 hz1 hz2 rfl (by decide) v k xs hown ⟨b, off, none⟩ l.length cap (l.map Value.string) (by simp) (fun j u hj => by
      obtain ⟨b', off', e, hcell⟩ := hc j u hj
      simp only [Option.some.injEq, Addr.mk.injEq] at e
      obtain ⟨rfl, rfl, _⟩ := e
      unfold Addr.add
      split
      · rename_i hj0; subst hj0; simpa using hcell
      · exact hcell) (fun u hu => by obtain ⟨s, _, rfl⟩ := List.mem_map.1 hu; rfl) (by omega) (by omega) hb
    exact ⟨v', w', q1, q2, q3, q5⟩

theorem info46 : (Tryz.prog.info? 46).map (fun i => (i.zero, i.size, i.bytes)) = some (some (.agg #[.string ⟨#[]⟩, .string ⟨#[]⟩, .slice none 0 0, .int .i64 0, .int .i64 0]), 5, 72) := by kernel_rfl
/-- A fact more. -/
theorem append_fct {W : World} {base : Nat} {v : Value} {k : Nat} {xs row : List Value} (hown : W.ownsRow base 46 5 v k xs) (ab m : Nat) (hl : row.length = m * 5) (hrow : ∀ j u, row[j]? = some u → W.cell? ⟨ab, 0 + j, none⟩ = some u) (h1 : ∀ u ∈ row, u.oneCell' = true) (hk : k + m ≤ 1000000) (hb : base ≤ W.heap.size) (c : Nat) :
    ∃ v' w', (Builtin.append_ #[24, 24] 24 #[v, .slice (some ⟨ab, 0, none⟩) m c]).run Tryz.prog W = .ok v' w' ∧ w'.ownsRow base 46 5 v' (k + m) (xs ++ row) ∧ W.grownBy w' v.ownBlock := by
  have hml : (1000000 : Nat) ≤ maxLen := by decide
  obtain ⟨i0, hi, hz0, hz1, hz2⟩ := info_parts info46
  obtain ⟨v', w', q1, q2, q3, _⟩ := run_append_own (P := Tryz.prog) (w := W) base 24 24 46 i0 _ 5 72 (by kernel_rfl) hi hz0 hz1 hz2 rfl (by decide) v k xs hown ⟨ab, 0, none⟩ m c row hl (fun j u hj => add_cell (hrow j u hj)) h1 (by omega) (by omega) hb
  exact ⟨v', w', q1, q2, q3⟩

/-- The copies so far: each fact's list of values is the call's own. -/
structure OwnI (N : Nat) (w : World) (l : List Fct) (v : Value) (vs : List Value) (wr : World) : Prop where
  ext : Ext w wr
  len : vs.length = l.length
  rows : wr.ownsRow N 46 5 v l.length ((l.zip vs).flatMap fun x => factCells x.1 x.2)
  vals : ∀ x ∈ l.zip vs, wr.ownsRow N 9 1 x.2 x.1.values.length (x.1.values.map Value.string)

theorem OwnI.facts {N : Nat} {w : World} {l : List Fct} {v : Value} {vs : List Value} {wr : World} (h : OwnI N w l v vs wr) (hl : ∀ f ∈ l, ∃ u, FactAt w f u) : FactsAt wr v l :=
  ⟨vs, h.len, SlAt.of_owns h.rows, fun x hx => by
    obtain ⟨u, hs, h1⟩ := hl x.1 (List.of_mem_zip (show (x.1, x.2) ∈ l.zip vs from hx)).1
    exact ⟨⟨SlAt.of_owns (h.vals x hx), hs.2⟩, h1⟩⟩

set_option maxHeartbeats 4000000 in
set_option maxRecDepth 100000 in
theorem ownL_any {w : World} {v : Value} {l : List Fct} (h : FactsAt w v l) (hl : l.length ≤ 1000) (hv : ∀ f ∈ l, f.values.length ≤ 1000) :
    Calls Tryz.prog 19 #[v] w fun e w' => ∃ v', e = .returned v' ∧ FactsAt w' v' l ∧ Ext w w' := by
  obtain ⟨a, cap, rfl, hcap, hel⟩ := RowsAt.at (cells := factCells) (by decide) (fun _ _ => rfl) h
  have hfa : ∀ f ∈ l, ∃ u, FactAt w f u := fun f hf => by
    obtain ⟨i, hi⟩ := List.mem_iff_getElem?.1 hf
    obtain ⟨_, _, u, _, hu, _⟩ := hel i f hi
    exact ⟨u, hu⟩
  obtain ⟨W1, hW1⟩ : ∃ W1, W1 = w.alloc (.cells #[] 46 (0, 0)) := ⟨_, rfl⟩
  have hx1 : Ext w W1 := by rw [hW1]; repeat' (first | with_reducible exact Below.refl _ _ | with_reducible assumption | with_reducible apply Below.drew | with_reducible exact below_drewN (by with_reducible assumption) _ | (with_reducible refine Below.setCell ?_ (by first | exact Nat.le_refl _ | assumption | (simp; done) | omega | (simp; omega)) _) | (with_reducible refine Below.alloc ?_ (by first | exact Nat.le_refl _ | assumption | (simp; done) | omega | (simp; omega)) _) | (with_reducible refine below_putObj ?_ (by first | exact Nat.le_refl _ | assumption | (simp; done) | omega | (simp; omega)) _) | (with_reducible refine below_drawn ?_ _))
  have hb1 : W1.heap[w.heap.size]? = some (.cells #[] 46 (0, 0)) := by rw [hW1]; simp only [heap_drawn_get, heap_drew_get, heap_setCell_get, heap_alloc_get, World.size_alloc, World.size_setCell, size_drawn, putObj_get, putObj_size]; (repeat (first | rw [if_pos trivial] | rw [if_pos rfl] | rw [if_neg (by omega)] | rw [if_pos (by omega)]))
  have hI0 : OwnI w.heap.size w [] (.slice (some ⟨w.heap.size, 0, none⟩) 0 0) [] W1 := ⟨hx1, rfl, ⟨rfl, .inr ⟨w.heap.size, 0, #[], rfl, Nat.le_refl _, hb1, Nat.le_refl _, Nat.zero_le _, rfl, rfl⟩⟩, fun x hx => by cases hx⟩
  have HI0 := Lib.hid hI0
  have HEL := Lib.hid hel
  have HV := Lib.hid hv
  have HFA := Lib.hid hfa
  clear hel h hcap hv hfa hI0 hx1 hb1
  go_enter Tryz.func19, Tryz.ntmps19
  go_upto_region 2 with fail
  rw [← hW1]
  clear hW1
  go_wp2_with fail
  go_loopw [3, 4] (fun v i wr => ∃ (j : Nat) (vs : List Value), j ≤ l.length ∧ i = .int .i64 j ∧ OwnI w.heap.size w (l.take j) v vs wr) (fun _ i _ => l.length - (intOf i).toNat)
  case atStart => exact ⟨0, [], Nat.zero_le _, rfl, HI0.out⟩
  case round =>
    obtain ⟨j, vs, hj, rfl, hI⟩ := hrel
    obtain ⟨op, oc, rfl⟩ := owns_form hI.rows
    have hlk : (l.take j).length = j := by rw [List.length_take]; omega
    rw [hlk] at hI
    rw [hlk]
    have HI := Lib.hid hI
    by_cases hlt : j < l.length
    · obtain ⟨f, hf⟩ : ∃ f, l[j]? = some f := ⟨_, List.getElem?_eq_getElem hlt⟩
      obtain ⟨b, off, u, rfl, hok, hc⟩ := HEL.out j f hf
      obtain ⟨up, uc, hue, hz1, hz2, hz3⟩ := hok.1.1
      subst hue
      have hx := hI.ext
      have g0 : wr.cell? ⟨b, off + j * 5, none⟩ = some (.string f.subject) := hx.cell' (hc 0 _ rfl)
      have g1 : wr.cell? ⟨b, off + j * 5 + 1, none⟩ = some (.string f.attr) := hx.cell' (hc 1 _ rfl)
      have g2 : wr.cell? ⟨b, off + j * 5 + 2, none⟩ = some (.slice up f.values.length uc) := hx.cell' (hc 2 _ rfl)
      have g3 : wr.cell? ⟨b, off + j * 5 + 3, none⟩ = some (.int .i64 f.low) := hx.cell' (hc 3 _ rfl)
      have g4 : wr.cell? ⟨b, off + j * 5 + 4, none⟩ = some (.int .i64 f.high) := hx.cell' (hc 4 _ rfl)
      obtain ⟨W3, hW3⟩ : ∃ W3, W3 = wr.alloc (.cells #[.string f.subject, .string f.attr, .slice up f.values.length uc, .int .i64 f.low, .int .i64 f.high] 46 (0, 0)) := ⟨_, rfl⟩
      have hx3 : Ext wr W3 := by rw [hW3]; repeat' (first | with_reducible exact Below.refl _ _ | with_reducible assumption | with_reducible apply Below.drew | with_reducible exact below_drewN (by with_reducible assumption) _ | (with_reducible refine Below.setCell ?_ (by first | exact Nat.le_refl _ | assumption | (simp; done) | omega | (simp; omega)) _) | (with_reducible refine Below.alloc ?_ (by first | exact Nat.le_refl _ | assumption | (simp; done) | omega | (simp; omega)) _) | (with_reducible refine below_putObj ?_ (by first | exact Nat.le_refl _ | assumption | (simp; done) | omega | (simp; omega)) _) | (with_reducible refine below_drawn ?_ _))
      have hb3 : W3.heap[wr.heap.size]? = some (.cells #[.string f.subject, .string f.attr, .slice up f.values.length uc, .int .i64 f.low, .int .i64 f.high] 46 (0, 0)) := by rw [hW3]; simp only [heap_drawn_get, heap_drew_get, heap_setCell_get, heap_alloc_get, World.size_alloc, World.size_setCell, size_drawn, putObj_get, putObj_size]; (repeat (first | rw [if_pos trivial] | rw [if_pos rfl] | rw [if_neg (by omega)] | rw [if_pos (by omega)]))
      have hs3 : W3.heap.size = wr.heap.size + 1 := by rw [hW3]; simp
      obtain ⟨W4, hW4⟩ : ∃ W4, W4 = W3.alloc (.cells #[] 9 (0, 0)) := ⟨_, rfl⟩
      have hx4 : Ext W3 W4 := by rw [hW4]; repeat' (first | with_reducible exact Below.refl _ _ | with_reducible assumption | with_reducible apply Below.drew | with_reducible exact below_drewN (by with_reducible assumption) _ | (with_reducible refine Below.setCell ?_ (by first | exact Nat.le_refl _ | assumption | (simp; done) | omega | (simp; omega)) _) | (with_reducible refine Below.alloc ?_ (by first | exact Nat.le_refl _ | assumption | (simp; done) | omega | (simp; omega)) _) | (with_reducible refine below_putObj ?_ (by first | exact Nat.le_refl _ | assumption | (simp; done) | omega | (simp; omega)) _) | (with_reducible refine below_drawn ?_ _))
      have hb4 : W4.heap[W3.heap.size]? = some (.cells #[] 9 (0, 0)) := by rw [hW4]; simp only [heap_drawn_get, heap_drew_get, heap_setCell_get, heap_alloc_get, World.size_alloc, World.size_setCell, size_drawn, putObj_get, putObj_size]; (repeat (first | rw [if_pos trivial] | rw [if_pos rfl] | rw [if_neg (by omega)] | rw [if_pos (by omega)]))
      have hst : StrsAt W4 (.slice up f.values.length uc) f.values := hok.1.ext (hx.trans' (hx3.trans' hx4))
      have hvl := HV.out f (List.mem_of_getElem? hf)
      obtain ⟨v', w5, happ, hrow5, hgrow, hat⟩ := append_texts (base := W3.heap.size) (v := .slice (some ⟨W3.heap.size, 0, none⟩) 0 0) (k := 0) (xs := []) ⟨rfl, .inr ⟨W3.heap.size, 0, #[], rfl, Nat.le_refl _, hb4, Nat.le_refl _, Nat.zero_le _, rfl, rfl⟩⟩ hst (by omega) hx4.size
      rw [Nat.zero_add, List.nil_append] at hrow5
      obtain ⟨sp, sc, rfl⟩ := owns_form hrow5
      have hx5 : Ext W3 w5 := hx4.grown hgrow hx4.size fun k hk => by simp [Value.ownBlock] at hk; omega
      have hb5 := hx5.obj hb3
      obtain ⟨W6, hW6⟩ : ∃ W6, W6 = w5.setCell ⟨wr.heap.size, 2, none⟩ (.slice sp f.values.length sc) := ⟨_, rfl⟩
      have hb6 : W6.heap[wr.heap.size]? = some (.cells #[.string f.subject, .string f.attr, .slice sp f.values.length sc, .int .i64 f.low, .int .i64 f.high] 46 (0, 0)) := by rw [hW6]; simp only [heap_drawn_get, heap_drew_get, heap_setCell_get, heap_alloc_get, World.size_alloc, World.size_setCell, size_drawn, putObj_get, putObj_size]; (repeat (first | rw [if_pos trivial] | rw [if_pos rfl] | rw [if_neg (by omega)] | rw [if_pos (by omega)])); rw [hb5]; rfl
      have hx36 : Ext wr w5 := hx3.trans' hx5
      have hx6 : Ext wr W6 := by rw [hW6]; repeat' (first | with_reducible exact Below.refl _ _ | with_reducible assumption | with_reducible apply Below.drew | with_reducible exact below_drewN (by with_reducible assumption) _ | (with_reducible refine Below.setCell ?_ (by first | exact Nat.le_refl _ | assumption | (simp; done) | omega | (simp; omega)) _) | (with_reducible refine Below.alloc ?_ (by first | exact Nat.le_refl _ | assumption | (simp; done) | omega | (simp; omega)) _) | (with_reducible refine below_putObj ?_ (by first | exact Nat.le_refl _ | assumption | (simp; done) | omega | (simp; omega)) _) | (with_reducible refine below_drawn ?_ _))
      have hrow6 : W6.ownsRow W3.heap.size 9 1 (.slice sp f.values.length sc) f.values.length (f.values.map Value.string) := owns_keep hrow5 fun g cs hge _ => by
        rw [hW6, heap_setCell_get, if_neg (by omega)]
      obtain ⟨W7, hW7⟩ : ∃ W7, W7 = W6.alloc (.cells #[.string f.subject, .string f.attr, .slice sp f.values.length sc, .int .i64 f.low, .int .i64 f.high] 46 (0, 0)) := ⟨_, rfl⟩
      have hx7 : Ext W6 W7 := by rw [hW7]; repeat' (first | with_reducible exact Below.refl _ _ | with_reducible assumption | with_reducible apply Below.drew | with_reducible exact below_drewN (by with_reducible assumption) _ | (with_reducible refine Below.setCell ?_ (by first | exact Nat.le_refl _ | assumption | (simp; done) | omega | (simp; omega)) _) | (with_reducible refine Below.alloc ?_ (by first | exact Nat.le_refl _ | assumption | (simp; done) | omega | (simp; omega)) _) | (with_reducible refine below_putObj ?_ (by first | exact Nat.le_refl _ | assumption | (simp; done) | omega | (simp; omega)) _) | (with_reducible refine below_drawn ?_ _))
      have hb7 : W7.heap[W6.heap.size]? = some (.cells #[.string f.subject, .string f.attr, .slice sp f.values.length sc, .int .i64 f.low, .int .i64 f.high] 46 (0, 0)) := by rw [hW7]; simp only [heap_drawn_get, heap_drew_get, heap_setCell_get, heap_alloc_get, World.size_alloc, World.size_setCell, size_drawn, putObj_get, putObj_size]; (repeat (first | rw [if_pos trivial] | rw [if_pos rfl] | rw [if_neg (by omega)] | rw [if_pos (by omega)]))
      have hxr7 := hx6.trans' hx7
      have hrow7 := owns_keep hI.rows fun g cs _ hgg => hxr7.block g (heap_lt hgg)
      obtain ⟨v'', w8, happ8, hrow8, hgrow8⟩ := append_fct (row := [.string f.subject, .string f.attr, .slice sp f.values.length sc, .int .i64 f.low, .int .i64 f.high]) hrow7 W6.heap.size 1 rfl (fun k u hj => by rw [Nat.zero_add, cell_of hb7 k, List.getElem?_toArray]; exact hj) (fun u hu => by simp at hu; rcases hu with rfl | rfl | rfl | rfl | rfl <;> rfl) (by omega) (Nat.le_trans hI.ext.size hxr7.size) 1
      have hx8 : Ext w w8 := (hI.ext.trans' hxr7).grown hgrow8 (Nat.le_trans hI.ext.size hxr7.size) fun k hk => (owns_block hrow7 hk).1
      have hfr := frm_grown hrow7 hgrow8
      have hN : w.heap.size ≤ W3.heap.size := Nat.le_trans hI.ext.size hx3.size
      have htk : l.take (j + 1) = l.take j ++ [f] := by rw [List.take_add_one, hf]; rfl
      have hzip : (l.take (j + 1)).zip (vs ++ [.slice sp f.values.length sc]) = (l.take j).zip vs ++ [(f, .slice sp f.values.length sc)] := by rw [htk, List.zip_append hI.len.symm]; rfl
      have hI8 : OwnI w.heap.size w (l.take (j + 1)) v'' (vs ++ [.slice sp f.values.length sc]) w8 := by
        refine ⟨hx8, by rw [htk]; simp [hI.len], ?_, fun x hx => ?_⟩
        · rw [hzip, List.flatMap_append, htk, List.length_append]
          exact hrow8
        · rw [hzip] at hx
          rcases List.mem_append.1 hx with hx | hx
          · exact hfr.owns (owns_keep (hI.vals x hx) fun g cs _ hgg => hxr7.block g (heap_lt hgg)) (by decide)
          · rw [List.mem_singleton.1 hx]
            exact hfr.owns (owns_mono (owns_keep hrow6 fun g cs _ hgg => hx7.block g (heap_lt hgg)) hN) (by decide)
      have d2 := cell_of ((hx4.obj hb3)) 2
      have e2 : w5.cell? ⟨wr.heap.size, 2, none⟩ = some (.slice up f.values.length uc) := cell_of hb5 2
      have fz := frozen_of hb5 2
      have k0 := cell_of hb6 0
      have k1 := cell_of hb6 1
      have k2 := cell_of hb6 2
      have k3 := cell_of hb6 3
      have k4 := cell_of hb6 4
      rw [hW7] at happ8
      rw [hW4] at happ d2
      have HAPP := Lib.hid happ
      have HAPP8 := Lib.hid happ8
      have HI8 := Lib.hid hI8
      have HI' := Lib.hid hI
      clear happ happ8 hI8 hI hx hok hc hz1 hz2 hz3 hx3 hb3 hx4 hb4 hst hvl hrow5 hgrow hat hx5 hb5 hx36 hx6 hb6 hrow6 hW7 hx7 hb7 hxr7 hrow7 hrow8 hgrow8 hx8 hfr hN htk hzip hf hs3 hlk
      go_upto_region 6 with fail
      rw [← hW3]
      clear hW3 g0 g1 g2 g3 g4 hW4
      go_upto_region 7 with (at_builtin; refine wpList_append_run rfl _ _ 26 rfl rfl rfl HAPP.out ?_)
      rw [← hW6]
      clear hW6 d2 e2 fz
      go_wp2_with (at_builtin; refine wpList_append_run rfl _ _ 24 rfl rfl rfl HAPP8.out ?_)
      exact ⟨⟨j + 1, _, by omega, rfl, HI8.out⟩, by simp [intOf]; omega⟩
    · obtain rfl : j = l.length := by omega
      go_wp2_with fail
      go_ret
      refine ⟨_, rfl, ?_, HI.out.ext⟩
      have := HI.out
      rw [List.take_length] at this
      exact this.facts HFA.out

end Go.Proofs.YtihfcjioilmmjaaGreat
namespace Go.Proofs.YtihfcjioilmmjaaGreat
open Go Go.RowKit
open Go.Lib Go.Proofs

/-- In the region that calls Commit. -/
def NoI (W3 : World) (us : List Value) (W : World) : Prop := Ext W3 W ∧ match us with
  | [] => True
  | [_] => True
  | _ :: u8 :: _ => u8 = .tuple #[.int .i64 0, .int .i64 1]

set_option maxHeartbeats 16000000 in
set_option maxRecDepth 100000 in
theorem nothing_any {w : World} (hg : Glob w) {cs : List Value} {o : OpD} (h : OpAt w cs o) : Calls Tryz.prog 6 #[.agg cs.toArray] w fun e w' => e = .returned (.bool true) ∧ Ext w w' := by
  have hc15 : cs.length = 15 := by
    obtain ⟨pv, wv, av, pc, rfl, _, _, _, ec, qv, rfl, hec, _⟩ := h.cells
    obtain ⟨yo, ya, yp, yn, yc, yl, yh, zp, zn, zc, rfl⟩ := exp_form hec
    rfl
  obtain ⟨pv, wv, av, pc, hcs, hpv, hwv, hav, ec, qv, rfl, hec, hqv⟩ := h.cells
  obtain ⟨yo, ya, yp, yn, yc, yl, yh, zp, zn, zc, rfl⟩ := exp_form hec
  obtain ⟨qcss, qlen, ⟨qp, qc, rfl, hq0⟩, hq1⟩ := id hqv
  obtain ⟨pp, pcap, rfl, hp0⟩ := id hpv
  obtain ⟨wp, wcap, rfl, hw0⟩ := id hwv
  obtain ⟨vs, hvs, ⟨ap, acap, rfl, ha0⟩, ha1⟩ := id hav
  clear hq0 hq1 hp0 hw0 ha0 ha1 hvs vs qlen qcss
  obtain ⟨W1, hW1⟩ : ∃ W1, W1 = w.alloc (.cells cs.toArray 37 (0, 0)) := ⟨_, rfl⟩
  have hx1 : Ext w W1 := by rw [hW1]; repeat' (first | with_reducible exact Below.refl _ _ | with_reducible assumption | with_reducible apply Below.drew | with_reducible exact below_drewN (by with_reducible assumption) _ | (with_reducible refine Below.setCell ?_ (by first | exact Nat.le_refl _ | assumption | (simp; done) | omega | (simp; omega)) _) | (with_reducible refine Below.alloc ?_ (by first | exact Nat.le_refl _ | assumption | (simp; done) | omega | (simp; omega)) _) | (with_reducible refine below_putObj ?_ (by first | exact Nat.le_refl _ | assumption | (simp; done) | omega | (simp; omega)) _) | (with_reducible refine below_drawn ?_ _))
  have hb1 : W1.heap[w.heap.size]? = some (.cells cs.toArray 37 (0, 0)) := by rw [hW1]; simp only [heap_drawn_get, heap_drew_get, heap_setCell_get, heap_alloc_get, World.size_alloc, World.size_setCell, size_drawn, putObj_get, putObj_size]; (repeat (first | rw [if_pos trivial] | rw [if_pos rfl] | rw [if_neg (by omega)] | rw [if_pos (by omega)]))
  obtain ⟨W2, hW2⟩ : ∃ W2, W2 = W1.alloc (.cells cs.toArray 37 (0, 0)) := ⟨_, rfl⟩
  have hx2 : Ext W1 W2 := by rw [hW2]; repeat' (first | with_reducible exact Below.refl _ _ | with_reducible assumption | with_reducible apply Below.drew | with_reducible exact below_drewN (by with_reducible assumption) _ | (with_reducible refine Below.setCell ?_ (by first | exact Nat.le_refl _ | assumption | (simp; done) | omega | (simp; omega)) _) | (with_reducible refine Below.alloc ?_ (by first | exact Nat.le_refl _ | assumption | (simp; done) | omega | (simp; omega)) _) | (with_reducible refine below_putObj ?_ (by first | exact Nat.le_refl _ | assumption | (simp; done) | omega | (simp; omega)) _) | (with_reducible refine below_drawn ?_ _))
  have hb2 : W2.heap[W1.heap.size]? = some (.cells cs.toArray 37 (0, 0)) := by rw [hW2]; simp only [heap_drawn_get, heap_drew_get, heap_setCell_get, heap_alloc_get, World.size_alloc, World.size_setCell, size_drawn, putObj_get, putObj_size]; (repeat (first | rw [if_pos trivial] | rw [if_pos rfl] | rw [if_neg (by omega)] | rw [if_pos (by omega)]))
  have hx12 := hx1.trans' hx2
  have hops : OpsAt W2 (.slice (some ⟨W1.heap.size, 0, none⟩) 1 1) [o] := by
    refine ⟨[cs], rfl, ⟨_, 1, rfl, Nat.le_refl _, (by decide : (1 : Nat) ≤ maxLen), by simp [hc15], fun j u hu => ⟨_, 0, rfl, ?_⟩⟩, fun c hc => by rw [List.mem_singleton.1 hc]; exact hc15, fun i c k hc hk => ?_⟩
    · rw [cell_of hb2, Nat.zero_add, List.getElem?_toArray]
      simpa using hu
    · match i, hc, hk with
      | 0, hc, hk =>
        obtain rfl := Option.some.inj hc
        obtain rfl := Option.some.inj hk
        exact h.ext hx12
      | i + 1, hc, _ => simp at hc
  have hatt : AttrsAt W2 (.slice none 0 0) [] := ⟨[], rfl, ⟨none, 0, rfl, Nat.le_refl _, Nat.zero_le _, rfl, fun j u hu => by simp at hu⟩, fun x hx => by cases hx⟩
  have hwide := wide_any hatt hops
  replace hcs : cs = [.int .i64 o.kind, .slice pp o.parents.length pcap, .slice wp o.withdraw.length wcap, .slice ap o.add.length acap, .int .i64 o.version, .int .i64 o.other, .string o.subject, .string o.attr, .int .u8 yo, .string ya, .slice yp yn yc, .int .i64 yl, .int .i64 yh, .slice zp zn zc, .slice qp o.parts.length qc] := hcs
  subst hcs
  have hav2 := hav.ext hx12
  have HWIDE := Lib.hid hwide
  have HX2 := Lib.hid hx12
  have HGLB := Lib.hid hg
  have HB := Lib.hid (hx2.obj hb1)
  have HAV := Lib.hid hav2
  have d := fun q => cell_of hb1 q
  have d0 := d 0
  have d1 := d 1
  have d2 := d 2
  have d3 := d 3
  have d4 := d 4
  have d5 := d 5
  have d6 := d 6
  have d7 := d 7
  have d8 := d 8
  have d9 := d 9
  have d10 := d 10
  have d11 := d 11
  have d12 := d 12
  have d13 := d 13
  have d14 := d 14
  clear hwide hx12 hg hx1 hx2 hb1 hb2 hops hatt hpv hwv hav hav2 hec hqv h d hc15
  show Calls Tryz.prog 6 #[.agg #[.int .i64 o.kind, .slice pp o.parents.length pcap, .slice wp o.withdraw.length wcap, .slice ap o.add.length acap, .int .i64 o.version, .int .i64 o.other, .string o.subject, .string o.attr, .int .u8 yo, .string ya, .slice yp yn yc, .int .i64 yl, .int .i64 yh, .slice zp zn zc, .slice qp o.parts.length qc]] w _
  go_enter Tryz.func6, Tryz.ntmps6
  go_upto_region 1 with fail
  rw [← hW1]
  clear hW1
  go_wp2_with fail
  rw [← hW2]
  clear hW2
  refine HWIDE.out.mono ?_
  rintro e w3 ⟨b, rfl, hnar, hx3⟩
  have HX3 := Lib.hid (HX2.out.trans' hx3)
  have HB3 := Lib.hid (hx3.obj HB.out)
  have hav3 := HAV.out.ext hx3
  clear d0 d1 d2 d3 d4 d5 d6 d7 d8 d9 d10 d11 d12 d13 d14
  cases b with
  | true =>
    have hkn := knows_any w3 (HGLB.out.ext HX3.out)
    have HKN := Lib.hid hkn
    clear hkn hnar hx3 hav3
    go_wp2_with fail
    refine HKN.out.mono ?_
    rintro e w4 ⟨rfl, hx4⟩
    go_wp2_with fail
    go_ret
    exact ⟨rfl, HX3.out.trans' hx4⟩
  | false =>
    have hwo := (hnar rfl).op o (by simp)
    have hadd : wideFactsF o.add = false := by
      unfold wideOp at hwo
      simp only [Bool.or_eq_false_iff] at hwo
      exact hwo.1
    have hal : o.add.length ≤ 8 := by
      unfold wideFactsF at hadd
      simp only [Bool.or_eq_false_iff, decide_eq_false_iff_not] at hadd
      omega
    have hav10 : ∀ f ∈ o.add, f.values.length ≤ 1000 := fun f hf => by
      unfold wideFactsF at hadd
      simp only [Bool.or_eq_false_iff, List.any_eq_false] at hadd
      have := hadd.1 f hf
      unfold wideFact at this
      simp at this
      omega
    have HAV3 := Lib.hid hav3
    have HAL := Lib.hid hal
    have HA10 := Lib.hid hav10
    clear hnar hx3 hwo hadd hal hav10 hav3
    go_upto_region 4 with fail
    refine Rt.wp_region_rt (by kernel_rfl) [0, 1, 2, 3, 4, 6, 7, 5, 8, 9, 10, 11, 12, 13] [5, 8] [1, 1, 1, 0, 0, 1000, 1, 1, 1000, 1000, 1000, 1000, 1000, 1000] [0, 0, 2, 0, 8, 24, 0, 64, 255, 511, 1023, 1023, 2047, 8191] (by kernel_rfl) (NoI w3) ?_ ?_
    · exact ⟨(below_drawn (ext_refl _) _ : Ext _ _), trivial⟩
    iterate 2 (refine Rt.rs_sil rfl rfl rfl (fun K hK => ?_); go_simp; refine hK _ ?_; clear hK K)
    (refine Rt.rs_rd rfl rfl rfl ?_; apply Exists.intro; refine ⟨fun us' W hp hl hI => ?_, ?_⟩; · (have hE := hI.1; have g1 := cell_of (hE.obj HB3.out) 1; go_simp; rfl)); simp only [Act.put, List.getElem_toArray, List.getElem_cons_succ, List.getElem_cons_zero, List.setIfInBounds_toArray, List.set_cons_succ, List.set_cons_zero]
    (refine Rt.rs_sil rfl rfl rfl (fun K hK => ?_); go_simp; refine hK _ ?_; clear hK K)
    (refine Rt.rs_rd rfl rfl rfl ?_; apply Exists.intro; refine ⟨fun us' W hp hl hI => ?_, ?_⟩; · (have hE := hI.1; have g3 := cell_of (hE.obj HB3.out) 3; go_simp; rfl)); simp only [Act.put, List.getElem_toArray, List.getElem_cons_succ, List.getElem_cons_zero, List.setIfInBounds_toArray, List.set_cons_succ, List.set_cons_zero]
    (refine Rt.rs_sil rfl rfl rfl (fun K hK => ?_); go_simp; refine hK _ ?_; clear hK K)
    (refine Rt.rs_rd rfl rfl rfl ?_; apply Exists.intro; refine ⟨fun us' W hp hl hI => ?_, ?_⟩; · (have hE := hI.1; have g2 := cell_of (hE.obj HB3.out) 2; go_simp; rfl)); simp only [Act.put, List.getElem_toArray, List.getElem_cons_succ, List.getElem_cons_zero, List.setIfInBounds_toArray, List.set_cons_succ, List.set_cons_zero]
    refine Rt.rs_eff rfl rfl rfl (fun W hI => ?_) (fun v hv => ?_)
    · have hE := hI.1
      refine Rt.gives_cal ?_
      apply Exists.intro
      apply Exists.intro
      apply Exists.intro
      refine ⟨by go_simp; exact ⟨⟨rfl, rfl⟩, rfl⟩, ?_⟩
      refine (ownL_any (HAV3.out.ext hE) (Nat.le_trans HAL.out (by decide)) HA10.out).mono ?_
      rintro e w5 ⟨v', rfl, _, hx5⟩
      exact ⟨_, rfl, hE.trans' hx5, trivial⟩
    clear hv
    simp only [Act.put, List.getElem_toArray, List.getElem_cons_succ, List.getElem_cons_zero, List.setIfInBounds_toArray, List.set_cons_succ, List.set_cons_zero]
    refine Rt.rs_eff rfl rfl rfl (fun W hI => ?_) (fun v hv => ?_)
    · have hE := hI.1
      refine Rt.gives_cal ?_
      apply Exists.intro
      apply Exists.intro
      apply Exists.intro
      refine ⟨by go_simp; exact ⟨⟨rfl, rfl⟩, rfl⟩, ?_⟩
      refine (commit_nil _ _ _ _).mono ?_
      rintro e w5 ⟨rfl, hx5⟩
      exact ⟨_, rfl, hE.trans' hx5, rfl⟩
    obtain rfl : v = .tuple #[.int .i64 0, .int .i64 1] := let ⟨W, hI⟩ := hv; hI.2
    clear hv
    simp only [Act.put, List.getElem_toArray, List.getElem_cons_succ, List.getElem_cons_zero, List.setIfInBounds_toArray, List.set_cons_succ, List.set_cons_zero]
    iterate 5 (refine Rt.rs_sil rfl rfl rfl (fun K hK => ?_); go_simp; refine hK _ ?_; clear hK K)
    refine Rt.rs_nil (fun W4 hI => ?_)
    have hx4 := hI.1
    clear hI
    have HX4 := Lib.hid hx4
    have c4 := cell_of (hx4.obj HB3.out) 4
    clear hx4
    go_wp2_with fail
    refine (fact_nil o.version W4).mono ?_
    rintro e w5 ⟨rfl, hx5⟩
    obtain ⟨W6, hW6⟩ : ∃ W6, W6 = w5.alloc (.cells #[.string ⟨#[]⟩, .string ⟨#[]⟩, .slice none 0 0, .int .i64 0, .int .i64 0] 46 (0, 0)) := ⟨_, rfl⟩
    have hx6 : Ext w5 W6 := by rw [hW6]; repeat' (first | with_reducible exact Below.refl _ _ | with_reducible assumption | with_reducible apply Below.drew | with_reducible exact below_drewN (by with_reducible assumption) _ | (with_reducible refine Below.setCell ?_ (by first | exact Nat.le_refl _ | assumption | (simp; done) | omega | (simp; omega)) _) | (with_reducible refine Below.alloc ?_ (by first | exact Nat.le_refl _ | assumption | (simp; done) | omega | (simp; omega)) _) | (with_reducible refine below_putObj ?_ (by first | exact Nat.le_refl _ | assumption | (simp; done) | omega | (simp; omega)) _) | (with_reducible refine below_drawn ?_ _))
    have HX6 := Lib.hid (HX4.out.trans' (hx5.trans' hx6))
    clear hx5 hx6 c4
    go_upto_region 6 with fail
    rw [← hW6]
    clear hW6
    have c4 := cell_of ((HX6.out).obj HB3.out) 4
    have c6 := cell_of ((HX6.out).obj HB3.out) 6
    have c7 := cell_of ((HX6.out).obj HB3.out) 7
    go_wp2_with fail
    refine (facts_nil o.version W6).mono ?_
    rintro e w7 ⟨rfl, rfl⟩
    go_wp2_with fail
    refine (subjects_nil o.version W6).mono ?_
    rintro e w7 ⟨rfl, rfl⟩
    go_wp2_with fail
    refine (known_nil o.version o.subject o.attr W6).mono ?_
    rintro e w8 ⟨rfl, hx8⟩
    obtain ⟨W9, hW9⟩ : ∃ W9, W9 = w8.alloc (.cells #[.slice none 0 0, .int .i64 0, .int .i64 0, .slice none 0 0, .bool false] 52 (0, 0)) := ⟨_, rfl⟩
    have hx9 : Ext w8 W9 := by rw [hW9]; repeat' (first | with_reducible exact Below.refl _ _ | with_reducible assumption | with_reducible apply Below.drew | with_reducible exact below_drewN (by with_reducible assumption) _ | (with_reducible refine Below.setCell ?_ (by first | exact Nat.le_refl _ | assumption | (simp; done) | omega | (simp; omega)) _) | (with_reducible refine Below.alloc ?_ (by first | exact Nat.le_refl _ | assumption | (simp; done) | omega | (simp; omega)) _) | (with_reducible refine below_putObj ?_ (by first | exact Nat.le_refl _ | assumption | (simp; done) | omega | (simp; omega)) _) | (with_reducible refine below_drawn ?_ _))
    have HX9 := Lib.hid (HX6.out.trans' (hx8.trans' hx9))
    clear hx8 hx9 c4 c6 c7
    go_upto_region 9 with fail
    rw [← hW9]
    clear hW9
    have c4 := cell_of ((HX9.out).obj HB3.out) 4
    have c6 := cell_of ((HX9.out).obj HB3.out) 6
    have c8 := cell_of ((HX9.out).obj HB3.out) 8
    have c9 := cell_of ((HX9.out).obj HB3.out) 9
    have c10 := cell_of ((HX9.out).obj HB3.out) 10
    have c11 := cell_of ((HX9.out).obj HB3.out) 11
    have c12 := cell_of ((HX9.out).obj HB3.out) 12
    have c13 := cell_of ((HX9.out).obj HB3.out) 13
    have c14 := cell_of ((HX9.out).obj HB3.out) 14
    go_wp2_with fail
    refine (like_nil o.version o.subject yo ya yp yn yc yl yh zp zn zc qp o.parts.length qc W9).mono ?_
    rintro e w10 ⟨rfl, hx10⟩
    have HX10 := Lib.hid (HX9.out.trans' hx10)
    clear c4 c6 c8 c9 c10 c11 c12 c13 c14 hx10
    have c4 := cell_of ((HX10.out).obj HB3.out) 4
    have c8 := cell_of ((HX10.out).obj HB3.out) 8
    have c9 := cell_of ((HX10.out).obj HB3.out) 9
    have c10 := cell_of ((HX10.out).obj HB3.out) 10
    have c11 := cell_of ((HX10.out).obj HB3.out) 11
    have c12 := cell_of ((HX10.out).obj HB3.out) 12
    have c13 := cell_of ((HX10.out).obj HB3.out) 13
    have c14 := cell_of ((HX10.out).obj HB3.out) 14
    go_wp2_with fail
    refine (query_nil o.version yo ya yp yn yc yl yh zp zn zc qp o.parts.length qc w10).mono ?_
    rintro e w11 ⟨rfl, hx11⟩
    have HX11 := Lib.hid (HX10.out.trans' hx11)
    clear c4 c8 c9 c10 c11 c12 c13 c14 hx11
    have c4 := cell_of ((HX11.out).obj HB3.out) 4
    have c5 := cell_of ((HX11.out).obj HB3.out) 5
    have c8 := cell_of ((HX11.out).obj HB3.out) 8
    have c9 := cell_of ((HX11.out).obj HB3.out) 9
    have c10 := cell_of ((HX11.out).obj HB3.out) 10
    have c11 := cell_of ((HX11.out).obj HB3.out) 11
    have c12 := cell_of ((HX11.out).obj HB3.out) 12
    have c13 := cell_of ((HX11.out).obj HB3.out) 13
    have c14 := cell_of ((HX11.out).obj HB3.out) 14
    go_wp2_with fail
    refine (compare_nil o.version o.other yo ya yp yn yc yl yh zp zn zc qp o.parts.length qc w11).mono ?_
    rintro e w12 ⟨rfl, hx12⟩
    have HX12 := Lib.hid (HX11.out.trans' hx12)
    clear c4 c5 c8 c9 c10 c11 c12 c13 c14 hx12
    obtain ⟨W13, hW13⟩ : ∃ W13, W13 = w12.alloc (.cells #[.int .i64 1, .int .i64 1, .int .i64 1, .int .i64 1, .int .i64 1, .int .i64 1, .int .i64 1, .int .i64 1] 42 (0, 0)) := ⟨_, rfl⟩
    have hx13 : Ext w12 W13 := by rw [hW13]; repeat' (first | with_reducible exact Below.refl _ _ | with_reducible assumption | with_reducible apply Below.drew | with_reducible exact below_drewN (by with_reducible assumption) _ | (with_reducible refine Below.setCell ?_ (by first | exact Nat.le_refl _ | assumption | (simp; done) | omega | (simp; omega)) _) | (with_reducible refine Below.alloc ?_ (by first | exact Nat.le_refl _ | assumption | (simp; done) | omega | (simp; omega)) _) | (with_reducible refine below_putObj ?_ (by first | exact Nat.le_refl _ | assumption | (simp; done) | omega | (simp; omega)) _) | (with_reducible refine below_drawn ?_ _))
    have hb13 : W13.heap[w12.heap.size]? = some (.cells #[.int .i64 1, .int .i64 1, .int .i64 1, .int .i64 1, .int .i64 1, .int .i64 1, .int .i64 1, .int .i64 1] 42 (0, 0)) := by rw [hW13]; simp only [heap_drawn_get, heap_drew_get, heap_setCell_get, heap_alloc_get, World.size_alloc, World.size_setCell, size_drawn, putObj_get, putObj_size]; (repeat (first | rw [if_pos trivial] | rw [if_pos rfl] | rw [if_neg (by omega)] | rw [if_pos (by omega)]))
    have hel : ∀ j : Nat, j < 8 → W13.cell? ⟨w12.heap.size, j, none⟩ = some (.int .i64 1) := fun j hj => by
      rw [cell_of hb13]
      match j, hj with
      | 0, _ => rfl
      | 1, _ => rfl
      | 2, _ => rfl
      | 3, _ => rfl
      | 4, _ => rfl
      | 5, _ => rfl
      | 6, _ => rfl
      | 7, _ => rfl
      | j + 8, hj => omega
    have HEL := Lib.hid hel
    have HX13 := Lib.hid (HX3.out.trans' (HX12.out.trans' hx13))
    have hkn := knows_any W13 (HGLB.out.ext HX13.out)
    have HKN := Lib.hid hkn
    clear hx13 hb13 hel hkn
    go_upto_region 13 with fail
    rw [← hW13]
    clear hW13
    go_wp2_with fail
    go_loopw [21] (fun i wr => ∃ j : Nat, j ≤ 8 ∧ i = .int .i64 j ∧ wr = W13) (fun i _ => 8 - (intOf i).toNat)
    case atStart => exact ⟨0, Nat.zero_le _, rfl, rfl⟩
    case round =>
      obtain ⟨j, hj, rfl, rfl⟩ := hrel
      by_cases hlt : j < 8
      · have g := HEL.out j hlt
        go_wp2_with fail
        exact ⟨⟨j + 1, by omega, rfl, by first | rfl | trivial⟩, by simp [intOf]; omega⟩
      · obtain rfl : j = 8 := by omega
        go_wp2_with fail
        refine (versions_nil wr).mono ?_
        rintro e w14 ⟨rfl, rfl⟩
        go_wp2_with fail
        refine HKN.out.mono ?_
        rintro e w15 ⟨rfl, hx15⟩
        go_wp2_with fail
        go_ret
        exact ⟨rfl, HX13.out.trans' hx15⟩

end Go.Proofs.YtihfcjioilmmjaaGreat
namespace Go.Proofs.YtihfcjioilmmjaaGreat
open Go Go.RowKit
open Go.ChangeShapes Go.WideShapes Go.ChangeAt Go.Lib Go.Proofs

theorem ownKnobs : ownKnob Tryz.prog.godebug = none := by kernel_rfl
theorem laidOuts : laidOutB Tryz.prog = true := by kernel_rfl

theorem glob_of {W : World} (h : W.ShapedOpen Tryz.prog) : Glob W :=
  cell_of_shapedOpen_int (g := 0) (t := 3) (zero := #[.int .i64 0]) h (of_decide_eq_true (by kernel_rfl)) (by kernel_rfl) rfl (by kernel_rfl) (by kernel_rfl) Tryz.underlying3

theorem wt_of {H : Type} {t : TypeId} {d : DataW H} (h : (DataW.weightsEach Tryz.prog [t] [d]).all (· ≤ reachBytes) = true) : ∀ k ∈ d.weights Tryz.prog t, k ≤ reachBytes := fun k hk => by
  have := List.all_eq_true.1 h k (weightsEach_mem [t] [d] 0 t d rfl rfl k hk)
  simpa using this

set_option maxRecDepth 100000 in
theorem nothing_lifted (os : Os) (started : os.Started) (H : Type) (enc : TypeId × Value → H) :
    ReturnsInHanded {} Tryz.checked os 6 .any (Rows.recordNothingSpec.pre6 enc Tryz.prog Tryz.f6 Rows.recordNothingRow.domain false) (Rows.recordNothingSpec.post enc Tryz.prog Tryz.f6 false true false false) := by
  refine returnsInHanded_of_change_shaped (C := Tryz.checked) ownKnobs started (by kernel_rfl) Tryz.func6
    (ChangeSpec.witness6 (enc := enc) (C := Tryz.checked) false ⟨#[], #[.agg #[.int .i64 0, .slice none 0 0, .slice none 0 0, .slice none 0 0, .int .i64 0, .int .i64 0, .string ⟨#[]⟩, .string ⟨#[]⟩, .int .u8 0, .string ⟨#[]⟩, .slice none 0 0, .int .i64 0, .int .i64 0, .slice none 0 0, .slice none 0 0]], []⟩ 8 (by kernel_rfl) (by kernel_rfl) (by kernel_rfl) (by kernel_rfl)) ?_
  intro W base args ds gs before hval0 hW hcnd0 hwt hsh _
  clear hcnd0
  have hval : ∀ (j : Nat) t v, Tryz.f6.params[j]? = some t → args[j]? = some v → Value.okWide Tryz.prog W .any base t v := hval0
  have hW' := hW
  obtain ⟨p, q, hA0, hV, rfl, hfz, hnd⟩ := hW
  have hA : DataW.TrodAll enc Tryz.prog W 0 (fun _ => true) true Tryz.f6.params.toList args.toList ds p := hA0
  rw [Tryz.params6] at hA hval
  obtain ⟨v0, vs0, d0, ds0, p0, q0, hargs, rfl, rfl, h0, r0⟩ := trodAll_cons hA
  obtain ⟨rfl, rfl, rfl⟩ := trodAll_nil r0
  obtain rfl : args = #[v0] := by cases args; simp_all
  obtain ⟨rfl, rfl⟩ := trodVars_none hV
  obtain ⟨cs, rfl, _⟩ := okWide_struct Tryz.underlying37 (hval 0 37 v0 rfl rfl)
  clear hA0 hval0
  have hwt' : (DataW.weightsEach Tryz.prog [37] [d0]).all (· ≤ reachBytes) = true := hwt
  obtain ⟨fuel, hf⟩ := id h0
  have hrd : Rd enc W fuel 37 cs.toList := ⟨_, hf, wt_of hwt'⟩
  obtain ⟨o, ho⟩ := rd_op hrd
  have hlt : ∀ x ∈ p0, x.block < W.heap.size := fun x hx => hW'.lt x (by simp [hx])
  have hcs : (.agg cs : Value) = .agg (cs.toList.toArray) := by simp
  refine (show Calls Tryz.prog 6 #[.agg cs] W _ from ?_)
  rw [hcs]
  refine (nothing_any (glob_of hsh) (show OpAt W cs.toList o from ho)).mono ?_
  rintro e W' ⟨rfl, hb⟩
  rw [← hcs]
  exact ⟨_, rfl, _, _, _, [], _, [], hW', trodAll_mk1 (shut_bool Tryz.underlying4 _), trodAll_cons_mk (Below.trod laidOuts (by kernel_rfl) (of_decide_eq_true (by kernel_rfl)) h0 hb hlt) trodAll_mk0, rfl, hb.frame _, fun h => by cases h⟩

/-- The statement. -/
theorem nothing_holds : Rows.RecordNothingSaid :=
  OpenClaim.holds_of_wide 6 Tryz.f6 rfl rfl rfl rfl rfl rfl rfl ⟨rfl, rfl, rfl, rfl, rfl⟩ rfl rfl rfl rfl rfl (by kernel_rfl) Tryz.func6 (by kernel_rfl)
    (of_decide_eq_true (by kernel_rfl)) (by unfold Func.isWrapper; first | (rw [if_pos (by decide +kernel)]; kernel_rfl) | (rw [if_neg (by decide +kernel)]; exact ⟨rfl, rfl⟩))
    (fun os started H enc _ => nothing_lifted os started H enc)


end Go.Proofs.YtihfcjioilmmjaaGreat
