/- Lemmas: wide 2. -/
import Derived.Test.YtihfcjioilmmjaaGreatRm1
import Derived.Test.YtihfcjioilmmjaaGreatRm18
set_option linter.all false
namespace Go.Proofs.YtihfcjioilmmjaaGreat
open Go Go.RowKit
open Go.Lib Go.Proofs
def wideOp (o : OpD) : Bool:=wideFactsF o.add || (widePatF o.own o.parts || (decide (8 < o.parents.length) || (decide (20 < o.withdraw.length) || decide (60 < o.subject.size))))
def AttrNarrow (a : Attr) : Prop:=(a.values.length ≤ 4 ∨ (9 ≤ a.values.length ∧ a.values.length ≤ 12)) ∧ (a.values = [] → -1000000 ≤ a.low → a.low ≤ a.high → a.high ≤ 1000000 → a.high - a.low ≤ 8)
structure Narrow (schema : List Attr) (ops : List OpD) : Prop where
 lenS : schema.length ≤ 4 ∨ (13 ≤ schema.length ∧ schema.length ≤ 15)
 lenO : ops.length ≤ 25
 attr : ∀ a ∈ schema,AttrNarrow a
 op : ∀ o ∈ ops,wideOp o = false
theorem OpsAt.at {w : World} {v : Value} {l : List OpD} (h : OpsAt w v l) : ∃ a cap,v = .slice a l.length cap ∧ l.length ≤ maxLen ∧ ∀ (i : Nat) o,l[i]? = some o → ∃ b off cs,a = some ⟨b,off,none⟩ ∧ OpAt w cs o ∧ ∀ (j : Nat) c,cs[j]? = some c → w.cell? ⟨b,off + (i * 15 + j),none⟩ = some c:=by
 obtain ⟨css,h1,⟨a,cap,rfl,h2,hm,h4,h5⟩,h6,h7⟩:=h
 refine ⟨a,cap,rfl,hm,fun i x hx=>?_⟩
 have hi : i < l.length:=(List.getElem?_eq_some_iff.1 hx).1
 have hc : css[i]? = some css[i]:=List.getElem?_eq_getElem (by omega)
 have hc6:=h6 css[i] (List.getElem_mem _)
 have hg : ∀ j c,css[i][j]? = some c → css.flatten[i * 15 + j]? = some c:=by
  intro j c hcc
  have hj : j < 15:=by rw [← hc6];exact (List.getElem?_eq_some_iff.1 hcc).1
  rw [flatten_get 15 css h6 i j _ hc hj]
  exact hcc
 have h0 : css[i][0]? = some (css[i][0]'(by omega)):=List.getElem?_eq_getElem _
 obtain ⟨b,off,rfl,_⟩:=h5 _ _ (hg 0 _ h0)
 refine ⟨b,off,css[i],rfl,h7 i _ x hc hx,fun j c hcc=>?_⟩
 obtain ⟨b',off',e,hcell⟩:=h5 _ _ (hg j c hcc)
 simp only [Option.some.injEq,Addr.mk.injEq] at e
 obtain ⟨rfl,rfl,_⟩:=e
 exact hcell
def WidePost (schema : List Attr) (ops : List OpD) (w : World) (r : Ending) (w' : World) : Prop:=∃ b,r = .returned (.bool b) ∧ (b = false → Narrow schema ops) ∧ Ext w w'
theorem wide_yes {schema : List Attr} {ops : List OpD} {w w' : World} (h : Ext w w') : WidePost schema ops w (.returned (.bool true)) w':=⟨true,rfl,fun h=>(by cases h),h⟩
theorem wide_no {schema : List Attr} {ops : List OpD} {w w' : World} (h : Ext w w') (hn : Narrow schema ops) : WidePost schema ops w (.returned (.bool false)) w':=⟨false,rfl,fun _=>hn,h⟩
theorem wrap64_small {n : Int} (h : 0 ≤ n ∧ n ≤ 2000000) : wrap64 n = n:=by unfold wrap64;omega
set_option maxHeartbeats 8000000 in
set_option maxRecDepth 100000 in
theorem wide_any {w : World} {v u : Value} {schema : List Attr} {ops : List OpD} (h : AttrsAt w v schema) (ho : OpsAt w u ops) :
  Calls Tryz.prog 7 #[v,u] w fun r w'=>WidePost schema ops w r w':=by
 have hlm : schema.length ≤ maxLen:=let ⟨_,_,hs,_⟩:=h;hs.len
 obtain ⟨a,cap,rfl,hcap,hel⟩:=RowsAt.at (cells:=attrCells) (by decide) (fun _ _=>rfl) h
 obtain ⟨oa,ocap,rfl,holm,hoel⟩:=ho.at
 unfold maxLen at hlm holm
 have HEL:=Lib.hid hel
 have HOEL:=Lib.hid hoel
 clear hel h hcap hoel ho
 by_cases hA : 4 < schema.length ∧ schema.length ≤ 12
 ·obtain ⟨hA1,hA2⟩:=hA
  go_enter Tryz.func7,Tryz.ntmps7
  go_wp2_with fail
  go_ret
  exact wide_yes (ext_refl _)
 by_cases hB : 15 < schema.length
 ·go_enter Tryz.func7,Tryz.ntmps7
  go_wp2_with fail
  go_ret
  exact wide_yes (ext_refl _)
 by_cases hC : 25 < ops.length
 ·have hC' : (25 : Int) < (ops.length : Int):=by omega
  go_enter Tryz.func7,Tryz.ntmps7
  go_wp2_with fail
  all_goals (go_ret;exact wide_yes (ext_refl _))
 have hLS : Hid (schema.length ≤ 4 ∨ (13 ≤ schema.length ∧ schema.length ≤ 15)):=by show _ ∨ _;omega
 have hLO : Hid (ops.length ≤ 25):=by show _ ≤ _;omega
 obtain ⟨c1,hc1⟩ : ∃ c,decide (4 < (schema.length : Int)) = c:=⟨_,rfl⟩
 have hc2 : c1 = true → decide ((schema.length : Int) ≤ 12) = false:=fun h=>by subst h;simp at hc1;simp;omega
 have hB' : decide (15 < (schema.length : Int)) = false:=by simp;omega
 have hC' : decide (25 < (ops.length : Int)) = false:=by simp;omega
 have hsl : schema.length ≤ 15:=by omega
 have hol : ops.length ≤ 25:=by omega
 clear hA hB hC
 go_enter Tryz.func7,Tryz.ntmps7
 (go_upto_region 4 with fail) <;> (
  clear hc2 hB' hC'
  go_loopw [5] (fun i wr=>∃ j : Nat,j ≤ schema.length ∧ i = .int .i64 j ∧ Hid (∀ a ∈ schema.take j,AttrNarrow a) ∧ Hid (Ext w wr)) (fun i _=>schema.length - (intOf i).toNat)
  case atStart=>exact ⟨0,Nat.zero_le _,rfl,(fun _ h=>(by simp at h)),ext_refl _⟩
  case round=>
   obtain ⟨j,hj,rfl,hr,hx⟩:=hrel
   by_cases hlt : j < schema.length
   ·obtain ⟨x,hxj⟩ : ∃ x,schema[j]? = some x:=⟨_,List.getElem?_eq_getElem hlt⟩
    obtain ⟨b,off,u,rfl,hok,hc⟩:=HEL.out j x hxj
    obtain ⟨up,uc,rfl,hz1,hum,hz2,hz3⟩:=hok.1.1
    unfold maxLen at hum
    have g0 : wr.cell? ⟨b,off + j * 4,none⟩ = some (.string x.name):=hx.out.cell' (hc 0 _ rfl)
    have g1 : wr.cell? ⟨b,off + j * 4 + 1,none⟩ = some (.slice up x.values.length uc):=hx.out.cell' (hc 1 _ rfl)
    have g2 : wr.cell? ⟨b,off + j * 4 + 2,none⟩ = some (.int .i64 x.low):=hx.out.cell' (hc 2 _ rfl)
    have g3 : wr.cell? ⟨b,off + j * 4 + 3,none⟩ = some (.int .i64 x.high):=hx.out.cell' (hc 3 _ rfl)
    have hnar:=hok.2.2
    have hstep : AttrNarrow x → Hid (∀ a ∈ schema.take (j + 1),AttrNarrow a):=fun hn a ha=>by
     rw [List.take_add_one,hxj] at ha
     rcases List.mem_append.1 ha with ha | ha
     ·exact hr.out a ha
     ·obtain rfl : a = x:=by simpa using ha
      exact hn
    obtain ⟨W3,hW3⟩ : ∃ W3,W3 = wr.alloc (.cells #[.string x.name,.slice up x.values.length uc,.int .i64 x.low,.int .i64 x.high] 90 (0,0)):=⟨_,rfl⟩
    have hx3 : Ext wr W3:=by rw [hW3];exact bel
    have hb3 : W3.heap[wr.heap.size]? = some (.cells #[.string x.name,.slice up x.values.length uc,.int .i64 x.low,.int .i64 x.high] 90 (0,0)):=by rw [hW3];simp only [heap_drawn_get,heap_drew_get,heap_setCell_get,heap_alloc_get,World.size_alloc,World.size_setCell,size_drawn,putObj_get,putObj_size];(repeat (first | rw [if_pos trivial] | rw [if_pos rfl] | rw [if_neg (by omega)] | rw [if_pos (by omega)]))
    have e1:=cell_of hb3 1
    have e2:=cell_of hb3 2
    have e3:=cell_of hb3 3
    have HX3:=Lib.hid (hx.out.trans' hx3)
    have HSTEP:=Lib.hid hstep
    clear hz1 hz2 hz3 hok hc hxj hx3 hb3 hr hx hstep
    go_upto_region 7 with fail
    rw [← hW3]
    clear hW3 g0 g1 g2 g3
    by_cases h1 : 4 < x.values.length ∧ x.values.length ≤ 8
    ·obtain ⟨h1a,h1b⟩:=h1
     go_wp2_with fail
     go_ret
     exact wide_yes HX3.out
    by_cases h2 : 12 < x.values.length
    ·go_wp2_with fail
     all_goals (go_ret;exact wide_yes HX3.out)
    have h12 : x.values.length ≤ 4 ∨ (9 ≤ x.values.length ∧ x.values.length ≤ 12):=by omega
    have H12:=Lib.hid h12
    obtain ⟨bA,hbA⟩ : ∃ b,decide (4 < (x.values.length : Int)) = b:=⟨_,rfl⟩
    have hbB : bA = true → decide ((x.values.length : Int) ≤ 8) = false:=fun h=>by subst h;simp at hbA;simp;omega
    have hbC : decide (12 < (x.values.length : Int)) = false:=by simp;omega
    clear h1 h2 h12
    by_cases h3 : x.values.length = 0
    ·go_wp2_with fail
     all_goals first
      | (go_ret;exact wide_yes HX3.out)
      | (
        rename_i hz
        refine ⟨⟨j + 1,by omega,rfl,HSTEP.out ⟨H12.out,fun _ k1 k2 k3=>?_⟩,HX3⟩,by simp [intOf];omega⟩
        first
          | omega
          | (rw [wrap64_small (by omega)] at hz;omega))
    ·have hn : AttrNarrow x:=⟨H12.out,fun h=>absurd (congrArg List.length h) h3⟩
     have hst:=HSTEP.out hn
     have h3' : ((x.values.length : Int) == 0) = false:=by rw [beq_eq_false_iff_ne];omega
     clear H12 hn HSTEP
     go_wp2_with fail
     all_goals exact ⟨⟨j + 1,by omega,rfl,hst,HX3⟩,by simp [intOf];omega⟩
   ·obtain rfl : j = schema.length:=by omega
    have hall:=hr.out
    rw [List.take_length] at hall
    have HALL:=Lib.hid hall
    clear hall hr
    go_wp2_with fail
    go_loopw [7] (fun i wr=>∃ j : Nat,j ≤ ops.length ∧ i = .int .i64 j ∧ Hid (∀ o ∈ ops.take j,wideOp o = false) ∧ Hid (Ext w wr)) (fun i _=>ops.length - (intOf i).toNat)
    case atStart=>exact ⟨0,Nat.zero_le _,rfl,(fun _ h=>(by simp at h)),hx⟩
    case round=>
     obtain ⟨j2,hj2,rfl,hr,hx⟩:=hrel
     by_cases hlt : j2 < ops.length
     ·obtain ⟨o,hoj⟩ : ∃ o,ops[j2]? = some o:=⟨_,List.getElem?_eq_getElem hlt⟩
      obtain ⟨b,off,cs,rfl,hop,hc⟩:=HOEL.out j2 o hoj
      obtain ⟨pv,wv,av,pc,rfl,hpv,hwv,hav,ec,qv,rfl,hec,hqv⟩:=hop.cells
      obtain ⟨yo,ya,yp,yn,yc,yl,yh,zp,zn,zc,rfl⟩:=exp_form hec
      obtain ⟨qcss,qlen,⟨qp,qc,rfl,_⟩,_⟩:=id hqv
      obtain ⟨pp,pcap,rfl,_,hpm,_⟩:=id hpv
      obtain ⟨wp,wcap,rfl,_,hwm,_⟩:=id hwv
      unfold maxLen at hpm hwm
      have hsm:=hop.sub
      unfold maxLen at hsm
      have hwf:=wideFacts_any (hav.ext hx.out)
      have hpat : PatAt wr [.int .u8 yo,.string ya,.slice yp yn yc,.int .i64 yl,.int .i64 yh,.slice zp zn zc,.slice qp o.parts.length qc] o.own o.parts:=⟨_,_,rfl,hec.ext hx.out,hqv.ext hx.out⟩
      have hwp:=widePat_any hpat hop.pbig
      have g1 : wr.cell? ⟨b,off + j2 * 15 + 1,none⟩ = some (.slice pp o.parents.length pcap):=hx.out.cell' (hc 1 _ rfl)
      have g2 : wr.cell? ⟨b,off + j2 * 15 + 2,none⟩ = some (.slice wp o.withdraw.length wcap):=hx.out.cell' (hc 2 _ rfl)
      have g3 : wr.cell? ⟨b,off + j2 * 15 + 3,none⟩ = some av:=hx.out.cell' (hc 3 _ rfl)
      have g6 : wr.cell? ⟨b,off + j2 * 15 + 6,none⟩ = some (.string o.subject):=hx.out.cell' (hc 6 _ rfl)
      have g8 : wr.cell? ⟨b,off + j2 * 15 + 8,none⟩ = some (.int .u8 yo):=hx.out.cell' (hc 8 _ rfl)
      have g9 : wr.cell? ⟨b,off + j2 * 15 + 8 + 1,none⟩ = some (.string ya):=hx.out.cell' (hc 9 _ rfl)
      have g10 : wr.cell? ⟨b,off + j2 * 15 + 8 + 2,none⟩ = some (.slice yp yn yc):=hx.out.cell' (hc 10 _ rfl)
      have g11 : wr.cell? ⟨b,off + j2 * 15 + 8 + 3,none⟩ = some (.int .i64 yl):=hx.out.cell' (hc 11 _ rfl)
      have g12 : wr.cell? ⟨b,off + j2 * 15 + 8 + 4,none⟩ = some (.int .i64 yh):=hx.out.cell' (hc 12 _ rfl)
      have g13 : wr.cell? ⟨b,off + j2 * 15 + 8 + 5,none⟩ = some (.slice zp zn zc):=hx.out.cell' (hc 13 _ rfl)
      have g14 : wr.cell? ⟨b,off + j2 * 15 + 8 + 6,none⟩ = some (.slice qp o.parts.length qc):=hx.out.cell' (hc 14 _ rfl)
      obtain ⟨bF,hbF⟩ : ∃ bF,wideFactsF o.add = bF:=⟨_,rfl⟩
      obtain ⟨bP,hbP⟩ : ∃ bP,widePatF o.own o.parts = bP:=⟨_,rfl⟩
      rw [hbF] at hwf
      rw [hbP] at hwp
      have hstep : wideOp o = false → Hid (∀ o ∈ ops.take (j2 + 1),wideOp o = false):=fun hn a ha=>by
       rw [List.take_add_one,hoj] at ha
       rcases List.mem_append.1 ha with ha | ha
       · exact hr.out a ha
       · obtain rfl : a = o:=by simpa using ha
         exact hn
      have HWF:=Lib.hid hwf
      have HWP:=Lib.hid hwp
      have HBF:=Lib.hid hbF
      have HBP:=Lib.hid hbP
      have HSTEP:=Lib.hid hstep
      have HX:=Lib.hid hx.out
      clear hwf hwp hbF hbP hstep hx hr hc hop hpv hwv hav hec hqv hpat hoj qlen HEL
      go_wp2_with fail
      refine HWF.out.mono ?_
      rintro e w5 ⟨rfl,rfl⟩
      cases bF with
      | true=>
       go_wp2_with fail
       go_ret
       exact wide_yes HX.out
      | false=>
       go_wp2_with fail
       refine HWP.out.mono ?_
       rintro e w6 ⟨rfl,hx6⟩
       replace g1:=hx6.cell' g1
       replace g2:=hx6.cell' g2
       replace g6:=hx6.cell' g6
       have HX6:=Lib.hid (HX.out.trans' hx6)
       clear g3 g8 g9 g10 g11 g12 g13 g14 hx6
       cases bP with
       | true=>
         go_wp2_with fail
         go_ret
         exact wide_yes HX6.out
       | false=>
         by_cases k1 : 8 < o.parents.length
         · go_wp2_with fail
           go_ret
           exact wide_yes HX6.out
         by_cases k2 : 20 < o.withdraw.length
         · go_wp2_with fail
           go_ret
           exact wide_yes HX6.out
         by_cases k3 : 60 < o.subject.size
         · go_wp2_with fail
           go_ret
           exact wide_yes HX6.out
         have hst:=HSTEP.out (by unfold wideOp;rw [HBF.out,HBP.out];simp [k1,k2,k3])
         go_wp2_with fail
         exact ⟨⟨j2 + 1,by omega,rfl,hst,HX6⟩,by simp [intOf];omega⟩
     ·obtain rfl : j2 = ops.length:=by omega
      have hall2:=hr.out
      rw [List.take_length] at hall2
      have HALL2:=Lib.hid hall2
      clear hall2 hr
      go_wp2_with fail
      go_ret
      exact wide_no hx.out ⟨hLS.out,hLO.out,HALL.out,HALL2.out⟩)
end Go.Proofs.YtihfcjioilmmjaaGreat
