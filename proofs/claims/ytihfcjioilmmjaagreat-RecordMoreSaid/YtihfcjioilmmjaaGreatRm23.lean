/- RecordMore: for every input the call returns true, and the input reads as it did. No condition. -/
import Derived.Test.YtihfcjioilmmjaaGreatRm1
import Derived.Test.YtihfcjioilmmjaaGreatRm21
import Derived.Test.YtihfcjioilmmjaaGreatRm9
import Derived.Test.YtihfcjioilmmjaaGreatRm22
import Derived.Test.YtihfcjioilmmjaaGreatRows
set_option linter.all false
namespace Go.Proofs.YtihfcjioilmmjaaGreat
open Go Go.RowKit
open Go.ChangeShapes Go.WideShapes Go.ChangeAt Go.Lib Go.Proofs
theorem ownKnobs : ownKnob Tryz.prog.godebug = none:=by kernel_rfl
theorem laidOuts : laidOutB Tryz.prog = true:=by kernel_rfl
theorem glob_of {W : World} (h : W.ShapedOpen Tryz.prog) : Glob W:=
 cell_of_shapedOpen_int (g:=0) (t:=3) (zero:=#[.int .i64 0]) h (of_decide_eq_true (by kernel_rfl)) (by kernel_rfl) rfl (by kernel_rfl) (by kernel_rfl) Tryz.underlying3
theorem wt_of {H : Type} {t : TypeId} {d : DataW H} (h : (DataW.weightsEach Tryz.prog [t] [d]).all (· ≤ reachBytes) = true) : ∀ k ∈ d.weights Tryz.prog t,k ≤ reachBytes:=fun k hk=>by
 have:=List.all_eq_true.1 h k (weightsEach_mem [t] [d] 0 t d rfl rfl k hk)
 simpa using this
end Go.Proofs.YtihfcjioilmmjaaGreat
namespace Go.Proofs.YtihfcjioilmmjaaGreat
open Go Go.RowKit
open Go.ChangeShapes Go.WideShapes Go.ChangeAt Go.Lib Go.Proofs
theorem cells11of {W : World} {H : Type} {enc : TypeId × Value → H} {n : Nat} {cs : List Value} (h : Rd enc W n 33 cs) : ∃ sv fv zv schema facts fals seed pc own parts,cs = [sv,.int .u32 seed,fv,zv] ++ pc ∧ AttrsAt W sv schema ∧ (∀ a ∈ schema,a.values.length * 16 ≤ 140737488355328) ∧ FactsAt W fv facts ∧ (∀ f ∈ facts,FactBig f) ∧ FactsAt W zv fals ∧ (∀ f ∈ fals,FactBig f) ∧ PatAt W pc own parts ∧ PatBig own parts:=by
 obtain ⟨m,rfl,hl,hf⟩:=rd_struct Tryz.underlying33 h
 obtain ⟨a,b,c,d,e,he,rfl⟩:=eleven (hl.trans (by kernel_rfl))
 have h0:=rd_fld cells22 (hf 0 _ rfl)
 have h1:=rd_fld cells23 (hf 1 _ rfl)
 have h2:=rd_fld cells24 (hf 2 _ rfl)
 have h3:=rd_fld cells24 (hf 3 _ rfl)
 have h4:=rd_fld cells31 (hf 4 _ rfl)
 obtain ⟨sv,schema,e0,hs,hb⟩:=rd_attrs h0
 obtain ⟨seed,e1,_⟩:=rd_int Tryz.underlying23 h1
 obtain ⟨fv,facts,e2,hfa,hfb⟩:=rd_facts h2
 obtain ⟨zv,fals,e3,hza,hzb⟩:=rd_facts h3
 obtain ⟨own,parts,hp,hpb⟩:=rd_pat h4
 obtain rfl : a = sv:=by simpa using e0
 obtain rfl : b = .int .u32 seed:=by simpa using e1
 obtain rfl : c = fv:=by simpa using e2
 obtain rfl : d = zv:=by simpa using e3
 exact ⟨_,_,_,schema,facts,fals,seed,e,own,parts,rfl,hs,hb,hfa,hfb,hza,hzb,by have hp' : PatAt W (e.take 7) own parts:=hp;rwa [List.take_of_length_le (by omega)] at hp',hpb⟩
set_option maxRecDepth 100000 in
theorem more_lifted (os : Os) (started : os.Started) (H : Type) (enc : TypeId × Value → H) :
  ReturnsInHanded {} Tryz.checked os 5 .any (Rows.recordMoreSpec.pre6 enc Tryz.prog Tryz.f5 Rows.recordMoreRow.domain false) (Rows.recordMoreSpec.post enc Tryz.prog Tryz.f5 false true false false):=by
 refine returnsInHanded_of_change_shaped (C:=Tryz.checked) ownKnobs started (by kernel_rfl) Tryz.func5
  (ChangeSpec.witness6 (enc:=enc) (C:=Tryz.checked) false ⟨#[],#[.agg #[.slice none 0 0,.int .u32 0,.slice none 0 0,.slice none 0 0,.int .u8 0,.string ⟨#[]⟩,.slice none 0 0,.int .i64 0,.int .i64 0,.slice none 0 0,.slice none 0 0]],[]⟩ 8 (by kernel_rfl) (by kernel_rfl) (by kernel_rfl) (by kernel_rfl)) ?_
 intro W base args ds gs before hval0 hW hcnd0 hwt hsh _
 clear hcnd0
 have hval : ∀ (j : Nat) t v,Tryz.f5.params[j]? = some t → args[j]? = some v → Value.okWide Tryz.prog W .any base t v:=hval0
 have hW':=hW
 obtain ⟨p,q,hA0,hV,rfl,hfz,hnd⟩:=hW
 have hA : DataW.TrodAll enc Tryz.prog W 0 (fun _=>true) true Tryz.f5.params.toList args.toList ds p:=hA0
 rw [Tryz.params5] at hA hval
 obtain ⟨v0,vs0,d0,ds0,p0,q0,hargs,rfl,rfl,h0,r0⟩:=trodAll_cons hA
 obtain ⟨rfl,rfl,rfl⟩:=trodAll_nil r0
 obtain rfl : args = #[v0]:=by cases args;simp_all
 obtain ⟨rfl,rfl⟩:=trodVars_none hV
 obtain ⟨cs,rfl,_⟩:=okWide_struct Tryz.underlying33 (hval 0 33 v0 rfl rfl)
 clear hA0 hval0
 have hwt' : (DataW.weightsEach Tryz.prog [33] [d0]).all (· ≤ reachBytes) = true:=hwt
 obtain ⟨fuel,hf⟩:=id h0
 have hrd : Rd enc W fuel 33 cs.toList:=⟨_,hf,wt_of hwt'⟩
 obtain ⟨sv,fv,zv,schema,facts,fals,seed,pc,own,parts,hcl,hs,hb,hfa,hfb,hza,hzb,hp,hpb⟩:=cells11of hrd
 obtain ⟨o,at_,pp,n,c,l,h,p2,n2,c2,p6,c6,rfl,hpc⟩:=pat_form hp
 have hlt : ∀ x ∈ p0,x.block < W.heap.size:=fun x hx=>hW'.lt x (by simp [hx])
 have hcs : (.agg cs : Value) = .agg #[sv,.int .u32 seed,fv,zv,.int .u8 o,.string at_,.slice pp n c,.int .i64 l,.int .i64 h,.slice p2 n2 c2,.slice p6 parts.length c6]:=by
  rw [show cs = cs.toList.toArray by simp,hcl];rfl
 refine (show Calls Tryz.prog 5 #[.agg cs] W _ from ?_)
 rw [hcs]
 refine (more_any (glob_of hsh) seed hs hb hfa hfb hza hzb hpc hpb).mono ?_
 rintro e W' ⟨rfl,hb⟩
 rw [← hcs]
 exact ⟨_,rfl,_,_,_,[],_,[],hW',trodAll_mk1 (shut_bool Tryz.underlying4 _),trodAll_cons_mk (Below.trod laidOuts (by kernel_rfl) (of_decide_eq_true (by kernel_rfl)) h0 hb hlt) trodAll_mk0,rfl,hb.frame _,fun h=>by cases h⟩
theorem more_hold : Rows.RecordMoreSaid:=
 OpenClaim.holds_of_wide 5 Tryz.f5 rfl rfl rfl rfl rfl rfl rfl ⟨rfl,rfl,rfl,rfl,rfl⟩ rfl rfl rfl rfl rfl (by kernel_rfl) Tryz.func5 (by kernel_rfl)
  (of_decide_eq_true (by kernel_rfl)) (by unfold Func.isWrapper;first | (rw [if_pos (by decide +kernel)];kernel_rfl) | (rw [if_neg (by decide +kernel)];exact ⟨rfl,rfl⟩))
  (fun os started H enc _=>more_lifted os started H enc)
end Go.Proofs.YtihfcjioilmmjaaGreat
