/- RecordMissesNone: for every input the call returns true, and the input reads as it did. No condition. -/
import Derived.Test.YtihfcjioilmmjaaGreatRq1
import Derived.Test.YtihfcjioilmmjaaGreatRq21
import Derived.Test.YtihfcjioilmmjaaGreatRq19
import Derived.Test.YtihfcjioilmmjaaGreatRq9
import Derived.Test.YtihfcjioilmmjaaGreatRows
set_option linter.all false
set_option maxRecDepth 100000
set_option maxHeartbeats 16000000
namespace Go.Proofs.YtihfcjioilmmjaaGreat
open Go Go.RowKit
open Go.Lib Go.Proofs
def partsW (sl : List (List UInt8)) (s : ByteArray) : List (List UInt8):=sl.filter fun t=>isPart (ofBytes t) && decide (wholeOf (ofBytes t) = s)
theorem partsW_step {sl : List (List UInt8)} {m : Nat} {t : List UInt8} (ht : sl[m]? = some t) (s : ByteArray) : partsW (sl.take (m + 1)) s = partsW (sl.take m) s ++ (if (isPart (ofBytes t) && decide (wholeOf (ofBytes t) = s)) = true then [t] else []):=by
 unfold partsW;rw [List.take_add_one,ht,List.filter_append]
 congr 1
 show List.filter _ [t] = _
 rw [List.filter_cons]
 rfl
theorem all_step {qs : List Qn} {j : Nat} {x : Qn} (hx : qs[j]? = some x) (g : Qn → Bool) : (qs.take (j + 1)).all g = ((qs.take j).all g && g x):=by
 rw [List.take_add_one,hx,List.all_append];simp
theorem all_off {qs : List Qn} {j : Nat} {x : Qn} (hx : qs[j]? = some x) (g : Qn → Bool) (h : g x = false) : qs.all g = false:=by
 rw [List.all_eq_false];exact ⟨x,zM hx,by rw [h];exact Bool.false_ne_true⟩
theorem likes_any {w : World} {sp : Option Addr} {sc : Nat} {schema : List Attr} {R : Rec} (hT : TruC w sp sc schema R) (seed : Int) (hseed : 0 ≤ seed ∧ seed ≤ 4294967295) (fv zv : Value) {o : Int} {at_ : ByteArray} {p : Option Addr} {n c : Nat} {l h : Int} {p2 : Option Addr} {n2 c2 : Nat} {p6 : Option Addr} {c6 : Nat} {own : Exp} {parts : List Exp} (hp : PatC w o at_ p n c l h p2 n2 c2 p6 c6 own parts) {q : Qn} {qs : List Qn} (hok : ReadOk R own parts q qs)
  (s : ByteArray) (hs : s.size ≤ maxLen) {sl : List (List UInt8)} {ssp : Option Addr} {ssc : Nat} (hsl : ∀ (i : Nat) t,sl[i]? = some t → ∃ b off,ssp = some ⟨b,off,none⟩ ∧ w.cell? ⟨b,off + i,none⟩ = some (.string (ofBytes t))) (hsz : ∀ t ∈ sl,(ofBytes t).size ≤ maxLen) (hln : sl.length ≤ 600) :
  Calls Tryz.prog 18 #[.agg #[.slice sp schema.length sc,.int .u32 seed,fv,zv,.int .u8 o,.string at_,.slice p n c,.int .i64 l,.int .i64 h,.slice p2 n2 c2,.slice p6 parts.length c6],.string s,.slice ssp sl.length ssc] w fun e W=>Ext w W ∧ e = .returned (.bool (q.φ (sigF R.cols seed s) && qs.all fun x=>(partsW sl s).any fun t=>x.φ (sigF R.cols seed (ofBytes t)))):=by
 obtain ⟨hq0,hqs,hq3,_⟩:=hok;have hql : qs.length = parts.length:=by have:=congrArg List.length hqs;simpa using this.symm
 obtain ⟨css,hlen,⟨_,_,hpe,_,_,_,hkc⟩,h6,hkid⟩:=hp.parts;simp only [Value.slice.injEq,true_and] at hpe;obtain ⟨rfl,rfl⟩:=hpe;obtain ⟨W1,hW1⟩ : ∃ W1,W1 = w.alloc (.cells #[.slice sp schema.length sc,.int .u32 seed,fv,zv,.int .u8 o,.string at_,.slice p n c,.int .i64 l,.int .i64 h,.slice p2 n2 c2,.slice p6 parts.length c6] 33 (0,0)):=⟨_,rfl⟩;have hb1 : W1.heap[w.heap.size]? = some (.cells #[.slice sp schema.length sc,.int .u32 seed,fv,zv,.int .u8 o,.string at_,.slice p n c,.int .i64 l,.int .i64 h,.slice p2 n2 c2,.slice p6 parts.length c6] 33 (0,0)):=by rw [hW1];exact zG
 have hx1 : Ext w W1:=by rw [hW1];exact bel
 have d0 : W1.cell? ⟨w.heap.size,0,none⟩ = some (.slice sp schema.length sc):=cell_of hb1 0;have d1 : W1.cell? ⟨w.heap.size,1,none⟩ = some (.int .u32 seed):=cell_of hb1 1;have d2 : W1.cell? ⟨w.heap.size,2,none⟩ = some (fv):=cell_of hb1 2;have d3 : W1.cell? ⟨w.heap.size,3,none⟩ = some (zv):=cell_of hb1 3;have d4 : W1.cell? ⟨w.heap.size,4,none⟩ = some (.int .u8 o):=cell_of hb1 4;have d5 : W1.cell? ⟨w.heap.size,5,none⟩ = some (.string at_):=cell_of hb1 5;have d6 : W1.cell? ⟨w.heap.size,6,none⟩ = some (.slice p n c):=cell_of hb1 6;have d7 : W1.cell? ⟨w.heap.size,7,none⟩ = some (.int .i64 l):=cell_of hb1 7;have d8 : W1.cell? ⟨w.heap.size,8,none⟩ = some (.int .i64 h):=cell_of hb1 8;have d9 : W1.cell? ⟨w.heap.size,9,none⟩ = some (.slice p2 n2 c2):=cell_of hb1 9;have d10 : W1.cell? ⟨w.heap.size,10,none⟩ = some (.slice p6 parts.length c6):=cell_of hb1 10;obtain ⟨bq,hbq⟩ : ∃ bq,q.φ (sigF R.cols seed s) = bq:=⟨_,rfl⟩;have hown:=truly_any (hT.ext hx1) seed hseed fv zv (.int .u8 o) (.string at_) (.slice p n c) (.int .i64 l) (.int .i64 h) (.slice p2 n2 c2) (.slice p6 parts.length c6) s hs (hp.own.ext hx1) hq0;rw [hbq] at hown;rw [hbq];have hkt : ∀ (W : World),Ext w W → ∀ (i : Nat) ce ke xe,css[i]? = some ce → parts[i]? = some ke → askF R ke = some xe → ∀ t ∈ sl,Calls Tryz.prog 50 #[.agg #[.slice sp schema.length sc,.int .u32 seed,fv,zv,.int .u8 o,.string at_,.slice p n c,.int .i64 l,.int .i64 h,.slice p2 n2 c2,.slice p6 parts.length c6],.agg ce.toArray,.string (ofBytes t)] W fun e W'=>Ext W W' ∧ e = .returned (.bool (xe.φ (sigF R.cols seed (ofBytes t)))):=fun W hW i ce ke xe hc hk hx t ht=>
  truly_any (hT.ext hW) seed hseed fv zv (.int .u8 o) (.string at_) (.slice p n c) (.int .i64 l) (.int .i64 h) (.slice p2 n2 c2) (.slice p6 parts.length c6) (ofBytes t) (hsz t ht) ((hkid i ce ke hc hk).ext hW) hx
 have hform : ∀ c ∈ css,∃ o at_ p n c' l h p2 n2 c2,c = [.int .u8 o,.string at_,.slice p n c',.int .i64 l,.int .i64 h,.slice p2 n2 c2]:=fun c hc=>by
  obtain ⟨i,hi'⟩:=List.mem_iff_getElem?.1 hc;have hil : i < parts.length:=by rw [← hlen];exact (List.getElem?_eq_some_iff.1 hi').1
  exact exp_form (hkid i c _ hi' (List.getElem?_eq_getElem hil))
 have HOWN:=zQ hown;have HKT:=zQ hkt;have HFORM:=zQ hform;have HB1:=zQ hb1;have HX1:=zQ hx1;have HQS:=zQ hqs;have HQL:=zQ hql;have HLEN:=zQ hlen;have HKC:=zQ hkc;have H6:=zQ h6;have HSL:=zQ hsl;have HSZ:=zQ hsz;clear hown hkt hform hb1 hx1 hqs hql hlen hkc h6 hsl hsz hkid hp hT hq0 hbq hs;go_enter Tryz.func18,Tryz.ntmps18;go_upto_region 1 with fail;rw [← hW1];clear hW1;go_wp2_with fail;refine HOWN.out.mono ?_;rintro e w3 ⟨hx3,rfl⟩;have HX3:=zQ (HX1.out.trans' hx3);have HB3:=zQ (hx3.obj HB1.out);clear hx3 d0 d1 d2 d3 d4 d5 d6 d7 d8 d9 d10;cases bq with
 | false=>
  go_wp2_with fail;go_ret
  exact ⟨HX3.out,rfl⟩
 | true=>
  go_wp2_with fail;go_loopw [7] (fun i wr=>∃ (j : Nat),j ≤ parts.length ∧ i = .int .i64 (j : Int) ∧ Hid (((qs.take j).all fun x=>(partsW sl s).any fun t=>x.φ (sigF R.cols seed (ofBytes t))) = true) ∧ Hid (Ext w3 wr)) (fun i _=>parts.length - (intOf i).toNat)
  case atStart=>exact ⟨0,Nat.zero_le _,rfl,rfl,ext_refl _⟩
  case round=>
   obtain ⟨j,hj,rfl,hall,hx⟩:=hrel;have d10 : wr.cell? ⟨w.heap.size,10,none⟩ = some (.slice p6 parts.length c6):=hx.out.cell' (cell_of HB3.out 10);by_cases hlt : j < parts.length
   ·obtain ⟨k,hkj⟩ : ∃ k,parts[j]? = some k:=⟨_,List.getElem?_eq_getElem hlt⟩;obtain ⟨cs,hcj⟩ : ∃ cs,css[j]? = some cs:=⟨_,List.getElem?_eq_getElem (by rw [HLEN.out];exact hlt)⟩
    obtain ⟨x,hxj,hak⟩:=kid_q HQS.out hkj;obtain ⟨yo,ya,yp,yn,yc,yl,yh,zp,zn,zc,rfl⟩:=HFORM.out cs (zM hcj);obtain ⟨kb,koff,rfl,hg0,hg1,hg2,hg3,hg4,hg5⟩:=kid_cells H6.out HKC.out hcj;have hask:=fun W (hW : Ext w W)=>HKT.out W hW j _ k x hcj hkj hak
    have HASK:=zQ hask;have HXJ:=zQ hxj;have HG0:=zQ hg0;have HG1:=zQ hg1;have HG2:=zQ hg2;have HG3:=zQ hg3;have HG4:=zQ hg4;have HG5:=zQ hg5;obtain ⟨wo,rfl⟩ : ∃ wo,wo = wr:=⟨wr,rfl⟩;clear hkj hcj hak hask hg0 hg1 hg2 hg3 hg4 hg5 hxj;go_wp2_with fail;clear d10;go_loopw [8,9] (fun b i wr=>∃ (m : Nat) (d : Bool),m ≤ sl.length ∧ b = .bool d ∧ i = .int .i64 (m : Int) ∧ Hid (((partsW (sl.take m) s).any fun t=>x.φ (sigF R.cols seed (ofBytes t))) = d) ∧ Hid (Ext wo wr)) (fun _ i _=>sl.length - (intOf i).toNat)
    case atStart=>exact ⟨0,false,Nat.zero_le _,rfl,rfl,rfl,ext_refl _⟩
    case round=>
     obtain ⟨m,d,hm,rfl,rfl,hd,hxi⟩:=hrel;by_cases hml : m < sl.length
     ·obtain ⟨t,ht⟩ : ∃ t,sl[m]? = some t:=⟨_,List.getElem?_eq_getElem hml⟩;obtain ⟨sb,soff,rfl,hsc⟩:=HSL.out m t ht;have hst:=partsW_step ht s;have htm:=zM ht;have hsize:=HSZ.out t htm;obtain ⟨u,hu⟩ : ∃ u,ofBytes t = u:=⟨_,rfl⟩;have hxr:=HX3.out.trans' (hx.out.trans' hxi.out);have hsc':=hxr.cell' hsc;have hwh:=whole_any (ofBytes t) wr hsize;obtain ⟨bt,hbt⟩ : ∃ bt,x.φ (sigF R.cols seed (ofBytes t)) = bt:=⟨_,rfl⟩;have hask:=fun W (hW : Ext wr W)=>HASK.out W (hxr.trans' hW) t htm
      rw [hbt] at hask;rw [hu] at hsc' hwh hask hst;have HASKT:=zQ hask;have HWH:=zQ hwh;have HSC:=zQ hsc';have HST:=zQ hst;have hany : ((partsW (sl.take (m + 1)) s).any fun t=>x.φ (sigF R.cols seed (ofBytes t))) = (d || ((isPart u && decide (wholeOf u = s)) && bt)):=by
       rw [HST.out,List.any_append,hd.out]
       congr 1
       cases isPart u && decide (wholeOf u = s) with
       | true=>rw [if_pos rfl];simp [hbt]
       | false=>rw [if_neg Bool.false_ne_true];rfl
      have HANY:=zQ hany;have HXR:=zQ hxr;have HBR:=zQ ((hx.out.trans' hxi.out).obj HB3.out);clear hst htm hsize hxr hsc hwh hask hany hbt hu ht;obtain ⟨ip,hip⟩ : ∃ ip,isPart u = ip:=⟨_,rfl⟩;obtain ⟨wu,hwu⟩ : ∃ wu,wholeOf u = wu:=⟨_,rfl⟩;obtain ⟨eq,heq⟩ : ∃ eq,(wu.toList == s.toList) = eq:=⟨_,rfl⟩;have hdec : decide (wu = s) = eq:=by
       rw [← heq,Bool.eq_iff_iff,decide_eq_true_iff];exact ⟨fun e=>by rw [e];simp,fun e=>ByteArray.ext (by simpa [ByteArray.toList_eq] using e)⟩
      have hany:=HANY.out;have hwh:=HWH.out;rw [hip,hwu] at hany hwh;rw [hdec] at hany;have HANY:=zQ hany;have HWH:=zQ hwh;clear hany hwh hdec hip hwu;go_wp2_with fail;refine HWH.out.mono ?_;rintro e w4 ⟨rfl,rfl⟩;cases ip with
      | false=>
       have hA:=HANY.out;rw [Bool.false_and,Bool.false_and,Bool.or_false] at hA;have HA:=zQ hA;clear hA heq;go_wp2_with fail;exact ⟨⟨m + 1,d,by omega,rfl,rfl,HA.out,hxi.out⟩,by simp [intOf];omega⟩
      | true=>
       cases eq with
       | false=>
        have hA:=HANY.out;rw [Bool.and_false,Bool.false_and,Bool.or_false] at hA;have HA:=zQ hA;clear hA;go_wp2_with fail;exact ⟨⟨m + 1,d,by omega,rfl,rfl,HA.out,hxi.out⟩,by simp [intOf];omega⟩
       | true=>
        have hA:=HANY.out;rw [Bool.and_self,Bool.true_and] at hA;cases d with
        | true=>
         rw [Bool.true_or] at hA;have HA:=zQ hA;clear hA;go_upto_region 12 with fail;refine Rt.wp_region_rt (by kernel_rfl) [0,1,2,3,4,5,6,7,8,9,10,11,12,13,14,15] [] [] [0,1,3,3,11,27,3,123,251,3,3,1539,3587,8191,16383,32767] (by kernel_rfl) (fun _ W=>Ext wr W) ?_ ?_
         ·exact below_drawn (ext_refl _) _
         iterate 2 (refine Rt.zS fun K hK=>?_;go_simp;refine hK _ ?_;clear hK K)
         (iterate 12 ((refine Rt.rs_skip rfl rfl rfl ?_;simp only [Act.put,zP])));(iterate 2 (refine Rt.zS fun K hK=>?_;go_simp;refine hK _ ?_;clear hK K));refine Rt.rs_nil (fun W5 hI=>?_)
         have HX5:=zQ (hxi.out.trans' hI);clear hI;go_wp2_with fail;exact ⟨⟨m + 1,true,by omega,rfl,rfl,HA.out,HX5.out⟩,by simp [intOf];omega⟩
        | false=>
         rw [Bool.false_or] at hA;have HA:=zQ hA;clear hA;go_upto_region 12 with fail;refine Rt.wp_region_rt (by kernel_rfl) [0,1,2,3,4,5,6,7,8,9,10,11,12,13,14,15] [13] [0,0,0,0,0,0,0,0,0,0,0,0,0] [0,1,3,3,11,27,3,123,251,3,3,1539,3587,8191,16383,32767] (by kernel_rfl) (fun us W=>Ext wr W ∧ (us = [] ∨ us = [.bool bt])) ?_ ?_
         ·exact ⟨below_drawn (ext_refl _) _,.inl rfl⟩
         (iterate 2 (refine Rt.zS fun K hK=>?_;go_simp;refine hK _ ?_;clear hK K));(refine Rt.zR ?_;constructor;constructor;· (intro us' W hp hl hI;have hE:=hI.1;have d0:=hE.cell' (cell_of HBR.out 0);have d1:=hE.cell' (cell_of HBR.out 1);have d2:=hE.cell' (cell_of HBR.out 2);have d3:=hE.cell' (cell_of HBR.out 3);have d4:=hE.cell' (cell_of HBR.out 4);have d5:=hE.cell' (cell_of HBR.out 5);have d6:=hE.cell' (cell_of HBR.out 6);have d7:=hE.cell' (cell_of HBR.out 7);have d8:=hE.cell' (cell_of HBR.out 8);have d9:=hE.cell' (cell_of HBR.out 9);have d10:=hE.cell' (cell_of HBR.out 10);go_simp;rfl));simp only [Act.put,zP];(iterate 2 (refine Rt.zS fun K hK=>?_;go_simp;refine hK _ ?_;clear hK K));(refine Rt.zR ?_;constructor;constructor;· (intro us' W hp hl hI;have hE:=hI.1;have d10:=hE.cell' (cell_of HBR.out 10);go_simp;rfl));simp only [Act.put,zP];(refine Rt.zS fun K hK=>?_;go_simp;refine hK _ ?_;clear hK K);(refine Rt.zR ?_;constructor;constructor;· (intro us' W hp hl hI;skip;go_simp;rfl));simp only [Act.put,zP];(refine Rt.zR ?_;constructor;constructor;· (intro us' W hp hl hI;have hE:=hI.1;have g0:=hE.cell' (HXR.out.cell' HG0.out);have g1:=hE.cell' (HXR.out.cell' HG1.out);have g2:=hE.cell' (HXR.out.cell' HG2.out);have g3:=hE.cell' (HXR.out.cell' HG3.out);have g4:=hE.cell' (HXR.out.cell' HG4.out);have g5:=hE.cell' (HXR.out.cell' HG5.out);go_simp;rfl));simp only [Act.put,zP];(iterate 2 (refine Rt.zS fun K hK=>?_;go_simp;refine hK _ ?_;clear hK K));(refine Rt.zR ?_;constructor;constructor;· (intro us' W hp hl hI;skip;go_simp;rfl));simp only [Act.put,zP];(refine Rt.zR ?_;constructor;constructor;· (intro us' W hp hl hI;have hE:=hI.1;have g:=hE.cell' HSC.out;go_simp;rfl));simp only [Act.put,zP];refine Rt.rs_eff rfl rfl rfl (fun W hI=>?_) (fun v hv=>?_)
         ·refine Rt.gives_cal ?_;apply Exists.intro;apply Exists.intro;apply Exists.intro;refine ⟨by go_simp;exact ⟨⟨rfl,rfl⟩,rfl⟩,?_⟩
          refine (HASKT.out W hI.1).mono ?_
          rintro e W2 ⟨hx2,rfl⟩;exact ⟨_,rfl,hI.1.trans' hx2,.inr rfl⟩
         obtain rfl : v = .bool bt:=(let ⟨_,_,h⟩:=hv;by simpa using h)
         clear hv;simp only [Act.put,zP];(iterate 2 (refine Rt.zS fun K hK=>?_;go_simp;refine hK _ ?_;clear hK K));refine Rt.rs_nil (fun W5 hI=>?_)
         have HX5:=zQ (hxi.out.trans' hI.1);clear hI;go_wp2_with fail;exact ⟨⟨m + 1,bt,by omega,rfl,rfl,HA.out,HX5.out⟩,by simp [intOf];omega⟩
     ·obtain rfl : m = sl.length:=by omega
      have hde:=hd.out;rw [List.take_length] at hde;have HX5:=zQ (hx.out.trans' hxi.out);have hst:=all_step HXJ.out fun x=>(partsW sl s).any fun t=>x.φ (sigF R.cols seed (ofBytes t))
      rw [hall.out] at hst;cases d with
      | true=>
       have HST:=zQ (show ((qs.take (j + 1)).all fun x=>(partsW sl s).any fun t=>x.φ (sigF R.cols seed (ofBytes t))) = true by rw [hst];simpa using hde)
       clear hst hde;go_wp2_with fail;exact ⟨⟨j + 1,by omega,rfl,HST.out,HX5.out⟩,by simp [intOf];omega⟩
      | false=>
       have hoff:=all_off HXJ.out (fun x=>(partsW sl s).any fun t=>x.φ (sigF R.cols seed (ofBytes t))) hde
       have HOFF:=zQ hoff;clear hst hde hoff;go_wp2_with fail;go_ret
       exact ⟨HX3.out.trans' HX5.out,by rw [Bool.true_and,HOFF.out];rfl⟩
   ·obtain rfl : j = parts.length:=by omega
    have hal:=hall.out;rw [List.take_of_length_le (by rw [HQL.out];exact Nat.le_refl _)] at hal
    have HAL:=zQ hal;clear hal;go_wp2_with fail;go_ret
    exact ⟨HX3.out.trans' hx.out,by rw [Bool.true_and,HAL.out];rfl⟩
end Go.Proofs.YtihfcjioilmmjaaGreat
namespace Go.Proofs.YtihfcjioilmmjaaGreat
open Go Go.RowKit
open Go.Lib Go.Proofs
theorem misses_any {w : World} (hg : Glob w) {sv fv zv : Value} (seed : Int) (hseed : 0 ≤ seed ∧ seed ≤ 4294967295) {schema : List Attr} {facts fals : List Fct} (hatt : AttrsAt w sv schema) (hbig : ∀ a ∈ schema,a.values.length * 16 ≤ 140737488355328) (hfa : FactsAt w fv facts) (hfb : ∀ f ∈ facts,FactBig f) (hza : FactsAt w zv fals) (hzb : ∀ f ∈ fals,FactBig f)
  {o : Int} {at_ : ByteArray} {p : Option Addr} {n c : Nat} {l h : Int} {p2 : Option Addr} {n2 c2 : Nat} {p6 : Option Addr} {c6 : Nat} {own : Exp} {parts : List Exp} (hp : PatC w o at_ p n c l h p2 n2 c2 p6 c6 own parts) (hpb : PatBig own parts) :
  Calls Tryz.prog 3 #[.agg #[sv,.int .u32 seed,fv,zv,.int .u8 o,.string at_,.slice p n c,.int .i64 l,.int .i64 h,.slice p2 n2 c2,.slice p6 parts.length c6]] w fun e w'=>e = .returned (.bool true) ∧ Ext w w':=by
 obtain ⟨vs,hvs,⟨sp,sc,rfl,hv0⟩,hv1⟩:=id hatt;obtain ⟨vs2,hvs2,⟨fp,fc,rfl,hv2⟩,hv3⟩:=id hfa;obtain ⟨vs3,hvs3,⟨zp,zc,rfl,hv4⟩,hv5⟩:=id hza;have hfml : facts.length ≤ maxLen:=hv2.2.1;have hzml : fals.length ≤ maxLen:=hv4.2.1;unfold maxLen at hfml hzml;clear hvs hv0 hv1 vs hvs2 hv2 hv3 vs2 hvs3 hv4 hv5 vs3;obtain ⟨W1,hW1⟩ : ∃ W1,W1 = w.alloc (.cells #[.slice sp schema.length sc,.int .u32 seed,.slice fp facts.length fc,.slice zp fals.length zc,.int .u8 o,.string at_,.slice p n c,.int .i64 l,.int .i64 h,.slice p2 n2 c2,.slice p6 parts.length c6] 33 (0,0)):=⟨_,rfl⟩;have hx1 : Ext w W1:=by rw [hW1];exact bel
 have hb1 : W1.heap[w.heap.size]? = some (.cells #[.slice sp schema.length sc,.int .u32 seed,.slice fp facts.length fc,.slice zp fals.length zc,.int .u8 o,.string at_,.slice p n c,.int .i64 l,.int .i64 h,.slice p2 n2 c2,.slice p6 parts.length c6] 33 (0,0)):=by rw [hW1];exact zG
 have hs1 : W1.heap.size = w.heap.size + 1:=by rw [hW1];simp
 obtain ⟨W2,hW2⟩ : ∃ W2,W2 = W1.alloc (.cells #[.int .i64 0,.slice none 0 0,.slice none 0 0,.slice fp facts.length fc,.int .i64 0,.int .i64 0,.string ⟨#[]⟩,.string ⟨#[]⟩,.int .u8 o,.string at_,.slice p n c,.int .i64 l,.int .i64 h,.slice p2 n2 c2,.slice p6 parts.length c6] 37 (0,0)):=⟨_,rfl⟩;have hx2 : Ext W1 W2:=by rw [hW2];exact bel
 have hops : OpsAt W2 (.slice (some ⟨w.heap.size + 1,0,none⟩) 1 1) [opOf facts own parts]:=by
  have hX:=hx1.trans' hx2;refine ops_one (opOf_at (hfa.ext hX) hfb ⟨_,_,rfl,hp.own.ext hX,hp.parts.ext hX⟩ hpb) rfl ?_
  rw [hW2,← hs1];simp only [zH,World.size_alloc,World.size_setCell];(repeat (first | rw [if_pos trivial] | rw [if_pos rfl] | rw [if_neg (by omega)] | rw [if_pos (by omega)]))
  rfl
 have HWIDE:=zQ (wide_any (hatt.ext (hx1.trans' hx2)) hops);have HWF:=zQ (fun W (hW : Ext w W)=>wideFacts_any (hza.ext hW))
 have HB1:=zQ hb1;have HX2:=zQ (hx1.trans' hx2);have HX12:=zQ hx2;have HGLB:=zQ hg;have HATT:=zQ hatt;have HBIG:=zQ hbig;have HFA:=zQ (And.intro hfa hfb);have HZA:=zQ (And.intro hza hzb);have HPA:=zQ hp;have HSEED:=zQ hseed;have HS1:=zQ hs1;have HKN:=zQ (fun W (hW : Ext w W)=>knows_any W (hg.ext hW))
 have HT1 : Hid (Tr w.heap.size (truL sp schema.length sc seed fp facts.length fc zp fals.length zc o at_ p n c l h p2 n2 c2 p6 parts.length c6) W1):=hb1;have d0 : W1.cell? ⟨w.heap.size,0,none⟩ = some (.slice sp schema.length sc):=cell_of hb1 0;have d1 : W1.cell? ⟨w.heap.size,1,none⟩ = some (.int .u32 seed):=cell_of hb1 1;have d2 : W1.cell? ⟨w.heap.size,2,none⟩ = some (.slice fp facts.length fc):=cell_of hb1 2;have d3 : W1.cell? ⟨w.heap.size,3,none⟩ = some (.slice zp fals.length zc):=cell_of hb1 3;have d4 : W1.cell? ⟨w.heap.size,4,none⟩ = some (.int .u8 o):=cell_of hb1 4;have d5 : W1.cell? ⟨w.heap.size,5,none⟩ = some (.string at_):=cell_of hb1 5;have d6 : W1.cell? ⟨w.heap.size,6,none⟩ = some (.slice p n c):=cell_of hb1 6;have d7 : W1.cell? ⟨w.heap.size,7,none⟩ = some (.int .i64 l):=cell_of hb1 7;have d8 : W1.cell? ⟨w.heap.size,8,none⟩ = some (.int .i64 h):=cell_of hb1 8;have d9 : W1.cell? ⟨w.heap.size,9,none⟩ = some (.slice p2 n2 c2):=cell_of hb1 9;have d10 : W1.cell? ⟨w.heap.size,10,none⟩ = some (.slice p6 parts.length c6):=cell_of hb1 10;clear hx1 hb1 hx2 hops hg hatt hbig hfa hfb hza hzb hp hpb hseed;go_enter Tryz.func3,Tryz.ntmps3;go_upto_region 1 with fail;rw [← hW1];clear hW1;go_wp2_with fail;rw [← hW2];clear hW2 d1 d4 d5 d6 d7 d8 d9 d10 d0 d2 d3;refine HWIDE.out.mono ?_;rintro e w3 ⟨b,rfl,hnar,hx3⟩;have HX3:=zQ (HX2.out.trans' hx3);have HT3:=zQ (HT1.out.ext (HX12.out.trans' hx3));have d0 : w3.cell? ⟨w.heap.size,0,none⟩ = some (.slice sp schema.length sc):=HT3.out.cell 0;have d3 : w3.cell? ⟨w.heap.size,3,none⟩ = some (.slice zp fals.length zc):=HT3.out.cell 3;have hs3 : w.heap.size < w3.heap.size:=heap_lt HT3.out;clear hx3;cases b with
 | true=>
  clear hnar;go_wp2_with fail;refine (HKN.out w3 HX3.out).mono ?_
  rintro e wk ⟨rfl,hxk⟩;go_wp2_with fail;go_ret
  exact ⟨rfl,Ext.trans' HX3.out hxk⟩
 | false=>
  have hn:=hnar rfl;have hn1:=narrow_opOf (hn.op _ List.mem_cons_self);have hnf:=narrow_facts hn1.1;have hnp:=narrow_pat hn1.2;have HNF:=zQ hnf;have HNP:=zQ hnp;have HNEW:=zQ (new_any _ schema w3 (HATT.out.ext HX3.out) HBIG.out);clear hnar hn hn1 hnf hnp;by_cases h3 : fals.length ≤ 3
  rotate_left
  ·have h3' : (3 : Int) < (fals.length : Int):=by omega
   go_wp2_with fail;refine (HKN.out w3 HX3.out).mono ?_
   rintro e wk ⟨rfl,hxk⟩;go_wp2_with fail;go_ret
   exact ⟨rfl,Ext.trans' HX3.out hxk⟩
  have h3' : ¬ (3 : Int) < (fals.length : Int):=by omega
  obtain ⟨wz,hwz⟩ : ∃ wz,wideFactsF fals = wz:=⟨_,rfl⟩;have hwf:=HWF.out w3 HX3.out;rw [hwz] at hwf;have HWF3:=zQ hwf;clear hwf;go_wp2_with fail;refine HWF3.out.mono ?_;rintro e wq ⟨rfl,rfl⟩;cases wz with
  | true=>
   go_wp2_with fail;refine (HKN.out w3 HX3.out).mono ?_
   rintro e wk ⟨rfl,hxk⟩;go_wp2_with fail;go_ret
   exact ⟨rfl,Ext.trans' HX3.out hxk⟩
  | false=>
   have HNZ:=zQ (narrow_facts hwz);clear hwz;go_wp2_with fail;refine HNEW.out.mono ?_;rintro e w4 ⟨hx4,⟨_,rfl⟩ | ⟨hnew,rb,cm,vv,cols,hcm,rfl,hrec⟩⟩
   ·have HX4:=zQ (HX3.out.trans' hx4);clear hx4;go_wp2_with fail;refine (HKN.out w4 HX4.out).mono ?_
    rintro e wk ⟨rfl,hxk⟩;go_wp2_with fail;go_ret
    exact ⟨rfl,Ext.trans' HX4.out hxk⟩
   have hTC : TruC w4 sp sc schema ⟨cols,[⟨[],[]⟩],[]⟩:=⟨HATT.out.ext (HX3.out.trans' hx4),hnew.attrs,hnew.names,hcm,cols_nodup hrec⟩;have hokc : ∀ W,Ext w4 W → TruC W sp sc schema ⟨cols,[⟨[],[]⟩],[]⟩:=fun W hW=>hTC.ext hW
   have HTC:=zQ hokc;have HX4:=zQ (HX3.out.trans' hx4);have HT4:=zQ (HT3.out.ext hx4);have HR4:=zQ hrec;have HNW:=zQ hnew;have HCM:=zQ hcm;have hlt4 : w.heap.size < w4.heap.size:=Nat.lt_of_lt_of_le hs3 hx4.size;have HSZ:=zQ hs3;obtain ⟨W5,hW5⟩ : ∃ W5,W5 = w4.alloc (.cells #[] 46 (0,0)):=⟨_,rfl⟩;have hx5 : Ext w4 W5:=by rw [hW5];exact bel
   have hb5 : W5.heap[w4.heap.size]? = some (.cells #[] 46 (0,0)):=by rw [hW5];exact zG
   have HI5 : Hid (MdI w4.heap.size w4 schema seed [] (.slice (some ⟨w4.heap.size,0,none⟩) 0 0) [] W5):=⟨hx5,rfl,⟨rfl,.inr ⟨w4.heap.size,0,#[],rfl,Nat.le_refl _,hb5,Nat.le_refl _,Nat.zero_le _,rfl,rfl⟩⟩,fun x hx=>(by cases hx),fun f hf=>(by cases hf),fun f hf=>(by cases hf)⟩
   have hone : ((⟨cols,[⟨[],[]⟩],[]⟩ : Rec).vers.length : Int) = 1:=rfl;have HF8:=zQ HNF.out.1;unfold encP at *
   clear hTC hokc hx4 hrec hnew hcm hs3 hx5 hb5 d0 d3;go_wp2_with fail;rw [← hW5];clear hW5;go_loopw [5,6] (fun v i wr=>∃ (k : Nat) (L : List Fct) (vs : List Value),k ≤ facts.length ∧ i = .int .i64 (k : Int) ∧ Hid (L.length ≤ k) ∧ Hid (MdI w4.heap.size w4 schema seed L v vs wr)) (fun _ i _=>facts.length - (intOf i).toNat)
   case atStart=>exact ⟨0,[],[],Nat.zero_le _,rfl,Nat.zero_le _,HI5.out⟩
   case round=>
    obtain ⟨k,L,vs,hk,rfl,hL,hI⟩:=hrel;have hTr:=HT4.out.ext hI.out.ext;have d2 : wr.cell? ⟨w.heap.size,2,none⟩ = some (.slice fp facts.length fc):=hTr.cell 2;by_cases hlt : k < facts.length
    ·obtain ⟨f,hf⟩ : ∃ f,facts[k]? = some f:=⟨_,List.getElem?_eq_getElem hlt⟩;obtain ⟨_,_,hfe,hfcap,hfel⟩:=RowsAt.at (cells:=factCells) (by decide) (fun _ _=>rfl) HFA.out.1
     simp only [Value.slice.injEq,true_and] at hfe;obtain ⟨rfl,rfl⟩:=hfe;obtain ⟨fb,foff,fu,rfl,hfu,hfc⟩:=hfel k f hf;obtain ⟨fvp,fvc,rfl,_⟩:=id hfu.1.1;have hfm:=zM hf;have hf60:=HNF.out.2 f hfm;have hxr:=HX4.out.trans' hI.out.ext;have hg0:=hxr.cell' (hfc 0 _ rfl);have hg1:=hxr.cell' (hfc 1 _ rfl);have hg2:=hxr.cell' (hfc 2 _ rfl);have hg3:=hxr.cell' (hfc 3 _ rfl);have hg4:=hxr.cell' (hfc 4 _ rfl);have HG0 : Hid (wr.cell? ⟨fb,foff + k * 5,none⟩ = some (.string f.subject)):=hg0;have HG1 : Hid (wr.cell? ⟨fb,foff + k * 5 + 1,none⟩ = some (.string f.attr)):=hg1;have HG2 : Hid (wr.cell? ⟨fb,foff + k * 5 + 2,none⟩ = some (.slice fvp f.values.length fvc)):=hg2;have HG3 : Hid (wr.cell? ⟨fb,foff + k * 5 + 3,none⟩ = some (.int .i64 f.low)):=hg3;have HG4 : Hid (wr.cell? ⟨fb,foff + k * 5 + 4,none⟩ = some (.int .i64 f.high)):=hg4;have hmade:=fun W (hW : Ext wr W)=>made_any (sp:=sp) (sc:=sc) (schema:=schema) (w:=W) (HTC.out W (hI.out.ext.trans' hW)).att HNW.out.attrs seed HSEED.out (.slice (some ⟨fb,foff,none⟩) facts.length fc) (.slice zp fals.length zc) (.int .u8 o) (.string at_) (.slice p n c) (.int .i64 l) (.int .i64 h) (.slice p2 n2 c2) (.slice p6 parts.length c6) f (FactAt.ext _ _ _ _ (hxr.trans' hW) hfu) (by omega)
     have HMADE:=zQ hmade;have HTRR:=zQ hTr;have HF60:=zQ hf60;clear hfel hfc hfu hf hfm hf60 hxr hg0 hg1 hg2 hg3 hg4 hmade hTr hfcap;go_upto_region 10 with fail;clear d2;refine Rt.wp_region_rf (by kernel_rfl) [0,1,2,3,4,5,6,7,8,9,10,11,12] [6,11] [0,0,0,0,0,0,1000,1,1] [0,0,2,0,14,30,63,127,255,255,0,1535,4095] 10 (by kernel_rfl) (MdJ schema seed f wr) ?_ ?_ ?_
     ·exact ⟨below_drawn (ext_refl _) _,fun v hv=>by cases hv⟩
     ·intro o ho us W hI
      obtain rfl:=zI ho.symm;clear ho;refine Rt.gives_val ?_;apply Exists.intro;apply Exists.intro;refine ⟨by go_simp;exact ⟨rfl,rfl⟩,?_⟩
      exact hI.float
     (refine Rt.rf_rd rfl rfl rfl rfl ?_;apply Exists.intro;refine ⟨fun us' fo' W hp hl hI=>?_,?_⟩;· (have hE:=hI.1;have d0:=hE.cell' (HTRR.out.cell 0);have d1:=hE.cell' (HTRR.out.cell 1);have d2:=hE.cell' (HTRR.out.cell 2);have d3:=hE.cell' (HTRR.out.cell 3);have d4:=hE.cell' (HTRR.out.cell 4);have d5:=hE.cell' (HTRR.out.cell 5);have d6:=hE.cell' (HTRR.out.cell 6);have d7:=hE.cell' (HTRR.out.cell 7);have d8:=hE.cell' (HTRR.out.cell 8);have d9:=hE.cell' (HTRR.out.cell 9);have d10:=hE.cell' (HTRR.out.cell 10);go_simp;rfl));simp only [Act.put,zP];(refine Rt.rf_sil rfl rfl rfl rfl (fun K hK=>?_);go_simp;refine hK _ ?_;clear hK K);(refine Rt.rf_rd rfl rfl rfl rfl ?_;apply Exists.intro;refine ⟨fun us' fo' W hp hl hI=>?_,?_⟩;· (have hE:=hI.1;have d2:=hE.cell' (HTRR.out.cell 2);go_simp;rfl));simp only [Act.put,zP];(refine Rt.rf_sil rfl rfl rfl rfl (fun K hK=>?_);go_simp;refine hK _ ?_;clear hK K);(refine Rt.rf_rd rfl rfl rfl rfl ?_;apply Exists.intro;refine ⟨fun us' fo' W hp hl hI=>?_,?_⟩;· (skip;go_simp;rfl));simp only [Act.put,zP];(refine Rt.rf_rd rfl rfl rfl rfl ?_;apply Exists.intro;refine ⟨fun us' fo' W hp hl hI=>?_,?_⟩;· (have hE:=hI.1;have g0:=hE.cell' HG0.out;have g1:=hE.cell' HG1.out;have g2:=hE.cell' HG2.out;have g3:=hE.cell' HG3.out;have g4:=hE.cell' HG4.out;go_simp;rfl));simp only [Act.put,zP];refine Rt.rf_eff rfl rfl rfl rfl (fun fo W hfo hI=>?_) (fun v hv=>?_)
     ·refine Rt.gives_cal ?_;apply Exists.intro;apply Exists.intro;apply Exists.intro;refine ⟨by go_simp;exact ⟨⟨rfl,rfl⟩,rfl⟩,?_⟩
      refine (HMADE.out W hI.1).mono ?_
      rintro e W2 ⟨hx2,s,t,p1,n1,c1,lo,hi,d,rfl,hd⟩;exact ⟨_,rfl,hI.call hx2 hd⟩
     obtain ⟨ms,mt,mp,mn,mc,mlo,mhi,md,rfl⟩:=(let ⟨_,_,h⟩:=hv;h.form)
     clear hv;simp only [Act.put,zP];(iterate 3 (refine Rt.rf_sil rfl rfl rfl rfl (fun K hK=>?_);go_simp;refine hK _ ?_;clear hK K));refine Rt.rf_fl rfl rfl (fun v hv=>?_)
     obtain ⟨mb,rfl,hmb⟩:=(let ⟨_,_,h⟩:=hv;h.ptr)
     clear hv;simp only [Act.put,zP];refine Rt.rf_eff rfl rfl rfl rfl (fun fo W hfo hI=>?_) (fun v hv=>?_)
     ·obtain rfl:=hfo.resolve_left (fun e=>by cases e)
      have hz:=hI.zero;have z0 : W.cell? ⟨mb,0,none⟩ = some (.string ⟨#[]⟩):=cell_of hz 0;have z1 : W.cell? ⟨mb,1,none⟩ = some (.string ⟨#[]⟩):=cell_of hz 1;have z2 : W.cell? ⟨mb,2,none⟩ = some (.slice none 0 0):=cell_of hz 2;have z3 : W.cell? ⟨mb,3,none⟩ = some (.int .i64 0):=cell_of hz 3;have z4 : W.cell? ⟨mb,4,none⟩ = some (.int .i64 0):=cell_of hz 4;have q0:=frozen_of hz 0;have q1:=frozen_of hz 1;have q2:=frozen_of hz 2;have q3:=frozen_of hz 3;have q4:=frozen_of hz 4;have HI:=zQ hI;clear hz hI;refine Rt.gives_skp ?_;apply Exists.intro;refine ⟨by go_simp;rfl,?_⟩;exact HI.out.store _
     clear hv;simp only [Act.put,zP];(refine Rt.rf_sil rfl rfl rfl rfl (fun K hK=>?_);go_simp;refine hK _ ?_;clear hK K);refine Rt.rf_nil (fun W9 hI9=>?_)
     obtain ⟨hx9,hd9,hb9⟩:=MdJ.done hI9;have HX9:=zQ hx9;cases md with
     | false=>
      have HI9:=zQ (hI.out.stay hx9);have HL9 : Hid (L.length ≤ k + 1):=Nat.le_succ_of_le hL.out;clear hI9 hd9 hb9 hx9;go_wp2_with fail;exact ⟨⟨k + 1,L,vs,by omega,rfl,HL9.out,HI9.out⟩,by simp [intOf];omega⟩
     | true=>
      obtain ⟨values,rfl,hvo,hvs,hgd,hv8,hsub,htr⟩:=hd9 rfl;have m0:=cell_of hb9 0;have m1:=cell_of hb9 1;have m2:=cell_of hb9 2;have m3:=cell_of hb9 3;have m4:=cell_of hb9 4;obtain ⟨W10,hW10⟩ : ∃ W10,W10 = W9.alloc (.cells #[.string ms,.string mt,.slice mp values.length mc,.int .i64 mlo,.int .i64 mhi] 46 (0,0)):=⟨_,rfl⟩;have hx10 : Ext W9 W10:=by rw [hW10];exact bel
      have hb10 : W10.heap[W9.heap.size]? = some (.cells #[.string ms,.string mt,.slice mp values.length mc,.int .i64 mlo,.int .i64 mhi] 46 (0,0)):=by rw [hW10];exact zG
      have hI10:=(hI.out.stay hx9).stay hx10;have hl8:=HF8.out;have hL':=hL.out;obtain ⟨v2,w11,happ,hrow11,hgrow⟩:=append_fct (row:=[.string ms,.string mt,.slice mp values.length mc,.int .i64 mlo,.int .i64 mhi]) hI10.rows W9.heap.size 1 rfl (fun j u hj=>by rw [Nat.zero_add,cell_of hb10 j,List.getElem?_toArray];exact hj) (fun u hu=>by simp at hu;rcases hu with rfl | rfl | rfl | rfl | rfl <;> rfl) (by omega) hI10.ext.size 1
      have hx11 : Ext w4 w11:=hI10.ext.grown hgrow hI10.ext.size fun j hj=>(owns_block hI10.rows hj).1
      have hfr:=frm_grown hI10.rows hgrow;have hvo10 : W10.ownsRow 0 9 1 (.slice mp values.length mc) values.length (values.map Value.string):=owns_keep hvo fun g _ _ hg=>hx10.block g (heap_lt hg)
      have hI11:=hI10.snoc (f:=⟨ms,mt,values,mlo,mhi⟩) hvo10 ⟨hvs,hgd⟩ ⟨(show values.length * 16 ≤ 140737488355328 by omega),(by show ms.size ≤ 60;rw [hsub];exact HF60.out.2),htr⟩ hrow11 hfr hx11
      have HI11:=zQ hI11;have HL11 : Hid ((L ++ [(⟨ms,mt,values,mlo,mhi⟩ : Fct)]).length ≤ k + 1):=(by show (L ++ [_]).length ≤ k + 1;rw [List.length_append];exact Nat.succ_le_succ hL')
      rw [hW10] at happ;obtain ⟨op,oc,rfl⟩:=owns_form hI.out.rows;have HAPP:=zQ happ;clear hI9 hd9 hb9 hx9 hvo hvs hgd hv8 hsub htr hx10 hb10 hI10 happ hrow11 hgrow hx11 hfr hvo10 hI11 hW10 hl8 hL';go_wp2_with (at_builtin;refine wpList_append_run rfl _ _ 24 rfl rfl rfl HAPP.out ?_)
      exact ⟨⟨k + 1,_,_,by omega,rfl,HL11.out,HI11.out⟩,by simp [intOf];omega⟩
    ·obtain rfl : k = facts.length:=by omega
     obtain ⟨W6,hW6⟩ : ∃ W6,W6 = wr.alloc (.cells #[.int .i64 0] 3 (0,0)):=⟨_,rfl⟩;have hx6 : Ext wr W6:=by rw [hW6];exact bel
     have hb6 : W6.heap[wr.heap.size]? = some (.cells #[.int .i64 0] 3 (0,0)):=by rw [hW6];exact zG
     obtain ⟨op,oc,rfl⟩:=owns_form hI.out.rows;have hxw:=hI.out.ext.trans' hx6;have hps6 : IntsAt W6 (.slice (some ⟨wr.heap.size,0,none⟩) 1 1) [0]:=sl_one hb6;have hl8:=HF8.out;have hL':=hL.out;have hcom:=commit_gen (HR4.out.ext hxw) (HGLB.out.ext (HX4.out.trans' hxw)) _ _ [0] hps6 (by simp) L (hI.out.facts.ext hx6) (by omega) (fun f hf=>⟨(hI.out.true_ f hf).2.1,(hI.out.true_ f hf).1⟩)
     have htrue : ∀ f ∈ L,∃ a ∈ schema,a.name = f.attr ∧ inT a f.values f.low f.high (realF seed f.subject a) = true:=fun f hf=>(hI.out.true_ f hf).2.2
     unfold encP at hcom;have HCOM:=zQ hcom;have HTRUE:=zQ htrue;have HX6:=zQ (HX4.out.trans' hxw);have HT6:=zQ (HT4.out.ext hxw);clear hx6 hb6 hxw hps6 hl8 hL' hcom htrue hTr hL;go_wp2_with fail;rw [← hW6];clear hW6 d2;refine HCOM.out.mono ?_;rintro e w7 ⟨vn,ve,rfl,⟨hne,hx7⟩ | ⟨rfl,rfl,frs,la,lw,vv7,fv7,os7,xs7,hC7,hR7,hK7⟩⟩
     ·have HX7:=zQ (HX6.out.trans' hx7);clear hx7;go_wp2_with fail;refine (HKN.out w7 HX7.out).mono ?_
      rintro e wk ⟨rfl,hxk⟩;go_wp2_with fail;go_ret
      exact ⟨rfl,Ext.trans' HX7.out hxk⟩
     have hBs : w.heap.size < w3.heap.size:=HSZ.out;have hst:=start_true (HTC.out w4 (ext_refl _)) hC7 hR7.ok HTRUE.out (v:=⟨la,lw⟩) (List.mem_append_right _ (List.mem_singleton_self _));have hI7 : NmI w w.heap.size (truL sp schema.length sc seed fp facts.length fc zp fals.length zc o at_ p n c l h p2 n2 c2 p6 parts.length c6) w3.heap.size rb cm cols seed 1 (commitR ⟨cols,[⟨[],[]⟩],[]⟩ frs la lw) w7:=
      {ext:=ext_keep HX6.out HX3.out.size hK7,tr:=HT6.out.keep hBs hK7,reco:=⟨_,_,_,_,hR7⟩,nowd:=(NoWd.new cols).commit hC7,colsE:=rfl,ver:=⟨⟨la,lw⟩,rfl,hst⟩ }
     obtain ⟨R1,hR1⟩ : ∃ R1,commitR ⟨cols,[⟨[],[]⟩],[]⟩ frs la lw = R1:=⟨_,rfl⟩;rw [hR1] at hI7;have HI7:=zQ hI7;rw [hone];clear hone hC7 hR7 hK7 hst hI7 hR1 hBs hI HCOM HTRUE HT6 HX6 HI5;go_wp2_with fail;obtain ⟨TL,hTL⟩ : ∃ TL,truL sp schema.length sc seed fp facts.length fc zp fals.length zc o at_ p n c l h p2 n2 c2 p6 parts.length c6 = TL:=⟨_,rfl⟩;have HTL:=zQ hTL;rw [hTL] at HI7;clear hTL;go_loopw [9,10] (fun u i wr=>∃ (k iw : Nat) (R : Rec),k ≤ fals.length ∧ u = .int .i64 (iw : Int) ∧ i = .int .i64 (k : Int) ∧ Hid (NmI w w.heap.size TL w3.heap.size rb cm cols seed iw R wr)) (fun _ i _=>fals.length - (intOf i).toNat)
     case atStart=>exact ⟨0,1,R1,Nat.zero_le _,rfl,rfl,HI7.out⟩
     case round=>
      obtain ⟨k,iw,R,hk,rfl,rfl,hI⟩:=hrel;have d3 : wr.cell? ⟨w.heap.size,3,none⟩ = some (.slice zp fals.length zc):=by rw [hI.out.tr.cell 3,← HTL.out];rfl
      by_cases hlt : k < fals.length
      ·obtain ⟨f,hf⟩ : ∃ f,fals[k]? = some f:=⟨_,List.getElem?_eq_getElem hlt⟩;obtain ⟨_,_,hze,hzcap,hzel⟩:=RowsAt.at (cells:=factCells) (by decide) (fun _ _=>rfl) HZA.out.1
       simp only [Value.slice.injEq,true_and] at hze;obtain ⟨rfl,rfl⟩:=hze;obtain ⟨zb,zoff,fu,rfl,hfu,hfc⟩:=hzel k f hf;have HF:=zQ hf;have HE0W : Hid (w.cell? ⟨zb,zoff + k * 5,none⟩ = some (.string f.subject)):=hfc 0 _ rfl;have HE1W : Hid (w.cell? ⟨zb,zoff + k * 5 + 1,none⟩ = some (.string f.attr)):=hfc 1 _ rfl;have HFC3 : Hid ((truL sp schema.length sc seed fp facts.length fc (some ⟨zb,zoff,none⟩) fals.length zc o at_ p n c l h p2 n2 c2 p6 parts.length c6)[3]? = some (.slice (some ⟨zb,zoff,none⟩) fals.length zc)):=rfl;have HSS:=zQ (HNZ.out.2 f (zM hf));obtain ⟨W10,hW10⟩ : ∃ W10,W10 = wr.alloc (.cells #[.int .i64 (iw : Int)] 3 (0,0)):=⟨_,rfl⟩;have hx10 : Ext wr W10:=by rw [hW10];exact bel
       have hb10 : W10.heap[wr.heap.size]? = some (.cells #[.int .i64 (iw : Int)] 3 (0,0)):=by rw [hW10];exact zG
       have hI10:=hI.out.stay hx10;obtain ⟨_,_,_,_,hrec10⟩:=id hI10.reco;have hcom:=commit_gen hrec10 (HGLB.out.ext hI10.ext) _ _ [(iw : Int)] (sl_one hb10) (by simp) [f] (facts_one (HZA.out.1.ext hI10.ext) hf (by omega)) (by simp) (fun g hg=>by rw [List.mem_singleton.1 hg];exact ⟨HSS.out.2,HZA.out.2 f (zM hf)⟩)
       unfold encP at hcom;have HCOM:=zQ hcom;have HM10:=zQ hI10;have hlt9 : w.heap.size < wr.heap.size:=heap_lt hI.out.tr;clear hf hfu hfc hzel hx10 hb10 hI10 hrec10 hcom;go_upto_region 19 with fail;go_wp2_with fail;rw [← hW10];clear hW10 d3 hlt9;refine HCOM.out.mono ?_;rintro e w12 ⟨vn,ve,rfl,⟨hne,hx12⟩ | ⟨rfl,rfl,frs,la,lw,vv12,fv12,os12,xs12,hC,hR,hK⟩⟩
       ·have HM12:=zQ (HM10.out.stay hx12);clear hx12;go_wp2_with fail;exact ⟨⟨k + 1,iw,R,by omega,rfl,rfl,HM12.out⟩,by simp [intOf];omega⟩
       ·have hmc:=HM10.out.commit HX3.out.size HSZ.out hC hR hK;obtain ⟨R',hR'⟩ : ∃ R',commitR R frs la lw = R':=⟨_,rfl⟩;obtain ⟨nv,hnv⟩ : ∃ nv,R.vers.length = nv:=⟨_,rfl⟩;rw [hR',hnv] at hmc;rw [hR'] at hR;have hvN : R'.vers[nv]? = some ⟨la,lw⟩:=by
         rw [← hR',← hnv]
         show (R.vers ++ _)[R.vers.length]? = _
         simp
        have hcols : R'.cols = R.cols:=by rw [← hR'];rfl
        have hone1 : ∃ x cc,frs = [x] ∧ colOf R' f.attr = some cc ∧ subj f.subject = true ∧ keyOf x = (f.subject,cc.2):=by
         obtain ⟨x,hx,hxe⟩:=rowsF_one hC.rows;obtain ⟨cc,hc,hsub,_,he⟩:=checkF_some hx;exact ⟨x,cc,hxe,(by unfold colOf at hc ⊢;rw [hcols];exact hc),hsub,by rw [he];rfl⟩
        obtain ⟨x,cc,hxe,hcc,hsub,hkx⟩:=hone1;obtain ⟨wx,rfl⟩ : ∃ wx,wx = w12:=⟨w12,rfl⟩;have hkg : ∀ (W : World),Ext wx W → Calls Tryz.prog 13 #[.pointer (some ⟨rb,0,none⟩),.int .i64 (nv : Int),.string f.subject,.string f.attr] W (KnGen R' (heldF R' ⟨la,lw⟩) f.subject f.attr W):=fun W hX=>known_gen (hR.ext hX) (HGLB.out.ext (hmc.1.ext.trans' hX)) hvN f.subject f.attr (by have:=HSS.out.2;omega)
        have HKG:=zQ hkg;obtain ⟨D,hD⟩ : ∃ D : Bool → Int → Prop,D = fun d er=>∀ a c,subj f.subject = true → colOf R' f.attr = some (a,c) → er = 0 ∧ d = doubtK (heldF R' ⟨la,lw⟩) (f.subject,c):=⟨_,rfl⟩
        have HD:=zQ hD;have HD3 : Hid (wx.cell? ⟨w.heap.size,3,none⟩ = some (.slice (some ⟨zb,zoff,none⟩) fals.length zc)):=by
         have h:=hmc.1.tr.cell 3;rw [h,← HTL.out];exact HFC3.out
        have HE0:=zQ (hmc.1.ext.cell' HE0W.out);have HE1:=zQ (hmc.1.ext.cell' HE1W.out);have HMC:=zQ hmc;have HCC:=zQ (And.intro hsub hcc);have HKX:=zQ (And.intro hxe hkx);rw [hnv];clear hmc hR' hnv hvN hcols hxe hcc hsub hkx hkg hD hC hR hK;go_upto_region 21 with fail;refine Rt.wp_region_rf (by kernel_rfl) [0,1,2,3,4,5,6,7,8,9,10,11,12,13,14,15,16,17,18,19,20] [14,19] [0,0,0,0,0,0,0,0,0,0,0,0,0,0,1000,1,1] [0,0,0,4,0,28,60,124,0,256,0,1792,3840,7936,16383,32767,65535,65535,0,393215,1048575] 18 (by kernel_rfl) (KnJ wx D) ?_ ?_ ?_
        ·exact ⟨below_drawn (ext_refl _) _,fun v hv=>by cases hv⟩
        ·intro o ho us W hI
         obtain rfl:=zI ho.symm;clear ho;refine Rt.gives_val ?_;apply Exists.intro;apply Exists.intro;refine ⟨by go_simp;exact ⟨rfl,rfl⟩,?_⟩
         exact hI.float
        (iterate 3 (refine Rt.rf_sil rfl rfl rfl rfl (fun K hK=>?_);go_simp;refine hK _ ?_;clear hK K));(refine Rt.rf_rd rfl rfl rfl rfl ?_;apply Exists.intro;refine ⟨fun us' fo' W hp hl hI=>?_,?_⟩;· (have g:=hI.ext.cell' HD3.out;go_simp;rfl));simp only [Act.put,zP];(refine Rt.rf_sil rfl rfl rfl rfl (fun K hK=>?_);go_simp;refine hK _ ?_;clear hK K);(refine Rt.rf_rd rfl rfl rfl rfl ?_;apply Exists.intro;refine ⟨fun us' fo' W hp hl hI=>?_,?_⟩;· (skip;go_simp;rfl));simp only [Act.put,zP];(refine Rt.rf_sil rfl rfl rfl rfl (fun K hK=>?_);go_simp;refine hK _ ?_;clear hK K);(refine Rt.rf_rd rfl rfl rfl rfl ?_;apply Exists.intro;refine ⟨fun us' fo' W hp hl hI=>?_,?_⟩;· (have g:=hI.ext.cell' HE0.out;go_simp;rfl));simp only [Act.put,zP];(refine Rt.rf_sil rfl rfl rfl rfl (fun K hK=>?_);go_simp;refine hK _ ?_;clear hK K);(refine Rt.rf_rd rfl rfl rfl rfl ?_;apply Exists.intro;refine ⟨fun us' fo' W hp hl hI=>?_,?_⟩;· (have g:=hI.ext.cell' HD3.out;go_simp;rfl));simp only [Act.put,zP];(refine Rt.rf_sil rfl rfl rfl rfl (fun K hK=>?_);go_simp;refine hK _ ?_;clear hK K);(refine Rt.rf_rd rfl rfl rfl rfl ?_;apply Exists.intro;refine ⟨fun us' fo' W hp hl hI=>?_,?_⟩;· (skip;go_simp;rfl));simp only [Act.put,zP];(refine Rt.rf_sil rfl rfl rfl rfl (fun K hK=>?_);go_simp;refine hK _ ?_;clear hK K);(refine Rt.rf_rd rfl rfl rfl rfl ?_;apply Exists.intro;refine ⟨fun us' fo' W hp hl hI=>?_,?_⟩;· (have g:=hI.ext.cell' HE1.out;go_simp;rfl));simp only [Act.put,zP];refine Rt.rf_eff rfl rfl rfl rfl (fun fo W hfo hI=>?_) (fun v hv=>?_)
        ·refine Rt.gives_cal ?_;apply Exists.intro;apply Exists.intro;apply Exists.intro;refine ⟨by go_simp;exact ⟨⟨rfl,rfl⟩,rfl⟩,?_⟩
         refine (HKG.out W hI.ext).mono ?_
         rintro e W2 ⟨p1,n1,c1,lo,hi,p2,n2,c2,d,er,rfl,hx2,hd,_⟩;exact ⟨_,rfl,hI.call hx2 (by rw [HD.out];exact hd)⟩
        obtain ⟨kc1,kcn1,kcc1,kclo,kchi,kc2,kcn2,kcc2,kcd,kce,rfl⟩:=(let ⟨_,_,h⟩:=hv;h.form)
        clear hv;simp only [Act.put,zP];(iterate 3 (refine Rt.rf_sil rfl rfl rfl rfl (fun K hK=>?_);go_simp;refine hK _ ?_;clear hK K));refine Rt.rf_fl rfl rfl (fun v hv=>?_)
        obtain ⟨kc,rfl,hkc⟩:=(let ⟨_,_,h⟩:=hv;h.ptr)
        clear hv;simp only [Act.put,zP];refine Rt.rf_eff rfl rfl rfl rfl (fun fo W hfo hI=>?_) (fun v hv=>?_)
        ·obtain rfl:=hfo.resolve_left (fun e=>by cases e)
         have hz:=hI.zero;have z0 : W.cell? ⟨kc,0,none⟩ = some (.slice none 0 0):=cell_of hz 0;have z1 : W.cell? ⟨kc,1,none⟩ = some (.int .i64 0):=cell_of hz 1;have z2 : W.cell? ⟨kc,2,none⟩ = some (.int .i64 0):=cell_of hz 2;have z3 : W.cell? ⟨kc,3,none⟩ = some (.slice none 0 0):=cell_of hz 3;have z4 : W.cell? ⟨kc,4,none⟩ = some (.bool false):=cell_of hz 4;have q0:=frozen_of hz 0;have q1:=frozen_of hz 1;have q2:=frozen_of hz 2;have q3:=frozen_of hz 3;have q4:=frozen_of hz 4;have HI:=zQ hI;clear hz hI;refine Rt.gives_skp ?_;apply Exists.intro;refine ⟨by go_simp;rfl,?_⟩;exact HI.out.store _
        clear hv;simp only [Act.put,zP];(refine Rt.rf_sil rfl rfl rfl rfl (fun K hK=>?_);go_simp;refine hK _ ?_;clear hK K);refine Rt.rf_nil (fun W13 hI13=>?_)
        obtain ⟨hx13,hd13,hb13⟩:=KnJ.done hI13;have g1:=cell_of hb13 4;have HX13:=zQ hx13;rw [HD.out] at hd13;obtain ⟨rfl,hdk⟩:=hd13 cc.1 cc.2 HCC.out.1 HCC.out.2;have HDK:=zQ hdk;clear hI13 hd13 hb13 hx13 hdk;cases kcd with
        | true=>
         have hM:=HMC.out.2 fun y hy=>by
          have e1 : x = y:=by have:=HKX.out.1.symm.trans hy;simpa using this
          rw [← e1,HKX.out.2];exact HDK.out.symm
         have HM:=zQ (hM.stay HX13.out);clear hM;go_wp2_with fail;exact ⟨⟨k + 1,nv,R',by omega,rfl,rfl,HM.out⟩,by simp [intOf];omega⟩
        | false=>
         have HM:=zQ (HMC.out.1.stay HX13.out);go_wp2_with fail;exact ⟨⟨k + 1,iw,R',by omega,rfl,rfl,HM.out⟩,by simp [intOf];omega⟩
      ·obtain rfl : k = fals.length:=by omega
       obtain ⟨vW,hvW,htk⟩:=id hI.out.ver;obtain ⟨vvR,fvR,osR,xsR,hrecR⟩:=id hI.out.reco;have hcols:=hI.out.colsE;have hpx:=HPA.out.ext hI.out.ext;have hqry:=queryN_any hrecR (HGLB.out.ext hI.out.ext) hvW hpx.own (by have:=HNP.out.1;omega) hpx.parts (fun x hx=>by have:=HNP.out.2.2 x hx;omega)
       unfold encP at hqry;have HQRY:=zQ hqry;have HREC:=zQ hrecR;have HVW:=zQ hvW;have HTK:=zQ htk;have HCOLS:=zQ hcols;have htr:=hI.out.tr;rw [← HTL.out] at htr;unfold truL at htr;have d4 : wr.cell? ⟨w.heap.size,4,none⟩ = some (.int .u8 o):=htr.cell 4;have d5 : wr.cell? ⟨w.heap.size,5,none⟩ = some (.string at_):=htr.cell 5;have d6 : wr.cell? ⟨w.heap.size,6,none⟩ = some (.slice p n c):=htr.cell 6;have d7 : wr.cell? ⟨w.heap.size,7,none⟩ = some (.int .i64 l):=htr.cell 7;have d8 : wr.cell? ⟨w.heap.size,8,none⟩ = some (.int .i64 h):=htr.cell 8;have d9 : wr.cell? ⟨w.heap.size,9,none⟩ = some (.slice p2 n2 c2):=htr.cell 9;have d10 : wr.cell? ⟨w.heap.size,10,none⟩ = some (.slice p6 parts.length c6):=htr.cell 10;clear hqry hrecR hvW htk hcols hpx htr;go_wp2_with fail;refine HQRY.out.mono ?_;rintro e w14 ⟨hx14,hc⟩;rcases hc with ⟨_,rfl⟩ | ⟨_,rfl⟩ | ⟨htm,mv,ks,rfl,hks,hrow⟩
       ·have HX14:=zQ (hI.out.ext.trans' hx14);clear hx14;go_wp2_with fail;refine (HKN.out w14 HX14.out).mono ?_
        rintro e wk ⟨rfl,hxk⟩;go_wp2_with fail;go_ret
        exact ⟨rfl,Ext.trans' HX14.out hxk⟩
       ·have HX14:=zQ (hI.out.ext.trans' hx14);clear hx14;go_wp2_with fail;refine (HKN.out w14 HX14.out).mono ?_
        rintro e wk ⟨rfl,hxk⟩;go_wp2_with fail;go_ret
        exact ⟨rfl,Ext.trans' HX14.out hxk⟩
       obtain ⟨K,hK⟩:=LikeN.fn R (heldF R vW) own parts;have hL:=match_hit hK hks;obtain ⟨sl,hsl⟩ : ∃ sl,subsV (heldF R vW) = sl:=⟨_,rfl⟩;have hget : ∀ t ∈ sl,isPart (ofBytes t) = false → ∃ k,LikeN R (heldF R vW) own parts (ofBytes t) k:=fun t ht hp=>by
        refine hks.get ?_;unfold wholesV;rw [hsl,List.mem_filter];exact ⟨ht,by rw [hp];rfl⟩
       rw [hL] at hrow;rw [hsl] at hrow;obtain ⟨ML,hML⟩ : ∃ ML,sl.filter (hitP K) = ML:=⟨_,rfl⟩;rw [hML] at hrow;rw [List.length_map] at hrow;obtain ⟨mp,mc,rfl⟩:=owns_form hrow;obtain ⟨_,_,hme,_,_,_,hmel⟩:=SlAt.of_owns hrow;simp only [Value.slice.injEq,true_and] at hme;obtain ⟨rfl,rfl⟩:=hme;have hsub:=subjectsV_any (HREC.out.ext hx14) (HGLB.out.ext (hI.out.ext.trans' hx14)) HVW.out;unfold encP at hsub;have HSUB:=zQ hsub;have HX14:=zQ hx14;have HMEL:=zQ hmel;have HML:=zQ hML;have HK:=zQ hK;have HGET:=zQ hget;have HTM:=zQ htm;have HSLE:=zQ hsl;have hsln : sl.length ≤ 600:=by rw [← hsl];exact subsV_len _ (held_len HREC.out.ok (zM HVW.out))
       have hmln : ML.length ≤ 600:=by rw [← hML];exact Nat.le_trans (List.length_filter_le _ _) hsln
       clear hx14 hK hks hL hget hrow hML hmel hsub hsl htm d3 d4 d5 d6 d7 d8 d9 d10 HQRY;go_wp2_with fail;refine HSUB.out.mono ?_;rintro e w15 ⟨sv,rfl,hsrow,hx15⟩;rw [HSLE.out] at hsrow;obtain ⟨ssp,ssc,rfl⟩:=owns_form hsrow;obtain ⟨_,_,hse,_,_,_,hsel⟩:=SlAt.of_owns hsrow;simp only [Value.slice.injEq,true_and] at hse;obtain ⟨rfl,rfl⟩:=hse;have hsel2 : ∀ (i : Nat) t,sl[i]? = some t → ∃ b off,ssp = some ⟨b,off,none⟩ ∧ w15.cell? ⟨b,off + i,none⟩ = some (.string (ofBytes t)):=fun i t ht=>by
        obtain ⟨b,off,e,hc⟩:=hsel i (encStr t) (by rw [List.getElem?_map,ht];rfl)
        exact ⟨b,off,e,by rw [← enc_of];exact hc⟩
       have HSEL:=zQ hsel2;have HM15:=zQ (hI.out.stay (HX14.out.trans' hx15));have HX15:=zQ (HX14.out.trans' hx15);have HX15':=zQ hx15;clear hx15 hsel hsel2 hsrow HSUB hI;go_wp2_with fail;go_loopw [17,18] (fun a i wr=>∃ (m : Nat),m ≤ sl.length ∧ a = .int .i64 (((sl.take m).filter (hitP K)).length : Int) ∧ i = .int .i64 (m : Int) ∧ Hid (Ext w15 wr)) (fun _ i _=>sl.length - (intOf i).toNat)
       case atStart=>exact ⟨0,Nat.zero_le _,rfl,rfl,ext_refl _⟩
       case round=>
        obtain ⟨m,hm,rfl,rfl,hx⟩:=hrel;have HMR:=zQ (HM15.out.stay hx.out);have hle : ((sl.take m).filter (hitP K)).length ≤ ML.length:=by rw [← HML.out];exact ((List.take_sublist m sl).filter _).length_le
        by_cases hml : m < sl.length
        ·obtain ⟨t,ht⟩ : ∃ t,sl[m]? = some t:=⟨_,List.getElem?_eq_getElem hml⟩;obtain ⟨sb,soff,rfl,hsc⟩:=HSEL.out m t ht;have hts : t ∈ subsV (heldF R vW):=by rw [HSLE.out];exact zM ht
         have hsb:=sub_len HREC.out.ok (zM HVW.out) hts;have hon : ∀ b,hitP K t = b → (b = true → ML[((sl.take m).filter (hitP K)).length]? = some t) ∧ (b = false → ∀ u,ML[((sl.take m).filter (hitP K)).length]? = some u → ofBytes u ≠ ofBytes t) ∧ ((sl.take (m + 1)).filter (hitP K)).length = ((sl.take m).filter (hitP K)).length + (if b then 1 else 0):=fun b hb=>by
          subst hb;cases hd : hitP K t with
          | true=>exact ⟨fun _=>by rw [← HML.out];exact (filter_at _ ht hd).1,fun e=>(by cases e),(filter_at _ ht hd).2⟩
          | false=>exact ⟨fun e=>(by cases e),fun _ u hu=>next_other hd (by rw [HML.out];exact hu),filter_off _ ht hd⟩
         obtain ⟨a1,ha1⟩ : ∃ a1,((sl.take m).filter (hitP K)).length = a1:=⟨_,rfl⟩;obtain ⟨a2,ha2⟩ : ∃ a2,((sl.take (m + 1)).filter (hitP K)).length = a2:=⟨_,rfl⟩;rw [ha1] at hle;rw [ha1,ha2] at hon;rw [ha1];have HA2:=zQ ha2;have hgett:=HGET.out t (zM ht);obtain ⟨s,hs⟩ : ∃ s,ofBytes t = s:=⟨_,rfl⟩;have hhit : hitP K t = (!isPart s && decide (K s ≠ 3)):=by unfold hitP;rw [hs]
         rw [hhit,hs] at hon;rw [hs] at hsc hsb hgett;have HGT:=zQ hgett;have HON:=zQ hon;have HSC:=zQ (hx.out.cell' hsc);have hsz : s.size ≤ maxLen:=Nat.le_trans (Nat.le_of_lt hsb.1) (by decide)
         have HSZS:=zQ hsz;have HNMS : Hid (isPart s = false → nm s = true):=fun hp=>by rw [← whole_self hp];exact hsb.2
         have hwh:=whole_any s wr hsz;have HWH:=zQ hwh;have HTS:=zQ hts;have HHS:=zQ hs;have HX:=zQ hx.out;clear hsc ht hts hsb hon hgett hhit hsz hwh ha1 ha2 hs;have hsc:=HSC.out;go_upto_region 34 with fail;go_wp2_with fail;clear hsc;refine HWH.out.mono ?_;rintro e w16 ⟨rfl,rfl⟩;cases hip : isPart s with
         | true=>
          have h2:=(HON.out false (by rw [hip];rfl)).2.2
          have hA:=HA2.out;go_wp2_with fail;refine ⟨⟨m + 1,by omega,?_,rfl,HX⟩,by simp [intOf];omega⟩
          rw [hA,h2];simp
         | false=>
          obtain ⟨k0,q,qs,hrok,hls⟩:=HGT.out hip;obtain rfl : k0 = K s:=HK.out s k0 ⟨q,qs,hrok,hls⟩;have hlaw:=like_law (τ:=sigF R.cols seed) (cols_nodup HREC.out) (HMR.out.facts (zM HVW.out)) (by rw [HCOLS.out];exact HTK.out) (fun s a c hc=>by rw [sig_at (cols_nodup HREC.out) hc];exact realF_mem (HREC.out.ok.attrs _ hc) seed s) hls
          obtain ⟨lt,hlt⟩ : ∃ lt,likesT (sigF R.cols seed) q qs s (partsV (heldF R vW) s) = lt:=⟨_,rfl⟩;rw [hlt] at hlaw;have hpx:=HPA.out.ext HMR.out.ext;have hT : TruC wr sp sc schema R:=⟨HATT.out.ext HMR.out.ext,HNW.out.attrs,HNW.out.names,by rw [HCOLS.out];exact HCM.out,cols_nodup HREC.out⟩
          have hlte : (q.φ (sigF R.cols seed s) && qs.all fun x=>(partsW sl s).any fun t=>x.φ (sigF R.cols seed (ofBytes t))) = lt:=by rw [← hlt,← HSLE.out];rfl
          have hlk : ∀ W,Ext wr W → Calls Tryz.prog 17 #[.pointer (some ⟨rb,0,none⟩),.int .i64 (iw : Int),.string s,.agg #[.int .u8 o,.string at_,.slice p n c,.int .i64 l,.int .i64 h,.slice p2 n2 c2,.slice p6 parts.length c6]] W fun e W'=>Ext W W' ∧ e = .returned (.tuple #[.int .u8 (K s),.int .i64 0]):=fun W hW=>
           (likesN_any (HREC.out.ext (HX15.out.trans' (HX.out.trans' hW))) (HGLB.out.ext (HMR.out.ext.trans' hW)) HVW.out s HSZS.out (hpx.ext hW).own (by have:=HNP.out.1;omega) (hpx.ext hW).parts (fun x hx=>by have:=HNP.out.2.2 x hx;omega)).mono fun _ _ h=>like_sure h (HNMS.out hip) (fun hn=>hn ⟨q,qs,hrok⟩) HTM.out HTS.out HHS.out HK.out
          have hlks : ∀ W,Ext wr W → Calls Tryz.prog 18 #[.agg #[.slice sp schema.length sc,.int .u32 seed,.slice fp facts.length fc,.slice zp fals.length zc,.int .u8 o,.string at_,.slice p n c,.int .i64 l,.int .i64 h,.slice p2 n2 c2,.slice p6 parts.length c6],.string s,.slice (some ⟨sb,soff,none⟩) sl.length ssc] W fun e W'=>Ext W W' ∧ e = .returned (.bool lt):=fun W hW=>
           (likes_any (hT.ext hW) seed HSEED.out (.slice fp facts.length fc) (.slice zp fals.length zc) (hpx.ext hW) hrok s HSZS.out (fun i t ht=>let ⟨b,off,e,hc⟩:=HSEL.out i t ht;⟨b,off,e,(HX.out.trans' hW).cell' hc⟩) (fun t ht=>Nat.le_trans (Nat.le_of_lt (sub_len HREC.out.ok (zM HVW.out) (by rw [HSLE.out];exact ht)).1) (by decide)) hsln).mono fun _ _ h=>by rw [hlte] at h;exact h
          obtain ⟨kk,hkk⟩ : ∃ kk,K s = kk:=⟨_,rfl⟩;have hon:=HON.out (decide (K s ≠ 3)) (by rw [hip];rfl)
          have hkt : K (ofBytes t) = kk:=by rw [HHS.out];exact hkk
          rw [hkk] at hon hlaw hlk;obtain ⟨hb,hhb⟩ : ∃ hb,decide (kk ≠ 3) = hb:=⟨_,rfl⟩;rw [hhb] at hon;have hb1 : hb = true → kk ≠ 3:=fun e=>by rw [e] at hhb;exact of_decide_eq_true hhb
          have hb0 : hb = false → kk = 3:=fun e=>by rw [e] at hhb;exact Classical.byContradiction (of_decide_eq_false hhb)
          have HB1:=zQ hb1;have HB0:=zQ hb0;have HLAW:=zQ hlaw;have HLK:=zQ hlk;have HLKS:=zQ hlks;have HON2:=zQ hon;have HKT:=zQ hkt;have HTRR:=HMR.out.tr;rw [← HTL.out] at HTRR;have HTRR:=zQ HTRR;clear hls hlaw hlt hpx hT hlte hlk hlks hkk hon hkt hhb hb1 hb0 hrok HON HGT hip;go_upto_region 37 with fail;by_cases hal : a1 < ML.length
          ·obtain ⟨u,hu⟩ : ∃ u,ML[a1]? = some u:=⟨_,List.getElem?_eq_getElem hal⟩;obtain ⟨pb,poff,rfl,q0,q1⟩:=match_at HMEL.out hu;obtain ⟨us,hus⟩ : ∃ us,ofBytes u = us:=⟨_,rfl⟩;have HQ0:=zQ ((HX15'.out.trans' HX.out).cell' q0);have HQ1:=zQ ((HX15'.out.trans' HX.out).cell' q1);rw [hus] at HQ0;cases hb with
           | true=>
            have h1:=HON2.out.1 rfl;rw [hu] at h1;obtain rfl:=zI h1;rw [HKT.out] at HQ1;rw [HHS.out] at hus;subst hus;have hcc : (s.toList == s.toList) = true:=by simp
            clear hu q0 q1 h1;refine Rt.wp_region_rt (by kernel_rfl) [0,1,2,3,4,5,6,7,8,9,10,11,12,13,14,15] [] [] [0,0,2,7,15,31,31,127,255,511,31,31,3103,7199,16383,32767] (by kernel_rfl) (fun _ W=>Ext wr W) ?_ ?_
            ·exact below_drawn (ext_refl _) _
            (iterate 7 (refine Rt.zS fun K hK=>?_;go_simp;refine hK _ ?_;clear hK K));(refine Rt.zR ?_;constructor;constructor;· (intro us' W hp hl hI;skip;go_simp;rfl));simp only [Act.put,zP];(refine Rt.zS fun K hK=>?_;go_simp;refine hK _ ?_;clear hK K);(refine Rt.zR ?_;constructor;constructor;· (intro us' W hp hl hI;have g0:=Ext.cell' hI HQ0.out;go_simp;rfl));simp only [Act.put,zP];(iterate 2 (refine Rt.zS fun K hK=>?_;go_simp;refine hK _ ?_;clear hK K));(refine Rt.zR ?_;constructor;constructor;· (intro us' W hp hl hI;skip;go_simp;rfl));simp only [Act.put,zP];(refine Rt.zR ?_;constructor;constructor;· (intro us' W hp hl hI;have g0:=Ext.cell' hI HSC.out;go_simp;rfl));simp only [Act.put,zP];(iterate 2 (refine Rt.zS fun K hK=>?_;go_simp;refine hK _ ?_;clear hK K));refine Rt.rs_nil (fun W16 hI16=>?_)
            have HI16:=zQ hI16;have g1:=hI16.cell' HQ1.out;clear hI16 hcc;have HTRc:=zQ (HTRR.out.ext HI16.out);have HSCc:=zQ (HI16.out.cell' HSC.out);have HLKc:=zQ (fun W (hW : Ext W16 W)=>HLK.out W (HI16.out.trans' hW))
            go_upto_region 40 with fail;clear g1;refine Rt.wp_region_rt (by kernel_rfl) [0,1,2,3,4,5,6,7,8,9,10,11,12,13] [8] [0,0,0,0,0,0,0,0] [0,0,0,0,12,28,0,64,255,511,1023,1023,2047,8191] (by kernel_rfl) (fun us W=>Ext W16 W ∧ (us = [] ∨ us = [.tuple #[.int .u8 kk,.int .i64 0]])) ?_ ?_
            ·exact ⟨below_drawn (ext_refl _) _,.inl rfl⟩
            (iterate 4 (refine Rt.zS fun K hK=>?_;go_simp;refine hK _ ?_;clear hK K));(refine Rt.zR ?_;constructor;constructor;· (intro us' W hp hl hI;skip;go_simp;rfl));simp only [Act.put,zP];(refine Rt.zR ?_;constructor;constructor;· (intro us' W hp hl hI;have hE:=hI.1;have g:=hE.cell' HSCc.out;go_simp;rfl));simp only [Act.put,zP];(refine Rt.zS fun K hK=>?_;go_simp;refine hK _ ?_;clear hK K);(refine Rt.zR ?_;constructor;constructor;· (intro us' W hp hl hI;have hE:=hI.1;have g4:=hE.cell' (HTRc.out.cell 4);have g5:=hE.cell' (HTRc.out.cell 5);have g6:=hE.cell' (HTRc.out.cell 6);have g7:=hE.cell' (HTRc.out.cell 7);have g8:=hE.cell' (HTRc.out.cell 8);have g9:=hE.cell' (HTRc.out.cell 9);have g10:=hE.cell' (HTRc.out.cell 10);go_simp;rfl));simp only [Act.put,zP];refine Rt.rs_eff rfl rfl rfl (fun W hI=>?_) (fun v hv=>?_)
            ·refine Rt.gives_cal ?_;apply Exists.intro;apply Exists.intro;apply Exists.intro;refine ⟨by go_simp;exact ⟨⟨rfl,rfl⟩,rfl⟩,?_⟩
             refine (HLKc.out W hI.1).mono ?_
             rintro e W2 ⟨hx2,rfl⟩;exact ⟨_,rfl,hI.1.trans' hx2,.inr rfl⟩
            obtain rfl : v = .tuple #[.int .u8 kk,.int .i64 0]:=(let ⟨_,_,h⟩:=hv;by simpa using h)
            clear hv;simp only [Act.put,zP];(iterate 5 (refine Rt.zS fun K hK=>?_;go_simp;refine hK _ ?_;clear hK K));refine Rt.rs_nil (fun W18 hI18=>?_)
            have HX18:=zQ (HI16.out.trans' hI18.1);have HTR18:=zQ (HTRc.out.ext hI18.1);have HSC18:=zQ (hI18.1.cell' HSCc.out);clear hI18;go_upto_region 43 with fail;refine Rt.wp_region_rt (by kernel_rfl) [0,1,2,3,4,5,6,7] [6] [0,0,0,0,0,0] [0,0,0,6,14,0,63,127] (by kernel_rfl) (fun us W=>Ext W18 W ∧ (us = [] ∨ us = [.bool lt])) ?_ ?_
            ·exact ⟨below_drawn (ext_refl _) _,.inl rfl⟩
            (refine Rt.zR ?_;constructor;constructor;· (intro us' W hp hl hI;have hE:=hI.1;have g0:=hE.cell' (HTR18.out.cell 0);have g1:=hE.cell' (HTR18.out.cell 1);have g2:=hE.cell' (HTR18.out.cell 2);have g3:=hE.cell' (HTR18.out.cell 3);have g4:=hE.cell' (HTR18.out.cell 4);have g5:=hE.cell' (HTR18.out.cell 5);have g6:=hE.cell' (HTR18.out.cell 6);have g7:=hE.cell' (HTR18.out.cell 7);have g8:=hE.cell' (HTR18.out.cell 8);have g9:=hE.cell' (HTR18.out.cell 9);have g10:=hE.cell' (HTR18.out.cell 10);go_simp;rfl));simp only [Act.put,zP];(iterate 2 (refine Rt.zS fun K hK=>?_;go_simp;refine hK _ ?_;clear hK K));(refine Rt.zR ?_;constructor;constructor;· (intro us' W hp hl hI;skip;go_simp;rfl));simp only [Act.put,zP];(refine Rt.zR ?_;constructor;constructor;· (intro us' W hp hl hI;have hE:=hI.1;have g:=hE.cell' HSC18.out;go_simp;rfl));simp only [Act.put,zP];(refine Rt.zS fun K hK=>?_;go_simp;refine hK _ ?_;clear hK K);refine Rt.rs_eff rfl rfl rfl (fun W hI=>?_) (fun v hv=>?_)
            ·refine Rt.gives_cal ?_;apply Exists.intro;apply Exists.intro;apply Exists.intro;refine ⟨by go_simp;exact ⟨⟨rfl,rfl⟩,rfl⟩,?_⟩
             refine (HLKS.out W (HX18.out.trans' hI.1)).mono ?_
             rintro e W2 ⟨hx2,rfl⟩;exact ⟨_,rfl,hI.1.trans' hx2,.inr rfl⟩
            obtain rfl : v = .bool lt:=(let ⟨_,_,h⟩:=hv;by simpa using h)
            clear hv;simp only [Act.put,zP];(refine Rt.zS fun K hK=>?_;go_simp;refine hK _ ?_;clear hK K);refine Rt.rs_nil (fun W17 hI17=>?_)
            have HX17:=zQ (HX.out.trans' (HX18.out.trans' hI17.1));have hA:=HA2.out;have ha2:=HON2.out.2.2;have HAA:=zQ (hA.trans ha2);clear hI17 hA ha2;cases lt with
            | true=>
             have hk3 : (kk == 3) = false:=by rw [beq_eq_false_iff_ne];exact HLAW.out.1 rfl
             go_wp2_with fail;refine ⟨⟨m + 1,by omega,?_,rfl,HX17.out⟩,by simp [intOf];omega⟩
             rw [HAA.out];simp
            | false=>
             have hk1 : (kk == 1) = false:=by rw [beq_eq_false_iff_ne];exact HLAW.out.2 rfl
             go_wp2_with fail;refine ⟨⟨m + 1,by omega,?_,rfl,HX17.out⟩,by simp [intOf];omega⟩
             rw [HAA.out];simp
           | false=>
            have h1:=HON2.out.2.1 rfl u hu;rw [hus] at h1;have hcc : (us.toList == s.toList) = false:=by
             rw [Bool.eq_false_iff];exact fun e=>h1 (ByteArray.ext (by simpa [ByteArray.toList_eq] using e))
            obtain rfl : kk = 3:=HB0.out rfl;clear hu q0 q1 h1 hus;refine Rt.wp_region_rt (by kernel_rfl) [0,1,2,3,4,5,6,7,8,9,10,11,12,13,14,15] [] [] [0,0,2,7,15,31,31,127,255,511,31,31,3103,7199,16383,32767] (by kernel_rfl) (fun _ W=>Ext wr W) ?_ ?_
            ·exact below_drawn (ext_refl _) _
            (iterate 7 (refine Rt.zS fun K hK=>?_;go_simp;refine hK _ ?_;clear hK K));(refine Rt.zR ?_;constructor;constructor;· (intro us' W hp hl hI;skip;go_simp;rfl));simp only [Act.put,zP];(refine Rt.zS fun K hK=>?_;go_simp;refine hK _ ?_;clear hK K);(refine Rt.zR ?_;constructor;constructor;· (intro us' W hp hl hI;have g0:=Ext.cell' hI HQ0.out;go_simp;rfl));simp only [Act.put,zP];(iterate 2 (refine Rt.zS fun K hK=>?_;go_simp;refine hK _ ?_;clear hK K));(refine Rt.zR ?_;constructor;constructor;· (intro us' W hp hl hI;skip;go_simp;rfl));simp only [Act.put,zP];(refine Rt.zR ?_;constructor;constructor;· (intro us' W hp hl hI;have g0:=Ext.cell' hI HSC.out;go_simp;rfl));simp only [Act.put,zP];(iterate 2 (refine Rt.zS fun K hK=>?_;go_simp;refine hK _ ?_;clear hK K));refine Rt.rs_nil (fun W16 hI16=>?_)
            have HI16:=zQ hI16;clear hI16 hcc;have HTRc:=zQ (HTRR.out.ext HI16.out);have HSCc:=zQ (HI16.out.cell' HSC.out);have HLKc:=zQ (fun W (hW : Ext W16 W)=>HLK.out W (HI16.out.trans' hW))
            go_upto_region 40 with fail;refine Rt.wp_region_rt (by kernel_rfl) [0,1,2,3,4,5,6,7,8,9,10,11,12,13] [8] [0,0,0,0,0,0,0,0] [0,0,0,0,12,28,0,64,255,511,1023,1023,2047,8191] (by kernel_rfl) (fun us W=>Ext W16 W ∧ (us = [] ∨ us = [.tuple #[.int .u8 3,.int .i64 0]])) ?_ ?_
            ·exact ⟨below_drawn (ext_refl _) _,.inl rfl⟩
            (iterate 4 (refine Rt.zS fun K hK=>?_;go_simp;refine hK _ ?_;clear hK K));(refine Rt.zR ?_;constructor;constructor;· (intro us' W hp hl hI;skip;go_simp;rfl));simp only [Act.put,zP];(refine Rt.zR ?_;constructor;constructor;· (intro us' W hp hl hI;have hE:=hI.1;have g:=hE.cell' HSCc.out;go_simp;rfl));simp only [Act.put,zP];(refine Rt.zS fun K hK=>?_;go_simp;refine hK _ ?_;clear hK K);(refine Rt.zR ?_;constructor;constructor;· (intro us' W hp hl hI;have hE:=hI.1;have g4:=hE.cell' (HTRc.out.cell 4);have g5:=hE.cell' (HTRc.out.cell 5);have g6:=hE.cell' (HTRc.out.cell 6);have g7:=hE.cell' (HTRc.out.cell 7);have g8:=hE.cell' (HTRc.out.cell 8);have g9:=hE.cell' (HTRc.out.cell 9);have g10:=hE.cell' (HTRc.out.cell 10);go_simp;rfl));simp only [Act.put,zP];refine Rt.rs_eff rfl rfl rfl (fun W hI=>?_) (fun v hv=>?_)
            ·refine Rt.gives_cal ?_;apply Exists.intro;apply Exists.intro;apply Exists.intro;refine ⟨by go_simp;exact ⟨⟨rfl,rfl⟩,rfl⟩,?_⟩
             refine (HLKc.out W hI.1).mono ?_
             rintro e W2 ⟨hx2,rfl⟩;exact ⟨_,rfl,hI.1.trans' hx2,.inr rfl⟩
            obtain rfl : v = .tuple #[.int .u8 3,.int .i64 0]:=(let ⟨_,_,h⟩:=hv;by simpa using h)
            clear hv;simp only [Act.put,zP];(iterate 5 (refine Rt.zS fun K hK=>?_;go_simp;refine hK _ ?_;clear hK K));refine Rt.rs_nil (fun W18 hI18=>?_)
            have HX18:=zQ (HI16.out.trans' hI18.1);have HTR18:=zQ (HTRc.out.ext hI18.1);have HSC18:=zQ (hI18.1.cell' HSCc.out);clear hI18;go_upto_region 43 with fail;refine Rt.wp_region_rt (by kernel_rfl) [0,1,2,3,4,5,6,7] [6] [0,0,0,0,0,0] [0,0,0,6,14,0,63,127] (by kernel_rfl) (fun us W=>Ext W18 W ∧ (us = [] ∨ us = [.bool lt])) ?_ ?_
            ·exact ⟨below_drawn (ext_refl _) _,.inl rfl⟩
            (refine Rt.zR ?_;constructor;constructor;· (intro us' W hp hl hI;have hE:=hI.1;have g0:=hE.cell' (HTR18.out.cell 0);have g1:=hE.cell' (HTR18.out.cell 1);have g2:=hE.cell' (HTR18.out.cell 2);have g3:=hE.cell' (HTR18.out.cell 3);have g4:=hE.cell' (HTR18.out.cell 4);have g5:=hE.cell' (HTR18.out.cell 5);have g6:=hE.cell' (HTR18.out.cell 6);have g7:=hE.cell' (HTR18.out.cell 7);have g8:=hE.cell' (HTR18.out.cell 8);have g9:=hE.cell' (HTR18.out.cell 9);have g10:=hE.cell' (HTR18.out.cell 10);go_simp;rfl));simp only [Act.put,zP];(iterate 2 (refine Rt.zS fun K hK=>?_;go_simp;refine hK _ ?_;clear hK K));(refine Rt.zR ?_;constructor;constructor;· (intro us' W hp hl hI;skip;go_simp;rfl));simp only [Act.put,zP];(refine Rt.zR ?_;constructor;constructor;· (intro us' W hp hl hI;have hE:=hI.1;have g:=hE.cell' HSC18.out;go_simp;rfl));simp only [Act.put,zP];(refine Rt.zS fun K hK=>?_;go_simp;refine hK _ ?_;clear hK K);refine Rt.rs_eff rfl rfl rfl (fun W hI=>?_) (fun v hv=>?_)
            ·refine Rt.gives_cal ?_;apply Exists.intro;apply Exists.intro;apply Exists.intro;refine ⟨by go_simp;exact ⟨⟨rfl,rfl⟩,rfl⟩,?_⟩
             refine (HLKS.out W (HX18.out.trans' hI.1)).mono ?_
             rintro e W2 ⟨hx2,rfl⟩;exact ⟨_,rfl,hI.1.trans' hx2,.inr rfl⟩
            obtain rfl : v = .bool lt:=(let ⟨_,_,h⟩:=hv;by simpa using h)
            clear hv;simp only [Act.put,zP];(refine Rt.zS fun K hK=>?_;go_simp;refine hK _ ?_;clear hK K);refine Rt.rs_nil (fun W17 hI17=>?_)
            have HX17:=zQ (HX.out.trans' (HX18.out.trans' hI17.1));have hA:=HA2.out;have ha2:=HON2.out.2.2;have HAA:=zQ (hA.trans ha2);clear hI17 hA ha2;cases lt with
            | true=>exact absurd rfl (HLAW.out.1 rfl)
            | false=>
             go_wp2_with fail;refine ⟨⟨m + 1,by omega,?_,rfl,HX17.out⟩,by simp [intOf];omega⟩
             rw [HAA.out];simp
          ·have hf : hb = false:=by
            cases hb with
            | false=>rfl
            | true=>exact absurd (List.getElem?_eq_some_iff.1 (HON2.out.1 rfl)).1 hal
           subst hf;obtain rfl : kk = 3:=HB0.out rfl;have hal' : ¬ ((a1 : Int) < (ML.length : Int)):=by omega
           refine Rt.wp_region_rt (by kernel_rfl) [0,1,2,3,4,5,6,7,8,9,10,11,12,13,14,15] [] [] [0,0,2,7,15,31,31,127,255,511,31,31,3103,7199,16383,32767] (by kernel_rfl) (fun _ W=>Ext wr W) ?_ ?_
           ·exact below_drawn (ext_refl _) _
           iterate 5 (refine Rt.zS fun K hK=>?_;go_simp;refine hK _ ?_;clear hK K)
           (iterate 10 ((refine Rt.rs_skip rfl rfl rfl ?_;simp only [Act.put,zP])));(refine Rt.zS fun K hK=>?_;go_simp;refine hK _ ?_;clear hK K);refine Rt.rs_nil (fun W16 hI16=>?_)
           have HI16:=zQ hI16;clear hI16;have HTRc:=zQ (HTRR.out.ext HI16.out);have HSCc:=zQ (HI16.out.cell' HSC.out);have HLKc:=zQ (fun W (hW : Ext W16 W)=>HLK.out W (HI16.out.trans' hW))
           go_upto_region 40 with fail;refine Rt.wp_region_rt (by kernel_rfl) [0,1,2,3,4,5,6,7,8,9,10,11,12,13] [8] [0,0,0,0,0,0,0,0] [0,0,0,0,12,28,0,64,255,511,1023,1023,2047,8191] (by kernel_rfl) (fun us W=>Ext W16 W ∧ (us = [] ∨ us = [.tuple #[.int .u8 3,.int .i64 0]])) ?_ ?_
           ·exact ⟨below_drawn (ext_refl _) _,.inl rfl⟩
           (iterate 4 (refine Rt.zS fun K hK=>?_;go_simp;refine hK _ ?_;clear hK K));(refine Rt.zR ?_;constructor;constructor;· (intro us' W hp hl hI;skip;go_simp;rfl));simp only [Act.put,zP];(refine Rt.zR ?_;constructor;constructor;· (intro us' W hp hl hI;have hE:=hI.1;have g:=hE.cell' HSCc.out;go_simp;rfl));simp only [Act.put,zP];(refine Rt.zS fun K hK=>?_;go_simp;refine hK _ ?_;clear hK K);(refine Rt.zR ?_;constructor;constructor;· (intro us' W hp hl hI;have hE:=hI.1;have g4:=hE.cell' (HTRc.out.cell 4);have g5:=hE.cell' (HTRc.out.cell 5);have g6:=hE.cell' (HTRc.out.cell 6);have g7:=hE.cell' (HTRc.out.cell 7);have g8:=hE.cell' (HTRc.out.cell 8);have g9:=hE.cell' (HTRc.out.cell 9);have g10:=hE.cell' (HTRc.out.cell 10);go_simp;rfl));simp only [Act.put,zP];refine Rt.rs_eff rfl rfl rfl (fun W hI=>?_) (fun v hv=>?_)
           ·refine Rt.gives_cal ?_;apply Exists.intro;apply Exists.intro;apply Exists.intro;refine ⟨by go_simp;exact ⟨⟨rfl,rfl⟩,rfl⟩,?_⟩
            refine (HLKc.out W hI.1).mono ?_
            rintro e W2 ⟨hx2,rfl⟩;exact ⟨_,rfl,hI.1.trans' hx2,.inr rfl⟩
           obtain rfl : v = .tuple #[.int .u8 3,.int .i64 0]:=(let ⟨_,_,h⟩:=hv;by simpa using h)
           clear hv;simp only [Act.put,zP];(iterate 5 (refine Rt.zS fun K hK=>?_;go_simp;refine hK _ ?_;clear hK K));refine Rt.rs_nil (fun W18 hI18=>?_)
           have HX18:=zQ (HI16.out.trans' hI18.1);have HTR18:=zQ (HTRc.out.ext hI18.1);have HSC18:=zQ (hI18.1.cell' HSCc.out);clear hI18;go_upto_region 43 with fail;refine Rt.wp_region_rt (by kernel_rfl) [0,1,2,3,4,5,6,7] [6] [0,0,0,0,0,0] [0,0,0,6,14,0,63,127] (by kernel_rfl) (fun us W=>Ext W18 W ∧ (us = [] ∨ us = [.bool lt])) ?_ ?_
           ·exact ⟨below_drawn (ext_refl _) _,.inl rfl⟩
           (refine Rt.zR ?_;constructor;constructor;· (intro us' W hp hl hI;have hE:=hI.1;have g0:=hE.cell' (HTR18.out.cell 0);have g1:=hE.cell' (HTR18.out.cell 1);have g2:=hE.cell' (HTR18.out.cell 2);have g3:=hE.cell' (HTR18.out.cell 3);have g4:=hE.cell' (HTR18.out.cell 4);have g5:=hE.cell' (HTR18.out.cell 5);have g6:=hE.cell' (HTR18.out.cell 6);have g7:=hE.cell' (HTR18.out.cell 7);have g8:=hE.cell' (HTR18.out.cell 8);have g9:=hE.cell' (HTR18.out.cell 9);have g10:=hE.cell' (HTR18.out.cell 10);go_simp;rfl));simp only [Act.put,zP];(iterate 2 (refine Rt.zS fun K hK=>?_;go_simp;refine hK _ ?_;clear hK K));(refine Rt.zR ?_;constructor;constructor;· (intro us' W hp hl hI;skip;go_simp;rfl));simp only [Act.put,zP];(refine Rt.zR ?_;constructor;constructor;· (intro us' W hp hl hI;have hE:=hI.1;have g:=hE.cell' HSC18.out;go_simp;rfl));simp only [Act.put,zP];(refine Rt.zS fun K hK=>?_;go_simp;refine hK _ ?_;clear hK K);refine Rt.rs_eff rfl rfl rfl (fun W hI=>?_) (fun v hv=>?_)
           ·refine Rt.gives_cal ?_;apply Exists.intro;apply Exists.intro;apply Exists.intro;refine ⟨by go_simp;exact ⟨⟨rfl,rfl⟩,rfl⟩,?_⟩
            refine (HLKS.out W (HX18.out.trans' hI.1)).mono ?_
            rintro e W2 ⟨hx2,rfl⟩;exact ⟨_,rfl,hI.1.trans' hx2,.inr rfl⟩
           obtain rfl : v = .bool lt:=(let ⟨_,_,h⟩:=hv;by simpa using h)
           clear hv;simp only [Act.put,zP];(refine Rt.zS fun K hK=>?_;go_simp;refine hK _ ?_;clear hK K);refine Rt.rs_nil (fun W17 hI17=>?_)
           have HX17:=zQ (HX.out.trans' (HX18.out.trans' hI17.1));have hA:=HA2.out;have ha2:=HON2.out.2.2;have HAA:=zQ (hA.trans ha2);clear hI17 hA ha2;cases lt with
           | true=>exact absurd rfl (HLAW.out.1 rfl)
           | false=>
            go_wp2_with fail;refine ⟨⟨m + 1,by omega,?_,rfl,HX17.out⟩,by simp [intOf];omega⟩
            rw [HAA.out];simp
        ·obtain rfl : m = sl.length:=by omega
         have hA : ((sl.take sl.length).filter (hitP K)).length = ML.length:=by rw [List.take_length,HML.out]
         rw [hA];clear hA hle hx;go_wp2_with fail;refine (HKN.out wr HMR.out.ext).mono ?_
         rintro e w20 ⟨rfl,hx20⟩;go_wp2_with fail;go_ret
         exact ⟨rfl,HMR.out.ext.trans' hx20⟩
end Go.Proofs.YtihfcjioilmmjaaGreat
namespace Go.Proofs.YtihfcjioilmmjaaGreat
open Go Go.RowKit
open Go.ChangeShapes Go.WideShapes Go.ChangeAt Go.Lib Go.Proofs
theorem ownKnobs : ownKnob Tryz.prog.godebug = none:=by kernel_rfl
theorem laidOuts : laidOutB Tryz.prog = true:=by kernel_rfl
theorem glob_of {W : World} (h : W.ShapedOpen Tryz.prog) : Glob W:=
 cell_of_shapedOpen_int (g:=0) (t:=3) (zero:=#[.int .i64 0]) h (of_decide_eq_true (by kernel_rfl)) (by kernel_rfl) rfl (by kernel_rfl) (by kernel_rfl) Tryz.underlying3
theorem wt_of {H : Type} {t : TypeId} {d : DataW H} (h : (DataW.weightsEach Tryz.prog [t] [d]).all (· ≤ reachBytes) = true) : ∀ k ∈ d.weights Tryz.prog t,k ≤ reachBytes:=fun k hk=>by
 have:=List.all_eq_true.1 h k (weightsEach_mem [t] [d] 0 t d rfl rfl k hk)
 simpa using this
end Go.Proofs.YtihfcjioilmmjaaGreat
namespace Go.Proofs.YtihfcjioilmmjaaGreat
open Go Go.RowKit
open Go.ChangeShapes Go.WideShapes Go.ChangeAt Go.Lib Go.Proofs
theorem cells11f {W : World} {H : Type} {enc : TypeId × Value → H} {n : Nat} {cs : List Value} (h : Rd enc W n 33 cs) : ∃ sv fv zv schema facts fals seed pc own parts,cs = [sv,.int .u32 seed,fv,zv] ++ pc ∧ (0 ≤ seed ∧ seed ≤ 4294967295) ∧ AttrsAt W sv schema ∧ (∀ a ∈ schema,a.values.length * 16 ≤ 140737488355328) ∧ FactsAt W fv facts ∧ (∀ f ∈ facts,FactBig f) ∧ FactsAt W zv fals ∧ (∀ f ∈ fals,FactBig f) ∧ PatAt W pc own parts ∧ PatBig own parts:=by
 obtain ⟨m,rfl,hl,hf⟩:=rd_struct Tryz.underlying33 h;obtain ⟨a,b,c,d,e,he,rfl⟩:=eleven (hl.trans (by kernel_rfl))
 have h0:=rd_fld cells22 (hf 0 _ rfl);have h1:=rd_fld cells23 (hf 1 _ rfl);have h2:=rd_fld cells24 (hf 2 _ rfl);have h3:=rd_fld cells24 (hf 3 _ rfl);have h4:=rd_fld cells31 (hf 4 _ rfl);obtain ⟨sv,schema,e0,hs,hb⟩:=rd_attrs h0;obtain ⟨seed,e1,hsd⟩:=rd_int Tryz.underlying23 h1;obtain ⟨fv,facts,e2,hfa,hfb⟩:=rd_facts h2;obtain ⟨zv,fals,e3,hza,hzb⟩:=rd_facts h3;obtain ⟨own,parts,hp,hpb⟩:=rd_pat h4;obtain rfl : a = sv:=by simpa using e0
 obtain rfl : b = .int .u32 seed:=by simpa using e1
 obtain rfl : c = fv:=by simpa using e2
 obtain rfl : d = zv:=by simpa using e3
 exact ⟨_,_,_,schema,facts,fals,seed,e,own,parts,rfl,wf_u32 hsd,hs,hb,hfa,hfb,hza,hzb,by have hp' : PatAt W (e.take 7) own parts:=hp;rwa [List.take_of_length_le (by omega)] at hp',hpb⟩
theorem misses_lifted (os : Os) (started : os.Started) (H : Type) (enc : TypeId × Value → H) :
  ReturnsInHanded {} Tryz.checked os 3 .any (Rows.recordMissesNoneSpec.pre6 enc Tryz.prog Tryz.f3 Rows.recordMissesNoneRow.domain false) (Rows.recordMissesNoneSpec.post enc Tryz.prog Tryz.f3 false true false false):=by
 refine returnsInHanded_of_change_shaped (C:=Tryz.checked) ownKnobs started (by kernel_rfl) Tryz.func3
  (ChangeSpec.witness6 (enc:=enc) (C:=Tryz.checked) false ⟨#[],#[.agg #[.slice none 0 0,.int .u32 0,.slice none 0 0,.slice none 0 0,.int .u8 0,.string ⟨#[]⟩,.slice none 0 0,.int .i64 0,.int .i64 0,.slice none 0 0,.slice none 0 0]],[]⟩ 8 (by kernel_rfl) (by kernel_rfl) (by kernel_rfl) (by kernel_rfl)) ?_
 intro W base args ds gs before hval0 hW hcnd0 hwt hsh _
 clear hcnd0;have hval : ∀ (j : Nat) t v,Tryz.f3.params[j]? = some t → args[j]? = some v → Value.okWide Tryz.prog W .any base t v:=hval0;have hW':=hW;obtain ⟨p,q,hA0,hV,rfl,hfz,hnd⟩:=hW;have hA : DataW.TrodAll enc Tryz.prog W 0 (fun _=>true) true Tryz.f3.params.toList args.toList ds p:=hA0
 rw [Tryz.params3] at hA hval;obtain ⟨v0,vs0,d0,ds0,p0,q0,hargs,rfl,rfl,h0,r0⟩:=trodAll_cons hA;obtain ⟨rfl,rfl,rfl⟩:=trodAll_nil r0;obtain rfl : args = #[v0]:=by cases args;simp_all
 obtain ⟨rfl,rfl⟩:=trodVars_none hV;obtain ⟨cs,rfl,_⟩:=okWide_struct Tryz.underlying33 (hval 0 33 v0 rfl rfl);clear hA0 hval0;have hwt' : (DataW.weightsEach Tryz.prog [33] [d0]).all (· ≤ reachBytes) = true:=hwt
 obtain ⟨fuel,hf⟩:=id h0;have hrd : Rd enc W fuel 33 cs.toList:=⟨_,hf,wt_of hwt'⟩;obtain ⟨sv,fv,zv,schema,facts,fals,seed,pc,own,parts,hcl,hsd,hs,hb,hfa,hfb,hza,hzb,hp,hpb⟩:=cells11f hrd;obtain ⟨o,at_,pp,n,c,l,h,p2,n2,c2,p6,c6,rfl,hpc⟩:=pat_form hp;have hlt : ∀ x ∈ p0,x.block < W.heap.size:=fun x hx=>hW'.lt x (by simp [hx])
 have hcs : (.agg cs : Value) = .agg #[sv,.int .u32 seed,fv,zv,.int .u8 o,.string at_,.slice pp n c,.int .i64 l,.int .i64 h,.slice p2 n2 c2,.slice p6 parts.length c6]:=by
  rw [show cs = cs.toList.toArray by simp,hcl];rfl
 refine (show Calls Tryz.prog 3 #[.agg cs] W _ from ?_)
 rw [hcs];refine (misses_any (glob_of hsh) seed hsd hs hb hfa hfb hza hzb hpc hpb).mono ?_
 rintro e W' ⟨rfl,hb⟩
 rw [← hcs];exact ⟨_,rfl,_,_,_,[],_,[],hW',trodAll_mk1 (shut_bool Tryz.underlying4 _),trodAll_cons_mk (Below.trod laidOuts (by kernel_rfl) (of_decide_eq_true (by kernel_rfl)) h0 hb hlt) trodAll_mk0,rfl,hb.frame _,fun h=>by cases h⟩
theorem misses_hold : Rows.RecordMissesNoneSaid:=
 OpenClaim.holds_of_wide 3 Tryz.f3 rfl rfl rfl rfl rfl rfl rfl ⟨rfl,rfl,rfl,rfl,rfl⟩ rfl rfl rfl rfl rfl (by kernel_rfl) Tryz.func3 (by kernel_rfl)
  (of_decide_eq_true (by kernel_rfl)) (by unfold Func.isWrapper;first | (rw [if_pos (by decide +kernel)];kernel_rfl) | (rw [if_neg (by decide +kernel)];exact ⟨rfl,rfl⟩))
  (fun os started H enc _=>misses_lifted os started H enc)
end Go.Proofs.YtihfcjioilmmjaaGreat
