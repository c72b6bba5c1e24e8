/- truly, made: contracts; premises as named. -/
import Derived.Test.YtihfcjioilmmjaaGreatRq1
import Derived.Test.YtihfcjioilmmjaaGreatRq20
set_option linter.all false
set_option maxRecDepth 100000
set_option maxHeartbeats 16000000
namespace Go.Proofs.YtihfcjioilmmjaaGreat
open Go Go.RowKit
open Go.Lib Go.Proofs
theorem truly_core {w : World} {sp : Option Addr} {sc : Nat} {schema : List Attr} (hatt : AttrsAt w (.slice sp schema.length sc) schema) (seed : Int) (hseed : 0 ≤ seed ∧ seed ≤ 4294967295) (r0 r1 r2 r3 r4 r5 r6 r7 r8 : Value) (s : ByteArray) (hs : s.size ≤ maxLen)
  (attr : ByteArray) (vp : Option Addr) (vc : Nat) (values : List ByteArray) (hv : StrsAt w (.slice vp values.length vc) values) (lo hi : Int) (kv : Value) (a : Attr) (ham : a ∈ schema) (hcn : a.name = attr) (hao : AttrOk a) (hone : ∀ b ∈ schema,b.name = attr → b = a) :
  Calls Tryz.prog 50 #[.agg #[.slice sp schema.length sc,.int .u32 seed,r0,r1,r2,r3,r4,r5,r6,r7,r8],.agg #[.int .u8 1,.string attr,.slice vp values.length vc,.int .i64 lo,.int .i64 hi,kv],.string s] w fun e W=>Ext w W ∧ e = .returned (.bool (inT a values lo hi (realF seed s a))):=by
 obtain ⟨r,hr⟩ : ∃ r,realF seed s a = r:=⟨_,rfl⟩;have hrm:=realF_mem hao seed s;rw [hr] at hrm;rw [hr];obtain ⟨W1,hW1⟩ : ∃ W1,W1 = w.alloc (.cells #[.slice sp schema.length sc,.int .u32 seed,r0,r1,r2,r3,r4,r5,r6,r7,r8] 33 (0,0)):=⟨_,rfl⟩;obtain ⟨W2,hW2⟩ : ∃ W2,W2 = W1.alloc (.cells #[.int .u8 1,.string attr,.slice vp values.length vc,.int .i64 lo,.int .i64 hi,kv] 29 (0,0)):=⟨_,rfl⟩;have hs1 : W1.heap.size = w.heap.size + 1:=by rw [hW1];simp
 have hb1 : W1.heap[w.heap.size]? = some (.cells #[.slice sp schema.length sc,.int .u32 seed,r0,r1,r2,r3,r4,r5,r6,r7,r8] 33 (0,0)):=by rw [hW1];exact zG
 have hb2 : W2.heap[w.heap.size + 1]? = some (.cells #[.int .u8 1,.string attr,.slice vp values.length vc,.int .i64 lo,.int .i64 hi,kv] 29 (0,0)):=by rw [← hs1,hW2];exact zG
 have hx1 : Ext w W1:=by rw [hW1];exact bel
 have hx2 : Ext W1 W2:=by rw [hW2];exact bel
 have hb1':=hx2.obj hb1;have hx:=hx1.trans' hx2;have d0 : W2.cell? ⟨w.heap.size,0,none⟩ = some (.slice sp schema.length sc):=cell_of hb1' 0;have d1 : W2.cell? ⟨w.heap.size,1,none⟩ = some (.int .u32 seed):=cell_of hb1' 1;have d2 : W2.cell? ⟨w.heap.size,2,none⟩ = some (r0):=cell_of hb1' 2;have d3 : W2.cell? ⟨w.heap.size,3,none⟩ = some (r1):=cell_of hb1' 3;have d4 : W2.cell? ⟨w.heap.size,4,none⟩ = some (r2):=cell_of hb1' 4;have d5 : W2.cell? ⟨w.heap.size,5,none⟩ = some (r3):=cell_of hb1' 5;have d6 : W2.cell? ⟨w.heap.size,6,none⟩ = some (r4):=cell_of hb1' 6;have d7 : W2.cell? ⟨w.heap.size,7,none⟩ = some (r5):=cell_of hb1' 7;have d8 : W2.cell? ⟨w.heap.size,8,none⟩ = some (r6):=cell_of hb1' 8;have d9 : W2.cell? ⟨w.heap.size,9,none⟩ = some (r7):=cell_of hb1' 9;have d10 : W2.cell? ⟨w.heap.size,10,none⟩ = some (r8):=cell_of hb1' 10;have x0 : W2.cell? ⟨w.heap.size + 1,0,none⟩ = some (.int .u8 1):=cell_of hb2 0;have x1 : W2.cell? ⟨w.heap.size + 1,1,none⟩ = some (.string attr):=cell_of hb2 1;have HAT:=zQ (attr_any (hatt.ext hx) attr);have HB1:=zQ hb1';have HB2:=zQ hb2;have HX:=zQ hx;have HV:=zQ hv;have HR:=zQ hr;have HRM:=zQ hrm;have HONE:=zQ hone;have HAO:=zQ hao;have HAM:=zQ (And.intro ham hcn);have HSZ:=zQ hs;clear hs1 hb1 hb2 hx1 hx2 hb1' hx hatt hv hr hrm hone hao ham hcn hs;go_enter Tryz.func50,Tryz.ntmps50;go_upto_region 1 with fail;rw [← hW1,← hW2];clear hW1 hW2;go_wp2_with fail;refine HAT.out.mono ?_;rintro e w3 ⟨hx3,⟨b,hbm,hbn,p,c,hst,rfl⟩ | ⟨hno,rfl⟩⟩
 rotate_left
 ·exact absurd HAM.out.2 (hno _ HAM.out.1)
 obtain rfl : b = a:=HONE.out b hbm hbn;subst hbn;obtain ⟨W4,hW4⟩ : ∃ W4,W4 = w3.alloc (.cells #[.string b.name,.slice p b.values.length c,.int .i64 b.low,.int .i64 b.high] 90 (0,0)):=⟨_,rfl⟩;have hx4 : Ext w3 W4:=by rw [hW4];exact bel
 have hb4 : W4.heap[w3.heap.size]? = some (.cells #[.string b.name,.slice p b.values.length c,.int .i64 b.low,.int .i64 b.high] 90 (0,0)):=by rw [hW4];exact zG
 have hb14:=(hx3.trans' hx4).obj HB1.out;have hrl:=real_any (w:=W4) (.slice sp schema.length sc) seed hseed r0 r1 r2 r3 r4 r5 r6 r7 r8 s HSZ.out b HAO.out p c;rw [HR.out] at hrl;have HRL:=zQ hrl;have HX4:=zQ (HX.out.trans' (hx3.trans' hx4));have HB4:=zQ hb4;have HB24:=zQ ((hx3.trans' hx4).obj HB2.out);have HST:=zQ (hst.ext ((hx3.trans' hx4)));have hvm : values.length ≤ maxLen:=HV.out.1.len;have hrb : b.values.length ≠ 0 → 0 ≤ r ∧ r < b.values.length:=fun h=>by have:=HRM.out.2 (fun e=>h (by rw [e];rfl));exact ⟨this.1,this.2.1⟩
 unfold maxLen at hvm;clear d0 d1 d2 d3 d4 d5 d6 d7 d8 d9 d10 x0 x1 hst;have d0 : W4.cell? ⟨w.heap.size,0,none⟩ = some (.slice sp schema.length sc):=cell_of hb14 0;have d1 : W4.cell? ⟨w.heap.size,1,none⟩ = some (.int .u32 seed):=cell_of hb14 1;have d2 : W4.cell? ⟨w.heap.size,2,none⟩ = some (r0):=cell_of hb14 2;have d3 : W4.cell? ⟨w.heap.size,3,none⟩ = some (r1):=cell_of hb14 3;have d4 : W4.cell? ⟨w.heap.size,4,none⟩ = some (r2):=cell_of hb14 4;have d5 : W4.cell? ⟨w.heap.size,5,none⟩ = some (r3):=cell_of hb14 5;have d6 : W4.cell? ⟨w.heap.size,6,none⟩ = some (r4):=cell_of hb14 6;have d7 : W4.cell? ⟨w.heap.size,7,none⟩ = some (r5):=cell_of hb14 7;have d8 : W4.cell? ⟨w.heap.size,8,none⟩ = some (r6):=cell_of hb14 8;have d9 : W4.cell? ⟨w.heap.size,9,none⟩ = some (r7):=cell_of hb14 9;have d10 : W4.cell? ⟨w.heap.size,10,none⟩ = some (r8):=cell_of hb14 10;have y0 : W4.cell? ⟨w3.heap.size,0,none⟩ = some (.string b.name):=cell_of hb4 0;have y1 : W4.cell? ⟨w3.heap.size,1,none⟩ = some (.slice p b.values.length c):=cell_of hb4 1;have y2 : W4.cell? ⟨w3.heap.size,2,none⟩ = some (.int .i64 b.low):=cell_of hb4 2;have y3 : W4.cell? ⟨w3.heap.size,3,none⟩ = some (.int .i64 b.high):=cell_of hb4 3;clear hx3 hx4 hb4 hb14 hrl hbm;go_upto_region 4 with fail;rw [← hW4];clear hW4;go_wp2_with fail;refine HRL.out.mono ?_;rintro e w5 ⟨hx5,rfl⟩;have y1 : w5.cell? ⟨w3.heap.size,1,none⟩ = some (.slice p b.values.length c):=hx5.cell' (cell_of HB4.out 1);have x2 : w5.cell? ⟨w.heap.size + 1,2,none⟩ = some (.slice vp values.length vc):=hx5.cell' (cell_of HB24.out 2);have x3 : w5.cell? ⟨w.heap.size + 1,3,none⟩ = some (.int .i64 lo):=hx5.cell' (cell_of HB24.out 3);have x4 : w5.cell? ⟨w.heap.size + 1,4,none⟩ = some (.int .i64 hi):=hx5.cell' (cell_of HB24.out 4);have HX5:=zQ hx5;clear hx5 d0 d1 d2 d3 d4 d5 d6 d7 d8 d9 d10 y0 y2 y3;by_cases hz : b.values.length = 0
 ·have hin : inT b values lo hi r = (decide (lo ≤ r) && decide (r ≤ hi)):=by unfold inT;rw [if_pos (zN hz)]
  obtain ⟨c1,hc1⟩ : ∃ c1,decide (lo ≤ r) = c1:=⟨_,rfl⟩;obtain ⟨c2,hc2⟩ : ∃ c2,decide (r ≤ hi) = c2:=⟨_,rfl⟩;rw [hc1,hc2] at hin;have HIN:=zQ hin;clear hin;cases c1 with
  | false=>
   go_wp2_with fail;go_ret
   exact ⟨HX4.out.trans' HX5.out,by rw [HIN.out];rfl⟩
  | true=>
   go_wp2_with fail;go_ret
   exact ⟨HX4.out.trans' HX5.out,by rw [HIN.out];rfl⟩
 ·have hrb':=hrb hz;obtain ⟨rn,rfl⟩ : ∃ rn : Nat,r = (rn : Int):=⟨r.toNat,by omega⟩
  have hrl : rn < b.values.length:=by omega
  obtain ⟨tv,htv⟩ : ∃ tv,b.values[rn]? = some tv:=⟨_,List.getElem?_eq_getElem hrl⟩;obtain ⟨_,_,hpe,_,_,_,hpc⟩:=HST.out.1;simp only [Value.slice.injEq,true_and] at hpe;obtain ⟨rfl,rfl⟩:=hpe;obtain ⟨pb,poff,rfl,hg⟩:=hpc rn (.string tv) (by rw [List.getElem?_map,htv];rfl)
  have HG5:=zQ (HX5.out.cell' hg);have hin : inT b values lo hi (rn : Int) = decide (∃ v ∈ values,v = tv):=by
   unfold inT;rw [if_neg (fun e=>hz (by rw [e];rfl)),Int.toNat_natCast,htv]
   exact decide_eq_decide.2 ⟨fun ⟨v,hv,h⟩=>⟨v,hv,(zI h).symm⟩,fun ⟨v,hv,h⟩=>⟨v,hv,by rw [h]⟩⟩
  have HIN:=zQ hin;have hzb : ((b.values.length : Int) == 0) = false:=by rw [beq_eq_false_iff_ne];omega
  clear hin hrb hpc hg htv;go_wp2_with fail;go_loopw [10] (fun i wr=>∃ (k : Nat),k ≤ values.length ∧ i = .int .i64 (k : Int) ∧ Hid (∀ v ∈ values.take k,v ≠ tv) ∧ Hid (Ext w5 wr)) (fun i _=>values.length - (intOf i).toNat)
  case atStart=>exact ⟨0,Nat.zero_le _,rfl,(fun a ha=>by simp at ha),ext_refl _⟩
  case round=>
   obtain ⟨k,hk,rfl,hno,hx⟩:=hrel;have x2' : wr.cell? ⟨w.heap.size + 1,2,none⟩ = some (.slice vp values.length vc):=hx.out.cell' x2;by_cases hlt : k < values.length
   ·obtain ⟨v,hv⟩ : ∃ v,values[k]? = some v:=⟨_,List.getElem?_eq_getElem hlt⟩;obtain ⟨_,_,hve,_,_,_,hvc⟩:=HV.out.1;simp only [Value.slice.injEq,true_and] at hve;obtain ⟨rfl,rfl⟩:=hve;obtain ⟨vb,voff,rfl,hvg⟩:=hvc k (.string v) (by rw [List.getElem?_map,hv];rfl)
    have HVG:=zQ ((HX4.out.trans' (HX5.out.trans' hx.out)).cell' hvg);have HGr:=zQ (hx.out.cell' HG5.out);have HY1:=zQ (hx.out.cell' y1);have HX2:=zQ x2';obtain ⟨c1,hc1⟩ : ∃ c1,(v.toList == tv.toList) = c1:=⟨_,rfl⟩;have HVK:=zQ hv;clear hvc hvg hv;go_upto_region 10 with fail;clear x2';refine Rt.wp_region_rt (by kernel_rfl) [0,1,2,3,4,5,6,7,8,9,10] [] [] [0,1,0,7,15,0,32,0,224,480,1023] (by kernel_rfl) (fun _ W=>Ext wr W) ?_ ?_
    ·exact below_drawn (ext_refl _) _
    (refine Rt.zS fun K hK=>?_;go_simp;refine hK _ ?_;clear hK K);(refine Rt.zR ?_;constructor;constructor;· (intro us' W hp hl hI;have g0:=Ext.cell' hI HX2.out;go_simp;rfl));simp only [Act.put,zP];(refine Rt.zS fun K hK=>?_;go_simp;refine hK _ ?_;clear hK K);(refine Rt.zR ?_;constructor;constructor;· (intro us' W hp hl hI;skip;go_simp;rfl));simp only [Act.put,zP];(refine Rt.zR ?_;constructor;constructor;· (intro us' W hp hl hI;have g0:=Ext.cell' hI HVG.out;go_simp;rfl));simp only [Act.put,zP];(refine Rt.zS fun K hK=>?_;go_simp;refine hK _ ?_;clear hK K);(refine Rt.zR ?_;constructor;constructor;· (intro us' W hp hl hI;have g0:=Ext.cell' hI HY1.out;go_simp;rfl));simp only [Act.put,zP];(refine Rt.zS fun K hK=>?_;go_simp;refine hK _ ?_;clear hK K);(refine Rt.zR ?_;constructor;constructor;· (intro us' W hp hl hI;skip;go_simp;rfl));simp only [Act.put,zP];(refine Rt.zR ?_;constructor;constructor;· (intro us' W hp hl hI;have g0:=Ext.cell' hI HGr.out;go_simp;rfl));simp only [Act.put,zP];(refine Rt.zS fun K hK=>?_;go_simp;refine hK _ ?_;clear hK K);refine Rt.rs_nil (fun W8 hI8=>?_)
    have HI8:=zQ (hx.out.trans' hI8);clear hI8;cases c1 with
    | true=>
     have he : v = tv:=ByteArray.ext (by simpa [ByteArray.toList_eq] using hc1)
     have hd : decide (∃ v ∈ values,v = tv) = true:=decide_eq_true ⟨v,zM HVK.out,he⟩;have HD:=zQ (HIN.out.trans hd);clear he hd;go_wp2_with fail;go_ret
     exact ⟨HX4.out.trans' (HX5.out.trans' HI8.out),by rw [HD.out];rfl⟩
    | false=>
     have hne : v ≠ tv:=fun e=>by rw [e] at hc1;simp at hc1
     have HN:=zQ (show ∀ x ∈ values.take (k + 1),x ≠ tv from fun x hx=>by
      rw [List.take_add_one,HVK.out] at hx;rcases List.mem_append.1 hx with hx | hx
      ·exact hno.out x hx
      ·have e : x = v:=by simpa using hx
       rw [e];exact hne)
     clear hne;go_wp2_with fail;exact ⟨⟨k + 1,by omega,rfl,HN.out,HI8.out⟩,by simp [intOf];omega⟩
   ·obtain rfl : k = values.length:=by omega
    have hd : decide (∃ v ∈ values,v = tv) = false:=decide_eq_false fun ⟨v,hv,h⟩=>hno.out v (by rw [List.take_length];exact hv) h
    have HD:=zQ (HIN.out.trans hd);clear hd;go_wp2_with fail;go_ret
    exact ⟨HX4.out.trans' (HX5.out.trans' hx.out),by rw [HD.out];rfl⟩
end Go.Proofs.YtihfcjioilmmjaaGreat
namespace Go.Proofs.YtihfcjioilmmjaaGreat
open Go Go.RowKit
open Go.Lib Go.Proofs
structure TruC (w : World) (sp : Option Addr) (sc : Nat) (schema : List Attr) (R : Rec) : Prop where
 att : AttrsAt w (.slice sp schema.length sc) schema
 ok : ∀ a ∈ schema,AttrOk a
 names : (schema.map (·.name)).Nodup
 cols : R.cols.map (·.1) = schema
 nodup : (R.cols.map (·.2)).Nodup
theorem TruC.ext {w W : World} {sp : Option Addr} {sc : Nat} {schema : List Attr} {R : Rec} (h : TruC w sp sc schema R) (hx : Ext w W) : TruC W sp sc schema R:=⟨h.att.ext hx,h.ok,h.names,h.cols,h.nodup⟩
theorem TruC.mem {w : World} {sp : Option Addr} {sc : Nat} {schema : List Attr} {R : Rec} (h : TruC w sp sc schema R) {c : Attr × Nat} (hc : c ∈ R.cols) : c.1 ∈ schema:=by
 rw [← h.cols];exact List.mem_map.2 ⟨c,hc,rfl⟩
theorem name_one : ∀ {l : List Attr},(l.map (·.name)).Nodup → ∀ {a b : Attr},a ∈ l → b ∈ l → a.name = b.name → a = b
 | [],_,_,_,ha,_,_=>by cases ha
 | x :: r,hn,a,b,ha,hb,h=>by
  rw [List.map_cons,List.nodup_cons] at hn;rcases List.mem_cons.1 ha with e1 | ha
  ·rcases List.mem_cons.1 hb with e2 | hb
   ·rw [e1,e2]
   ·exact absurd (List.mem_map.2 ⟨b,hb,by rw [← h,e1]⟩) hn.1
  ·rcases List.mem_cons.1 hb with e2 | hb
   ·exact absurd (List.mem_map.2 ⟨a,ha,by rw [h,e2]⟩) hn.1
   ·exact name_one hn.2 ha hb h
theorem truly_in {w : World} {sp : Option Addr} {sc : Nat} {schema : List Attr} {R : Rec} (hT : TruC w sp sc schema R) (seed : Int) (hseed : 0 ≤ seed ∧ seed ≤ 4294967295) (r0 r1 r2 r3 r4 r5 r6 r7 r8 : Value) (s : ByteArray) (hs : s.size ≤ maxLen)
  (attr : ByteArray) (vp : Option Addr) (vc : Nat) (values : List ByteArray) (hv : StrsAt w (.slice vp values.length vc) values) (lo hi : Int) (kv : Value) (kids : List Exp) (q : Qn) (hq : askF R (.mk 1 attr values lo hi kids) = some q) :
  Calls Tryz.prog 50 #[.agg #[.slice sp schema.length sc,.int .u32 seed,r0,r1,r2,r3,r4,r5,r6,r7,r8],.agg #[.int .u8 1,.string attr,.slice vp values.length vc,.int .i64 lo,.int .i64 hi,kv],.string s] w fun e W=>Ext w W ∧ e = .returned (.bool (q.φ (sigF R.cols seed s))):=by
 obtain ⟨cc,hcc,hqr⟩:=ask_in_truth (fun c hc=>hT.ok _ (hT.mem hc)) hT.nodup hq seed s
 obtain ⟨hcm,hcn⟩:=colOf_mem hcc;have ham:=hT.mem hcm;rw [hqr];exact truly_core hT.att seed hseed r0 r1 r2 r3 r4 r5 r6 r7 r8 s hs attr vp vc values hv lo hi kv cc.1 ham hcn (hT.ok _ ham) fun b hb e=>name_one hT.names hb ham (by rw [e,hcn])
end Go.Proofs.YtihfcjioilmmjaaGreat
namespace Go.Proofs.YtihfcjioilmmjaaGreat
open Go Go.RowKit
open Go.Lib Go.Proofs
def hitP (f : ByteArray → Int) (t : List UInt8) : Bool:=!isPart (ofBytes t) && decide (f (ofBytes t) ≠ 3)
theorem matchL_map (f : ByteArray → Int) : ∀ l : List (List UInt8),matchL l (l.map fun t=>f (ofBytes t)) = (l.filter fun t=>decide (f (ofBytes t) ≠ 3)).map fun t=>(t,f (ofBytes t))
 | []=>rfl
 | t :: l=>by
  have ih:=matchL_map f l;unfold matchL at ih ⊢
  rw [List.map_cons,List.zip_cons_cons,List.filter_cons,List.filter_cons,ih];by_cases h : f (ofBytes t) ≠ 3
  ·rw [if_pos (by simpa using h),if_pos (by simpa using h)];rfl
  ·rw [if_neg (by simpa using h),if_neg (by simpa using h)]
theorem match_hit {hf : List (Int × FR)} {L : ByteArray → Int → Prop} {f : ByteArray → Int} (hK : ∀ t k,L t k → k = f t) {ks : List Int} (hk : KsOk L (wholesV hf) ks) : matchL (wholesV hf) ks = ((subsV hf).filter (hitP f)).map fun t=>(t,f (ofBytes t)):=by
 rw [hk.map hK,matchL_map];unfold wholesV;rw [List.filter_filter]
 congr 2
 funext t
 unfold hitP;rw [Bool.and_comm]
theorem flatG {α : Type} (g : α → List Value) (m : Nat) (hk : ∀ x,(g x).length = m) : ∀ (l : List α) (i : Nat) (x : α),l[i]? = some x → ∀ r : Nat,r < m → (l.flatMap g)[i * m + r]? = (g x)[r]?
 | [],i,x,h,r,hr=>by simp at h
 | y :: l,0,x,h,r,hr=>by
  obtain rfl : y = x:=by simpa using h
  rw [List.flatMap_cons,List.getElem?_append_left (by rw [hk];omega)]
  rw [Nat.zero_mul,Nat.zero_add]
 | y :: l,i + 1,x,h,r,hr=>by
  rw [List.flatMap_cons,List.getElem?_append_right (by rw [hk,Nat.add_mul];omega),hk,show (i + 1) * m + r - m = i * m + r by rw [Nat.add_mul];omega]
  exact flatG g m hk l i x (by simpa using h) r hr
theorem match_at {w : World} {a : Option Addr} {l : List (List UInt8)} {f : ByteArray → Int} (h : ∀ (j : Nat) u,((l.map fun t=>(t,f (ofBytes t))).flatMap matchCells)[j]? = some u → ∃ b off,a = some ⟨b,off,none⟩ ∧ w.cell? ⟨b,off + j,none⟩ = some u) {i : Nat} {t : List UInt8} (hi : l[i]? = some t) :
  ∃ b off,a = some ⟨b,off,none⟩ ∧ w.cell? ⟨b,off + i * 2,none⟩ = some (.string (ofBytes t)) ∧ w.cell? ⟨b,off + i * 2 + 1,none⟩ = some (.int .u8 (f (ofBytes t))):=by
 have hm : (l.map fun t=>(t,f (ofBytes t)))[i]? = some (t,f (ofBytes t)):=by rw [List.getElem?_map,hi];rfl
 have k:=flatG matchCells 2 (fun _=>rfl) _ i _ hm
 obtain ⟨b,off,rfl,q0⟩:=h _ _ (k 0 (by decide))
 obtain ⟨b1,o1,e1,q1⟩:=h _ _ (k 1 (by decide))
 simp only [Option.some.injEq,Addr.mk.injEq,and_true] at e1;obtain ⟨rfl,rfl⟩:=e1;exact ⟨b,off,rfl,by rw [← enc_of];exact q0,q1⟩
theorem next_other {f : ByteArray → Int} {l : List (List UInt8)} {t : List UInt8} (ht : hitP f t = false) {n : Nat} {u : List UInt8} (hu : (l.filter (hitP f))[n]? = some u) : ofBytes u ≠ ofBytes t:=fun e=>by
 have h1 : u = t:=by rw [← bytes_of u,← bytes_of t,e]
 have h2:=(List.mem_filter.1 (zM hu)).2;rw [h1,ht] at h2;cases h2
end Go.Proofs.YtihfcjioilmmjaaGreat
namespace Go.Proofs.YtihfcjioilmmjaaGreat
open Go Go.RowKit
open Go.Lib Go.Proofs
theorem made_true {w : World} {sp : Option Addr} {sc : Nat} {schema : List Attr} {R : Rec} (hT : TruC w sp sc schema R) {seed : Int} {f : Fct} {x : FR} (hx : checkF R f = some x) (hm : ∃ a ∈ schema,a.name = f.attr ∧ inT a f.values f.low f.high (realF seed f.subject a) = true) : memS x.attr x.st (sigF R.cols seed x.subject x.col):=by
 obtain ⟨c,hc,_,hr,rfl⟩:=checkF_some hx;obtain ⟨a,ha,han,hin⟩:=hm;obtain ⟨hcm,hcn⟩:=colOf_mem hc;obtain rfl : a = c.1:=name_one hT.names ha (hT.mem hcm) (by rw [han,hcn])
 have hao:=hT.ok _ ha
 show memS c.1 (readF c.1 f.values f.low f.high).1 (sigF R.cols seed f.subject c.2)
 rw [sig_at (a:=c.1) (c:=c.2) hT.nodup hcm seed f.subject];exact (readF_mem hao hr (realF_mem hao seed f.subject)).2 hin
theorem start_true {w : World} {sp : Option Addr} {sc : Nat} {schema : List Attr} {cols : List (Attr × Nat)} {vs : List Ver} (hT : TruC w sp sc schema ⟨cols,vs,[]⟩) {seed : Int} {ps : List Int} {L : List Fct} {frs : List FR} {la lw : List (Int × Value)} (hC : ComOk ⟨cols,vs,[]⟩ ps L [] frs la lw) (hok : RecOk (commitR ⟨cols,vs,[]⟩ frs la lw)) (hm : ∀ f ∈ L,∃ a ∈ schema,a.name = f.attr ∧ inT a f.values f.low f.high (realF seed f.subject a) = true) {v : Ver} (hv : v ∈ (commitR ⟨cols,vs,[]⟩ frs la lw).vers) :
  TrueK (sigF cols seed) (heldF (commitR ⟨cols,vs,[]⟩ frs la lw) v):=TrueK.of fun y hy=>by
 have h0:=heldF_mem hok hv hy;have h1 : y.2 ∈ frs:=by simpa [commitR] using h0
 obtain ⟨f,hf,hx⟩:=rowsF_all hC.rows _ h1;exact made_true hT hx (hm f hf)
end Go.Proofs.YtihfcjioilmmjaaGreat
namespace Go.Proofs.YtihfcjioilmmjaaGreat
open Go Go.RowKit
open Go.Lib Go.Proofs
def MadeD (schema : List Attr) (seed : Int) (f : Fct) (W : World) (sub at_ : ByteArray) (p : Option Addr) (n c : Nat) (lo hi : Int) (b : Bool) : Prop:=
 b = true → ∃ values : List ByteArray,n = values.length ∧ W.ownsRow 0 9 1 (.slice p n c) n (values.map Value.string) ∧ (∀ v ∈ values,v.size ≤ maxLen) ∧ (sub.size ≤ maxLen ∧ at_.size ≤ maxLen ∧ i64ok lo ∧ i64ok hi) ∧ n ≤ 8 ∧ sub = f.subject ∧ ∃ a ∈ schema,a.name = at_ ∧ inT a values lo hi (realF seed sub a) = true
def Stay46 (W W' : World) : Prop:=∀ (g : Nat) (cs : Array Value) (T : TypeId) (fr : Nat × Nat),W.heap[g]? = some (.cells cs T fr) → T ≠ 46 → W'.heap[g]? = W.heap[g]?
theorem Stay46.ext {W W' : World} (h : Ext W W') : Stay46 W W':=fun g _ _ _ hg _=>h.block g (heap_lt hg)
theorem MadeD.stay {schema : List Attr} {seed : Int} {f : Fct} {W W' : World} {sub at_ : ByteArray} {p : Option Addr} {n c : Nat} {lo hi : Int} {b : Bool} (h : MadeD schema seed f W sub at_ p n c lo hi b) (hx : Stay46 W W') : MadeD schema seed f W' sub at_ p n c lo hi b:=fun hb=>
 let ⟨vs,h1,h2,h3⟩:=h hb;⟨vs,h1,owns_keep h2 fun g _ _ hg=>hx g _ _ _ hg (by decide),h3⟩
theorem MadeD.fact {schema : List Attr} {seed : Int} {f : Fct} {W : World} {sub at_ : ByteArray} {p : Option Addr} {n c : Nat} {lo hi : Int} (h : MadeD schema seed f W sub at_ p n c lo hi true) : ∃ values : List ByteArray,n = values.length ∧ FactAt W ⟨sub,at_,values,lo,hi⟩ (.slice p n c) ∧ values.length ≤ 8 ∧ sub = f.subject ∧ ∃ a ∈ schema,a.name = at_ ∧ inT a values lo hi (realF seed sub a) = true:=by
 obtain ⟨vs,rfl,h2,h3,h4,h5,h6⟩:=h rfl;exact ⟨vs,rfl,⟨⟨SlAt.of_owns h2,h3⟩,h4⟩,h5,h6⟩
def MadePost (schema : List Attr) (seed : Int) (f : Fct) (w : World) (e : Ending) (W : World) : Prop:=
 Ext w W ∧ ∃ (sub at_ : ByteArray) (p : Option Addr) (n c : Nat) (lo hi : Int) (b : Bool),e = .returned (.tuple #[.agg #[.string sub,.string at_,.slice p n c,.int .i64 lo,.int .i64 hi],.bool b]) ∧ MadeD schema seed f W sub at_ p n c lo hi b
structure MvI (w6 : World) (b : Attr) (rn j : Nat) (vs : List ByteArray) (v : Value) (wr : World) : Prop where
 ext : Ext w6 wr
 row : wr.ownsRow w6.heap.size 9 1 v vs.length (vs.map Value.string)
 len : vs.length ≤ j
 sub : ∀ x ∈ vs,x ∈ b.values
 has : rn < j → ∃ tv,b.values[rn]? = some tv ∧ tv ∈ vs
theorem MvI.stay {w6 : World} {b : Attr} {rn j : Nat} {vs : List ByteArray} {v : Value} {wr W : World} (h : MvI w6 b rn j vs v wr) (hx : Ext wr W) : MvI w6 b rn j vs v W:=
 ⟨h.ext.trans' hx,owns_keep h.row fun g _ _ hg=>hx.block g (heap_lt hg),h.len,h.sub,h.has⟩
theorem MvI.skip {w6 : World} {b : Attr} {rn j : Nat} {vs : List ByteArray} {v : Value} {wr : World} (h : MvI w6 b rn j vs v wr) (hn : ¬ j = rn) : MvI w6 b rn (j + 1) vs v wr:=
 ⟨h.ext,h.row,Nat.le_succ_of_le h.len,h.sub,fun hl=>h.has (by omega)⟩
theorem MvI.put {w6 : World} {b : Attr} {rn j : Nat} {vs : List ByteArray} {v v' : Value} {wr W : World} (h : MvI w6 b rn j vs v wr) {tj : ByteArray} (ht : b.values[j]? = some tj) (hx : Ext w6 W) (hr : W.ownsRow w6.heap.size 9 1 v' (vs.length + 1) (vs.map Value.string ++ [.string tj])) : MvI w6 b rn (j + 1) (vs ++ [tj]) v' W:=by
 refine ⟨hx,by rw [List.length_append,List.map_append];exact hr,by rw [List.length_append];exact Nat.succ_le_succ h.len,fun x hm=>?_,fun hl=>?_⟩
 ·rcases List.mem_append.1 hm with hm | hm
  ·exact h.sub x hm
  ·rw [List.mem_singleton.1 hm];exact zM ht
 ·by_cases hj : rn < j
  ·obtain ⟨tv,h1,h2⟩:=h.has hj;exact ⟨tv,h1,List.mem_append_left _ h2⟩
  ·obtain rfl : rn = j:=by omega
   exact ⟨tj,ht,List.mem_append_right _ (List.mem_singleton_self _)⟩
structure FxS (w W : World) (fb : Nat) (f : Fct) (lo hi : Int) (wx : World) : Prop where
 ext : Ext w wx
 blk : wx.heap[fb]? = some (.cells #[.string f.subject,.string f.attr,.slice none 0 0,.int .i64 lo,.int .i64 hi] 46 (0,0))
 rest : ∀ g,g ≠ fb → wx.heap[g]? = W.heap[g]?
theorem FxS.at_ {w W : World} {fb : Nat} {f : Fct} {lo hi : Int} {wx : World} (h : FxS w W fb f lo hi wx) (j : Nat) : wx.cell? ⟨fb,j,none⟩ = (#[.string f.subject,.string f.attr,.slice none 0 0,.int .i64 lo,.int .i64 hi] : Array Value)[j]?:=cell_of h.blk j
theorem FxS.keep {w W : World} {fb : Nat} {f : Fct} {lo hi : Int} {wx : World} (h : FxS w W fb f lo hi wx) {g : Nat} {cs : Array Value} {T : TypeId} {fr : Nat × Nat} (hg : W.heap[g]? = some (.cells cs T fr)) (hne : g ≠ fb) (j : Nat) : wx.cell? ⟨g,j,none⟩ = cs[j]?:=cell_of ((h.rest g hne).trans hg) j
theorem FxS.low {w W : World} {fb : Nat} {f : Fct} {lo hi : Int} {wx : World} (h : FxS w W fb f lo hi wx) (hw : w.heap.size ≤ fb) (lw : Int) : FxS w W fb f lw hi (wx.setCell ⟨fb,3,none⟩ (.int .i64 lw)):=by
 have hx:=h.ext;exact ⟨by exact bel,by simp only [zH,World.size_alloc,World.size_setCell];(repeat (first | rw [if_pos trivial] | rw [if_pos rfl] | rw [if_neg (by omega)] | rw [if_pos (by omega)]));rw [h.blk];rfl,fun g hg=>by rw [heap_setCell_get,if_neg hg];exact h.rest g hg⟩
theorem FxS.high {w W : World} {fb : Nat} {f : Fct} {lo hi : Int} {wx : World} (h : FxS w W fb f lo hi wx) (hw : w.heap.size ≤ fb) (hw : Int) : FxS w W fb f lo hw (wx.setCell ⟨fb,4,none⟩ (.int .i64 hw)):=by
 have hx:=h.ext;exact ⟨by exact bel,by simp only [zH,World.size_alloc,World.size_setCell];(repeat (first | rw [if_pos trivial] | rw [if_pos rfl] | rw [if_neg (by omega)] | rw [if_pos (by omega)]));rw [h.blk];rfl,fun g hg=>by rw [heap_setCell_get,if_neg hg];exact h.rest g hg⟩
theorem made_any {w : World} {sp : Option Addr} {sc : Nat} {schema : List Attr} (hs : AttrsAt w (.slice sp schema.length sc) schema) (hok : ∀ a ∈ schema,AttrOk a) (seed : Int) (hseed : 0 ≤ seed ∧ seed ≤ 4294967295) (r0 r1 r2 r3 r4 r5 r6 r7 r8 : Value)
  (f : Fct) {p : Option Addr} {c : Nat} (hf : FactAt w f (.slice p f.values.length c)) (hfb : f.values.length ≤ 1000) :
  Calls Tryz.prog 11 #[.agg #[.slice sp schema.length sc,.int .u32 seed,r0,r1,r2,r3,r4,r5,r6,r7,r8],.agg #[.string f.subject,.string f.attr,.slice p f.values.length c,.int .i64 f.low,.int .i64 f.high]] w (MadePost schema seed f w):=by
 obtain ⟨W1,hW1⟩ : ∃ W1,W1 = w.alloc (.cells #[.slice sp schema.length sc,.int .u32 seed,r0,r1,r2,r3,r4,r5,r6,r7,r8] 33 (0,0)):=⟨_,rfl⟩;obtain ⟨W2,hW2⟩ : ∃ W2,W2 = W1.alloc (.cells #[.string f.subject,.string f.attr,.slice p f.values.length c,.int .i64 f.low,.int .i64 f.high] 46 (0,0)):=⟨_,rfl⟩;obtain ⟨W3,hW3⟩ : ∃ W3,W3 = W2.alloc (.cells #[.string ⟨#[]⟩,.string ⟨#[]⟩,.slice none 0 0,.int .i64 0,.int .i64 0] 46 (0,0)):=⟨_,rfl⟩;have hs1 : W1.heap.size = w.heap.size + 1:=by rw [hW1];simp
 have hs2 : W2.heap.size = w.heap.size + 2:=by rw [hW2];simp [hs1]
 have hb1 : W1.heap[w.heap.size]? = some (.cells #[.slice sp schema.length sc,.int .u32 seed,r0,r1,r2,r3,r4,r5,r6,r7,r8] 33 (0,0)):=by rw [hW1];exact zG
 have hb2 : W2.heap[w.heap.size + 1]? = some (.cells #[.string f.subject,.string f.attr,.slice p f.values.length c,.int .i64 f.low,.int .i64 f.high] 46 (0,0)):=by rw [← hs1,hW2];exact zG
 have hb3 : W3.heap[w.heap.size + 2]? = some (.cells #[.string ⟨#[]⟩,.string ⟨#[]⟩,.slice none 0 0,.int .i64 0,.int .i64 0] 46 (0,0)):=by rw [← hs2,hW3];exact zG
 have hx1 : Ext w W1:=by rw [hW1];exact bel
 have hx2 : Ext W1 W2:=by rw [hW2];exact bel
 have hx3 : Ext W2 W3:=by rw [hW3];exact bel
 have hb1':=(hx2.trans' hx3).obj hb1;have hb2':=hx3.obj hb2;have hx:=(hx1.trans' hx2).trans' hx3;have d0 : W3.cell? ⟨w.heap.size,0,none⟩ = some (.slice sp schema.length sc):=cell_of hb1' 0;have d1 : W3.cell? ⟨w.heap.size,1,none⟩ = some (.int .u32 seed):=cell_of hb1' 1;have d2 : W3.cell? ⟨w.heap.size,2,none⟩ = some (r0):=cell_of hb1' 2;have d3 : W3.cell? ⟨w.heap.size,3,none⟩ = some (r1):=cell_of hb1' 3;have d4 : W3.cell? ⟨w.heap.size,4,none⟩ = some (r2):=cell_of hb1' 4;have d5 : W3.cell? ⟨w.heap.size,5,none⟩ = some (r3):=cell_of hb1' 5;have d6 : W3.cell? ⟨w.heap.size,6,none⟩ = some (r4):=cell_of hb1' 6;have d7 : W3.cell? ⟨w.heap.size,7,none⟩ = some (r5):=cell_of hb1' 7;have d8 : W3.cell? ⟨w.heap.size,8,none⟩ = some (r6):=cell_of hb1' 8;have d9 : W3.cell? ⟨w.heap.size,9,none⟩ = some (r7):=cell_of hb1' 9;have d10 : W3.cell? ⟨w.heap.size,10,none⟩ = some (r8):=cell_of hb1' 10;have e0:=cell_of hb2' 0;have e1:=cell_of hb2' 1;have e2:=cell_of hb2' 2;have e3:=cell_of hb2' 3;have e4:=cell_of hb2' 4;have HAT:=zQ (attr_any (hs.ext hx) f.attr);have HB1:=zQ hb1';have HB2:=zQ hb2';have HB3:=zQ hb3;have HX:=zQ hx;have HOK:=zQ hok;have HF:=zQ hf;clear hs1 hs2 hb1 hb2 hb3 hx1 hx2 hx3 hb1' hb2' hx hs hok hf;go_enter Tryz.func11,Tryz.ntmps11;go_upto_region 1 with fail;rw [← hW1,← hW2,← hW3,show w.heap.size + 1 + 1 = w.heap.size + 2 from rfl]
 clear hW1 hW2 hW3;go_wp2_with fail;refine HAT.out.mono ?_;rintro e w4 ⟨hx4,⟨b,hbm,hbn,q,k,hst,rfl⟩ | ⟨hno,rfl⟩⟩
 rotate_left
 ·obtain ⟨W5,hW5⟩ : ∃ W5,W5 = w4.alloc (.cells #[.string ⟨#[]⟩,.slice none 0 0,.int .i64 0,.int .i64 0] 90 (0,0)):=⟨_,rfl⟩;have hx5 : Ext w4 W5:=by rw [hW5];exact bel
  have hx45:=hx4.trans' hx5;have hr5:=hx45.obj HB3.out;have hf5:=hx45.obj HB2.out;have HX5:=zQ (HX.out.trans' hx45);clear d0 d1 d2 d3 d4 d5 d6 d7 d8 d9 d10 e0 e1 e2 e3 e4 hno hx4 hx5 hx45;have e0 : W5.cell? ⟨w.heap.size + 1,0,none⟩ = some (.string f.subject):=cell_of hf5 0;have e1 : W5.cell? ⟨w.heap.size + 1,1,none⟩ = some (.string f.attr):=cell_of hf5 1;have e2 : W5.cell? ⟨w.heap.size + 1,2,none⟩ = some (.slice p f.values.length c):=cell_of hf5 2;have e3 : W5.cell? ⟨w.heap.size + 1,3,none⟩ = some (.int .i64 f.low):=cell_of hf5 3;have e4 : W5.cell? ⟨w.heap.size + 1,4,none⟩ = some (.int .i64 f.high):=cell_of hf5 4;have z0 : W5.cell? ⟨w.heap.size + 2,0,none⟩ = some (.string ⟨#[]⟩):=cell_of hr5 0;have fz0:=frozen_of hr5 0;have z1 : W5.cell? ⟨w.heap.size + 2,1,none⟩ = some (.string ⟨#[]⟩):=cell_of hr5 1;have fz1:=frozen_of hr5 1;have z2 : W5.cell? ⟨w.heap.size + 2,2,none⟩ = some (.slice none 0 0):=cell_of hr5 2;have fz2:=frozen_of hr5 2;have z3 : W5.cell? ⟨w.heap.size + 2,3,none⟩ = some (.int .i64 0):=cell_of hr5 3;have fz3:=frozen_of hr5 3;have z4 : W5.cell? ⟨w.heap.size + 2,4,none⟩ = some (.int .i64 0):=cell_of hr5 4;have fz4:=frozen_of hr5 4;have HR5:=zQ hr5;clear hr5 hf5;go_upto_region 2 with fail;rw [← hW5];clear hW5;go_wp2_with fail;obtain ⟨W7,hW7⟩ : ∃ W7,W7 = (((((W5.setCell ⟨w.heap.size + 2,0,none⟩ (.string f.subject)).setCell ⟨w.heap.size + 2,1,none⟩ (.string f.attr)).setCell ⟨w.heap.size + 2,2,none⟩ (.slice p f.values.length c)).setCell ⟨w.heap.size + 2,3,none⟩ (.int .i64 f.low)).setCell ⟨w.heap.size + 2,4,none⟩ (.int .i64 f.high)):=⟨_,rfl⟩;have hb7 : W7.heap[w.heap.size + 2]? = some (.cells #[.string f.subject,.string f.attr,.slice p f.values.length c,.int .i64 f.low,.int .i64 f.high] 46 (0,0)):=by
   rw [hW7];simp only [zH,World.size_alloc,World.size_setCell];(repeat (first | rw [if_pos trivial] | rw [if_pos rfl] | rw [if_neg (by omega)] | rw [if_pos (by omega)]))
   rw [HR5.out];rfl
  have HX7 : Hid (Ext w W7):=by
   have hx5:=HX5.out;unfold Hid;rw [hW7];exact bel
  rw [← hW7];have y0 : W7.cell? ⟨w.heap.size + 2,0,none⟩ = some (.string f.subject):=cell_of hb7 0;have y1 : W7.cell? ⟨w.heap.size + 2,1,none⟩ = some (.string f.attr):=cell_of hb7 1;have y2 : W7.cell? ⟨w.heap.size + 2,2,none⟩ = some (.slice p f.values.length c):=cell_of hb7 2;have y3 : W7.cell? ⟨w.heap.size + 2,3,none⟩ = some (.int .i64 f.low):=cell_of hb7 3;have y4 : W7.cell? ⟨w.heap.size + 2,4,none⟩ = some (.int .i64 f.high):=cell_of hb7 4;clear hW7 z0 z1 z2 z3 z4 fz0 fz1 fz2 fz3 fz4;refine bodyPost_ret (v:=.tuple #[.agg #[.string f.subject,.string f.attr,.slice p f.values.length c,.int .i64 f.low,.int .i64 f.high],.bool false]) (by simp [results,Tryz.results11,go_sem,y0,y1,y2,y3,y4]) rfl ?_
  exact ⟨HX7.out,_,_,_,_,_,_,_,_,rfl,fun h=>by cases h⟩
 ·have HBN:=zQ hbn;have HAO:=zQ (HOK.out b hbm);have HBM:=zQ hbm;obtain ⟨W5,hW5⟩ : ∃ W5,W5 = w4.alloc (.cells #[.string b.name,.slice q b.values.length k,.int .i64 b.low,.int .i64 b.high] 90 (0,0)):=⟨_,rfl⟩;have hx5 : Ext w4 W5:=by rw [hW5];exact bel
  have hb5 : W5.heap[w4.heap.size]? = some (.cells #[.string b.name,.slice q b.values.length k,.int .i64 b.low,.int .i64 b.high] 90 (0,0)):=by rw [hW5];exact zG
  have hx45:=hx4.trans' hx5;have hr5:=hx45.obj HB3.out;have hf5:=hx45.obj HB2.out;have ht5:=hx45.obj HB1.out;obtain ⟨r,hr⟩ : ∃ r,realF seed f.subject b = r:=⟨_,rfl⟩;have hrl:=real_any (w:=W5) (.slice sp schema.length sc) seed hseed r0 r1 r2 r3 r4 r5 r6 r7 r8 f.subject HF.out.2.1 b HAO.out q k;have hrm:=realF_mem HAO.out seed f.subject;rw [hr] at hrl hrm;have hlt5 : w.heap.size + 2 < w4.heap.size:=Nat.lt_of_lt_of_le (heap_lt HB3.out) hx4.size;have HRL:=zQ hrl;have HRM:=zQ hrm;have HR:=zQ hr;have HST:=zQ (hst.ext hx45);have HB5:=zQ hb5;have HX45:=zQ (HX.out.trans' hx45);have HRB5:=zQ hr5;have HFB5:=zQ hf5;have halo:=HAO.out.low;have hahi:=HAO.out.high;have hale:=HAO.out.ends;have ha8:=HAO.out.small;have hfl:=HF.out.2.2.2.1;have hfh:=HF.out.2.2.2.2;unfold i64ok at hfl hfh;clear d0 d1 d2 d3 d4 d5 d6 d7 d8 d9 d10 e0 e1 e2 e3 e4 hbm hbn hst hx4 hx5 hx45 hrl hrm hr;have d0 : W5.cell? ⟨w.heap.size,0,none⟩ = some (.slice sp schema.length sc):=cell_of ht5 0;have d1 : W5.cell? ⟨w.heap.size,1,none⟩ = some (.int .u32 seed):=cell_of ht5 1;have d2 : W5.cell? ⟨w.heap.size,2,none⟩ = some (r0):=cell_of ht5 2;have d3 : W5.cell? ⟨w.heap.size,3,none⟩ = some (r1):=cell_of ht5 3;have d4 : W5.cell? ⟨w.heap.size,4,none⟩ = some (r2):=cell_of ht5 4;have d5 : W5.cell? ⟨w.heap.size,5,none⟩ = some (r3):=cell_of ht5 5;have d6 : W5.cell? ⟨w.heap.size,6,none⟩ = some (r4):=cell_of ht5 6;have d7 : W5.cell? ⟨w.heap.size,7,none⟩ = some (r5):=cell_of ht5 7;have d8 : W5.cell? ⟨w.heap.size,8,none⟩ = some (r6):=cell_of ht5 8;have d9 : W5.cell? ⟨w.heap.size,9,none⟩ = some (r7):=cell_of ht5 9;have d10 : W5.cell? ⟨w.heap.size,10,none⟩ = some (r8):=cell_of ht5 10;have e0 : W5.cell? ⟨w.heap.size + 1,0,none⟩ = some (.string f.subject):=cell_of hf5 0;have e1 : W5.cell? ⟨w.heap.size + 1,1,none⟩ = some (.string f.attr):=cell_of hf5 1;have e2 : W5.cell? ⟨w.heap.size + 1,2,none⟩ = some (.slice p f.values.length c):=cell_of hf5 2;have e3 : W5.cell? ⟨w.heap.size + 1,3,none⟩ = some (.int .i64 f.low):=cell_of hf5 3;have e4 : W5.cell? ⟨w.heap.size + 1,4,none⟩ = some (.int .i64 f.high):=cell_of hf5 4;have y0 : W5.cell? ⟨w4.heap.size,0,none⟩ = some (.string b.name):=cell_of hb5 0;have y1 : W5.cell? ⟨w4.heap.size,1,none⟩ = some (.slice q b.values.length k):=cell_of hb5 1;have y2 : W5.cell? ⟨w4.heap.size,2,none⟩ = some (.int .i64 b.low):=cell_of hb5 2;have y3 : W5.cell? ⟨w4.heap.size,3,none⟩ = some (.int .i64 b.high):=cell_of hb5 3;clear hr5 hf5 ht5 hb5;go_upto_region 2 with fail;rw [← hW5];clear hW5;go_wp2_with fail;refine HRL.out.mono ?_;rintro e w6 ⟨hx6,rfl⟩;have hr6:=hx6.obj HRB5.out;have hf6:=hx6.obj HFB5.out;have hb6:=hx6.obj HB5.out;have HX6:=zQ (HX45.out.trans' hx6);have HST6:=zQ (HST.out.ext hx6);clear d0 d1 d2 d3 d4 d5 d6 d7 d8 d9 d10 e0 e1 e2 e3 e4 y0 y1 y2 y3 hx6;have e0 : w6.cell? ⟨w.heap.size + 1,0,none⟩ = some (.string f.subject):=cell_of hf6 0;have fe0:=frozen_of hf6 0;have e1 : w6.cell? ⟨w.heap.size + 1,1,none⟩ = some (.string f.attr):=cell_of hf6 1;have fe1:=frozen_of hf6 1;have e2 : w6.cell? ⟨w.heap.size + 1,2,none⟩ = some (.slice p f.values.length c):=cell_of hf6 2;have fe2:=frozen_of hf6 2;have e3 : w6.cell? ⟨w.heap.size + 1,3,none⟩ = some (.int .i64 f.low):=cell_of hf6 3;have fe3:=frozen_of hf6 3;have e4 : w6.cell? ⟨w.heap.size + 1,4,none⟩ = some (.int .i64 f.high):=cell_of hf6 4;have fe4:=frozen_of hf6 4;have y0 : w6.cell? ⟨w4.heap.size,0,none⟩ = some (.string b.name):=cell_of hb6 0;have y1 : w6.cell? ⟨w4.heap.size,1,none⟩ = some (.slice q b.values.length k):=cell_of hb6 1;have y2 : w6.cell? ⟨w4.heap.size,2,none⟩ = some (.int .i64 b.low):=cell_of hb6 2;have y3 : w6.cell? ⟨w4.heap.size,3,none⟩ = some (.int .i64 b.high):=cell_of hb6 3;have HR6:=zQ hr6;have HF6:=zQ hf6;have HB6:=zQ hb6;clear hr6 hf6 hb6;by_cases hz : b.values.length = 0
  ·have hrb : b.low ≤ r ∧ r ≤ b.high:=HRM.out.1 (zN hz);clear y0;obtain ⟨c1,h1⟩ : ∃ c1,decide (r < f.low) = c1:=⟨_,rfl⟩;obtain ⟨c2,h2⟩ : ∃ c2,decide (f.low < b.low) = c2:=⟨_,rfl⟩;obtain ⟨c3,h3⟩ : ∃ c3,decide (f.high < r) = c3:=⟨_,rfl⟩;obtain ⟨c4,h4⟩ : ∃ c4,decide (b.high < f.high) = c4:=⟨_,rfl⟩;have hlow : (c1 || c2) = false → f.low ≤ r:=fun h=>by
    rw [Bool.or_eq_false_iff] at h;have:=h1.trans h.1
    rw [decide_eq_false_iff_not] at this;omega
   have hhig : (c3 || c4) = false → r ≤ f.high:=fun h=>by
    rw [Bool.or_eq_false_iff] at h;have:=h3.trans h.1
    rw [decide_eq_false_iff_not] at this;omega
   have HLOW:=zQ hlow;have HHIG:=zQ hhig;have HRO : Hid (i64ok r):=by unfold Hid i64ok;omega
   have hfx : FxS w w6 (w.heap.size + 1) f f.low f.high (w6.setCell ⟨w.heap.size + 1,2,none⟩ (.slice none 0 0)):=by
    have hx6:=HX6.out;refine ⟨by exact bel,by simp only [zH,World.size_alloc,World.size_setCell];(repeat (first | rw [if_pos trivial] | rw [if_pos rfl] | rw [if_neg (by omega)] | rw [if_pos (by omega)]));rw [HF6.out];rfl,fun g hg=>by rw [heap_setCell_get,if_neg hg]⟩
   have HFX:=zQ hfx;have hA : (c1 = true ∨ (c1 = false ∧ c2 = true)) ∨ (c1 = false ∧ c2 = false):=by cases c1 <;> cases c2 <;> simp
   have hB : (c3 = true ∨ (c3 = false ∧ c4 = true)) ∨ (c3 = false ∧ c4 = false):=by cases c3 <;> cases c4 <;> simp
   clear hlow hhig hfx;rcases hA with (rfl | ⟨rfl,rfl⟩) | ⟨rfl,rfl⟩
   iterate 2
    ·rcases hB with (rfl | ⟨rfl,rfl⟩) | ⟨rfl,rfl⟩
     iterate 2
      ·have hfx3 : ∃ lw hw : Int,Hid (lw ≤ r ∧ i64ok lw) ∧ Hid (r ≤ hw ∧ i64ok hw) ∧ Hid (FxS w w6 (w.heap.size + 1) f lw hw (((w6.setCell ⟨w.heap.size + 1,2,none⟩ (.slice none 0 0)).setCell ⟨w.heap.size + 1,3,none⟩ (.int .i64 r)).setCell ⟨w.heap.size + 1,4,none⟩ (.int .i64 r))):=⟨r,r,⟨Int.le_refl _,HRO.out⟩,⟨Int.le_refl _,HRO.out⟩,((HFX.out.low (by omega) r).high (by omega) r)⟩
       go_upto_region 11 with fail
       generalize (((w6.setCell ⟨w.heap.size + 1,2,none⟩ (.slice none 0 0)).setCell ⟨w.heap.size + 1,3,none⟩ (.int .i64 r)).setCell ⟨w.heap.size + 1,4,none⟩ (.int .i64 r)) = wg at *
       obtain ⟨lw,hw,hlw,hhw,hfx3⟩:=hfx3;have HX5:=zQ hfx3.out.ext;have hfbk:=hfx3.out.blk;have hrbk:=(hfx3.out.rest (w.heap.size + 2) (by omega)).trans HR6.out
       clear e0 e1 e2 e3 e4 fe0 fe1 fe2 fe3 fe4 y1 y2 y3 hfx3;have e0 : wg.cell? ⟨w.heap.size + 1,0,none⟩ = some (.string f.subject):=cell_of hfbk 0;have e1 : wg.cell? ⟨w.heap.size + 1,1,none⟩ = some (.string f.attr):=cell_of hfbk 1;have e2 : wg.cell? ⟨w.heap.size + 1,2,none⟩ = some (.slice none 0 0):=cell_of hfbk 2;have e3 : wg.cell? ⟨w.heap.size + 1,3,none⟩ = some (.int .i64 lw):=cell_of hfbk 3;have e4 : wg.cell? ⟨w.heap.size + 1,4,none⟩ = some (.int .i64 hw):=cell_of hfbk 4;have z0 : wg.cell? ⟨w.heap.size + 2,0,none⟩ = some (.string ⟨#[]⟩):=cell_of hrbk 0;have fz0:=frozen_of hrbk 0;have z1 : wg.cell? ⟨w.heap.size + 2,1,none⟩ = some (.string ⟨#[]⟩):=cell_of hrbk 1;have fz1:=frozen_of hrbk 1;have z2 : wg.cell? ⟨w.heap.size + 2,2,none⟩ = some (.slice none 0 0):=cell_of hrbk 2;have fz2:=frozen_of hrbk 2;have z3 : wg.cell? ⟨w.heap.size + 2,3,none⟩ = some (.int .i64 0):=cell_of hrbk 3;have fz3:=frozen_of hrbk 3;have z4 : wg.cell? ⟨w.heap.size + 2,4,none⟩ = some (.int .i64 0):=cell_of hrbk 4;have fz4:=frozen_of hrbk 4;have HRB:=zQ hrbk;clear hfbk hrbk;go_wp2_with fail;obtain ⟨W7,hW7⟩ : ∃ W7,W7 = (((((wg.setCell ⟨w.heap.size + 2,0,none⟩ (.string f.subject)).setCell ⟨w.heap.size + 2,1,none⟩ (.string f.attr)).setCell ⟨w.heap.size + 2,2,none⟩ (.slice none 0 0)).setCell ⟨w.heap.size + 2,3,none⟩ (.int .i64 lw)).setCell ⟨w.heap.size + 2,4,none⟩ (.int .i64 hw)):=⟨_,rfl⟩;have hb7 : W7.heap[w.heap.size + 2]? = some (.cells #[.string f.subject,.string f.attr,.slice none 0 0,.int .i64 lw,.int .i64 hw] 46 (0,0)):=by
        rw [hW7];simp only [zH,World.size_alloc,World.size_setCell];(repeat (first | rw [if_pos trivial] | rw [if_pos rfl] | rw [if_neg (by omega)] | rw [if_pos (by omega)]))
        rw [HRB.out];rfl
       have HX7 : Hid (Ext w W7):=by
        have hx5:=HX5.out;unfold Hid;rw [hW7];exact bel
       rw [← hW7];have y0 : W7.cell? ⟨w.heap.size + 2,0,none⟩ = some (.string f.subject):=cell_of hb7 0;have y1 : W7.cell? ⟨w.heap.size + 2,1,none⟩ = some (.string f.attr):=cell_of hb7 1;have y2 : W7.cell? ⟨w.heap.size + 2,2,none⟩ = some (.slice none 0 0):=cell_of hb7 2;have y3 : W7.cell? ⟨w.heap.size + 2,3,none⟩ = some (.int .i64 lw):=cell_of hb7 3;have y4 : W7.cell? ⟨w.heap.size + 2,4,none⟩ = some (.int .i64 hw):=cell_of hb7 4;clear hW7 z0 z1 z2 z3 z4 fz0 fz1 fz2 fz3 fz4;refine bodyPost_ret (v:=.tuple #[.agg #[.string f.subject,.string f.attr,.slice none 0 0,.int .i64 lw,.int .i64 hw],.bool true]) (by simp [results,Tryz.results11,go_sem,y0,y1,y2,y3,y4]) rfl ?_
       refine ⟨HX7.out,_,_,_,_,_,_,_,_,rfl,fun _=>⟨[],rfl,World.ownsRow_nil _ _ _ _,fun v hv=>(by cases hv),⟨HF.out.2.1,HF.out.2.2.1,hlw.out.2,hhw.out.2⟩,Nat.zero_le _,rfl,b,HBM.out,HBN.out,?_⟩⟩
       rw [HR.out];unfold inT;rw [if_pos (zN hz),Bool.and_eq_true,decide_eq_true_iff,decide_eq_true_iff];exact ⟨hlw.out.1,hhw.out.1⟩
     ·have hfx3 : ∃ lw hw : Int,Hid (lw ≤ r ∧ i64ok lw) ∧ Hid (r ≤ hw ∧ i64ok hw) ∧ Hid (FxS w w6 (w.heap.size + 1) f lw hw ((w6.setCell ⟨w.heap.size + 1,2,none⟩ (.slice none 0 0)).setCell ⟨w.heap.size + 1,3,none⟩ (.int .i64 r))):=⟨r,f.high,⟨Int.le_refl _,HRO.out⟩,⟨HHIG.out rfl,hfh⟩,(HFX.out.low (by omega) r)⟩
      go_upto_region 11 with fail
      generalize ((w6.setCell ⟨w.heap.size + 1,2,none⟩ (.slice none 0 0)).setCell ⟨w.heap.size + 1,3,none⟩ (.int .i64 r)) = wg at *
      obtain ⟨lw,hw,hlw,hhw,hfx3⟩:=hfx3;have HX5:=zQ hfx3.out.ext;have hfbk:=hfx3.out.blk;have hrbk:=(hfx3.out.rest (w.heap.size + 2) (by omega)).trans HR6.out
      clear e0 e1 e2 e3 e4 fe0 fe1 fe2 fe3 fe4 y1 y2 y3 hfx3;have e0 : wg.cell? ⟨w.heap.size + 1,0,none⟩ = some (.string f.subject):=cell_of hfbk 0;have e1 : wg.cell? ⟨w.heap.size + 1,1,none⟩ = some (.string f.attr):=cell_of hfbk 1;have e2 : wg.cell? ⟨w.heap.size + 1,2,none⟩ = some (.slice none 0 0):=cell_of hfbk 2;have e3 : wg.cell? ⟨w.heap.size + 1,3,none⟩ = some (.int .i64 lw):=cell_of hfbk 3;have e4 : wg.cell? ⟨w.heap.size + 1,4,none⟩ = some (.int .i64 hw):=cell_of hfbk 4;have z0 : wg.cell? ⟨w.heap.size + 2,0,none⟩ = some (.string ⟨#[]⟩):=cell_of hrbk 0;have fz0:=frozen_of hrbk 0;have z1 : wg.cell? ⟨w.heap.size + 2,1,none⟩ = some (.string ⟨#[]⟩):=cell_of hrbk 1;have fz1:=frozen_of hrbk 1;have z2 : wg.cell? ⟨w.heap.size + 2,2,none⟩ = some (.slice none 0 0):=cell_of hrbk 2;have fz2:=frozen_of hrbk 2;have z3 : wg.cell? ⟨w.heap.size + 2,3,none⟩ = some (.int .i64 0):=cell_of hrbk 3;have fz3:=frozen_of hrbk 3;have z4 : wg.cell? ⟨w.heap.size + 2,4,none⟩ = some (.int .i64 0):=cell_of hrbk 4;have fz4:=frozen_of hrbk 4;have HRB:=zQ hrbk;clear hfbk hrbk;go_wp2_with fail;obtain ⟨W7,hW7⟩ : ∃ W7,W7 = (((((wg.setCell ⟨w.heap.size + 2,0,none⟩ (.string f.subject)).setCell ⟨w.heap.size + 2,1,none⟩ (.string f.attr)).setCell ⟨w.heap.size + 2,2,none⟩ (.slice none 0 0)).setCell ⟨w.heap.size + 2,3,none⟩ (.int .i64 lw)).setCell ⟨w.heap.size + 2,4,none⟩ (.int .i64 hw)):=⟨_,rfl⟩;have hb7 : W7.heap[w.heap.size + 2]? = some (.cells #[.string f.subject,.string f.attr,.slice none 0 0,.int .i64 lw,.int .i64 hw] 46 (0,0)):=by
       rw [hW7];simp only [zH,World.size_alloc,World.size_setCell];(repeat (first | rw [if_pos trivial] | rw [if_pos rfl] | rw [if_neg (by omega)] | rw [if_pos (by omega)]))
       rw [HRB.out];rfl
      have HX7 : Hid (Ext w W7):=by
       have hx5:=HX5.out;unfold Hid;rw [hW7];exact bel
      rw [← hW7];have y0 : W7.cell? ⟨w.heap.size + 2,0,none⟩ = some (.string f.subject):=cell_of hb7 0;have y1 : W7.cell? ⟨w.heap.size + 2,1,none⟩ = some (.string f.attr):=cell_of hb7 1;have y2 : W7.cell? ⟨w.heap.size + 2,2,none⟩ = some (.slice none 0 0):=cell_of hb7 2;have y3 : W7.cell? ⟨w.heap.size + 2,3,none⟩ = some (.int .i64 lw):=cell_of hb7 3;have y4 : W7.cell? ⟨w.heap.size + 2,4,none⟩ = some (.int .i64 hw):=cell_of hb7 4;clear hW7 z0 z1 z2 z3 z4 fz0 fz1 fz2 fz3 fz4;refine bodyPost_ret (v:=.tuple #[.agg #[.string f.subject,.string f.attr,.slice none 0 0,.int .i64 lw,.int .i64 hw],.bool true]) (by simp [results,Tryz.results11,go_sem,y0,y1,y2,y3,y4]) rfl ?_
      refine ⟨HX7.out,_,_,_,_,_,_,_,_,rfl,fun _=>⟨[],rfl,World.ownsRow_nil _ _ _ _,fun v hv=>(by cases hv),⟨HF.out.2.1,HF.out.2.2.1,hlw.out.2,hhw.out.2⟩,Nat.zero_le _,rfl,b,HBM.out,HBN.out,?_⟩⟩
      rw [HR.out];unfold inT;rw [if_pos (zN hz),Bool.and_eq_true,decide_eq_true_iff,decide_eq_true_iff];exact ⟨hlw.out.1,hhw.out.1⟩
   ·rcases hB with (rfl | ⟨rfl,rfl⟩) | ⟨rfl,rfl⟩
    iterate 2
     ·have hfx3 : ∃ lw hw : Int,Hid (lw ≤ r ∧ i64ok lw) ∧ Hid (r ≤ hw ∧ i64ok hw) ∧ Hid (FxS w w6 (w.heap.size + 1) f lw hw ((w6.setCell ⟨w.heap.size + 1,2,none⟩ (.slice none 0 0)).setCell ⟨w.heap.size + 1,4,none⟩ (.int .i64 r))):=⟨f.low,r,⟨HLOW.out rfl,hfl⟩,⟨Int.le_refl _,HRO.out⟩,(HFX.out.high (by omega) r)⟩
      go_upto_region 11 with fail
      generalize ((w6.setCell ⟨w.heap.size + 1,2,none⟩ (.slice none 0 0)).setCell ⟨w.heap.size + 1,4,none⟩ (.int .i64 r)) = wg at *
      obtain ⟨lw,hw,hlw,hhw,hfx3⟩:=hfx3;have HX5:=zQ hfx3.out.ext;have hfbk:=hfx3.out.blk;have hrbk:=(hfx3.out.rest (w.heap.size + 2) (by omega)).trans HR6.out
      clear e0 e1 e2 e3 e4 fe0 fe1 fe2 fe3 fe4 y1 y2 y3 hfx3;have e0 : wg.cell? ⟨w.heap.size + 1,0,none⟩ = some (.string f.subject):=cell_of hfbk 0;have e1 : wg.cell? ⟨w.heap.size + 1,1,none⟩ = some (.string f.attr):=cell_of hfbk 1;have e2 : wg.cell? ⟨w.heap.size + 1,2,none⟩ = some (.slice none 0 0):=cell_of hfbk 2;have e3 : wg.cell? ⟨w.heap.size + 1,3,none⟩ = some (.int .i64 lw):=cell_of hfbk 3;have e4 : wg.cell? ⟨w.heap.size + 1,4,none⟩ = some (.int .i64 hw):=cell_of hfbk 4;have z0 : wg.cell? ⟨w.heap.size + 2,0,none⟩ = some (.string ⟨#[]⟩):=cell_of hrbk 0;have fz0:=frozen_of hrbk 0;have z1 : wg.cell? ⟨w.heap.size + 2,1,none⟩ = some (.string ⟨#[]⟩):=cell_of hrbk 1;have fz1:=frozen_of hrbk 1;have z2 : wg.cell? ⟨w.heap.size + 2,2,none⟩ = some (.slice none 0 0):=cell_of hrbk 2;have fz2:=frozen_of hrbk 2;have z3 : wg.cell? ⟨w.heap.size + 2,3,none⟩ = some (.int .i64 0):=cell_of hrbk 3;have fz3:=frozen_of hrbk 3;have z4 : wg.cell? ⟨w.heap.size + 2,4,none⟩ = some (.int .i64 0):=cell_of hrbk 4;have fz4:=frozen_of hrbk 4;have HRB:=zQ hrbk;clear hfbk hrbk;go_wp2_with fail;obtain ⟨W7,hW7⟩ : ∃ W7,W7 = (((((wg.setCell ⟨w.heap.size + 2,0,none⟩ (.string f.subject)).setCell ⟨w.heap.size + 2,1,none⟩ (.string f.attr)).setCell ⟨w.heap.size + 2,2,none⟩ (.slice none 0 0)).setCell ⟨w.heap.size + 2,3,none⟩ (.int .i64 lw)).setCell ⟨w.heap.size + 2,4,none⟩ (.int .i64 hw)):=⟨_,rfl⟩;have hb7 : W7.heap[w.heap.size + 2]? = some (.cells #[.string f.subject,.string f.attr,.slice none 0 0,.int .i64 lw,.int .i64 hw] 46 (0,0)):=by
       rw [hW7];simp only [zH,World.size_alloc,World.size_setCell];(repeat (first | rw [if_pos trivial] | rw [if_pos rfl] | rw [if_neg (by omega)] | rw [if_pos (by omega)]))
       rw [HRB.out];rfl
      have HX7 : Hid (Ext w W7):=by
       have hx5:=HX5.out;unfold Hid;rw [hW7];exact bel
      rw [← hW7];have y0 : W7.cell? ⟨w.heap.size + 2,0,none⟩ = some (.string f.subject):=cell_of hb7 0;have y1 : W7.cell? ⟨w.heap.size + 2,1,none⟩ = some (.string f.attr):=cell_of hb7 1;have y2 : W7.cell? ⟨w.heap.size + 2,2,none⟩ = some (.slice none 0 0):=cell_of hb7 2;have y3 : W7.cell? ⟨w.heap.size + 2,3,none⟩ = some (.int .i64 lw):=cell_of hb7 3;have y4 : W7.cell? ⟨w.heap.size + 2,4,none⟩ = some (.int .i64 hw):=cell_of hb7 4;clear hW7 z0 z1 z2 z3 z4 fz0 fz1 fz2 fz3 fz4;refine bodyPost_ret (v:=.tuple #[.agg #[.string f.subject,.string f.attr,.slice none 0 0,.int .i64 lw,.int .i64 hw],.bool true]) (by simp [results,Tryz.results11,go_sem,y0,y1,y2,y3,y4]) rfl ?_
      refine ⟨HX7.out,_,_,_,_,_,_,_,_,rfl,fun _=>⟨[],rfl,World.ownsRow_nil _ _ _ _,fun v hv=>(by cases hv),⟨HF.out.2.1,HF.out.2.2.1,hlw.out.2,hhw.out.2⟩,Nat.zero_le _,rfl,b,HBM.out,HBN.out,?_⟩⟩
      rw [HR.out];unfold inT;rw [if_pos (zN hz),Bool.and_eq_true,decide_eq_true_iff,decide_eq_true_iff];exact ⟨hlw.out.1,hhw.out.1⟩
    ·have hfx3 : ∃ lw hw : Int,Hid (lw ≤ r ∧ i64ok lw) ∧ Hid (r ≤ hw ∧ i64ok hw) ∧ Hid (FxS w w6 (w.heap.size + 1) f lw hw (w6.setCell ⟨w.heap.size + 1,2,none⟩ (.slice none 0 0))):=⟨f.low,f.high,⟨HLOW.out rfl,hfl⟩,⟨HHIG.out rfl,hfh⟩,HFX.out⟩;go_upto_region 11 with fail
     generalize (w6.setCell ⟨w.heap.size + 1,2,none⟩ (.slice none 0 0)) = wg at *
     obtain ⟨lw,hw,hlw,hhw,hfx3⟩:=hfx3;have HX5:=zQ hfx3.out.ext;have hfbk:=hfx3.out.blk;have hrbk:=(hfx3.out.rest (w.heap.size + 2) (by omega)).trans HR6.out
     clear e0 e1 e2 e3 e4 fe0 fe1 fe2 fe3 fe4 y1 y2 y3 hfx3;have e0 : wg.cell? ⟨w.heap.size + 1,0,none⟩ = some (.string f.subject):=cell_of hfbk 0;have e1 : wg.cell? ⟨w.heap.size + 1,1,none⟩ = some (.string f.attr):=cell_of hfbk 1;have e2 : wg.cell? ⟨w.heap.size + 1,2,none⟩ = some (.slice none 0 0):=cell_of hfbk 2;have e3 : wg.cell? ⟨w.heap.size + 1,3,none⟩ = some (.int .i64 lw):=cell_of hfbk 3;have e4 : wg.cell? ⟨w.heap.size + 1,4,none⟩ = some (.int .i64 hw):=cell_of hfbk 4;have z0 : wg.cell? ⟨w.heap.size + 2,0,none⟩ = some (.string ⟨#[]⟩):=cell_of hrbk 0;have fz0:=frozen_of hrbk 0;have z1 : wg.cell? ⟨w.heap.size + 2,1,none⟩ = some (.string ⟨#[]⟩):=cell_of hrbk 1;have fz1:=frozen_of hrbk 1;have z2 : wg.cell? ⟨w.heap.size + 2,2,none⟩ = some (.slice none 0 0):=cell_of hrbk 2;have fz2:=frozen_of hrbk 2;have z3 : wg.cell? ⟨w.heap.size + 2,3,none⟩ = some (.int .i64 0):=cell_of hrbk 3;have fz3:=frozen_of hrbk 3;have z4 : wg.cell? ⟨w.heap.size + 2,4,none⟩ = some (.int .i64 0):=cell_of hrbk 4;have fz4:=frozen_of hrbk 4;have HRB:=zQ hrbk;clear hfbk hrbk;go_wp2_with fail;obtain ⟨W7,hW7⟩ : ∃ W7,W7 = (((((wg.setCell ⟨w.heap.size + 2,0,none⟩ (.string f.subject)).setCell ⟨w.heap.size + 2,1,none⟩ (.string f.attr)).setCell ⟨w.heap.size + 2,2,none⟩ (.slice none 0 0)).setCell ⟨w.heap.size + 2,3,none⟩ (.int .i64 lw)).setCell ⟨w.heap.size + 2,4,none⟩ (.int .i64 hw)):=⟨_,rfl⟩;have hb7 : W7.heap[w.heap.size + 2]? = some (.cells #[.string f.subject,.string f.attr,.slice none 0 0,.int .i64 lw,.int .i64 hw] 46 (0,0)):=by
      rw [hW7];simp only [zH,World.size_alloc,World.size_setCell];(repeat (first | rw [if_pos trivial] | rw [if_pos rfl] | rw [if_neg (by omega)] | rw [if_pos (by omega)]))
      rw [HRB.out];rfl
     have HX7 : Hid (Ext w W7):=by
      have hx5:=HX5.out;unfold Hid;rw [hW7];exact bel
     rw [← hW7];have y0 : W7.cell? ⟨w.heap.size + 2,0,none⟩ = some (.string f.subject):=cell_of hb7 0;have y1 : W7.cell? ⟨w.heap.size + 2,1,none⟩ = some (.string f.attr):=cell_of hb7 1;have y2 : W7.cell? ⟨w.heap.size + 2,2,none⟩ = some (.slice none 0 0):=cell_of hb7 2;have y3 : W7.cell? ⟨w.heap.size + 2,3,none⟩ = some (.int .i64 lw):=cell_of hb7 3;have y4 : W7.cell? ⟨w.heap.size + 2,4,none⟩ = some (.int .i64 hw):=cell_of hb7 4;clear hW7 z0 z1 z2 z3 z4 fz0 fz1 fz2 fz3 fz4;refine bodyPost_ret (v:=.tuple #[.agg #[.string f.subject,.string f.attr,.slice none 0 0,.int .i64 lw,.int .i64 hw],.bool true]) (by simp [results,Tryz.results11,go_sem,y0,y1,y2,y3,y4]) rfl ?_
     refine ⟨HX7.out,_,_,_,_,_,_,_,_,rfl,fun _=>⟨[],rfl,World.ownsRow_nil _ _ _ _,fun v hv=>(by cases hv),⟨HF.out.2.1,HF.out.2.2.1,hlw.out.2,hhw.out.2⟩,Nat.zero_le _,rfl,b,HBM.out,HBN.out,?_⟩⟩
     rw [HR.out];unfold inT;rw [if_pos (zN hz),Bool.and_eq_true,decide_eq_true_iff,decide_eq_true_iff];exact ⟨hlw.out.1,hhw.out.1⟩
  ·have hrb:=HRM.out.2 (fun e=>hz (by rw [e];rfl))
   obtain ⟨rn,rfl⟩ : ∃ rn : Nat,r = (rn : Int):=⟨r.toNat,by have:=hrb.1;omega⟩
   have hrl : rn < b.values.length:=by have:=hrb.2.1;omega
   obtain ⟨_,_,hqe,_,_,_,hqc⟩:=HST6.out.1;simp only [Value.slice.injEq,true_and] at hqe;obtain ⟨rfl,rfl⟩:=hqe;have HQC:=zQ hqc;obtain ⟨_,_,hpe,_,_,_,hpc⟩:=HF.out.1.1;simp only [Value.slice.injEq,true_and] at hpe;obtain ⟨rfl,rfl⟩:=hpe;have HPC:=zQ hpc;have hzb : ((b.values.length : Int) == 0) = false:=by rw [beq_eq_false_iff_ne];omega
   obtain ⟨W8,hW8⟩ : ∃ W8,W8 = w6.alloc (.cells #[] 9 (0,0)):=⟨_,rfl⟩;have hx8 : Ext w6 W8:=by rw [hW8];exact bel
   have hb8 : W8.heap[w6.heap.size]? = some (.cells #[] 9 (0,0)):=by rw [hW8];exact zG
   have hI8 : MvI w6 b rn 0 [] (.slice (some ⟨w6.heap.size,0,none⟩) 0 0) W8:=⟨hx8,⟨rfl,.inr ⟨w6.heap.size,0,#[],rfl,Nat.le_refl _,hb8,Nat.le_refl _,Nat.zero_le _,rfl,rfl⟩⟩,Nat.zero_le _,fun x hx=>(by cases hx),fun h=>absurd h (Nat.not_lt_zero _)⟩
   have HI8:=zQ hI8;have hlt6 : w.heap.size + 2 < w6.heap.size:=heap_lt HR6.out;clear hrb hqc hpc hx8 hb8 hI8 e0 e1 e2 e3 e4 fe0 fe1 fe2 fe3 fe4 y0 y2 y3 halo hahi hale hfl hfh;go_upto_region 13 with fail;rw [← hW8];clear hW8 y1;go_wp2_with fail;go_loopw [9,10] (fun v i wr=>∃ (j : Nat) (vs : List ByteArray),j ≤ b.values.length ∧ i = .int .i64 (j : Int) ∧ Hid (MvI w6 b rn j vs v wr)) (fun _ i _=>b.values.length - (intOf i).toNat)
   case atStart=>exact ⟨0,[],Nat.zero_le _,rfl,HI8.out⟩
   case round=>
    obtain ⟨j,vs,hj,rfl,hI⟩:=hrel;have y1 : wr.cell? ⟨w4.heap.size,1,none⟩ = some (.slice q b.values.length k):=hI.out.ext.cell' (cell_of HB6.out 1);by_cases hlt : j < b.values.length
    ·obtain ⟨tj,htj⟩ : ∃ tj,b.values[j]? = some tj:=⟨_,List.getElem?_eq_getElem hlt⟩;obtain ⟨qb,qoff,rfl,hqg⟩:=HQC.out j (.string tj) (by rw [List.getElem?_map,htj];rfl)
     have HTJ:=zQ htj;have HQG:=zQ (hI.out.ext.cell' hqg);have HY1:=zQ y1;obtain ⟨c0,hc0⟩ : ∃ c0,((j : Int) == (rn : Int)) = c0:=⟨_,rfl⟩;have HC0 : Hid (j = rn → c0 = true):=fun e=>by rw [← hc0,e];simp
     obtain ⟨vp,vc,rfl⟩:=owns_form hI.out.row;have HI:=zQ hI.out;have hx6r:=HX6.out.trans' hI.out.ext;have HXR:=zQ hx6r;have HFR:=zQ (hI.out.ext.obj HF6.out);obtain ⟨wo,rfl⟩ : ∃ wo,wo = wr:=⟨wr,rfl⟩;clear htj hqg hI hx6r;go_wp2_with fail;clear y1 hc0;go_loopw [11,12] (fun nb i wr=>∃ (m : Nat) (d : Bool),m ≤ f.values.length ∧ nb = .bool d ∧ i = .int .i64 (m : Int) ∧ Hid (c0 = true → d = true) ∧ Hid (Ext wo wr)) (fun _ i _=>f.values.length - (intOf i).toNat)
     case atStart=>exact ⟨0,c0,Nat.zero_le _,rfl,rfl,id,ext_refl _⟩
     case round=>
      obtain ⟨m,d,hm,rfl,rfl,hd,hx⟩:=hrel;have e2 : wr.cell? ⟨w.heap.size + 1,2,none⟩ = some (.slice p f.values.length c):=hx.out.cell' (cell_of HFR.out 2);by_cases hml : m < f.values.length
      ·obtain ⟨fv,hfv⟩ : ∃ fv,f.values[m]? = some fv:=⟨_,List.getElem?_eq_getElem hml⟩;obtain ⟨pb,poff,rfl,hpg⟩:=HPC.out m (.string fv) (by rw [List.getElem?_map,hfv];rfl)
       have HE2:=zQ e2;cases d with
       | true=>
        clear hpg hfv;go_upto_region 20 with fail;clear e2;refine Rt.wp_region_rt (by kernel_rfl) [0,1,2,3,4,5,6,7,8,9,10,11,12,13,14] [] [] [0,1,3,7,3,31,63,3,131,3,899,1923,4095,8191,16383] (by kernel_rfl) (fun _ W=>Ext wr W) ?_ ?_
        ·exact below_drawn (ext_refl _) _
        iterate 2 (refine Rt.zS fun K hK=>?_;go_simp;refine hK _ ?_;clear hK K)
        (iterate 11 ((refine Rt.rs_skip rfl rfl rfl ?_;simp only [Act.put,zP])));(iterate 2 (refine Rt.zS fun K hK=>?_;go_simp;refine hK _ ?_;clear hK K));refine Rt.rs_nil (fun W9 hI9=>?_)
        have HX9:=zQ (hx.out.trans' hI9);clear hI9;go_wp2_with fail;exact ⟨⟨m + 1,true,by omega,rfl,rfl,fun _=>rfl,HX9.out⟩,by simp [intOf];omega⟩
       | false=>
        obtain ⟨c1,hc1⟩ : ∃ c1,(fv.toList == tj.toList) = c1:=⟨_,rfl⟩;have HPG:=zQ ((HXR.out.trans' hx.out).cell' hpg);have HQGr:=zQ (hx.out.cell' HQG.out);have HY1r:=zQ (hx.out.cell' HY1.out);clear hpg hfv;go_upto_region 20 with fail;clear e2;refine Rt.wp_region_rt (by kernel_rfl) [0,1,2,3,4,5,6,7,8,9,10,11,12,13,14] [] [] [0,1,3,7,3,31,63,3,131,3,899,1923,4095,8191,16383] (by kernel_rfl) (fun _ W=>Ext wr W) ?_ ?_
        ·exact below_drawn (ext_refl _) _
        (iterate 3 (refine Rt.zS fun K hK=>?_;go_simp;refine hK _ ?_;clear hK K));(refine Rt.zR ?_;constructor;constructor;· (intro us' W hp hl hI;have g:=Ext.cell' hI HE2.out;go_simp;rfl));simp only [Act.put,zP];(refine Rt.zS fun K hK=>?_;go_simp;refine hK _ ?_;clear hK K);(refine Rt.zR ?_;constructor;constructor;· (intro us' W hp hl hI;skip;go_simp;rfl));simp only [Act.put,zP];(refine Rt.zR ?_;constructor;constructor;· (intro us' W hp hl hI;have g:=Ext.cell' hI HPG.out;go_simp;rfl));simp only [Act.put,zP];(refine Rt.zS fun K hK=>?_;go_simp;refine hK _ ?_;clear hK K);(refine Rt.zR ?_;constructor;constructor;· (intro us' W hp hl hI;have g:=Ext.cell' hI HY1r.out;go_simp;rfl));simp only [Act.put,zP];(refine Rt.zS fun K hK=>?_;go_simp;refine hK _ ?_;clear hK K);(refine Rt.zR ?_;constructor;constructor;· (intro us' W hp hl hI;skip;go_simp;rfl));simp only [Act.put,zP];(refine Rt.zR ?_;constructor;constructor;· (intro us' W hp hl hI;have g:=Ext.cell' hI HQGr.out;go_simp;rfl));simp only [Act.put,zP];(iterate 3 (refine Rt.zS fun K hK=>?_;go_simp;refine hK _ ?_;clear hK K));refine Rt.rs_nil (fun W9 hI9=>?_)
        have HX9:=zQ (hx.out.trans' hI9);clear hI9;go_wp2_with fail;exact ⟨⟨m + 1,c1,by omega,rfl,rfl,fun h=>absurd (hd.out h) Bool.false_ne_true,HX9.out⟩,by simp [intOf];omega⟩
      ·obtain rfl : m = f.values.length:=by omega
       have hIx:=HI.out.stay hx.out;cases d with
       | false=>
        have HN:=zQ (hIx.skip (fun e=>absurd (hd.out (HC0.out e)) Bool.false_ne_true))
        clear hIx;go_wp2_with fail;exact ⟨⟨j + 1,vs,by omega,rfl,HN.out⟩,by simp [intOf];omega⟩
       | true=>
        obtain ⟨W10,hW10⟩ : ∃ W10,W10 = wr.alloc (.cells #[.string tj] 9 (0,0)):=⟨_,rfl⟩;have hx10 : Ext wr W10:=by rw [hW10];exact bel
        have hb10 : W10.heap[wr.heap.size]? = some (.cells #[.string tj] 9 (0,0)):=by rw [hW10];exact zG
        have hI10:=hIx.stay hx10;have hl:=hI10.len;have hl8:=HAO.out.small;obtain ⟨v2,w11,happ,hrow11,hgrow,_⟩:=append_strs (row:=[.string tj]) hI10.row wr.heap.size 1 rfl (fun i u hu=>by rw [Nat.zero_add,cell_of hb10 i,List.getElem?_toArray];exact hu) (fun u hu=>by rw [List.mem_singleton.1 hu];rfl) (by omega) hI10.ext.size 1
        have hx11 : Ext w6 w11:=hI10.ext.grown hgrow hI10.ext.size fun i hi=>(owns_block hI10.row hi).1
        have HN:=zQ (hI10.put HTJ.out hx11 hrow11);have hy:=hx.out.cell' HY1.out;have hqg:=hx.out.cell' HQG.out;rw [hW10] at happ;have HAPP:=zQ happ;clear hIx hx10 hb10 hI10 hl hl8 happ hrow11 hgrow hx11 hW10;go_wp2_with (at_builtin;refine wpList_append_run rfl _ _ 26 rfl rfl rfl HAPP.out ?_)
        exact ⟨⟨j + 1,vs ++ [tj],by omega,rfl,HN.out⟩,by simp [intOf];omega⟩
    ·obtain rfl : j = b.values.length:=by omega
     obtain ⟨tv,htv,htm⟩:=hI.out.has hrl;obtain ⟨vp,vc,rfl⟩:=owns_form hI.out.row;have hf:=hI.out.ext.obj HF6.out;have hr:=hI.out.ext.obj HR6.out;obtain ⟨Wq,hWq⟩ : ∃ Wq,Wq = (((wr.setCell ⟨w.heap.size + 1,2,none⟩ (.slice vp vs.length vc)).setCell ⟨w.heap.size + 1,3,none⟩ (.int .i64 0)).setCell ⟨w.heap.size + 1,4,none⟩ (.int .i64 0)):=⟨_,rfl⟩;have hxr:=HX6.out.trans' hI.out.ext;have hxq : Ext w Wq:=by rw [hWq];exact bel
     have hfq : Wq.heap[w.heap.size + 1]? = some (.cells #[.string f.subject,.string f.attr,.slice vp vs.length vc,.int .i64 0,.int .i64 0] 46 (0,0)):=by
      rw [hWq];simp only [zH,World.size_alloc,World.size_setCell];(repeat (first | rw [if_pos trivial] | rw [if_pos rfl] | rw [if_neg (by omega)] | rw [if_pos (by omega)]));rw [hf];rfl
     have hrq : Wq.heap[w.heap.size + 2]? = some (.cells #[.string ⟨#[]⟩,.string ⟨#[]⟩,.slice none 0 0,.int .i64 0,.int .i64 0] 46 (0,0)):=by
      rw [hWq];simp only [zH,World.size_alloc,World.size_setCell];(repeat (first | rw [if_pos trivial] | rw [if_pos rfl] | rw [if_neg (by omega)] | rw [if_pos (by omega)]));exact hr
     have hrowq : Wq.ownsRow w6.heap.size 9 1 (.slice vp vs.length vc) vs.length (vs.map Value.string):=owns_keep hI.out.row fun g _ hge _=>by
      rw [hWq,heap_setCell_get,heap_setCell_get,heap_setCell_get,if_neg (by omega),if_neg (by omega),if_neg (by omega)]
     have HROW:=zQ hrowq;have HX5:=zQ hxq;have hsub : ∀ x ∈ vs,x.size ≤ maxLen:=fun x hx=>HST.out.2 x (hI.out.sub x hx)
     have HSUB:=zQ hsub;have HIN : Hid (inT b vs 0 0 (rn : Int) = true):=by
      unfold Hid inT;rw [if_neg (fun e=>hz (by rw [e];rfl)),decide_eq_true_iff,Int.toNat_natCast]
      exact ⟨tv,htm,htv⟩
     have HLEN : Hid (vs.length ≤ 8):=Nat.le_trans hI.out.len HAO.out.small;have fe2:=frozen_of hf 2;have fe3:=frozen_of hf 3;have fe4:=frozen_of hf 4;have e2:=cell_of hf 2;have e3:=cell_of hf 3;have e4:=cell_of hf 4;go_upto_region 24 with fail;rw [← hWq];clear hWq fe2 fe3 fe4 e2 e3 e4 hf hr hxr hxq hrowq hsub htv htm y1 hI;have e0 : Wq.cell? ⟨w.heap.size + 1,0,none⟩ = some (.string f.subject):=cell_of hfq 0;have e1 : Wq.cell? ⟨w.heap.size + 1,1,none⟩ = some (.string f.attr):=cell_of hfq 1;have e2 : Wq.cell? ⟨w.heap.size + 1,2,none⟩ = some (.slice vp vs.length vc):=cell_of hfq 2;have e3 : Wq.cell? ⟨w.heap.size + 1,3,none⟩ = some (.int .i64 0):=cell_of hfq 3;have e4 : Wq.cell? ⟨w.heap.size + 1,4,none⟩ = some (.int .i64 0):=cell_of hfq 4;have z0 : Wq.cell? ⟨w.heap.size + 2,0,none⟩ = some (.string ⟨#[]⟩):=cell_of hrq 0;have fz0:=frozen_of hrq 0;have z1 : Wq.cell? ⟨w.heap.size + 2,1,none⟩ = some (.string ⟨#[]⟩):=cell_of hrq 1;have fz1:=frozen_of hrq 1;have z2 : Wq.cell? ⟨w.heap.size + 2,2,none⟩ = some (.slice none 0 0):=cell_of hrq 2;have fz2:=frozen_of hrq 2;have z3 : Wq.cell? ⟨w.heap.size + 2,3,none⟩ = some (.int .i64 0):=cell_of hrq 3;have fz3:=frozen_of hrq 3;have z4 : Wq.cell? ⟨w.heap.size + 2,4,none⟩ = some (.int .i64 0):=cell_of hrq 4;have fz4:=frozen_of hrq 4;have HRB:=zQ hrq;clear hfq hrq;go_wp2_with fail;obtain ⟨W7,hW7⟩ : ∃ W7,W7 = (((((Wq.setCell ⟨w.heap.size + 2,0,none⟩ (.string f.subject)).setCell ⟨w.heap.size + 2,1,none⟩ (.string f.attr)).setCell ⟨w.heap.size + 2,2,none⟩ (.slice vp vs.length vc)).setCell ⟨w.heap.size + 2,3,none⟩ (.int .i64 0)).setCell ⟨w.heap.size + 2,4,none⟩ (.int .i64 0)):=⟨_,rfl⟩;have hb7 : W7.heap[w.heap.size + 2]? = some (.cells #[.string f.subject,.string f.attr,.slice vp vs.length vc,.int .i64 0,.int .i64 0] 46 (0,0)):=by
      rw [hW7];simp only [zH,World.size_alloc,World.size_setCell];(repeat (first | rw [if_pos trivial] | rw [if_pos rfl] | rw [if_neg (by omega)] | rw [if_pos (by omega)]))
      rw [HRB.out];rfl
     have HX7 : Hid (Ext w W7):=by
      have hx5:=HX5.out;unfold Hid;rw [hW7];exact bel
     have HB7 : Hid (∀ g,g ≠ w.heap.size + 2 → W7.heap[g]? = Wq.heap[g]?):=fun g hg=>by rw [hW7,heap_setCell_get,heap_setCell_get,heap_setCell_get,heap_setCell_get,heap_setCell_get,if_neg hg,if_neg hg,if_neg hg,if_neg hg,if_neg hg]
     rw [← hW7];have y0 : W7.cell? ⟨w.heap.size + 2,0,none⟩ = some (.string f.subject):=cell_of hb7 0;have y1 : W7.cell? ⟨w.heap.size + 2,1,none⟩ = some (.string f.attr):=cell_of hb7 1;have y2 : W7.cell? ⟨w.heap.size + 2,2,none⟩ = some (.slice vp vs.length vc):=cell_of hb7 2;have y3 : W7.cell? ⟨w.heap.size + 2,3,none⟩ = some (.int .i64 0):=cell_of hb7 3;have y4 : W7.cell? ⟨w.heap.size + 2,4,none⟩ = some (.int .i64 0):=cell_of hb7 4;clear hW7 z0 z1 z2 z3 z4 fz0 fz1 fz2 fz3 fz4;refine bodyPost_ret (v:=.tuple #[.agg #[.string f.subject,.string f.attr,.slice vp vs.length vc,.int .i64 0,.int .i64 0],.bool true]) (by simp [results,Tryz.results11,go_sem,y0,y1,y2,y3,y4]) rfl ?_
     refine ⟨HX7.out,_,_,_,_,_,_,_,_,rfl,fun _=>⟨vs,rfl,owns_mono (owns_keep HROW.out fun g _ hge _=>?_) (Nat.zero_le _),HSUB.out,⟨HF.out.2.1,HF.out.2.2.1,⟨by decide,by decide⟩,⟨by decide,by decide⟩⟩,HLEN.out,rfl,b,HBM.out,HBN.out,?_⟩⟩
     ·exact HB7.out g (by omega)
     ·rw [HR.out];exact HIN.out
end Go.Proofs.YtihfcjioilmmjaaGreat
namespace Go.Proofs.YtihfcjioilmmjaaGreat
open Go Go.RowKit
open Go.Lib Go.Proofs
def Tr (b : Nat) (cs : List Value) (W : World) : Prop:=W.heap[b]? = some (.cells cs.toArray 33 (0,0))
theorem Tr.ext {b : Nat} {cs : List Value} {W W' : World} (h : Tr b cs W) (hx : Ext W W') : Tr b cs W':=hx.obj h
theorem Tr.keep {b : Nat} {cs : List Value} {B : Nat} {W W' : World} (h : Tr b cs W) (hb : b < B) (hx : Keep B W W') : Tr b cs W':=hx.block b _ h (.inl hb)
theorem Tr.cell {b : Nat} {cs : List Value} {W : World} (h : Tr b cs W) (j : Nat) : W.cell? ⟨b,j,none⟩ = cs[j]?:=by
 rw [cell_of h,List.getElem?_toArray]
def truL (sp : Option Addr) (sn sc : Nat) (seed : Int) (fp : Option Addr) (fn fc : Nat) (zp : Option Addr) (zn zc : Nat) (o : Int) (at_ : ByteArray) (p : Option Addr) (n c : Nat) (l h : Int) (p2 : Option Addr) (n2 c2 : Nat) (p6 : Option Addr) (n6 c6 : Nat) : List Value:=
 [.slice sp sn sc,.int .u32 seed,.slice fp fn fc,.slice zp zn zc,.int .u8 o,.string at_,.slice p n c,.int .i64 l,.int .i64 h,.slice p2 n2 c2,.slice p6 n6 c6]
theorem KnJ.done {wr : World} {D : Bool → Int → Prop} {b : Nat} {p1 : Option Addr} {n1 c1 : Nat} {lo hi : Int} {p2 : Option Addr} {n2 c2 : Nat} {d : Bool} {er : Int} {v : Value} {W : World} (h : KnJ wr D (some (.pointer (some ⟨b,0,none⟩))) ([] ++ [.tuple #[.agg #[.slice p1 n1 c1,.int .i64 lo,.int .i64 hi,.slice p2 n2 c2,.bool d],.int .i64 er]] ++ [v]) W) :
  Ext wr W ∧ D d er ∧ W.heap[b]? = some (.cells #[.slice p1 n1 c1,.int .i64 lo,.int .i64 hi,.slice p2 n2 c2,.bool d] 52 (0,0)):=by
 obtain ⟨hx,b',q1,m1,k1,lo',hi',q2,m2,k2,d',er',e1,e2,hd,_,hb⟩:=h;simp only [Option.some.injEq,Value.pointer.injEq,Addr.mk.injEq,and_true] at e1;subst e1;simp only [Value.tuple.injEq,Array.mk.injEq,List.cons.injEq,Value.agg.injEq,Value.bool.injEq,Value.int.injEq,Value.slice.injEq,and_true,true_and] at e2;obtain ⟨⟨⟨rfl,rfl,rfl⟩,rfl,rfl,⟨rfl,rfl,rfl⟩,rfl⟩,rfl⟩:=e2;exact ⟨hx,hd,hb⟩
def fcZero : Array Value:=#[.string ⟨#[]⟩,.string ⟨#[]⟩,.slice none 0 0,.int .i64 0,.int .i64 0]
def MdJ (schema : List Attr) (seed : Int) (f : Fct) (wr : World) (fo : Option Value) (us : List Value) (W : World) : Prop:=
 Ext wr W ∧ match us with
 | []=>∀ v,fo = some v → ∃ b,v = .pointer (some ⟨b,0,none⟩) ∧ wr.heap.size ≤ b ∧ W.heap[b]? = some (.cells fcZero 46 (0,0))
 | [u]=>(∀ v,fo = some v → ∃ b,v = .pointer (some ⟨b,0,none⟩) ∧ wr.heap.size ≤ b ∧ W.heap[b]? = some (.cells fcZero 46 (0,0))) ∧
  ∃ (s t : ByteArray) (p : Option Addr) (n c : Nat) (lo hi : Int) (d : Bool),u = .tuple #[.agg #[.string s,.string t,.slice p n c,.int .i64 lo,.int .i64 hi],.bool d] ∧ MadeD schema seed f W s t p n c lo hi d
 | u :: _ :: _=>∃ (b : Nat) (s t : ByteArray) (p : Option Addr) (n c : Nat) (lo hi : Int) (d : Bool),fo = some (.pointer (some ⟨b,0,none⟩)) ∧ u = .tuple #[.agg #[.string s,.string t,.slice p n c,.int .i64 lo,.int .i64 hi],.bool d] ∧ MadeD schema seed f W s t p n c lo hi d ∧ wr.heap.size ≤ b ∧ W.heap[b]? = some (.cells #[.string s,.string t,.slice p n c,.int .i64 lo,.int .i64 hi] 46 (0,0))
section
variable {schema : List Attr} {seed : Int} {f : Fct}
theorem MdJ.ptr {wr : World} {v : Value} {us : List Value} {W : World} (h : MdJ schema seed f wr (some v) us W) : ∃ b,v = .pointer (some ⟨b,0,none⟩) ∧ wr.heap.size ≤ b:=by
 obtain ⟨_,h⟩:=h
 match us,h with
 | [],h=>obtain ⟨b,h1,h2,_⟩:=h v rfl;exact ⟨b,h1,h2⟩
 | [_],h=>obtain ⟨b,h1,h2,_⟩:=h.1 v rfl;exact ⟨b,h1,h2⟩
 | _ :: _ :: _,h=>obtain ⟨b,_,_,_,_,_,_,_,_,h1,_,_,h2,_⟩:=h;exact ⟨b,zI h1,h2⟩
theorem MdJ.float {wr : World} {us : List Value} {W : World} (h : MdJ schema seed f wr none us W) : MdJ schema seed f wr (some (.pointer (some ⟨W.heap.size,0,none⟩))) us (W.alloc (.cells fcZero 46 (0,0))):=by
 have hx : Ext W (W.alloc (.cells fcZero 46 (0,0))):=by exact bel
 have hb : (W.alloc (.cells fcZero 46 (0,0))).heap[W.heap.size]? = some (.cells fcZero 46 (0,0)):=by simp only [zH,World.size_alloc,World.size_setCell];(repeat (first | rw [if_pos trivial] | rw [if_pos rfl] | rw [if_neg (by omega)] | rw [if_pos (by omega)]))
 obtain ⟨h0,h⟩:=h;refine ⟨h0.trans' hx,?_⟩
 match us,h with
 | [],_=>exact fun v hv=>⟨W.heap.size,(zI hv).symm,h0.size,hb⟩
 | [_],h=>
  obtain ⟨_,s,t,p,n,c,lo,hi,d,e,h2⟩:=h;exact ⟨fun v hv=>⟨W.heap.size,(zI hv).symm,h0.size,hb⟩,s,t,p,n,c,lo,hi,d,e,h2.stay (.ext hx)⟩
 | _ :: _ :: _,h=>obtain ⟨b,_,_,_,_,_,_,_,_,h1,_⟩:=h;cases h1
theorem MdJ.call {wr : World} {fo : Option Value} {W W' : World} (h : MdJ schema seed f wr fo [] W) (hx : Ext W W') {s t : ByteArray} {p : Option Addr} {n c : Nat} {lo hi : Int} {d : Bool} (hd : MadeD schema seed f W' s t p n c lo hi d) : MdJ schema seed f wr fo [.tuple #[.agg #[.string s,.string t,.slice p n c,.int .i64 lo,.int .i64 hi],.bool d]] W':=
 ⟨h.1.trans' hx,fun v hv=>let ⟨b,h1,h2,h3⟩:=h.2 v hv;⟨b,h1,h2,hx.obj h3⟩,s,t,p,n,c,lo,hi,d,rfl,hd⟩
theorem MdJ.form {wr : World} {fo : Option Value} {u : Value} {W : World} (h : MdJ schema seed f wr fo ([] ++ [u]) W) : ∃ (s t : ByteArray) (p : Option Addr) (n c : Nat) (lo hi : Int) (d : Bool),u = .tuple #[.agg #[.string s,.string t,.slice p n c,.int .i64 lo,.int .i64 hi],.bool d]:=by
 obtain ⟨_,_,s,t,p,n,c,lo,hi,d,e,_⟩:=h;exact ⟨s,t,p,n,c,lo,hi,d,e⟩
theorem MdJ.zero {wr : World} {b : Nat} {u : Value} {W : World} (h : MdJ schema seed f wr (some (.pointer (some ⟨b,0,none⟩))) [u] W) : W.heap[b]? = some (.cells fcZero 46 (0,0)):=by
 obtain ⟨b',e,_,h2⟩:=h.2.1 _ rfl;simp only [Value.pointer.injEq,Option.some.injEq,Addr.mk.injEq,and_true] at e;rw [e];exact h2
theorem MdJ.store {wr : World} {b : Nat} {s t : ByteArray} {p : Option Addr} {n c : Nat} {lo hi : Int} {d : Bool} {W : World} (h : MdJ schema seed f wr (some (.pointer (some ⟨b,0,none⟩))) [.tuple #[.agg #[.string s,.string t,.slice p n c,.int .i64 lo,.int .i64 hi],.bool d]] W) (v : Value) :
  MdJ schema seed f wr (some (.pointer (some ⟨b,0,none⟩))) [.tuple #[.agg #[.string s,.string t,.slice p n c,.int .i64 lo,.int .i64 hi],.bool d],v]
   (((((W.setCell ⟨b,0,none⟩ (.string s)).setCell ⟨b,1,none⟩ (.string t)).setCell ⟨b,2,none⟩ (.slice p n c)).setCell ⟨b,3,none⟩ (.int .i64 lo)).setCell ⟨b,4,none⟩ (.int .i64 hi)):=by
 obtain ⟨b',e,hb,_⟩:=h.2.1 _ rfl;simp only [Value.pointer.injEq,Option.some.injEq,Addr.mk.injEq,and_true] at e;subst e;have hz:=h.zero;obtain ⟨hx,_,s',t',p',n',c',lo',hi',d',e2,hd⟩:=h;simp only [Value.tuple.injEq,Array.mk.injEq,List.cons.injEq,Value.agg.injEq,Value.bool.injEq,Value.int.injEq,Value.string.injEq,Value.slice.injEq,and_true,true_and] at e2;obtain ⟨⟨rfl,rfl,⟨rfl,rfl,rfl⟩,rfl,rfl⟩,rfl⟩:=e2;obtain ⟨W',hW'⟩ : ∃ W',W' = (((((W.setCell ⟨b,0,none⟩ (.string s)).setCell ⟨b,1,none⟩ (.string t)).setCell ⟨b,2,none⟩ (.slice p n c)).setCell ⟨b,3,none⟩ (.int .i64 lo)).setCell ⟨b,4,none⟩ (.int .i64 hi)):=⟨_,rfl⟩;have hst : Stay46 W W':=fun g cs T fr hg hT=>by
  have hne : g ≠ b:=fun e=>by
   rw [e,hz] at hg
   injection hg with hg
   injection hg with _ h2 _
   exact hT h2.symm
  rw [hW'];simp only [heap_setCell_get,if_neg hne]
 rw [← hW'];refine ⟨by rw [hW'];exact bel,b,s,t,p,n,c,lo,hi,d,rfl,rfl,hd.stay hst,hb,?_⟩
 rw [hW'];simp only [zH,World.size_alloc,World.size_setCell];(repeat (first | rw [if_pos trivial] | rw [if_pos rfl] | rw [if_neg (by omega)] | rw [if_pos (by omega)]))
 rw [hz];rfl
theorem MdJ.done {wr : World} {b : Nat} {s t : ByteArray} {p : Option Addr} {n c : Nat} {lo hi : Int} {d : Bool} {v : Value} {W : World} (h : MdJ schema seed f wr (some (.pointer (some ⟨b,0,none⟩))) ([] ++ [.tuple #[.agg #[.string s,.string t,.slice p n c,.int .i64 lo,.int .i64 hi],.bool d]] ++ [v]) W) :
  Ext wr W ∧ MadeD schema seed f W s t p n c lo hi d ∧ W.heap[b]? = some (.cells #[.string s,.string t,.slice p n c,.int .i64 lo,.int .i64 hi] 46 (0,0)):=by
 obtain ⟨hx,b',s',t',p',n',c',lo',hi',d',e1,e2,hd,_,hb⟩:=h;simp only [Option.some.injEq,Value.pointer.injEq,Addr.mk.injEq,and_true] at e1;subst e1;simp only [Value.tuple.injEq,Array.mk.injEq,List.cons.injEq,Value.agg.injEq,Value.bool.injEq,Value.int.injEq,Value.string.injEq,Value.slice.injEq,and_true,true_and] at e2;obtain ⟨⟨rfl,rfl,⟨rfl,rfl,rfl⟩,rfl,rfl⟩,rfl⟩:=e2;exact ⟨hx,hd,hb⟩
end
structure MdI (N : Nat) (w : World) (schema : List Attr) (seed : Int) (L : List Fct) (v : Value) (vs : List Value) (wr : World) : Prop where
 ext : Ext w wr
 len : vs.length = L.length
 rows : wr.ownsRow N 46 5 v L.length ((L.zip vs).flatMap fun x=>factCells x.1 x.2)
 vals : ∀ x ∈ L.zip vs,wr.ownsRow 0 9 1 x.2 x.1.values.length (x.1.values.map Value.string)
 good : ∀ f ∈ L,(∀ v ∈ f.values,v.size ≤ maxLen) ∧ f.subject.size ≤ maxLen ∧ f.attr.size ≤ maxLen ∧ i64ok f.low ∧ i64ok f.high
 true_ : ∀ f ∈ L,FactBig f ∧ f.subject.size ≤ 60 ∧ ∃ a ∈ schema,a.name = f.attr ∧ inT a f.values f.low f.high (realF seed f.subject a) = true
theorem MdI.facts {N : Nat} {w : World} {schema : List Attr} {seed : Int} {L : List Fct} {v : Value} {vs : List Value} {wr : World} (h : MdI N w schema seed L v vs wr) : FactsAt wr v L:=⟨vs,h.len,SlAt.of_owns h.rows,fun x hx=>
 have hg:=h.good x.1 (List.of_mem_zip (show (x.1,x.2) ∈ L.zip vs from hx)).1
 ⟨⟨SlAt.of_owns (h.vals x hx),hg.1⟩,hg.2⟩⟩
theorem MdI.stay {N : Nat} {w : World} {schema : List Attr} {seed : Int} {L : List Fct} {v : Value} {vs : List Value} {wr W : World} (h : MdI N w schema seed L v vs wr) (hx : Ext wr W) : MdI N w schema seed L v vs W:=
 ⟨h.ext.trans' hx,h.len,owns_keep h.rows fun g _ _ hg=>hx.block g (heap_lt hg),fun x hm=>owns_keep (h.vals x hm) fun g _ _ hg=>hx.block g (heap_lt hg),h.good,h.true_⟩
theorem MdI.snoc {N : Nat} {w : World} {schema : List Attr} {seed : Int} {L : List Fct} {v : Value} {vs : List Value} {wr W : World} (h : MdI N w schema seed L v vs wr) {f : Fct} {p : Option Addr} {c : Nat} (hval : wr.ownsRow 0 9 1 (.slice p f.values.length c) f.values.length (f.values.map Value.string)) (hgood : (∀ v ∈ f.values,v.size ≤ maxLen) ∧ f.subject.size ≤ maxLen ∧ f.attr.size ≤ maxLen ∧ i64ok f.low ∧ i64ok f.high)
  (htrue : FactBig f ∧ f.subject.size ≤ 60 ∧ ∃ a ∈ schema,a.name = f.attr ∧ inT a f.values f.low f.high (realF seed f.subject a) = true) {v' : Value} (hrow : W.ownsRow N 46 5 v' (L.length + 1) (((L.zip vs).flatMap fun x=>factCells x.1 x.2) ++ [.string f.subject,.string f.attr,.slice p f.values.length c,.int .i64 f.low,.int .i64 f.high])) (hfr : Frm 46 wr W) (hx : Ext w W) : MdI N w schema seed (L ++ [f]) v' (vs ++ [.slice p f.values.length c]) W:=by
 have hzip : (L ++ [f]).zip (vs ++ [.slice p f.values.length c]) = L.zip vs ++ [(f,.slice p f.values.length c)]:=by rw [List.zip_append h.len.symm];rfl
 refine ⟨hx,by simp [h.len],?_,fun x hm=>?_,fun g hg=>?_,fun g hg=>?_⟩
 ·rw [hzip,List.flatMap_append,List.length_append];exact hrow
 ·rw [hzip] at hm;rcases List.mem_append.1 hm with hm | hm
  ·exact hfr.owns (h.vals x hm) (by decide)
  ·rw [List.mem_singleton.1 hm];exact hfr.owns hval (by decide)
 ·rcases List.mem_append.1 hg with hg | hg
  ·exact h.good g hg
  ·rw [List.mem_singleton.1 hg];exact hgood
 ·rcases List.mem_append.1 hg with hg | hg
  ·exact h.true_ g hg
  ·rw [List.mem_singleton.1 hg];exact htrue
structure NmI (w : World) (tb : Nat) (cs : List Value) (B rb cm : Nat) (cols : List (Attr × Nat)) (seed : Int) (iw : Nat) (R : Rec) (wr : World) : Prop where
 ext : Ext w wr
 tr : Tr tb cs wr
 reco : ∃ vv fv os xs,RecAt B wr rb R cm vv fv os xs
 nowd : NoWd R
 colsE : R.cols = cols
 ver : ∃ vW,R.vers[iw]? = some vW ∧ TrueK (sigF cols seed) (heldF R vW)
theorem NmI.stay {w : World} {tb : Nat} {cs : List Value} {B rb cm : Nat} {cols : List (Attr × Nat)} {seed : Int} {iw : Nat} {R : Rec} {wr W : World} (h : NmI w tb cs B rb cm cols seed iw R wr) (hx : Ext wr W) : NmI w tb cs B rb cm cols seed iw R W:=
 {ext:=h.ext.trans' hx,tr:=h.tr.ext hx,reco:=let ⟨_,_,_,_,k⟩:=h.reco;⟨_,_,_,_,k.ext hx⟩,nowd:=h.nowd,colsE:=h.colsE,ver:=h.ver }
theorem NmI.facts {w : World} {tb : Nat} {cs : List Value} {B rb cm : Nat} {cols : List (Attr × Nat)} {seed : Int} {iw : Nat} {R : Rec} {wr : World} (h : NmI w tb cs B rb cm cols seed iw R wr) {v : Ver} (hv : v ∈ R.vers) : ∀ y ∈ heldF R v,(y.2.attr,y.2.col) ∈ R.cols:=fun y hy=>
 let ⟨_,_,_,_,k⟩:=h.reco;(k.ok.fact _ (heldF_mem k.ok hv hy)).1
theorem NmI.commit {w : World} {tb : Nat} {cs : List Value} {B rb cm : Nat} {cols : List (Attr × Nat)} {seed : Int} {iw : Nat} {R : Rec} {wr W : World} (h : NmI w tb cs B rb cm cols seed iw R wr) (hw : w.heap.size ≤ B) (htb : tb < B) {f : Fct} {frs : List FR} {la lw : List (Int × Value)} (hC : ComOk R [(iw : Int)] [f] [] frs la lw) {v' f' : Value} {os' : List (Option Nat × Option Nat)} {xs' : List (List Value)} (hR : RecAt B W rb (commitR R frs la lw) cm v' f' os' xs') (hK : Keep B wr W) :
  NmI w tb cs B rb cm cols seed iw (commitR R frs la lw) W ∧ ((∀ x : FR,frs = [x] → doubtK (heldF (commitR R frs la lw) ⟨la,lw⟩) (keyOf x) = true) → NmI w tb cs B rb cm cols seed R.vers.length (commitR R frs la lw) W):=by
 obtain ⟨vW,h2,h3⟩:=h.ver;obtain ⟨_,_,_,_,hrec⟩:=h.reco;have hWm:=zM h2;have e2 : heldF (commitR R frs la lw) vW = heldF R vW:=held_old hWm h.nowd hrec.ok;have g2 : (commitR R frs la lw).vers[iw]? = some vW:=by
  show (R.vers ++ _)[iw]? = _
  rw [List.getElem?_append_left (List.getElem?_eq_some_iff.1 h2).1];exact h2
 have hxW : Ext w W:=ext_keep h.ext hw hK;have hcols : (commitR R frs la lw).cols = cols:=h.colsE;refine ⟨{ ext:=hxW,tr:=h.tr.keep htb hK,reco:=⟨_,_,_,_,hR⟩,nowd:=h.nowd.commit hC,colsE:=hcols,ver:=⟨vW,g2,by rw [e2];exact h3⟩ },fun hd=>?_⟩
 obtain ⟨x,hx,rfl⟩:=rowsF_one hC.rows;have hch:=child_held hC h2 h.nowd hrec.ok hR.ok;have hnum : numF R.facts.length [x] = [((R.facts.length : Int) + 1,x)]:=rfl;rw [hnum] at hch;have hdd:=hd x rfl;refine { ext:=hxW,tr:=h.tr.keep htb hK,reco:=⟨_,_,_,_,hR⟩,nowd:=h.nowd.commit hC,colsE:=hcols,ver:=⟨⟨la,lw⟩,?_,?_⟩ }
 ·show (R.vers ++ _)[R.vers.length]? = _
  simp
 ·rw [hch] at hdd ⊢
  exact h3.snoc hdd
end Go.Proofs.YtihfcjioilmmjaaGreat
namespace Go.Proofs.YtihfcjioilmmjaaGreat
open Go Go.RowKit
open Go.Lib Go.Proofs
theorem kid_cells {w : World} {kp : Option Addr} {css : List (List Value)} (h6 : ∀ c ∈ css,c.length = 6) (hc : ∀ (j : Nat) u,css.flatten[j]? = some u → ∃ b off,kp = some ⟨b,off,none⟩ ∧ w.cell? ⟨b,off + j,none⟩ = some u) {j : Nat} {v0 v1 v2 v3 v4 v5 : Value} (hj : css[j]? = some [v0,v1,v2,v3,v4,v5]) :
  ∃ kb koff,kp = some ⟨kb,koff,none⟩ ∧ w.cell? ⟨kb,koff + j * 6,none⟩ = some v0 ∧ w.cell? ⟨kb,koff + j * 6 + 1,none⟩ = some v1 ∧ w.cell? ⟨kb,koff + j * 6 + 2,none⟩ = some v2 ∧ w.cell? ⟨kb,koff + j * 6 + 3,none⟩ = some v3 ∧ w.cell? ⟨kb,koff + j * 6 + 4,none⟩ = some v4 ∧ w.cell? ⟨kb,koff + j * 6 + 5,none⟩ = some v5:=by
 have hcell : ∀ (q : Nat) (u : Value),([v0,v1,v2,v3,v4,v5] : List Value)[q]? = some u → ∃ b off,kp = some ⟨b,off,none⟩ ∧ w.cell? ⟨b,off + (j * 6 + q),none⟩ = some u:=fun q u hu=>by
  have hq : q < 6:=(List.getElem?_eq_some_iff.1 hu).1;have h2:=flatten_get 6 css h6 j q _ hj hq;rw [hu] at h2;exact hc _ u h2
 obtain ⟨kb,koff,rfl,hc0⟩:=hcell 0 v0 rfl;have hcell' : ∀ (q : Nat) (u : Value),([v0,v1,v2,v3,v4,v5] : List Value)[q]? = some u → w.cell? ⟨kb,koff + (j * 6 + q),none⟩ = some u:=fun q u hu=>by
  obtain ⟨b,off,e,hc⟩:=hcell q u hu;simp only [Option.some.injEq,Addr.mk.injEq] at e;obtain ⟨rfl,rfl,_⟩:=e;exact hc
 exact ⟨kb,koff,rfl,hcell' 0 _ rfl,hcell' 1 _ rfl,hcell' 2 _ rfl,hcell' 3 _ rfl,hcell' 4 _ rfl,hcell' 5 _ rfl⟩
theorem all_at {bs : List Bool} {j : Nat} {b : Bool} (hb : bs[j]? = some b) : (bs.take (j + 1)).all id = ((bs.take j).all id && b):=by
 rw [List.take_add_one,hb,List.all_append];simp
theorem any_at {bs : List Bool} {j : Nat} {b : Bool} (hb : bs[j]? = some b) : (bs.take (j + 1)).any id = ((bs.take j).any id || b):=by
 rw [List.take_add_one,hb,List.any_append];simp
theorem all_bad {bs : List Bool} {j : Nat} (hb : bs[j]? = some false) : bs.all id = false:=by
 rw [List.all_eq_false];exact ⟨false,zM hb,Bool.false_ne_true⟩
theorem any_good {bs : List Bool} {j : Nat} (hb : bs[j]? = some true) : bs.any id = true:=by
 rw [List.any_eq_true];exact ⟨true,zM hb,rfl⟩
theorem truly_node {w : World} (sp : Option Addr) (sn sc : Nat) (seed : Int) (r0 r1 r2 r3 r4 r5 r6 r7 r8 : Value) (s : ByteArray) (op : Int) (attr : ByteArray) (vp : Option Addr) (vn vc : Nat) (lo hi : Int) (kp : Option Addr) (kn kc : Nat) (css : List (List Value)) (hlen : css.length = kn)
  (hkc : ∀ (j : Nat) u,css.flatten[j]? = some u → ∃ b off,kp = some ⟨b,off,none⟩ ∧ w.cell? ⟨b,off + j,none⟩ = some u) (hkm : kn ≤ maxLen) (h6 : ∀ c ∈ css,c.length = 6) (hform : ∀ c ∈ css,∃ o at_ p n c' l h p2 n2 c2,c = [.int .u8 o,.string at_,.slice p n c',.int .i64 l,.int .i64 h,.slice p2 n2 c2]) (bs : List Bool) (hbl : bs.length = kn) (res : Bool)
  (hres : (op = 2 ∧ ∃ b,bs = [b] ∧ res = !b) ∨ (op = 3 ∧ res = bs.all id) ∨ (op = 4 ∧ res = bs.any id))
  (hih : ∀ (i : Nat) c b W,css[i]? = some c → bs[i]? = some b → Ext w W → Calls Tryz.prog 50 #[.agg #[.slice sp sn sc,.int .u32 seed,r0,r1,r2,r3,r4,r5,r6,r7,r8],.agg c.toArray,.string s] W fun e W'=>Ext W W' ∧ e = .returned (.bool b)) :
  Calls Tryz.prog 50 #[.agg #[.slice sp sn sc,.int .u32 seed,r0,r1,r2,r3,r4,r5,r6,r7,r8],.agg #[.int .u8 op,.string attr,.slice vp vn vc,.int .i64 lo,.int .i64 hi,.slice kp kn kc],.string s] w fun e W=>Ext w W ∧ e = .returned (.bool res):=by
 unfold maxLen at hkm;obtain ⟨W1,hW1⟩ : ∃ W1,W1 = w.alloc (.cells #[.slice sp sn sc,.int .u32 seed,r0,r1,r2,r3,r4,r5,r6,r7,r8] 33 (0,0)):=⟨_,rfl⟩;obtain ⟨W2,hW2⟩ : ∃ W2,W2 = W1.alloc (.cells #[.int .u8 op,.string attr,.slice vp vn vc,.int .i64 lo,.int .i64 hi,.slice kp kn kc] 29 (0,0)):=⟨_,rfl⟩;have hs1 : W1.heap.size = w.heap.size + 1:=by rw [hW1];simp
 have hb1 : W1.heap[w.heap.size]? = some (.cells #[.slice sp sn sc,.int .u32 seed,r0,r1,r2,r3,r4,r5,r6,r7,r8] 33 (0,0)):=by rw [hW1];exact zG
 have hb2 : W2.heap[w.heap.size + 1]? = some (.cells #[.int .u8 op,.string attr,.slice vp vn vc,.int .i64 lo,.int .i64 hi,.slice kp kn kc] 29 (0,0)):=by rw [← hs1,hW2];exact zG
 have hx1 : Ext w W1:=by rw [hW1];exact bel
 have hx2 : Ext W1 W2:=by rw [hW2];exact bel
 have hb1':=hx2.obj hb1;have hxx:=hx1.trans' hx2;have x0 : W2.cell? ⟨w.heap.size + 1,0,none⟩ = some (.int .u8 op):=cell_of hb2 0;have HB1:=zQ hb1';have HB2:=zQ hb2;have HX:=zQ hxx;have HLEN:=zQ hlen;have HBL:=zQ hbl;have HKC:=zQ hkc;have H6:=zQ h6;have HFORM:=zQ hform;have HIH:=zQ hih;clear hs1 hb1 hb2 hx1 hx2 hb1' hxx hlen hbl hkc h6 hform hih;go_enter Tryz.func50,Tryz.ntmps50;go_upto_region 1 with fail;rw [← hW1,← hW2];clear hW1 hW2;rcases hres with ⟨rfl,b0,hb0,rfl⟩ | ⟨rfl,hre⟩ | ⟨rfl,hre⟩
 ·have h0 : 0 < kn:=by rw [← HBL.out,hb0];exact Nat.one_pos
  have HB0:=zQ hb0;clear hb0;obtain ⟨wr,rfl⟩ : ∃ wr,wr = W2:=⟨_,rfl⟩;have hx : Hid (Ext wr wr):=ext_refl _;obtain ⟨bk,hbk⟩ : ∃ bk,bs[0]? = some bk:=⟨_,List.getElem?_eq_getElem (by rw [HBL.out];exact h0)⟩
  obtain ⟨cs,hcj⟩ : ∃ cs,css[0]? = some cs:=⟨_,List.getElem?_eq_getElem (by rw [HLEN.out];exact h0)⟩
  obtain ⟨yo,ya,yp,yn,yc,yl,yh,zp,zn,zc,rfl⟩:=HFORM.out cs (zM hcj);obtain ⟨kb,koff,rfl,hg0,hg1,hg2,hg3,hg4,hg5⟩:=kid_cells H6.out HKC.out hcj;have hxr:=HX.out.trans' hx.out;have hask:=fun W (hW : Ext wr W)=>HIH.out 0 _ bk W hcj hbk (hxr.trans' hW)
  have HASK:=zQ hask;have HBK:=zQ hbk;have HB1r:=zQ (hx.out.obj HB1.out);have HB2r:=zQ (hx.out.obj HB2.out);have HG0:=zQ (hxr.cell' hg0);have HG1:=zQ (hxr.cell' hg1);have HG2:=zQ (hxr.cell' hg2);have HG3:=zQ (hxr.cell' hg3);have HG4:=zQ (hxr.cell' hg4);have HG5:=zQ (hxr.cell' hg5);clear hcj hbk hask hxr hg0 hg1 hg2 hg3 hg4 hg5;obtain rfl : bk = b0:=by have:=HBK.out;rw [HB0.out] at this;simpa using this.symm
  simp only [Nat.zero_mul,Nat.add_zero] at HG0 HG1 HG2 HG3 HG4 HG5;go_upto_region 14 with fail;clear x0;refine Rt.wp_region_rt (by kernel_rfl) [0,1,2,3,4,5,6,7,8] [6] [0,0,0,0,0,0] [0,0,2,6,14,0,63,127,255] (by kernel_rfl) (fun us W=>Ext wr W ∧ (us = [] ∨ us = [.bool bk])) ?_ ?_
  ·exact ⟨below_drawn (ext_refl _) _,.inl rfl⟩
  (refine Rt.zR ?_;constructor;constructor;· (intro us' W hp hl hI;have hE:=hI.1;have d0:=hE.cell' (cell_of HB1r.out 0);have d1:=hE.cell' (cell_of HB1r.out 1);have d2:=hE.cell' (cell_of HB1r.out 2);have d3:=hE.cell' (cell_of HB1r.out 3);have d4:=hE.cell' (cell_of HB1r.out 4);have d5:=hE.cell' (cell_of HB1r.out 5);have d6:=hE.cell' (cell_of HB1r.out 6);have d7:=hE.cell' (cell_of HB1r.out 7);have d8:=hE.cell' (cell_of HB1r.out 8);have d9:=hE.cell' (cell_of HB1r.out 9);have d10:=hE.cell' (cell_of HB1r.out 10);go_simp;rfl));simp only [Act.put,zP];(refine Rt.zS fun K hK=>?_;go_simp;refine hK _ ?_;clear hK K);(refine Rt.zR ?_;constructor;constructor;· (intro us' W hp hl hI;have hE:=hI.1;have x5:=hE.cell' (cell_of HB2r.out 5);go_simp;rfl));simp only [Act.put,zP];(refine Rt.zR ?_;constructor;constructor;· (intro us' W hp hl hI;skip;go_simp;rfl));simp only [Act.put,zP];(refine Rt.zR ?_;constructor;constructor;· (intro us' W hp hl hI;have hE:=hI.1;have g0:=hE.cell' HG0.out;have g1:=hE.cell' HG1.out;have g2:=hE.cell' HG2.out;have g3:=hE.cell' HG3.out;have g4:=hE.cell' HG4.out;have g5:=hE.cell' HG5.out;go_simp;rfl));simp only [Act.put,zP];(refine Rt.zS fun K hK=>?_;go_simp;refine hK _ ?_;clear hK K);refine Rt.rs_eff rfl rfl rfl (fun W hI=>?_) (fun v hv=>?_)
  ·refine Rt.gives_cal ?_;apply Exists.intro;apply Exists.intro;apply Exists.intro;refine ⟨by go_simp;exact ⟨⟨rfl,rfl⟩,rfl⟩,?_⟩
   refine (HASK.out W hI.1).mono ?_
   rintro e W2 ⟨hx2,rfl⟩;exact ⟨_,rfl,hI.1.trans' hx2,.inr rfl⟩
  obtain rfl : v = .bool bk:=(let ⟨_,_,h⟩:=hv;by simpa using h)
  clear hv;simp only [Act.put,zP];(iterate 2 (refine Rt.zS fun K hK=>?_;go_simp;refine hK _ ?_;clear hK K));refine Rt.rs_nil (fun W3 hI=>?_)
  have HX3:=zQ hI.1;clear hI;go_wp2_with fail;go_ret
  exact ⟨HX.out.trans' HX3.out,rfl⟩
 ·have HRE:=zQ hre;clear hre;go_upto_region 16 with fail;clear x0;go_wp2_with fail;go_loopw [11] (fun i wr=>∃ (j : Nat),j ≤ kn ∧ i = .int .i64 (j : Int) ∧ Hid ((bs.take j).all id = true) ∧ Hid (Ext W2 wr)) (fun i _=>kn - (intOf i).toNat)
  case atStart=>exact ⟨0,Nat.zero_le _,rfl,rfl,ext_refl _⟩
  case round=>
   obtain ⟨j,hj,rfl,hall,hx⟩:=hrel;have x5 : wr.cell? ⟨w.heap.size + 1,5,none⟩ = some (.slice kp kn kc):=hx.out.cell' (cell_of HB2.out 5);by_cases hlt : j < kn
   ·skip
    obtain ⟨bk,hbk⟩ : ∃ bk,bs[j]? = some bk:=⟨_,List.getElem?_eq_getElem (by rw [HBL.out];exact hlt)⟩
    obtain ⟨cs,hcj⟩ : ∃ cs,css[j]? = some cs:=⟨_,List.getElem?_eq_getElem (by rw [HLEN.out];exact hlt)⟩
    obtain ⟨yo,ya,yp,yn,yc,yl,yh,zp,zn,zc,rfl⟩:=HFORM.out cs (zM hcj);obtain ⟨kb,koff,rfl,hg0,hg1,hg2,hg3,hg4,hg5⟩:=kid_cells H6.out HKC.out hcj;have hxr:=HX.out.trans' hx.out;have hask:=fun W (hW : Ext wr W)=>HIH.out j _ bk W hcj hbk (hxr.trans' hW)
    have HASK:=zQ hask;have HBK:=zQ hbk;have HB1r:=zQ (hx.out.obj HB1.out);have HB2r:=zQ (hx.out.obj HB2.out);have HG0:=zQ (hxr.cell' hg0);have HG1:=zQ (hxr.cell' hg1);have HG2:=zQ (hxr.cell' hg2);have HG3:=zQ (hxr.cell' hg3);have HG4:=zQ (hxr.cell' hg4);have HG5:=zQ (hxr.cell' hg5);clear hcj hbk hask hxr hg0 hg1 hg2 hg3 hg4 hg5;go_upto_region 19 with fail;clear x5;refine Rt.wp_region_rt (by kernel_rfl) [0,1,2,3,4,5,6,7,8] [7] [0,0,0,0,0,0,0] [0,0,2,0,14,30,0,127,255] (by kernel_rfl) (fun us W=>Ext wr W ∧ (us = [] ∨ us = [.bool bk])) ?_ ?_
    ·exact ⟨below_drawn (ext_refl _) _,.inl rfl⟩
    (refine Rt.zR ?_;constructor;constructor;· (intro us' W hp hl hI;have hE:=hI.1;have d0:=hE.cell' (cell_of HB1r.out 0);have d1:=hE.cell' (cell_of HB1r.out 1);have d2:=hE.cell' (cell_of HB1r.out 2);have d3:=hE.cell' (cell_of HB1r.out 3);have d4:=hE.cell' (cell_of HB1r.out 4);have d5:=hE.cell' (cell_of HB1r.out 5);have d6:=hE.cell' (cell_of HB1r.out 6);have d7:=hE.cell' (cell_of HB1r.out 7);have d8:=hE.cell' (cell_of HB1r.out 8);have d9:=hE.cell' (cell_of HB1r.out 9);have d10:=hE.cell' (cell_of HB1r.out 10);go_simp;rfl));simp only [Act.put,zP];(refine Rt.zS fun K hK=>?_;go_simp;refine hK _ ?_;clear hK K);(refine Rt.zR ?_;constructor;constructor;· (intro us' W hp hl hI;have hE:=hI.1;have x5:=hE.cell' (cell_of HB2r.out 5);go_simp;rfl));simp only [Act.put,zP];(refine Rt.zS fun K hK=>?_;go_simp;refine hK _ ?_;clear hK K);(refine Rt.zR ?_;constructor;constructor;· (intro us' W hp hl hI;skip;go_simp;rfl));simp only [Act.put,zP];(refine Rt.zR ?_;constructor;constructor;· (intro us' W hp hl hI;have hE:=hI.1;have g0:=hE.cell' HG0.out;have g1:=hE.cell' HG1.out;have g2:=hE.cell' HG2.out;have g3:=hE.cell' HG3.out;have g4:=hE.cell' HG4.out;have g5:=hE.cell' HG5.out;go_simp;rfl));simp only [Act.put,zP];(refine Rt.zS fun K hK=>?_;go_simp;refine hK _ ?_;clear hK K);refine Rt.rs_eff rfl rfl rfl (fun W hI=>?_) (fun v hv=>?_)
    ·refine Rt.gives_cal ?_;apply Exists.intro;apply Exists.intro;apply Exists.intro;refine ⟨by go_simp;exact ⟨⟨rfl,rfl⟩,rfl⟩,?_⟩
     refine (HASK.out W hI.1).mono ?_
     rintro e W2 ⟨hx2,rfl⟩;exact ⟨_,rfl,hI.1.trans' hx2,.inr rfl⟩
    obtain rfl : v = .bool bk:=(let ⟨_,_,h⟩:=hv;by simpa using h)
    clear hv;simp only [Act.put,zP];(refine Rt.zS fun K hK=>?_;go_simp;refine hK _ ?_;clear hK K);refine Rt.rs_nil (fun W3 hI=>?_)
    have HX3:=zQ (hx.out.trans' hI.1);clear hI;have hst:=all_at HBK.out;rw [hall.out] at hst;cases bk with
    | true=>
     have HST:=zQ hst;clear hst;go_wp2_with fail;exact ⟨⟨j + 1,by omega,rfl,HST.out,HX3.out⟩,by simp [intOf];omega⟩
    | false=>
     clear hst;go_wp2_with fail;go_ret
     exact ⟨HX.out.trans' HX3.out,by rw [HRE.out,all_bad HBK.out];rfl⟩
   ·obtain rfl : j = kn:=by omega
    have hal:=hall.out;rw [List.take_of_length_le (by rw [HBL.out];exact Nat.le_refl _)] at hal
    have HAL:=zQ (HRE.out.trans hal);clear hal;go_wp2_with fail;go_ret
    exact ⟨HX.out.trans' hx.out,by rw [HAL.out];rfl⟩
 ·have HRE:=zQ hre;clear hre;go_upto_region 22 with fail;clear x0;go_wp2_with fail;go_loopw [12] (fun i wr=>∃ (j : Nat),j ≤ kn ∧ i = .int .i64 (j : Int) ∧ Hid ((bs.take j).any id = false) ∧ Hid (Ext W2 wr)) (fun i _=>kn - (intOf i).toNat)
  case atStart=>exact ⟨0,Nat.zero_le _,rfl,rfl,ext_refl _⟩
  case round=>
   obtain ⟨j,hj,rfl,hall,hx⟩:=hrel;have x5 : wr.cell? ⟨w.heap.size + 1,5,none⟩ = some (.slice kp kn kc):=hx.out.cell' (cell_of HB2.out 5);by_cases hlt : j < kn
   ·skip
    obtain ⟨bk,hbk⟩ : ∃ bk,bs[j]? = some bk:=⟨_,List.getElem?_eq_getElem (by rw [HBL.out];exact hlt)⟩
    obtain ⟨cs,hcj⟩ : ∃ cs,css[j]? = some cs:=⟨_,List.getElem?_eq_getElem (by rw [HLEN.out];exact hlt)⟩
    obtain ⟨yo,ya,yp,yn,yc,yl,yh,zp,zn,zc,rfl⟩:=HFORM.out cs (zM hcj);obtain ⟨kb,koff,rfl,hg0,hg1,hg2,hg3,hg4,hg5⟩:=kid_cells H6.out HKC.out hcj;have hxr:=HX.out.trans' hx.out;have hask:=fun W (hW : Ext wr W)=>HIH.out j _ bk W hcj hbk (hxr.trans' hW)
    have HASK:=zQ hask;have HBK:=zQ hbk;have HB1r:=zQ (hx.out.obj HB1.out);have HB2r:=zQ (hx.out.obj HB2.out);have HG0:=zQ (hxr.cell' hg0);have HG1:=zQ (hxr.cell' hg1);have HG2:=zQ (hxr.cell' hg2);have HG3:=zQ (hxr.cell' hg3);have HG4:=zQ (hxr.cell' hg4);have HG5:=zQ (hxr.cell' hg5);clear hcj hbk hask hxr hg0 hg1 hg2 hg3 hg4 hg5;go_upto_region 25 with fail;clear x5;refine Rt.wp_region_rt (by kernel_rfl) [0,1,2,3,4,5,6,7] [7] [0,0,0,0,0,0,0] [0,0,2,0,14,30,0,127] (by kernel_rfl) (fun us W=>Ext wr W ∧ (us = [] ∨ us = [.bool bk])) ?_ ?_
    ·exact ⟨below_drawn (ext_refl _) _,.inl rfl⟩
    (refine Rt.zR ?_;constructor;constructor;· (intro us' W hp hl hI;have hE:=hI.1;have d0:=hE.cell' (cell_of HB1r.out 0);have d1:=hE.cell' (cell_of HB1r.out 1);have d2:=hE.cell' (cell_of HB1r.out 2);have d3:=hE.cell' (cell_of HB1r.out 3);have d4:=hE.cell' (cell_of HB1r.out 4);have d5:=hE.cell' (cell_of HB1r.out 5);have d6:=hE.cell' (cell_of HB1r.out 6);have d7:=hE.cell' (cell_of HB1r.out 7);have d8:=hE.cell' (cell_of HB1r.out 8);have d9:=hE.cell' (cell_of HB1r.out 9);have d10:=hE.cell' (cell_of HB1r.out 10);go_simp;rfl));simp only [Act.put,zP];(refine Rt.zS fun K hK=>?_;go_simp;refine hK _ ?_;clear hK K);(refine Rt.zR ?_;constructor;constructor;· (intro us' W hp hl hI;have hE:=hI.1;have x5:=hE.cell' (cell_of HB2r.out 5);go_simp;rfl));simp only [Act.put,zP];(refine Rt.zS fun K hK=>?_;go_simp;refine hK _ ?_;clear hK K);(refine Rt.zR ?_;constructor;constructor;· (intro us' W hp hl hI;skip;go_simp;rfl));simp only [Act.put,zP];(refine Rt.zR ?_;constructor;constructor;· (intro us' W hp hl hI;have hE:=hI.1;have g0:=hE.cell' HG0.out;have g1:=hE.cell' HG1.out;have g2:=hE.cell' HG2.out;have g3:=hE.cell' HG3.out;have g4:=hE.cell' HG4.out;have g5:=hE.cell' HG5.out;go_simp;rfl));simp only [Act.put,zP];(refine Rt.zS fun K hK=>?_;go_simp;refine hK _ ?_;clear hK K);refine Rt.rs_eff rfl rfl rfl (fun W hI=>?_) (fun v hv=>?_)
    ·refine Rt.gives_cal ?_;apply Exists.intro;apply Exists.intro;apply Exists.intro;refine ⟨by go_simp;exact ⟨⟨rfl,rfl⟩,rfl⟩,?_⟩
     refine (HASK.out W hI.1).mono ?_
     rintro e W2 ⟨hx2,rfl⟩;exact ⟨_,rfl,hI.1.trans' hx2,.inr rfl⟩
    obtain rfl : v = .bool bk:=(let ⟨_,_,h⟩:=hv;by simpa using h)
    clear hv;simp only [Act.put,zP];refine Rt.rs_nil (fun W3 hI=>?_)
    have HX3:=zQ (hx.out.trans' hI.1);clear hI;have hst:=any_at HBK.out;rw [hall.out] at hst;cases bk with
    | false=>
     have HST:=zQ hst;clear hst;go_wp2_with fail;exact ⟨⟨j + 1,by omega,rfl,HST.out,HX3.out⟩,by simp [intOf];omega⟩
    | true=>
     clear hst;go_wp2_with fail;go_ret
     exact ⟨HX.out.trans' HX3.out,by rw [HRE.out,any_good HBK.out];rfl⟩
   ·obtain rfl : j = kn:=by omega
    have hal:=hall.out;rw [List.take_of_length_le (by rw [HBL.out];exact Nat.le_refl _)] at hal
    have HAL:=zQ (HRE.out.trans hal);clear hal;go_wp2_with fail;go_ret
    exact ⟨HX.out.trans' hx.out,by rw [HAL.out];rfl⟩
end Go.Proofs.YtihfcjioilmmjaaGreat
namespace Go.Proofs.YtihfcjioilmmjaaGreat
open Go Go.RowKit
open Go.Lib Go.Proofs
theorem kid_q {R : Rec} {kids : List Exp} {qs : List Qn} (h : kids.map (askF R) = qs.map some) {j : Nat} {k : Exp} (hk : kids[j]? = some k) : ∃ x,qs[j]? = some x ∧ askF R k = some x:=by
 have h1:=congrArg (fun l=>l[j]?) h
 simp only [List.getElem?_map,hk,Option.map_some] at h1;cases hx : qs[j]? with
 | none=>rw [hx] at h1;cases h1
 | some x=>rw [hx] at h1;exact ⟨x,rfl,zI h1⟩
theorem truly_all : ∀ (n : Nat) (e : Exp),e.nodes ≤ n → ∀ {w : World} {sp : Option Addr} {sc : Nat} {schema : List Attr} {R : Rec} (_ : TruC w sp sc schema R) (seed : Int) (_ : 0 ≤ seed ∧ seed ≤ 4294967295) (r0 r1 r2 r3 r4 r5 r6 r7 r8 : Value) (s : ByteArray) (_ : s.size ≤ maxLen) (cs : List Value) (_ : ExpAt w cs e) (q : Qn) (_ : askF R e = some q),
  Calls Tryz.prog 50 #[.agg #[.slice sp schema.length sc,.int .u32 seed,r0,r1,r2,r3,r4,r5,r6,r7,r8],.agg cs.toArray,.string s] w fun e W=>Ext w W ∧ e = .returned (.bool (q.φ (sigF R.cols seed s)))
 | 0,e,h,_,_,_,_,_,_,_,_,_,_,_,_,_,_,_,_,_,_,_,_,_,_,_=>by have:=nodes_pos e;omega
 | n + 1,e,hn,w,sp,sc,schema,R,hT,seed,hseed,r0,r1,r2,r3,r4,r5,r6,r7,r8,s,hs,cs,he,q,hq=>by
  cases he with
  | @mk op attr vv kv lo hi values kids css hop hattr hlo hhi hv hlen hsl h6 hkid=>
   obtain ⟨vp,vc,rfl,hvz⟩:=id hv.1;clear hvz;by_cases h1 : op = 1
   ·subst h1;exact truly_in hT seed hseed r0 r1 r2 r3 r4 r5 r6 r7 r8 s hs attr vp vc values hv lo hi kv kids q hq
   ·obtain ⟨kp,kc,rfl,_,hkml,_,hkcell⟩:=hsl;have hnl : nodesL kids ≤ n:=by rw [Exp.nodes] at hn;omega
    obtain ⟨qs,hqs,hqc⟩:=ask_kids h1 hq;have hql : qs.length = kids.length:=by have:=congrArg List.length hqs;simpa using this.symm
    refine truly_node sp schema.length sc seed r0 r1 r2 r3 r4 r5 r6 r7 r8 s op attr vp values.length vc lo hi kp kids.length kc css hlen hkcell hkml h6 ?_ (qs.map fun x=>x.φ (sigF R.cols seed s)) (by rw [List.length_map,hql]) (q.φ (sigF R.cols seed s)) ?_ ?_
    ·intro c hc
     obtain ⟨i,hi'⟩:=List.mem_iff_getElem?.1 hc;have hil : i < kids.length:=by rw [← hlen];exact (List.getElem?_eq_some_iff.1 hi').1
     exact exp_form (hkid i c _ hi' (List.getElem?_eq_getElem hil))
    ·rcases hqc with ⟨e1,x,rfl,hqe⟩ | ⟨e1,hqe⟩ | ⟨e1,hqe⟩
     ·exact .inl ⟨e1,_,rfl,hqe _⟩
     ·exact .inr (.inl ⟨e1,by rw [hqe,List.all_map];rfl⟩)
     ·exact .inr (.inr ⟨e1,by rw [hqe,List.any_map];rfl⟩)
    ·intro i c b W hc hb hW
     rw [List.getElem?_map] at hb;have hil : i < kids.length:=by rw [← hlen];exact (List.getElem?_eq_some_iff.1 hc).1
     have hk' : kids[i]? = some kids[i]:=List.getElem?_eq_getElem hil;obtain ⟨x,hx,hak⟩:=kid_q hqs hk';rw [hx] at hb;obtain rfl:=zI hb;have hm:=nodes_mem kids kids[i] (zM hk');exact truly_all n kids[i] (by omega) (hT.ext hW) seed hseed r0 r1 r2 r3 r4 r5 r6 r7 r8 s hs c ((hkid i c _ hc hk').ext hW) x hak
theorem truly_any {w : World} {sp : Option Addr} {sc : Nat} {schema : List Attr} {R : Rec} (hT : TruC w sp sc schema R) (seed : Int) (hseed : 0 ≤ seed ∧ seed ≤ 4294967295) (r0 r1 r2 r3 r4 r5 r6 r7 r8 : Value) (s : ByteArray) (hs : s.size ≤ maxLen) {cs : List Value} {e : Exp} (he : ExpAt w cs e) {q : Qn} (hq : askF R e = some q) :
 Calls Tryz.prog 50 #[.agg #[.slice sp schema.length sc,.int .u32 seed,r0,r1,r2,r3,r4,r5,r6,r7,r8],.agg cs.toArray,.string s] w fun e W=>Ext w W ∧ e = .returned (.bool (q.φ (sigF R.cols seed s))):=truly_all e.nodes e (Nat.le_refl _) hT seed hseed r0 r1 r2 r3 r4 r5 r6 r7 r8 s hs cs he q hq
end Go.Proofs.YtihfcjioilmmjaaGreat
