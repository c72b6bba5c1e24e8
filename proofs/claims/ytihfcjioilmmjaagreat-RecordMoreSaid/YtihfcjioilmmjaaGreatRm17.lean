/- Lemmas: like. -/
import Derived.Test.YtihfcjioilmmjaaGreatRm1
import Derived.Test.YtihfcjioilmmjaaGreatRm14
import Derived.Test.YtihfcjioilmmjaaGreatRm15
import Derived.Test.YtihfcjioilmmjaaGreatRm16
import Derived.Test.YtihfcjioilmmjaaGreatRm3
import Derived.Test.YtihfcjioilmmjaaGreatRm13
import Derived.Test.YtihfcjioilmmjaaGreatRm9
set_option linter.all false
namespace Go.Proofs.YtihfcjioilmmjaaGreat
open Go Go.RowKit
open Go.Lib Go.Proofs
structure PS (w0 : World) (g n : Nat) (rest : Array Value) (d : Array Nat) (sb k : Nat) (wr : World) : Prop where
 us : US w0 g n rest d wr
 far : w0.heap.size ≤ sb
 blk : wr.heap[sb]? = some (.cells #[.int .i64 (k : Int)] 3 (0,0))
theorem PS.drawn {w0 : World} {g n : Nat} {rest : Array Value} {d : Array Nat} {sb k : Nat} {wr : World} (h : PS w0 g n rest d sb k wr) (m : Nat) : PS w0 g n rest d sb k { wr with drawn:=m }:=⟨h.us.drawn m,h.far,h.blk⟩
theorem PS.put {w0 : World} {g n : Nat} {rest : Array Value} {d : Array Nat} {sb k : Nat} {wr : World} (h : PS w0 g n rest d sb k wr) (m : Nat) : PS w0 g n rest d sb m (wr.setCell ⟨sb,0,none⟩ (.int .i64 (m : Int))):=
 ⟨h.us.other h.far _,h.far,by rw [heap_setCell_get,if_pos rfl,h.blk];rfl⟩
def O2Post (w0 : World) (g n : Nat) (rest : Array Value) (d : Array Nat) (sb k a b : Nat) (e : Ending) (w' : World) : Prop:=
 ∃ x y m : Nat,(x = a ∧ y = b ∨ x = b ∧ y = a) ∧ m ≤ k + 1 ∧ e = .returned (.tuple #[.int .i64 (x : Int),.int .i64 (y : Int)]) ∧ PS w0 g n rest d sb m w'
set_option maxHeartbeats 4000000 in
set_option maxRecDepth 100000 in
theorem order2U_any {w0 w : World} {g n : Nat} {rest : Array Value} {d : Array Nat} {sb k : Nat} (h : PS w0 g n rest d sb k w) (hk : k ≤ 1000) (cap a b : Nat) (ha : a < n) (hb : b < n) (hn : n ≤ 1000000) :
  Calls Tryz.prog 149 #[.slice (some ⟨g,0,none⟩) n cap,.int .i64 (a : Int),.int .i64 (b : Int),.pointer (some ⟨sb,0,none⟩)] w (O2Post w0 g n rest d sb k a b):=by
 have H:=Lib.hid h
 clear h
 obtain ⟨c,hc⟩ : ∃ c,ltN d[b]! d[a]! = c:=⟨_,rfl⟩
 have HC:=Lib.hid hc
 clear hc
 go_enter Tryz.func149,Tryz.ntmps149
 go_upto_region 1 with fail
 refine Rt.wp_region_rt (by kernel_rfl) [0,1,2,3,4,5,6,7,8] [] [] [0,0,3,7,0,0,48,112,255] (by kernel_rfl) (fun _ W=>PS w0 g n rest d sb k W) ?_ ?_
 ·exact PS.drawn (H.out) _
 iterate 2 (refine Rt.rs_sil rfl rfl rfl (fun K hK=>?_);go_simp;refine hK _ ?_;clear hK K)
 (refine Rt.rs_rd rfl rfl rfl ?_;apply Exists.intro;refine ⟨fun us' W hp hl hI=>?_,?_⟩;· (skip;go_simp;rfl));simp only [Act.put,zA,zB,zC,zD,zE,zF]
 (refine Rt.rs_rd rfl rfl rfl ?_;apply Exists.intro;refine ⟨fun us' W hp hl hI=>?_,?_⟩;· (have c0:=US.cell hI.us (j:=b) (by omega);have c1:=US.cell hI.us (j:=a) (by omega);go_simp;rfl));simp only [Act.put,zA,zB,zC,zD,zE,zF]
 iterate 2 (refine Rt.rs_sil rfl rfl rfl (fun K hK=>?_);go_simp;refine hK _ ?_;clear hK K)
 (refine Rt.rs_rd rfl rfl rfl ?_;apply Exists.intro;refine ⟨fun us' W hp hl hI=>?_,?_⟩;· (skip;go_simp;rfl));simp only [Act.put,zA,zB,zC,zD,zE,zF]
 (refine Rt.rs_rd rfl rfl rfl ?_;apply Exists.intro;refine ⟨fun us' W hp hl hI=>?_,?_⟩;· (have c0:=US.cell hI.us (j:=b) (by omega);have c1:=US.cell hI.us (j:=a) (by omega);go_simp;rfl));simp only [Act.put,zA,zB,zC,zD,zE,zF]
 refine Rt.rs_qt rfl rfl rfl ?_
 apply Exists.intro
 refine ⟨fun us' W hp hl hI=>?_,?_⟩
 ·refine Rt.gives_cal ?_
  apply Exists.intro
  apply Exists.intro
  apply Exists.intro
  refine ⟨by go_simp;exact ⟨⟨rfl,rfl⟩,rfl⟩,?_⟩
  refine (lessU_any W _ _).mono ?_
  rintro e w7 ⟨rfl,rfl⟩
  exact ⟨_,rfl,by rw [HC.out],hI⟩
 simp only [Act.put,zA,zB,zC,zD,zE,zF]
 refine Rt.rs_nil (fun W hI=>?_)
 replace hI:=Lib.hid hI
 have c0:=cell_of hI.out.blk 0
 have f0:=frozen_of hI.out.blk 0
 cases c with
 | true=>
  go_wp2_with fail
  refine bodyPost_ret (v:=.tuple #[.int .i64 (b : Int),.int .i64 (a : Int)]) (by simp [results,Tryz.results149,go_sem]) rfl ?_
  exact ⟨b,a,k + 1,.inr ⟨rfl,rfl⟩,Nat.le_refl _,rfl,hI.out.put (k + 1)⟩
 | false=>
  go_wp2_with fail
  refine bodyPost_ret (v:=.tuple #[.int .i64 (a : Int),.int .i64 (b : Int)]) (by simp [results,Tryz.results149,go_sem]) rfl ?_
  exact ⟨a,b,k,.inl ⟨rfl,rfl⟩,by omega,rfl,hI.out⟩
def MdPost (w0 : World) (g n : Nat) (rest : Array Value) (d : Array Nat) (sb k : Nat) (P : Nat → Prop) (e : Ending) (w' : World) : Prop:=
 ∃ x m : Nat,P x ∧ m ≤ k + 3 ∧ e = .returned (.int .i64 (x : Int)) ∧ PS w0 g n rest d sb m w'
set_option maxHeartbeats 4000000 in
set_option maxRecDepth 100000 in
theorem medianU_any {w0 w : World} {g n : Nat} {rest : Array Value} {d : Array Nat} {sb k : Nat} (h : PS w0 g n rest d sb k w) (hk : k ≤ 100) (cap a b c : Nat) (ha : a < n) (hb : b < n) (hc : c < n) (hn : n ≤ 1000000) (P : Nat → Prop) (pa : P a) (pb : P b) (pc : P c) :
  Calls Tryz.prog 143 #[.slice (some ⟨g,0,none⟩) n cap,.int .i64 (a : Int),.int .i64 (b : Int),.int .i64 (c : Int),.pointer (some ⟨sb,0,none⟩)] w (MdPost w0 g n rest d sb k P):=by
 have H:=order2U_any h (by omega) cap a b ha hb hn
 have H1:=Lib.hid H
 have HN:=Lib.hid hn
 have QA:=Lib.hid (And.intro ha pa)
 have QB:=Lib.hid (And.intro hb pb)
 have QC:=Lib.hid (And.intro hc pc)
 have HK:=Lib.hid hk
 clear h H ha hb hc hn pa pb pc hk
 go_enter Tryz.func143,Tryz.ntmps143
 go_wp2_with fail
 refine H1.out.mono ?_
 rintro e w1 ⟨x1,y1,m1,ho1,hm1,rfl,hp1⟩
 have X1 : Hid (x1 < n ∧ P x1):=by rcases ho1 with ⟨rfl,rfl⟩ | ⟨rfl,rfl⟩ <;> first | exact QA.out | exact QB.out
 have Y1 : Hid (y1 < n ∧ P y1):=by rcases ho1 with ⟨rfl,rfl⟩ | ⟨rfl,rfl⟩ <;> first | exact QB.out | exact QA.out
 have H2:=Lib.hid (order2U_any hp1 (by have:=HK.out;omega) cap y1 c Y1.out.1 QC.out.1 HN.out)
 have M1:=Lib.hid hm1
 clear ho1 hm1 hp1
 go_wp2_with fail
 refine H2.out.mono ?_
 rintro e w2 ⟨x2,y2,m2,ho2,hm2,rfl,hp2⟩
 have X2 : Hid (x2 < n ∧ P x2):=by rcases ho2 with ⟨rfl,rfl⟩ | ⟨rfl,rfl⟩ <;> first | exact Y1.out | exact QC.out
 have H3:=Lib.hid (order2U_any hp2 (by have:=HK.out;have:=M1.out;omega) cap x1 x2 X1.out.1 X2.out.1 HN.out)
 have M2:=Lib.hid hm2
 clear ho2 hm2 hp2
 go_wp2_with fail
 refine H3.out.mono ?_
 rintro e w3 ⟨x3,y3,m3,ho3,hm3,rfl,hp3⟩
 have Y3 : Hid (P y3):=by rcases ho3 with ⟨rfl,rfl⟩ | ⟨rfl,rfl⟩ <;> first | exact X2.out.2 | exact X1.out.2
 have HP3:=Lib.hid hp3
 have M3:=Lib.hid hm3
 clear ho3 hm3 hp3
 go_wp2_with fail
 go_ret
 exact ⟨y3,m3,Y3.out,by have:=M1.out;have:=M2.out;have:=M3.out;omega,rfl,HP3.out⟩
set_option maxHeartbeats 4000000 in
set_option maxRecDepth 100000 in
theorem medAdjU_any {w0 w : World} {g n : Nat} {rest : Array Value} {d : Array Nat} {sb k : Nat} (h : PS w0 g n rest d sb k w) (hk : k ≤ 100) (cap a : Nat) (ha : 1 ≤ a) (ha2 : a + 1 < n) (hn : n ≤ 1000000) :
  Calls Tryz.prog 142 #[.slice (some ⟨g,0,none⟩) n cap,.int .i64 (a : Int),.pointer (some ⟨sb,0,none⟩)] w (MdPost w0 g n rest d sb k fun x=>a - 1 ≤ x ∧ x ≤ a + 1):=by
 have H:=medianU_any h hk cap (a - 1) a (a + 1) (by omega) (by omega) ha2 hn (fun x=>a - 1 ≤ x ∧ x ≤ a + 1) ⟨Nat.le_refl _,by omega⟩ ⟨by omega,by omega⟩ ⟨by omega,Nat.le_refl _⟩
 rw [show ((a - 1 : Nat) : Int) = (a : Int) - 1 by omega,show ((a + 1 : Nat) : Int) = (a : Int) + 1 by omega] at H
 have H1:=Lib.hid H
 clear h H
 go_enter Tryz.func142,Tryz.ntmps142
 go_wp2_with fail
 refine H1.out.mono ?_
 rintro e w1 ⟨x,m,hP,hm,rfl,hp⟩
 have HP:=Lib.hid hP
 have HPS:=Lib.hid hp
 have HM:=Lib.hid hm
 clear hP hp hm
 go_wp2_with fail
 go_ret
 exact ⟨x,m,HP.out,HM.out,rfl,HPS.out⟩
def PvPost (w0 : World) (g n : Nat) (rest : Array Value) (d : Array Nat) (a b : Nat) (e : Ending) (w' : World) : Prop:=
 ∃ (x : Nat) (t : Int),a ≤ x ∧ x < b ∧ (t = 0 ∨ t = 1 ∨ t = 2) ∧ e = .returned (.tuple #[.int .i64 (x : Int),.int .i64 t]) ∧ US w0 g n rest d w'
set_option maxHeartbeats 4000000 in
set_option maxRecDepth 100000 in
theorem pivotU_any {w0 w : World} {g n : Nat} {rest : Array Value} {d : Array Nat} (h : US w0 g n rest d w) (cap a b : Nat) (hab : a + 12 < b) (hb : b ≤ n) (hn : n ≤ 1000000) :
  Calls Tryz.prog 121 #[.slice (some ⟨g,0,none⟩) n cap,.int .i64 (a : Int),.int .i64 (b : Int)] w (PvPost w0 g n rest d a b):=by
 obtain ⟨W1,hW1⟩ : ∃ W1,W1 = w.alloc (.cells #[.int .i64 0] 3 (0,0)):=⟨_,rfl⟩
 have hP : PS w0 g n rest d w.heap.size 0 W1:=by
  rw [hW1]
  exact ⟨h.alloc _,h.but.size,by simp only [heap_drawn_get,heap_drew_get,heap_setCell_get,heap_alloc_get,World.size_alloc,World.size_setCell,size_drawn,putObj_get,putObj_size];(repeat (first | rw [if_pos trivial] | rw [if_pos rfl] | rw [if_neg (by omega)] | rw [if_pos (by omega)]));rfl⟩
 have HP:=Lib.hid hP
 obtain ⟨l,hl⟩ : ∃ l,l + a = b:=⟨b - a,by omega⟩
 have el : (b : Int) - (a : Int) = (l : Int):=by omega
 obtain ⟨q,hq⟩ : ∃ q,l / 4 = q:=⟨_,rfl⟩
 have hq1 : 4 * q ≤ l:=by omega
 have hq2 : l < 4 * q + 4:=by omega
 have eq : (l : Int) / 4 = (q : Int):=by omega
 have hl12 : 12 < l:=by omega
 have hq3 : 3 ≤ q:=by omega
 have HQ:=Lib.hid hq
 have HL:=Lib.hid hl
 clear h hP hq
 go_enter Tryz.func121,Tryz.ntmps121
 go_upto_region 3 with fail
 rw [← hW1]
 clear hW1
 go_upto_if 34 with fail
 obtain ⟨x1,e1⟩ : ∃ x1 : Nat,(a : Int) + (q : Int) = (x1 : Int):=⟨a + q,by omega⟩
 obtain ⟨x2,e2⟩ : ∃ x2 : Nat,(a : Int) + (q : Int) * 2 = (x2 : Int):=⟨a + q * 2,by omega⟩
 obtain ⟨x3,e3⟩ : ∃ x3 : Nat,(a : Int) + (q : Int) * 3 = (x3 : Int):=⟨a + q * 3,by omega⟩
 rw [e1,e2,e3]
 have B1 : a + 1 ≤ x1 ∧ x1 + 1 < b:=by omega
 have B2 : a + 1 ≤ x2 ∧ x2 + 1 < b:=by omega
 have B3 : a + 1 ≤ x3 ∧ x3 + 1 < b:=by omega
 clear el eq e1 e2 e3
 go_cut [10,11,12] (fun i j k wx=>∃ (x y z m : Nat),i = .int .i64 (x : Int) ∧ j = .int .i64 (y : Int) ∧ k = .int .i64 (z : Int) ∧ a ≤ x ∧ x < b ∧ a ≤ y ∧ y < b ∧ a ≤ z ∧ z < b ∧ m ≤ 9 ∧ Hid (PS w0 g n rest d w.heap.size m wx))
 case first=>
  by_cases h50 : 50 ≤ l
  ·have h50i : (50 : Int) ≤ (l : Int):=by omega
   have H1:=Lib.hid (medAdjU_any HP.out (by omega) cap x1 (by omega) (by omega) hn)
   go_wp2_with fail
   refine H1.out.mono ?_
   rintro e w1 ⟨y1,m1,hy1,hm1,rfl,hp1⟩
   have H2:=Lib.hid (medAdjU_any hp1 (by omega) cap x2 (by omega) (by omega) hn)
   have Y1:=Lib.hid hy1
   clear hp1 hy1
   go_wp2_with fail
   refine H2.out.mono ?_
   rintro e w2 ⟨y2,m2,hy2,hm2,rfl,hp2⟩
   have H3:=Lib.hid (medAdjU_any hp2 (by omega) cap x3 (by omega) (by omega) hn)
   have Y2:=Lib.hid hy2
   clear hp2 hy2
   go_wp2_with fail
   refine H3.out.mono ?_
   rintro e w3 ⟨y3,m3,hy3,hm3,rfl,hp3⟩
   have HP3:=Lib.hid hp3
   have Y3:=Lib.hid hy3
   clear hp3 hy3
   go_wp2_with fail
   go_meet
   case rel=>
    have:=Y1.out
    have:=Y2.out
    have:=Y3.out
    exact ⟨y1,y2,y3,m3,rfl,rfl,rfl,by omega,by omega,by omega,by omega,by omega,by omega,by omega,HP3.out⟩
  ·have h50i : ¬ ((50 : Int) ≤ (l : Int)):=by omega
   go_wp2_with fail
   go_meet
   case rel=>exact ⟨x1,x2,x3,0,rfl,rfl,rfl,by omega,by omega,by omega,by omega,by omega,by omega,by omega,HP.out⟩
 case rest=>
  obtain ⟨x,y,z,m,rfl,rfl,rfl,hx1,hx2,hy1,hy2,hz1,hz2,hm,hP⟩:=hcut
  have H1:=Lib.hid (medianU_any hP.out (by omega) cap x y z (by omega) (by omega) (by omega) hn (fun t=>a ≤ t ∧ t < b) ⟨hx1,hx2⟩ ⟨hy1,hy2⟩ ⟨hz1,hz2⟩)
  go_wp2_with fail
  refine H1.out.mono ?_
  rintro e w1 ⟨p,m2,hp,hm2,rfl,hp1⟩
  have c0:=cell_of hp1.blk 0
  have HP1:=Lib.hid hp1
  have HPP:=Lib.hid hp
  clear hp1 hp
  by_cases h0 : m2 = 0
  ·have h0i : (m2 : Int) = 0:=by omega
   go_wp2_with fail
   refine bodyPost_ret (v:=.tuple #[.int .i64 (p : Int),.int .i64 1]) (by simp [results,Tryz.results121,go_sem]) rfl ?_
   exact ⟨p,1,HPP.out.1,HPP.out.2,by omega,rfl,HP1.out.us⟩
  ·by_cases h12 : m2 = 12
   ·have h0i : ¬ ((m2 : Int) = 0):=by omega
    have h12i : (m2 : Int) = 12:=by omega
    go_wp2_with fail
    refine bodyPost_ret (v:=.tuple #[.int .i64 (p : Int),.int .i64 2]) (by simp [results,Tryz.results121,go_sem]) rfl ?_
    exact ⟨p,2,HPP.out.1,HPP.out.2,by omega,rfl,HP1.out.us⟩
   ·have h0i : ¬ ((m2 : Int) = 0):=by omega
    have h12i : ¬ ((m2 : Int) = 12):=by omega
    go_wp2_with fail
    refine bodyPost_ret (v:=.tuple #[.int .i64 (p : Int),.int .i64 0]) (by simp [results,Tryz.results121,go_sem]) rfl ?_
    exact ⟨p,0,HPP.out.1,HPP.out.2,by omega,rfl,HP1.out.us⟩
end Go.Proofs.YtihfcjioilmmjaaGreat
namespace Go.Proofs
open Go.Shelf
def Tryz.lays125_ren : Go.Shelf.Ren:=⟨fun | 125=>74 | 128=>103 | 129=>104 | n=>n,fun | 46=>118 | 3=>3 | 51=>23 | 53=>201 | 4=>4 | 5=>5 | 9=>9 | n=>n,fun | n=>n⟩
theorem Tryz.lays125 : Go.Proofs.Lays.n125 Tryz.prog Tryz.lays125_ren:={
 mixed:=by kernel_rfl
 f125:=Tryz.func74.trans (congrArg some (by kernel_rfl))
 f128:=Tryz.func103.trans (congrArg some (by kernel_rfl))
 f129:=Tryz.func104.trans (congrArg some (by kernel_rfl))
 t3:=Tryz.underlying3
 a3:=Tryz.isAgg3
 z3:=Tryz.sizeOf3
 v3:=Tryz.zeroValue3
 t4:=Tryz.underlying4
 a4:=Tryz.isAgg4
 z4:=Tryz.sizeOf4
 v4:=Tryz.zeroValue4
 t5:=Tryz.underlying5
 a5:=Tryz.isAgg5
 z5:=Tryz.sizeOf5
 v5:=Tryz.zeroValue5
 t9:=Tryz.underlying9
 a9:=Tryz.isAgg9
 z9:=Tryz.sizeOf9
 v9:=Tryz.zeroValue9
 t46:=Tryz.underlying118
 a46:=Tryz.isAgg118
 z46:=Tryz.sizeOf118
 v46:=Tryz.zeroValue118
 t51:=Tryz.underlying23
 a51:=Tryz.isAgg23
 z51:=Tryz.sizeOf23
 v51:=Tryz.zeroValue23
 t53:=Tryz.underlying201
 a53:=Tryz.isAgg201
 z53:=Tryz.sizeOf201
 v53:=Tryz.zeroValue201 }
theorem Tryz.bits_Len (x : Int) (w : World) (h0 : 0 ≤ x) (h1 : x ≤ 18446744073709551615) :
 Calls Tryz.prog 74 #[.int .u64 x] w fun e w'=>e = .returned (.int .i64 (Lib.bitLen x.toNat)) ∧ w' = w:=Any.bits_Len Tryz.lays125 x w h0 h1
def Tryz.laysF48_ren : Go.Shelf.Ren:=⟨fun | 48=>129 | n=>n,fun | 0=>0 | 39=>118 | 55=>201 | 66=>219 | 76=>232 | n=>n,fun | n=>n⟩
theorem Tryz.laysF48 : Go.Proofs.SlLaysF0.n48 Tryz.prog Tryz.laysF48_ren:={
 mixed:=by kernel_rfl
 f48:=Tryz.func129.trans (congrArg some (by kernel_rfl))
 t0:=Tryz.underlying0
 a0:=Tryz.isAgg0
 z0:=Tryz.sizeOf0
 v0:=Tryz.zeroValue0
 t39:=Tryz.underlying118
 a39:=Tryz.isAgg118
 z39:=Tryz.sizeOf118
 v39:=Tryz.zeroValue118
 t55:=Tryz.underlying201
 a55:=Tryz.isAgg201
 z55:=Tryz.sizeOf201
 v55:=Tryz.zeroValue201
 t66:=Tryz.underlying219
 a66:=Tryz.isAgg219
 z66:=Tryz.sizeOf219
 v66:=Tryz.zeroValue219
 t76:=Tryz.underlying232
 a76:=Tryz.isAgg232
 z76:=Tryz.sizeOf232
 v76:=Tryz.zeroValue232 }
def Tryz.laysF47_ren : Go.Shelf.Ren:=⟨fun | 15=>74 | 28=>103 | 29=>104 | 47=>128 | n=>n,fun | 3=>3 | 4=>4 | 5=>5 | 9=>9 | 39=>118 | 53=>23 | 55=>201 | n=>n,fun | n=>n⟩
theorem Tryz.laysF47 : Go.Proofs.SlLaysF0.n47 Tryz.prog Tryz.laysF47_ren:={
 mixed:=by kernel_rfl
 f15:=Tryz.func74.trans (congrArg some (by kernel_rfl))
 f28:=Tryz.func103.trans (congrArg some (by kernel_rfl))
 f29:=Tryz.func104.trans (congrArg some (by kernel_rfl))
 f47:=Tryz.func128.trans (congrArg some (by kernel_rfl))
 t3:=Tryz.underlying3
 a3:=Tryz.isAgg3
 z3:=Tryz.sizeOf3
 v3:=Tryz.zeroValue3
 t4:=Tryz.underlying4
 a4:=Tryz.isAgg4
 z4:=Tryz.sizeOf4
 v4:=Tryz.zeroValue4
 t5:=Tryz.underlying5
 a5:=Tryz.isAgg5
 z5:=Tryz.sizeOf5
 v5:=Tryz.zeroValue5
 t9:=Tryz.underlying9
 a9:=Tryz.isAgg9
 z9:=Tryz.sizeOf9
 v9:=Tryz.zeroValue9
 t39:=Tryz.underlying118
 a39:=Tryz.isAgg118
 z39:=Tryz.sizeOf118
 v39:=Tryz.zeroValue118
 t53:=Tryz.underlying23
 a53:=Tryz.isAgg23
 z53:=Tryz.sizeOf23
 v53:=Tryz.zeroValue23
 t55:=Tryz.underlying201
 a55:=Tryz.isAgg201
 z55:=Tryz.sizeOf201
 v55:=Tryz.zeroValue201 }
theorem Tryz.xorshift_Next (rb ro X : Nat) (hX : X < 18446744073709551616) (w : World) (hc : w.cell? ⟨rb,ro,none⟩ = some (.int .u64 X)) (hf : w.frozen? ⟨rb,ro,none⟩ = false) :
 Calls Tryz.prog 129 #[.pointer (some ⟨rb,ro,none⟩)] w fun e w'=>e = .returned (.int .u64 ((Go.Sort.xorNextN X : Nat) : Int)) ∧ w' = (w.setCell ⟨rb,ro,none⟩ (.int .u64 ((Go.Sort.xorNextN X : Nat) : Int))).drewN 3:=AnyF.xorshift_Next Tryz.laysF48 rb ro X hX w hc hf
theorem Tryz.nextPowerOfTwo (n : Nat) (hn : n < 4611686018427387904) (w : World) :
 Calls Tryz.prog 128 #[.int .i64 (n : Int)] w fun e w'=>e = .returned (.int .u64 ((1 <<< Go.Sort.bitsLen n : Nat) : Int)) ∧ w' = w:=AnyF.nextPowerOfTwo Tryz.laysF47 n hn w
end Go.Proofs
namespace Go.Proofs.YtihfcjioilmmjaaGreat
open Go Go.RowKit
open Go.Lib Go.Proofs
structure XS (w0 : World) (g n : Nat) (rest : Array Value) (d : Array Nat) (sb X : Nat) (wr : World) : Prop where
 us : US w0 g n rest d wr
 far : w0.heap.size ≤ sb
 blk : wr.heap[sb]? = some (.cells #[.int .u64 (X : Int)] 219 (0,0))
 small : X < 18446744073709551616
theorem XS.next {w0 : World} {g n : Nat} {rest : Array Value} {d : Array Nat} {sb X : Nat} {wr : World} (h : XS w0 g n rest d sb X wr) : XS w0 g n rest d sb (Sort.xorNextN X) ((wr.setCell ⟨sb,0,none⟩ (.int .u64 ((Sort.xorNextN X : Nat) : Int))).drewN 3):=
 ⟨(h.us.other h.far _).drawn _,h.far,by show (wr.setCell _ _).heap[sb]? = _;rw [heap_setCell_get,if_pos rfl,h.blk];rfl,Sort.xorNextN_lt X h.small⟩
theorem XS.drawn {w0 : World} {g n : Nat} {rest : Array Value} {d : Array Nat} {sb X : Nat} {wr : World} (h : XS w0 g n rest d sb X wr) (m : Nat) : XS w0 g n rest d sb X { wr with drawn:=m }:=⟨h.us.drawn m,h.far,h.blk,h.small⟩
theorem XS.put {w0 : World} {g n : Nat} {rest : Array Value} {d : Array Nat} {sb X : Nat} {wr : World} (h : XS w0 g n rest d sb X wr) {j : Nat} (hj : j < n) (x : Nat) : XS w0 g n rest (d.setIfInBounds j x) sb X (wr.setCell ⟨g,j,none⟩ (.int .u64 (x : Int))):=
 ⟨h.us.put hj x,h.far,by rw [Below.heap_setCell _ _ _ _ (show sb ≠ g by have:=h.us.gw;have:=h.far;omega)];exact h.blk,h.small⟩
def SwX (w : World) (g n : Nat) (rest : Array Value) (sb X : Nat) (d : Array Nat) (i j : Nat) (us : List Value) (W : World) : Prop:=
 match us with
 | []=>XS w g n rest d sb X W
 | [_]=>XS w g n rest (d.setIfInBounds i d[j]!) sb X W
 | _=>XS w g n rest (Sort.swp d i j) sb X W
theorem SwX.out {w : World} {g n : Nat} {rest : Array Value} {sb X : Nat} {d : Array Nat} {i j : Nat} {u v : Value} {W : World} (h : SwX w g n rest sb X d i j ([] ++ [u] ++ [v]) W) : XS w g n rest (Sort.swp d i j) sb X W:=h
theorem two_pow_len {l : Nat} (h : 0 < l) : 1 ≤ 1 <<< Sort.bitsLen l ∧ 1 <<< Sort.bitsLen l ≤ 2 * l:=by
 rw [Nat.one_shiftLeft]
 exact ⟨Nat.one_le_two_pow,Sort.two_pow_bitsLen_le h⟩
set_option maxHeartbeats 4000000 in
set_option maxRecDepth 100000 in
theorem breakU_any {w0 w : World} {g n : Nat} {rest : Array Value} {d : Array Nat} (h : US w0 g n rest d w) (cap a b : Nat) (hab : a + 12 < b) (hb : b ≤ n) (hn : n ≤ 1000000) :
  Calls Tryz.prog 120 #[.slice (some ⟨g,0,none⟩) n cap,.int .i64 (a : Int),.int .i64 (b : Int)] w fun e w'=>e = .returned (.tuple #[]) ∧ ∃ d',Sort.PermIn a b d d' ∧ US w0 g n rest d' w':=by
 have hdn:=h.len
 obtain ⟨l,hl⟩ : ∃ l,l + a = b:=⟨b - a,by omega⟩
 have el : (b : Int) - (a : Int) = (l : Int):=by omega
 have wl : IntKind.u64.wrap (l : Int) = (l : Int):=by simp [IntKind.wrap,IntKind.bits,IntKind.signed];omega
 obtain ⟨W1,hW1⟩ : ∃ W1,W1 = w.alloc (.cells #[.int .u64 (l : Int)] 219 (0,0)):=⟨_,rfl⟩
 have hX : XS w0 g n rest d w.heap.size l W1:=by
  rw [hW1]
  exact ⟨h.alloc _,h.but.size,by simp only [heap_drawn_get,heap_drew_get,heap_setCell_get,heap_alloc_get,World.size_alloc,World.size_setCell,size_drawn,putObj_get,putObj_size];(repeat (first | rw [if_pos trivial] | rw [if_pos rfl] | rw [if_neg (by omega)] | rw [if_pos (by omega)])),by omega⟩
 obtain ⟨q,hq⟩ : ∃ q,l / 4 = q:=⟨_,rfl⟩
 have hq1 : 4 * q ≤ l:=by omega
 have hq2 : l < 4 * q + 4:=by omega
 have eq : (l : Int) / 4 = (q : Int):=by omega
 have hl12 : 12 < l:=by omega
 have hq3 : 3 ≤ q:=by omega
 have HQ:=Lib.hid hq
 have HX:=Lib.hid hX
 have HDN:=Lib.hid hdn
 obtain ⟨M,hM⟩ : ∃ M,1 <<< Sort.bitsLen l = M:=⟨_,rfl⟩
 have hM2:=two_pow_len (l:=l) (by omega)
 have HN:=Lib.hid (Tryz.nextPowerOfTwo l (by omega) W1)
 rw [hM] at HN hM2
 have HLA:=Lib.hid hl
 clear h hX hq hM hdn
 go_enter Tryz.func120,Tryz.ntmps120
 go_upto_region 3 with fail
 rw [← hW1]
 clear hW1
 go_wp2_with fail
 refine HN.out.mono ?_
 rintro e w2 ⟨rfl,rfl⟩
 clear HN
 go_wp2_with fail
 obtain ⟨s,hs⟩ : ∃ s,s + 1 = a + q * 2:=⟨a + q * 2 - 1,by omega⟩
 have HS:=Lib.hid hs
 clear hs el
 go_loopw [9] (fun u wr=>∃ (x : Nat) (d1 : Array Nat) (X : Nat),s ≤ x ∧ x ≤ s + 3 ∧ u = .int .i64 (x : Int) ∧ Hid (XS w0 g n rest d1 w.heap.size X wr ∧ Sort.PermIn a b d d1)) (fun u _=>s + 3 - (intOf u).toNat)
 case atStart=>
  have:=HS.out
  exact ⟨s,d,l,Nat.le_refl _,by omega,by congr 1;omega,HX.out,Sort.permIn_refl _ _ _⟩
 case round=>
  obtain ⟨x,d1,X,hsx,hx3,rfl,hT⟩:=hrel
  have hs2:=HS.out
  by_cases hk : x < s + 3
  ·have hki : (x : Int) ≤ (a : Int) + (q : Int) * 2 + 1:=by omega
   have HK1:=Lib.hid hs2
   have HNX:=Lib.hid (Tryz.xorshift_Next w.heap.size 0 X hT.out.1.small wr (cell_of hT.out.1.blk 0) (frozen_of hT.out.1.blk 0))
   have HXN:=Lib.hid hT.out.1.next
   obtain ⟨Y,hY⟩ : ∃ Y,Sort.xorNextN X = Y:=⟨_,rfl⟩
   rw [hY] at HNX HXN
   have hYs:=HXN.out.small
   obtain ⟨o,ho⟩ : ∃ o,Y &&& (M - 1) = o:=⟨_,rfl⟩
   have ho1 : o < M:=by
    have:=Nat.and_le_right (n:=Y) (m:=M - 1)
    omega
   have hbit : bits .and .u64 (Y : Int) ((M : Int) - 1) = (o : Int):=by
    rw [show (M : Int) - 1 = ((M - 1 : Nat) : Int) by omega,Go.bits_and_u64_nat _ _ hYs (by omega),ho]
   have hlx : a ≤ x ∧ x < b:=by have:=HLA.out;omega
   clear hs2 hY ho hYs
   go_wp2_with fail
   refine HNX.out.mono ?_
   rintro e w3 ⟨rfl,hw3⟩
   obtain ⟨W3,hW3⟩ : ∃ W3,W3 = w3:=⟨_,rfl⟩
   rw [← hw3] at HXN
   rw [← hW3] at HXN ⊢
   clear hw3 hW3
   go_upto_if 43 with fail
   go_cut [10] (fun v wx=>∃ o2 : Nat,v = .int .i64 (o2 : Int) ∧ o2 < l ∧ wx = W3)
   case first=>
    by_cases hol : l ≤ o
    ·have holi : (l : Int) ≤ (o : Int):=by omega
     go_wp2_with fail
     go_meet
     case rel=>exact ⟨o - l,by congr 1;omega,by omega,rfl⟩
    ·have holi : ¬ ((l : Int) ≤ (o : Int)):=by omega
     go_wp2_with fail
     go_meet
     case rel=>exact ⟨o,rfl,by omega,rfl⟩
   case rest=>
    obtain ⟨o2,rfl,ho2,rfl⟩:=hcut
    have HK2:=HLA.out
    obtain ⟨y,hy⟩ : ∃ y : Nat,a + o2 = y:=⟨_,rfl⟩
    have ey : (a : Int) + (o2 : Int) = (y : Int):=by omega
    have vy:=wrapN (k:=y) (by omega)
    have lty : y < n:=by omega
    have hyb : a ≤ y ∧ y < b:=by omega
    have HY:=Lib.hid hy
    have ltx : x < n:=by omega
    clear HK2 hbit hM2
    go_upto_region 10 with fail
    refine Rt.wp_region_rt (by kernel_rfl) [0,1,2,3,4,5,6,7,8,9,10,11,12,13,14,15,16,17,18,19] [17,19] [0,0,1,1,1,1,0,0,0,0,0,0,0,0,0,0,0,1000,1] [0,0,0,0,0,24,0,0,0,384,960,1984,0,0,12288,28672,65475,131011,262143,524287] (by kernel_rfl) (SwX w0 g n rest w.heap.size Y d1 x y) ?_ ?_
    ·exact XS.drawn (HXN.out) _
    iterate 10 (refine Rt.rs_sil rfl rfl rfl (fun K hK=>?_);go_simp;refine hK _ ?_;clear hK K)
    (refine Rt.rs_rd rfl rfl rfl ?_;apply Exists.intro;refine ⟨fun us' W hp hl hI=>?_,?_⟩;· (skip;go_simp;rfl));simp only [Act.put,zA,zB,zC,zD,zE,zF]
    (refine Rt.rs_rd rfl rfl rfl ?_;apply Exists.intro;refine ⟨fun us' W hp hl hI=>?_,?_⟩;· (have hl0 : us'.length ≤ 0:=hl;obtain rfl:=List.eq_nil_of_length_eq_zero (Nat.le_zero.1 hl0);have c0:=US.cell hI.us (j:=x) (by omega);have c1:=US.cell hI.us (j:=y) (by omega);go_simp;rfl));simp only [Act.put,zA,zB,zC,zD,zE,zF]
    iterate 2 (refine Rt.rs_sil rfl rfl rfl (fun K hK=>?_);go_simp;refine hK _ ?_;clear hK K)
    (refine Rt.rs_rd rfl rfl rfl ?_;apply Exists.intro;refine ⟨fun us' W hp hl hI=>?_,?_⟩;· (skip;go_simp;rfl));simp only [Act.put,zA,zB,zC,zD,zE,zF]
    (refine Rt.rs_rd rfl rfl rfl ?_;apply Exists.intro;refine ⟨fun us' W hp hl hI=>?_,?_⟩;· (have hl0 : us'.length ≤ 0:=hl;obtain rfl:=List.eq_nil_of_length_eq_zero (Nat.le_zero.1 hl0);have c0:=US.cell hI.us (j:=x) (by omega);have c1:=US.cell hI.us (j:=y) (by omega);go_simp;rfl));simp only [Act.put,zA,zB,zC,zD,zE,zF]
    (refine Rt.rs_rd rfl rfl rfl ?_;apply Exists.intro;refine ⟨fun us' W hp hl hI=>?_,?_⟩;· (skip;go_simp;rfl));simp only [Act.put,zA,zB,zC,zD,zE,zF]
    refine Rt.rs_eff rfl rfl rfl (fun W hI=>?_) (fun v hv=>?_)
    ·have f0:=US.froz hI.us (x)
     have c0:=US.cell hI.us (j:=x) (by omega)
     refine Rt.gives_skp ?_
     apply Exists.intro
     refine ⟨by go_simp;rfl,?_⟩
     exact XS.put hI (j:=x) (by omega) _
    clear hv
    simp only [Act.put,zA,zB,zC,zD,zE,zF]
    (refine Rt.rs_rd rfl rfl rfl ?_;apply Exists.intro;refine ⟨fun us' W hp hl hI=>?_,?_⟩;· (skip;go_simp;rfl));simp only [Act.put,zA,zB,zC,zD,zE,zF]
    refine Rt.rs_eff rfl rfl rfl (fun W hI=>?_) (fun v hv=>?_)
    ·have f0:=US.froz hI.us (y)
     have c0:=US.cell hI.us (j:=y) (by omega)
     refine Rt.gives_skp ?_
     apply Exists.intro
     refine ⟨by go_simp;rfl,?_⟩
     exact XS.put hI (j:=y) (by omega) _
    clear hv
    simp only [Act.put,zA,zB,zC,zD,zE,zF]
    refine Rt.rs_nil (fun W hI=>?_)
    replace hI:=Lib.hid (SwX.out hI)
    clear hy ey vy
    go_wp2_with fail
    exact ⟨⟨x + 1,_,Y,by omega,by omega,rfl,hI.out,Sort.permIn_trans _ _ _ _ _ hT.out.2 (Sort.swp_permIn _ _ _ _ _ hlx.1 hlx.2 hyb.1 hyb.2 (by rw [hT.out.1.us.len];exact hb))⟩,by simp [intOf];omega⟩
  ·have hki : ¬ ((x : Int) ≤ (a : Int) + (q : Int) * 2 + 1):=by omega
   clear hs2
   go_wp2_with fail
   go_end0
   exact ⟨rfl,d1,hT.out.2,hT.out.1.us⟩
end Go.Proofs.YtihfcjioilmmjaaGreat
namespace Go.Proofs.YtihfcjioilmmjaaGreat
open Go Go.RowKit
open Go.Lib Go.Proofs
structure PdI (w0 : World) (g n : Nat) (rest : Array Value) (d : Array Nat) (a b a2 b2 : Nat) (d1 : Array Nat) (wr : World) : Prop where
 us : US w0 g n rest d1 wr
 ab : a2 ≤ b2
 bn : b2 ≤ n
 below : Sort.Below ltN a2 b2 d1
 cont : ∀ R,Sort.PermIn a2 b2 d1 R → Sort.SortedIn ltN a2 b2 R → Sort.PermIn a b d R ∧ Sort.SortedIn ltN a b R
theorem PdI.perm {w0 : World} {g n : Nat} {rest : Array Value} {d : Array Nat} {a b a2 b2 : Nat} {d1 d2 : Array Nat} {wr w2 : World} (h : PdI w0 g n rest d a b a2 b2 d1 wr) (hp : Sort.PermIn a2 b2 d1 d2) (hu : US w0 g n rest d2 w2) : PdI w0 g n rest d a b a2 b2 d2 w2:=
 ⟨hu,h.ab,h.bn,h.below.perm (by rw [h.us.len];exact h.bn) hp,fun R h1 h2=>h.cont R (Sort.permIn_trans _ _ _ _ _ hp h1) h2⟩
theorem PdI.size {w0 : World} {g n : Nat} {rest : Array Value} {d : Array Nat} {a b a2 b2 : Nat} {d1 : Array Nat} {wr : World} (h : PdI w0 g n rest d a b a2 b2 d1 wr) : b2 ≤ d1.size:=by rw [h.us.len];exact h.bn
def PdPost (w0 : World) (g n : Nat) (rest : Array Value) (d : Array Nat) (a b : Nat) (e : Ending) (w' : World) : Prop:=
 e = .returned (.tuple #[]) ∧ ∃ d',(Sort.PermIn a b d d' ∧ Sort.SortedIn ltN a b d') ∧ US w0 g n rest d' w'
set_option maxHeartbeats 8000000 in
set_option maxRecDepth 100000 in
theorem pdqU_any : ∀ (N : Nat) (w0 w : World) (g n : Nat) (rest : Array Value) (d : Array Nat) (_ : US w0 g n rest d w) (cap a b limit : Nat),b - a < N → a ≤ b → b ≤ n → n ≤ 1000000 → limit ≤ 1000 → Sort.Below ltN a b d →
  Calls Tryz.prog 91 #[.slice (some ⟨g,0,none⟩) n cap,.int .i64 (a : Int),.int .i64 (b : Int),.int .i64 (limit : Int)] w (PdPost w0 g n rest d a b):=by
 intro N
 induction N with
 | zero=>intro w0 w g n rest d _ cap a b limit h;omega
 | succ N ih=>
 intro w0 w g n rest d h cap a b limit hN hab hb hn hlim hB
 have H : Hid (PdI w0 g n rest d a b a b d w):=⟨h,hab,hb,hB,fun R h1 h2=>⟨h1,h2⟩⟩
 have IH:=Lib.hid ih
 clear h ih hB
 go_enter Tryz.func91,Tryz.ntmps91
 go_wp2_with fail
 go_loopw [1,2,3,8,9] (fun u v l x y wr=>∃ (a2 b2 lim : Nat) (wb wp : Bool) (d1 : Array Nat),b2 - a2 ≤ b - a ∧ u = .int .i64 (a2 : Int) ∧ v = .int .i64 (b2 : Int) ∧ l = .int .i64 (lim : Int) ∧ x = .bool wb ∧ y = .bool wp ∧ lim ≤ 1000 ∧ Hid (PdI w0 g n rest d a b a2 b2 d1 wr)) (fun u v _ _ _ _=>(intOf v - intOf u).toNat)
 case atStart=>exact ⟨a,b,limit,true,true,d,Nat.le_refl _,rfl,rfl,rfl,rfl,rfl,hlim,H.out⟩
 case round=>
  obtain ⟨a2,b2,lim,wb,wp,d1,hlen,rfl,rfl,rfl,rfl,rfl,hlm,hS⟩:=hrel
  have hab2:=hS.out.ab
  have hbn2:=hS.out.bn
  by_cases h12 : b2 ≤ a2 + 12
  ·have h12i : (b2 : Int) - (a2 : Int) ≤ 12:=by omega
   have HC:=Lib.hid (insU_any hS.out.us cap a2 b2 hab2 hbn2 hn)
   go_wp2_with fail
   refine HC.out.mono ?_
   rintro e w2 ⟨rfl,hu⟩
   have HU:=Lib.hid hu
   clear hu
   go_wp2_with fail
   refine bodyPost_ret (v:=.tuple #[]) (by simp [results,Tryz.results91,go_sem]) rfl ?_
   obtain ⟨q1,q2⟩:=Sort.insertionSort_holds swo_ltN d1 a2 b2 hab2 hS.out.size
   exact ⟨rfl,_,hS.out.cont _ q1 q2,HU.out⟩
  ·have h12i : ¬ ((b2 : Int) - (a2 : Int) ≤ 12):=by omega
   by_cases hl0 : lim = 0
   ·have hl0i : (lim : Int) = 0:=by omega
    have HC:=Lib.hid (heapU_any hS.out.us cap a2 b2 (by omega) hbn2 hn)
    go_wp2_with fail
    refine HC.out.mono ?_
    rintro e w2 ⟨rfl,hu⟩
    have HU:=Lib.hid hu
    clear hu
    go_wp2_with fail
    refine bodyPost_ret (v:=.tuple #[]) (by simp [results,Tryz.results91,go_sem]) rfl ?_
    obtain ⟨q1,q2⟩:=Sort.heapSort_holds swo_ltN d1 a2 b2 hab2 hS.out.size
    exact ⟨rfl,_,hS.out.cont _ q1 q2,HU.out⟩
   ·have hl0i : ¬ ((lim : Int) = 0):=by omega
    have HC:=Lib.hid (breakU_any hS.out.us cap a2 b2 (by omega) hbn2 hn)
    go_upto_if 35 with fail
    go_cut [3] (fun v wx=>∃ (l2 : Nat) (d2 : Array Nat),v = .int .i64 (l2 : Int) ∧ l2 ≤ 1000 ∧ Hid (PdI w0 g n rest d a b a2 b2 d2 wx))
    case first=>
     cases wb with
     | true=>
      go_wp2_with fail
      go_meet
      case rel=>exact ⟨lim,d1,rfl,hlm,hS.out⟩
     | false=>
      go_wp2_with fail
      refine HC.out.mono ?_
      rintro e w2 ⟨rfl,d2,hp,hu⟩
      have HP:=Lib.hid (hS.out.perm hp hu)
      clear hp hu
      go_wp2_with fail
      go_meet
      case rel=>exact ⟨lim - 1,d2,by congr 1;omega,by omega,HP.out⟩
    case rest=>
     obtain ⟨l2,d2,rfl,hl2,hP⟩:=hcut
     clear HC hS
     have HC:=Lib.hid (pivotU_any hP.out.us cap a2 b2 (by omega) hbn2 hn)
     go_wp2_with fail
     refine HC.out.mono ?_
     rintro e w3 ⟨p,t,hp1,hp2,ht,rfl,hu⟩
     have HP:=Lib.hid (hP.out.perm (Sort.permIn_refl _ _ _) hu)
     clear hu hP HC
     go_upto_if 50 with fail
     go_cut [11,12] (fun u v wx=>∃ (p2 : Nat) (t2 : Int) (d3 : Array Nat),u = .int .i64 (p2 : Int) ∧ v = .int .i64 t2 ∧ a2 ≤ p2 ∧ p2 < b2 ∧ Hid (PdI w0 g n rest d a b a2 b2 d3 wx))
     case first=>
      by_cases ht2 : t = 2
      ·have HC:=Lib.hid (revU_any HP.out.us cap a2 b2 (by omega) hbn2 hn)
       go_wp2_with fail
       refine HC.out.mono ?_
       rintro e w2 ⟨rfl,hu⟩
       have HU:=Lib.hid (HP.out.perm (Sort.reverseRange_holds d2 a2 b2 hab2 HP.out.size) hu)
       clear hu
       go_wp2_with fail
       go_meet
       case rel=>exact ⟨(b2 - 1) - (p - a2),1,_,by congr 1;omega,rfl,by omega,by omega,HU.out⟩
      ·go_wp2_with fail
       go_meet
       case rel=>exact ⟨p,t,d2,rfl,rfl,hp1,hp2,HP.out⟩
     case rest=>
      obtain ⟨p2,t2,d3,rfl,rfl,hp3,hp4,hP3⟩:=hcut
      clear HP hp1 hp2 ht
      obtain ⟨w5,rfl⟩ : ∃ w5,w5 = wc:=⟨wc,rfl⟩
      go_upto_region 15 with fail
      go_cut [68] (fun v wx=>∃ c,v = .bool c ∧ wx = w5)
      case first=>
       by_cases ht1 : t2 = 1 <;> cases wb <;> cases wp
       all_goals go_wp2_with fail
       all_goals go_meet
       all_goals exact ⟨_,rfl,rfl⟩
      case rest=>
       obtain ⟨c,rfl,rfl⟩:=hcut
       have HC:=Lib.hid (pinsU_any hP3.out.us cap a2 b2 (by omega) hbn2 hn)
       obtain ⟨q1,q2⟩:=Sort.partialInsertionSort_holds swo_ltN d3 a2 b2 (by omega) hP3.out.size hP3.out.below
       obtain ⟨r,hr⟩ : ∃ r,Sort.partialInsertionSort ltN d3 a2 b2 = r:=⟨_,rfl⟩
       rw [hr] at HC q1 q2
       obtain ⟨d4,rb⟩:=r
       have Q1:=Lib.hid q1
       have Q2:=Lib.hid q2
       clear q1 q2 hr
       go_upto_if 68 with fail
       go_cut [] (fun wx=>∃ d4,Hid (PdI w0 g n rest d a b a2 b2 d4 wx))
       case first=>
        cases c with
        | false=>
         go_wp2_with fail
         go_meet
         case rel=>exact ⟨d3,hP3.out⟩
        | true=>
         go_wp2_with fail
         refine HC.out.mono ?_
         rintro e w2 ⟨rfl,hu⟩
         have HU:=Lib.hid (hP3.out.perm Q1.out hu)
         clear hu
         cases rb with
         | true=>
          go_wp2_with fail
          refine bodyPost_ret (v:=.tuple #[]) (by simp [results,Tryz.results91,go_sem]) rfl ?_
          exact ⟨rfl,_,hP3.out.cont _ Q1.out (Q2.out (by trivial)),HU.out.us⟩
         | false=>
          go_wp2_with fail
          go_meet
          case rel=>exact ⟨d4,HU.out⟩
       case rest=>
        obtain ⟨d6,hP6⟩:=hcut
        clear HC Q1 Q2 hP3
        obtain ⟨a1,ha1⟩ : ∃ a1,a2 - 1 = a1:=⟨_,rfl⟩
        have ltp : p2 < n:=by omega
        go_upto_region 17 with fail
        obtain ⟨c,hc⟩ : ∃ c,(decide (0 < a2) && !ltN d6[a1]! d6[p2]!) = c:=⟨_,rfl⟩
        have HC:=Lib.hid hc
        clear hc
        go_cut [87] (fun v wx=>v = .bool c ∧ Hid (US w0 g n rest d6 wx))
        case first=>
         by_cases hg : 0 < a2
         ·have ht : ltN d6[a1]! d6[p2]! = !c:=by
           have:=HC.out
           rw [decide_eq_true hg,Bool.true_and] at this
           rw [← this,Bool.not_not]
          have HT:=Lib.hid ht
          clear ht
          have lgi : a1 < n:=by omega
          have lgj : p2 < n:=by omega
          have ea1 : (a2 : Int) - 1 = (a1 : Int):=by omega
          have va1:=wrapN (k:=a1) (by omega)
          refine Rt.wp_region_rt (by kernel_rfl) [0,1,2,3,4,5,6,7,8,9,10,11,12,13,14] [] [] [0,1,3,7,7,23,63,127,7,7,775,1799,4095,8191,16383] (by kernel_rfl) (fun _ W=>US w0 g n rest d6 W) ?_ ?_
          ·exact US.drawn (hP6.out.us) _
          iterate 6 (refine Rt.rs_sil rfl rfl rfl (fun K hK=>?_);go_simp;refine hK _ ?_;clear hK K)
          (refine Rt.rs_rd rfl rfl rfl ?_;apply Exists.intro;refine ⟨fun us' W hp hl hI=>?_,?_⟩;· (skip;go_simp;rfl));simp only [Act.put,zA,zB,zC,zD,zE,zF]
          (refine Rt.rs_rd rfl rfl rfl ?_;apply Exists.intro;refine ⟨fun us' W hp hl hI=>?_,?_⟩;· (have c0:=US.cell hI (j:=a1) (by omega);have c1:=US.cell hI (j:=p2) (by omega);go_simp;rfl));simp only [Act.put,zA,zB,zC,zD,zE,zF]
          iterate 2 (refine Rt.rs_sil rfl rfl rfl (fun K hK=>?_);go_simp;refine hK _ ?_;clear hK K)
          (refine Rt.rs_rd rfl rfl rfl ?_;apply Exists.intro;refine ⟨fun us' W hp hl hI=>?_,?_⟩;· (skip;go_simp;rfl));simp only [Act.put,zA,zB,zC,zD,zE,zF]
          (refine Rt.rs_rd rfl rfl rfl ?_;apply Exists.intro;refine ⟨fun us' W hp hl hI=>?_,?_⟩;· (have c0:=US.cell hI (j:=a1) (by omega);have c1:=US.cell hI (j:=p2) (by omega);go_simp;rfl));simp only [Act.put,zA,zB,zC,zD,zE,zF]
          refine Rt.rs_qt rfl rfl rfl ?_
          apply Exists.intro
          refine ⟨fun us' W hp hl hI=>?_,?_⟩
          ·refine Rt.gives_cal ?_
           apply Exists.intro
           apply Exists.intro
           apply Exists.intro
           refine ⟨by go_simp;exact ⟨⟨rfl,rfl⟩,rfl⟩,?_⟩
           refine (lessU_any W _ _).mono ?_
           rintro e w7 ⟨rfl,rfl⟩
           exact ⟨_,rfl,by rw [HT.out],hI⟩
          simp only [Act.put,zA,zB,zC,zD,zE,zF]
          iterate 2 (refine Rt.rs_sil rfl rfl rfl (fun K hK=>?_);go_simp;refine hK _ ?_;clear hK K)
          refine Rt.rs_nil (fun W hI=>?_)
          replace hI:=Lib.hid hI
          go_wp2_with fail
          all_goals go_meet
          all_goals exact ⟨by first | rfl | simp,hI⟩
         ·have ht : false = c:=by
           have:=HC.out
           rw [decide_eq_false hg,Bool.false_and] at this
           exact this
          subst ht
          refine Rt.wp_region_rt (by kernel_rfl) [0,1,2,3,4,5,6,7,8,9,10,11,12,13,14] [] [] [0,1,3,7,7,23,63,127,7,7,775,1799,4095,8191,16383] (by kernel_rfl) (fun _ W=>US w0 g n rest d6 W) ?_ ?_
          ·exact US.drawn (hP6.out.us) _
          iterate 3 (refine Rt.rs_sil rfl rfl rfl (fun K hK=>?_);go_simp;refine hK _ ?_;clear hK K)
          iterate 11 ((refine Rt.rs_skip rfl rfl rfl ?_;simp only [Act.put,zA,zB,zC,zD,zE,zF]))
          (refine Rt.rs_sil rfl rfl rfl (fun K hK=>?_);go_simp;refine hK _ ?_;clear hK K)
          refine Rt.rs_nil (fun W hI=>?_)
          replace hI:=Lib.hid hI
          go_wp2_with fail
          all_goals go_meet
          all_goals exact ⟨by first | rfl | simp,hI⟩
        case rest=>
         obtain ⟨rfl,hW⟩:=hcut
         have HP6:=Lib.hid (hP6.out.perm (Sort.permIn_refl _ _ _) hW.out)
         have HA1:=Lib.hid ha1
         clear hP6 hW ha1
         cases c with
         | true=>
          have HC2:=Lib.hid (pareqU_any HP6.out.us cap a2 b2 p2 (by omega) hbn2 ltp hn)
          obtain ⟨r,hr⟩ : ∃ r,Sort.partitionEqual ltN d6 a2 b2 p2 = r:=⟨_,rfl⟩
          rw [hr] at HC2
          obtain ⟨mid,d7⟩:=r
          have hcc:=HC.out
          rw [Bool.and_eq_true,decide_eq_true_eq,Bool.not_eq_true',← HA1.out] at hcc
          obtain ⟨g1,g2,g3,g4,g5⟩:=Sort.round_eq swo_ltN (Sort.partitionEqual_holds ltN) hcc.1 hp3 hp4 HP6.out.size HP6.out.below hcc.2 hr
          have G4:=Lib.hid g4
          have G5:=Lib.hid g5
          clear hr hcc g4 g5 g3
          go_wp2_with fail
          refine HC2.out.mono ?_
          rintro e w2 ⟨rfl,hu⟩
          have HU : Hid (PdI w0 g n rest d a b mid b2 d7 w2):=⟨hu,g2,hbn2,G4.out,fun R h1 h2=>HP6.out.cont R (G5.out R h1 h2).1 (G5.out R h1 h2).2⟩
          clear hu
          go_wp2_with fail
          exact ⟨⟨mid,b2,l2,wb,wp,d7,by omega,rfl,rfl,rfl,rfl,rfl,hl2,HU.out⟩,by simp [intOf];omega⟩
         | false=>
          have HC2:=Lib.hid (partU_any HP6.out.us cap a2 b2 p2 (by omega) hbn2 ltp hn)
          obtain ⟨r,hr⟩ : ∃ r,Sort.partition ltN d6 a2 b2 p2 = r:=⟨_,rfl⟩
          rw [hr] at HC2
          obtain ⟨mid,ap,d7⟩:=r
          obtain ⟨g1,g2,g3,g4,g5,g6,g7⟩:=Sort.round_part swo_ltN (Sort.partition_holds ltN) hp3 hp4 HP6.out.size HP6.out.below hr
          have G4:=Lib.hid g4
          have G5:=Lib.hid g5
          have G6:=Lib.hid g6
          have G7:=Lib.hid g7
          clear hr g4 g5 g6 g7 g3
          go_wp2_with fail
          refine HC2.out.mono ?_
          rintro e w2 ⟨rfl,hu⟩
          have HU:=Lib.hid hu
          clear hu
          by_cases hlt : mid - a2 < b2 - mid
          ·have hlti : (mid : Int) - (a2 : Int) < (b2 : Int) - (mid : Int):=by omega
           have HC3:=Lib.hid (IH.out _ _ _ _ _ _ HU.out cap a2 mid l2 (by omega) g1 (by omega) hn hl2 G4.out)
           go_wp2_with fail
           refine HC3.out.mono ?_
           rintro e w4 ⟨rfl,L,⟨hL1,hL2⟩,hu⟩
           have HU2 : Hid (PdI w0 g n rest d a b (mid + 1) b2 L w4):=⟨hu,by omega,hbn2,(G6.out L hL1 hL2).1,fun R h1 h2=>HP6.out.cont R ((G6.out L hL1 hL2).2 R h1 h2).1 ((G6.out L hL1 hL2).2 R h1 h2).2⟩
           clear hu hL1 hL2
           go_wp2_with fail
           exact ⟨⟨mid + 1,b2,l2,_,_,L,by omega,rfl,rfl,rfl,rfl,rfl,hl2,HU2.out⟩,by simp [intOf];omega⟩
          ·have hlti : ¬ ((mid : Int) - (a2 : Int) < (b2 : Int) - (mid : Int)):=by omega
           have HC3:=IH.out _ _ _ _ _ _ HU.out cap (mid + 1) b2 l2 (by omega) (by omega) hbn2 hn hl2 G5.out
           rw [show ((mid + 1 : Nat) : Int) = (mid : Int) + 1 by omega] at HC3
           replace HC3:=Lib.hid HC3
           go_wp2_with fail
           refine HC3.out.mono ?_
           rintro e w4 ⟨rfl,L,⟨hL1,hL2⟩,hu⟩
           have HU2 : Hid (PdI w0 g n rest d a b a2 mid L w4):=⟨hu,g1,by omega,(G7.out L hL1 hL2).1,fun R h1 h2=>HP6.out.cont R ((G7.out L hL1 hL2).2 R h1 h2).1 ((G7.out L hL1 hL2).2 R h1 h2).2⟩
           clear hu hL1 hL2
           go_wp2_with fail
           exact ⟨⟨a2,mid,l2,_,_,L,by omega,rfl,rfl,rfl,rfl,rfl,hl2,HU2.out⟩,by simp [intOf];omega⟩
end Go.Proofs.YtihfcjioilmmjaaGreat
namespace Go.Proofs.YtihfcjioilmmjaaGreat
open Go Go.RowKit
open Go.Lib Go.Proofs
theorem US.of {w : World} {base : Nat} {g cap : Nat} {l : List Nat} {cur : Array Value} (hg : w.heap[g]? = some (.cells cur 118 (0,0))) (ht : cur.toList.take l.length = l.map U64) :
  US w g l.length (cur.toList.drop l.length).toArray l.toArray w:=by
 refine ⟨But.refl _ _,heap_lt hg,?_,by simp⟩
 rw [hg]
 congr 2
 apply Array.ext'
 rw [Array.toList_append,Array.toList_map]
 show cur.toList = l.map U64 ++ cur.toList.drop l.length
 rw [← ht,List.take_append_drop]
theorem sortedN {n : Nat} {d : Array Nat} (hn : d.size = n) (h : Sort.SortedIn ltN 0 n d) : d.toList.Pairwise (· ≤ ·):=by
 rw [List.pairwise_iff_getElem]
 intro i j hi hj hij
 rw [Array.length_toList] at hi hj
 have:=h i j (Nat.zero_le _) hij (by omega)
 rw [getElem!_pos d i hi,getElem!_pos d j hj] at this
 unfold ltN at this
 simp only [decide_eq_false_iff_not] at this
 simp only [Array.getElem_toList]
 omega
theorem permN {n : Nat} {d d' : Array Nat} (hn : d.size = n) (h : Sort.PermIn 0 n d d') : d'.toList.Perm d.toList:=by
 have:=h.2.2
 have h1:=h.1
 subst hn
 rw [Array.extract_size] at this
 rw [← h1,Array.extract_size] at this
 exact this
set_option maxHeartbeats 1000000 in
set_option maxRecDepth 100000 in
theorem insU_nil (w : World) : Calls Tryz.prog 118 #[.slice none 0 0,.int .i64 0,.int .i64 0] w fun e w'=>e = .returned (.tuple #[]) ∧ w = w':=by
 go_enter Tryz.func118,Tryz.ntmps118
 go_wp2_with fail
 go_loopw [6] (fun i wr=>i = .int .i64 1 ∧ wr = w) (fun _ _=>0)
 case atStart=>exact ⟨rfl,rfl⟩
 case round=>
  obtain ⟨rfl,rfl⟩:=hrel
  go_wp2_with fail
  go_end0
  exact ⟨rfl,rfl⟩
set_option maxHeartbeats 1000000 in
set_option maxRecDepth 100000 in
theorem pdqU_nil (w : World) (lim : Int) : Calls Tryz.prog 91 #[.slice none 0 0,.int .i64 0,.int .i64 0,.int .i64 lim] w fun e w'=>e = .returned (.tuple #[]) ∧ w = w':=by
 have H:=Lib.hid (insU_nil w)
 go_enter Tryz.func91,Tryz.ntmps91
 go_wp2_with fail
 go_loopw [1,2] (fun u v wr=>u = .int .i64 0 ∧ v = .int .i64 0 ∧ wr = w) (fun _ _ _=>0)
 case atStart=>exact ⟨rfl,rfl,rfl⟩
 case round=>
  obtain ⟨rfl,rfl,rfl⟩:=hrel
  go_wp2_with fail
  refine H.out.mono ?_
  rintro e w2 ⟨rfl,rfl⟩
  go_wp2_with fail
  refine bodyPost_ret (v:=.tuple #[]) (by simp [results,Tryz.results91,go_sem]) rfl ?_
  exact ⟨rfl,rfl⟩
def SortPost (w : World) (base : Nat) (v : Value) (l : List Nat) (e : Ending) (w' : World) : Prop:=
 e = .returned (.tuple #[]) ∧ w.grownBy w' v.ownBlock ∧ ∃ l' : List Nat,l'.Perm l ∧ l'.Pairwise (· ≤ ·) ∧ w'.ownsRow base 118 1 v l.length (l'.map U64)
set_option maxHeartbeats 4000000 in
set_option maxRecDepth 100000 in
theorem sortU_any {w : World} {base : Nat} {v : Value} {l : List Nat} (h : w.ownsRow base 118 1 v l.length (l.map U64)) (hn : l.length ≤ 1000000) :
  Calls Tryz.prog 67 #[v] w (SortPost w base v l):=by
 rcases h.2 with ⟨rfl,hz⟩ | ⟨g,cap,cur,rfl,hbase,hg,hc1,hc2,hc3,hc4⟩
 ·obtain rfl : l = []:=List.eq_nil_of_length_eq_zero hz
  have HL:=Lib.hid (Tryz.bits_Len 0 w (by omega) (by omega))
  have HP:=Lib.hid (pdqU_nil w)
  clear h
  go_enter Tryz.func67,Tryz.ntmps67
  go_wp2_with fail
  refine HL.out.mono ?_
  rintro e w2 ⟨rfl,rfl⟩
  go_wp2_with fail
  refine (HP.out _).mono ?_
  rintro e w3 ⟨rfl,rfl⟩
  go_wp2_with fail
  go_end0
  exact ⟨rfl,⟨rfl,rfl,rfl,Nat.le_refl _,fun _ _ _=>rfl⟩,[],List.Perm.refl _,List.Pairwise.nil,World.ownsRow_nil _ _ _ _⟩
 ·rw [Nat.mul_one] at hc4 hc3
  have hU:=US.of (base:=base) (cap:=cap) hg hc4
  obtain ⟨n,hnl⟩ : ∃ n,l.length = n:=⟨_,rfl⟩
  have HNL:=Lib.hid hnl
  rw [hnl] at hU hn hc1
  have wn : IntKind.u64.wrap (n : Int) = (n : Int):=by simp [IntKind.wrap,IntKind.bits,IntKind.signed];omega
  have HL:=Lib.hid (Tryz.bits_Len (n : Int) w (by omega) (by omega))
  have hlim:=Any.bitLen_le64 (n : Int) (by omega) (by omega)
  obtain ⟨lim,hlm⟩ : ∃ lim,Lib.bitLen (n : Int).toNat = lim:=⟨_,rfl⟩
  rw [hlm] at HL hlim
  have HP:=Lib.hid (pdqU_any (n + 1) w w g n _ _ hU cap 0 n lim (by omega) (Nat.zero_le _) (Nat.le_refl _) hn (by omega) (.inl rfl))
  have HGG:=Lib.hid (And.intro hg (And.intro hbase (And.intro hc1 (And.intro hc2 hc3))))
  clear h hg hc4 hc1 hc2 hc3 hU hlim hlm hbase
  rw [hnl]
  clear hnl
  go_enter Tryz.func67,Tryz.ntmps67
  go_wp2_with fail
  refine HL.out.mono ?_
  rintro e w2 ⟨rfl,rfl⟩
  go_wp2_with fail
  refine HP.out.mono ?_
  rintro e w3 ⟨rfl,d',⟨hp,hs⟩,hu⟩
  have HU:=Lib.hid hu
  have HP2:=Lib.hid hp
  have HS:=Lib.hid hs
  clear hu hp hs
  go_wp2_with fail
  go_end0
  obtain ⟨hg,hbase,hc1,hc2,hc3⟩:=HGG.out
  have hu:=HU.out
  have hdl : d'.toList.length = n:=by rw [Array.length_toList];exact hu.len
  have hl:=HNL.out
  refine ⟨rfl,⟨hu.but.os,hu.but.tape,hu.but.output,hu.but.size,fun k hk hne=>hu.but.block k hk fun e=>hne (by rw [e];rfl)⟩,d'.toList,permN (by simp [hl]) HP2.out,sortedN hu.len HS.out,by rw [List.length_map,hdl,hl,Nat.mul_one],.inr ⟨g,cap,_,by rw [hl],hbase,hu.row,by omega,hc2,?_,?_⟩⟩
  ·rw [Array.size_append,Array.size_map,hu.len,List.size_toArray,List.length_drop,Array.length_toList,hc3,Nat.mul_one]
   omega
  ·rw [Nat.mul_one,Array.toList_append,Array.toList_map,List.take_left' (by rw [List.length_map];exact hdl.trans hl.symm)]
end Go.Proofs.YtihfcjioilmmjaaGreat
namespace Go.Proofs.YtihfcjioilmmjaaGreat
open Go Go.RowKit
open Go.Lib Go.Proofs
structure CzI (w0 : World) (g n : Nat) (rest : Array Value) (z : Array Nat) (k m : Nat) (d : Array Nat) (wr : World) : Prop where
 us : US w0 g n rest d wr
 row : d.toList = compactUpTo z m ++ z.toList.drop k
 len : (compactUpTo z m).length = k
theorem CzI.get {w0 : World} {g n : Nat} {rest : Array Value} {z : Array Nat} {k m : Nat} {d : Array Nat} {wr : World} (h : CzI w0 g n rest z k m d wr) (hz : z.size = n) {j : Nat} (hj : k ≤ j) (hjn : j < n) : d[j]! = z[j]!:=by
 have hd : j < d.size:=by rw [h.us.len];exact hjn
 have h1 : d.toList[j]? = z.toList[j]?:=by
  rw [h.row,List.getElem?_append_right (by rw [h.len];exact hj),h.len,List.getElem?_drop,show k + (j - k) = j by omega]
 rw [getElem!_pos d j hd,getElem!_pos z j (by omega)]
 rw [Array.getElem?_toList,Array.getElem?_toList,Array.getElem?_eq_getElem hd,Array.getElem?_eq_getElem (show j < z.size by omega)] at h1
 exact Option.some.inj h1
theorem CzI.skip {w0 : World} {g n : Nat} {rest : Array Value} {z : Array Nat} {k m : Nat} {d : Array Nat} {wr w2 : World} (h : CzI w0 g n rest z k m d wr) (hu : US w0 g n rest d w2) (hk : keeps z m = false) : CzI w0 g n rest z k (m + 1) d w2:=by
 have e : compactUpTo z (m + 1) = compactUpTo z m:=by rw [compactUpTo_succ,hk];simp
 exact ⟨hu,by rw [e];exact h.row,by rw [e];exact h.len⟩
theorem CzI.keep {w0 : World} {g n : Nat} {rest : Array Value} {z : Array Nat} {k m : Nat} {d : Array Nat} {wr w2 : World} (h : CzI w0 g n rest z k m d wr) (hz : z.size = n) (hkn : k < n) (hu : US w0 g n rest (d.setIfInBounds k z[m]!) w2) (hk : keeps z m = true) : CzI w0 g n rest z (k + 1) (m + 1) (d.setIfInBounds k z[m]!) w2:=by
 have e : compactUpTo z (m + 1) = compactUpTo z m ++ [z[m]!]:=by rw [compactUpTo_succ,hk];simp
 refine ⟨hu,?_,by rw [e,List.length_append,h.len];rfl⟩
 rw [Array.toList_setIfInBounds,h.row,e,List.set_append_right _ _ (by rw [h.len];exact Nat.le_refl _),h.len,Nat.sub_self,List.drop_eq_getElem_cons (by rw [Array.length_toList];omega)]
 simp
theorem CzI.all {w0 : World} {g n : Nat} {rest : Array Value} {z : Array Nat} {k : Nat} {wr w2 : World} (h : CzI w0 g n rest z k k z wr) (hz : z.size = n) (hkn : k < n) (hu : US w0 g n rest z w2) (hk : keeps z k = true) : CzI w0 g n rest z (k + 1) (k + 1) z w2:=by
 have e : compactUpTo z (k + 1) = compactUpTo z k ++ [z[k]!]:=by rw [compactUpTo_succ,hk];simp
 refine ⟨hu,?_,by rw [e,List.length_append,h.len];rfl⟩
 have h1:=h.row
 rw [List.drop_eq_getElem_cons (by rw [Array.length_toList];omega)] at h1
 rw [e,List.append_assoc,getElem!_pos z k (by omega)]
 simpa using h1
theorem US.puts {w0 : World} {g n : Nat} {rest : Array Value} : ∀ (xs : List Nat) (o : Nat) {d : Array Nat} {wr : World},US w0 g n rest d wr → o + xs.length ≤ n → ∃ d' : Array Nat,d'.toList.take o = d.toList.take o ∧ US w0 g n rest d' (wr.setCells g o (xs.map U64))
 | [],o,d,wr,h,_=>⟨d,rfl,h⟩
 | x :: r,o,d,wr,h,ho=>by
  rw [List.length_cons] at ho
  obtain ⟨d',h1,h2⟩:=US.puts r (o + 1) (h.put (j:=o) (by omega) x) (by omega)
  refine ⟨d',?_,h2⟩
  have:=congrArg (List.take o) h1
  rw [List.take_take,List.take_take,Nat.min_eq_left (by omega)] at this
  rw [this,Array.toList_setIfInBounds,List.take_set_of_le (Nat.le_refl _)]
def CompPost (w0 : World) (g n : Nat) (rest : Array Value) (z : Array Nat) (cap : Nat) (e : Ending) (w' : World) : Prop:=
 e = .returned (.slice (some ⟨g,0,none⟩) (compactUpTo z n).length cap) ∧ ∃ d' : Array Nat,d'.toList.take (compactUpTo z n).length = compactUpTo z n ∧ US w0 g n rest d' w'
set_option maxHeartbeats 4000000 in
set_option maxRecDepth 100000 in
theorem compU_walk {w0 w : World} {g n : Nat} {rest : Array Value} {z : Array Nat} (h : US w0 g n rest z w) (cap : Nat) (hcap : n ≤ cap) (h2 : ¬ n < 2) (hn : n ≤ 1000000) (hkp0 : keeps z 0 = true) :
  Calls Tryz.prog 68 #[.slice (some ⟨g,0,none⟩) n cap] w (CompPost w0 g n rest z cap):=by
 have hz:=h.len
 have H:=Lib.hid h
 have HZ:=Lib.hid hz
 have HK0:=Lib.hid hkp0
 clear h hz hkp0
 have h2i : ¬ ((n : Int) < 2):=by omega
 go_enter Tryz.func68,Tryz.ntmps68
 go_wp2_with fail
 go_loopw [3] (fun u wr=>∃ (k : Nat),1 ≤ k ∧ k ≤ n ∧ u = .int .i64 (k : Int) ∧ Hid (CzI w0 g n rest z k k z wr)) (fun u _=>n - (intOf u).toNat)
 case atStart=>
  have h0 : CzI w0 g n rest z 0 0 z w:=⟨H.out,by simp [compactUpTo],rfl⟩
  exact ⟨1,Nat.le_refl _,by omega,rfl,h0.all HZ.out (by omega) H.out HK0.out⟩
 case round=>
  obtain ⟨k,hk1,hkn,rfl,hS⟩:=hrel
  by_cases hlt : k < n
  ·
   obtain ⟨p,hp⟩ : ∃ p : Nat,k - 1 = p:=⟨_,rfl⟩
   have ep : (k : Int) - 1 = (p : Int):=by omega
   have vp:=wrapN (k:=p) (by omega)
   have ltp : p < n:=by omega
   obtain ⟨c,hc⟩ : ∃ c : Bool,(((z[k]! : Nat) : Int) == ((z[p]! : Nat) : Int)) = c:=⟨_,rfl⟩
   have HC:=Lib.hid hc
   go_upto_region 6 with fail
   refine Rt.wp_region_rt (by kernel_rfl) [0,1,2,3,4,5,6,7,8,9] [] [] [0,0,3,7,0,0,32,112,240,511] (by kernel_rfl) (fun _ W=>US w0 g n rest z W) ?_ ?_
   ·exact US.drawn (hS.out.us) _
   iterate 2 (refine Rt.rs_sil rfl rfl rfl (fun K hK=>?_);go_simp;refine hK _ ?_;clear hK K)
   (refine Rt.rs_rd rfl rfl rfl ?_;apply Exists.intro;refine ⟨fun us' W hp hl hI=>?_,?_⟩;· (skip;go_simp;rfl));simp only [Act.put,zA,zB,zC,zD,zE,zF]
   (refine Rt.rs_rd rfl rfl rfl ?_;apply Exists.intro;refine ⟨fun us' W hp hl hI=>?_,?_⟩;· (have c0:=US.cell hI (j:=k) (by omega);have c1:=US.cell hI (j:=p) (by omega);go_simp;rfl));simp only [Act.put,zA,zB,zC,zD,zE,zF]
   iterate 3 (refine Rt.rs_sil rfl rfl rfl (fun K hK=>?_);go_simp;refine hK _ ?_;clear hK K)
   (refine Rt.rs_rd rfl rfl rfl ?_;apply Exists.intro;refine ⟨fun us' W hp hl hI=>?_,?_⟩;· (skip;go_simp;rfl));simp only [Act.put,zA,zB,zC,zD,zE,zF]
   (refine Rt.rs_rd rfl rfl rfl ?_;apply Exists.intro;refine ⟨fun us' W hp hl hI=>?_,?_⟩;· (have c0:=US.cell hI (j:=k) (by omega);have c1:=US.cell hI (j:=p) (by omega);go_simp;rfl));simp only [Act.put,zA,zB,zC,zD,zE,zF]
   (refine Rt.rs_sil rfl rfl rfl (fun K hK=>?_);go_simp;refine hK _ ?_;clear hK K)
   refine Rt.rs_nil (fun W hI=>?_)
   replace hI:=Lib.hid hI
   clear hc
   cases c with
   | false=>
    have hkp : keeps z k = true:=keeps_pos (by have:=HC.out;simp at this;rw [hp];omega)
    have HN:=Lib.hid (hS.out.all HZ.out hlt hI.out hkp)
    clear hkp hp ep vp
    go_wp2_with fail
    exact ⟨⟨k + 1,by omega,by omega,rfl,HN.out⟩,by simp [intOf];omega⟩
   | true=>
    have hkp : keeps z k = false:=keeps_neg (by omega) (by have:=HC.out;simp at this;rw [hp];omega)
    have HN:=Lib.hid (hS.out.skip hI.out hkp)
    clear hkp hp ep vp
    go_wp2_with fail
    obtain ⟨n2,hn2⟩ : ∃ n2,n - k = n2:=⟨_,rfl⟩
    rw [hn2]
    have hn2a : k + n2 = n:=by omega
    have HK2:=Lib.hid hn2a
    clear hn2a
    go_loopw [3,5] (fun u v wr=>∃ (kk q : Nat) (d1 : Array Nat),1 ≤ q ∧ q ≤ n2 ∧ k ≤ kk ∧ kk < k + q ∧ u = .int .i64 (kk : Int) ∧ v = .int .i64 (q : Int) ∧ Hid (CzI w0 g n rest z kk (k + q) d1 wr)) (fun _ v _=>n2 - (intOf v).toNat)
    case atStart=>exact ⟨k,1,z,Nat.le_refl _,by omega,Nat.le_refl _,by omega,rfl,rfl,HN.out⟩
    case round=>
     obtain ⟨kk,q,d1,hq1,hqn,hkk,hkq,rfl,rfl,hT⟩:=hrel
     have hkz:=HK2.out
     by_cases hqlt : q < n2
     ·obtain ⟨p,hp⟩ : ∃ p,q - 1 = p:=⟨_,rfl⟩
      have ep : (q : Int) - 1 = (p : Int):=by omega
      have vp:=wrapN (k:=p) (by omega)
      have ltp : p < n2:=by omega
      obtain ⟨x,hx⟩ : ∃ x,k + q = x:=⟨_,rfl⟩
      obtain ⟨y,hy⟩ : ∃ y,k + p = y:=⟨_,rfl⟩
      have ex:=hT.out.get HZ.out (j:=x) (by omega) (by omega)
      have ey:=hT.out.get HZ.out (j:=y) (by omega) (by omega)
      have EX:=Lib.hid ex
      have EY:=Lib.hid ey
      have HXX:=Lib.hid hx
      have hxy : x - 1 = y:=by omega
      have HXY:=Lib.hid hxy
      obtain ⟨c,hc⟩ : ∃ c : Bool,(((d1[x]! : Nat) : Int) != ((d1[y]! : Nat) : Int)) = c:=⟨_,rfl⟩
      have HC2:=Lib.hid hc
      have hxn : x < n:=by omega
      have hx1 : 0 < x:=by omega
      have hkkn : kk < n:=by omega
      clear ex ey hxy hkz
      go_upto_region 11 with fail
      refine Rt.wp_region_rt (by kernel_rfl) [0,1,2,3,4,5,6,7,8,9] [] [] [0,0,3,7,0,0,32,112,240,511] (by kernel_rfl) (fun _ W=>US w0 g n rest d1 W) ?_ ?_
      ·exact US.drawn (hT.out.us) _
      iterate 2 (refine Rt.rs_sil rfl rfl rfl (fun K hK=>?_);go_simp;refine hK _ ?_;clear hK K)
      (refine Rt.rs_rd rfl rfl rfl ?_;apply Exists.intro;refine ⟨fun us' W hp hl hI=>?_,?_⟩;· (skip;go_simp;rfl));simp only [Act.put,zA,zB,zC,zD,zE,zF]
      (refine Rt.rs_rd rfl rfl rfl ?_;apply Exists.intro;refine ⟨fun us' W hp hl hI=>?_,?_⟩;· (have c0:=US.cell hI (j:=x) (by omega);have c1:=US.cell hI (j:=y) (by omega);go_simp;rfl));simp only [Act.put,zA,zB,zC,zD,zE,zF]
      iterate 3 (refine Rt.rs_sil rfl rfl rfl (fun K hK=>?_);go_simp;refine hK _ ?_;clear hK K)
      (refine Rt.rs_rd rfl rfl rfl ?_;apply Exists.intro;refine ⟨fun us' W hp hl hI=>?_,?_⟩;· (skip;go_simp;rfl));simp only [Act.put,zA,zB,zC,zD,zE,zF]
      (refine Rt.rs_rd rfl rfl rfl ?_;apply Exists.intro;refine ⟨fun us' W hp hl hI=>?_,?_⟩;· (have c0:=US.cell hI (j:=x) (by omega);have c1:=US.cell hI (j:=y) (by omega);go_simp;rfl));simp only [Act.put,zA,zB,zC,zD,zE,zF]
      (refine Rt.rs_sil rfl rfl rfl (fun K hK=>?_);go_simp;refine hK _ ?_;clear hK K)
      refine Rt.rs_nil (fun W hI=>?_)
      replace hI:=Lib.hid hI
      clear hc
      cases c with
      | true=>
       have hkp : keeps z x = true:=keeps_pos (by have:=HC2.out;rw [HXY.out,← EX.out,← EY.out];simp at this;omega)
       have c0:=hI.out.cell (j:=x) hxn
       have c1:=hI.out.cell (j:=kk) hkkn
       have f1:=hI.out.froz kk
       have HCZ : Hid (CzI w0 g n rest z kk x d1 W):=by have:=hT.out;rw [HXX.out] at this;exact ⟨hI.out,this.row,this.len⟩
       obtain ⟨W2,hW2⟩ : ∃ W2,W2 = W.setCell ⟨g,kk,none⟩ (.int .u64 ((d1[x]! : Nat) : Int)):=⟨_,rfl⟩
       have HN2 : Hid (CzI w0 g n rest z (kk + 1) (x + 1) (d1.setIfInBounds kk z[x]!) W2):=by
        rw [hW2]
        have:=hI.out.put (j:=kk) hkkn d1[x]!
        rw [EX.out] at this ⊢
        exact HCZ.out.keep HZ.out hkkn this hkp
       clear hkp hp ep vp hy
       go_upto_region 13 with fail
       rw [← hW2]
       clear hW2 c0 c1 f1 hx
       go_wp2_with fail
       exact ⟨⟨kk + 1,q + 1,_,by omega,by omega,by omega,by omega,rfl,rfl,by have:=HN2.out;rw [← HXX.out] at this;exact this⟩,by simp [intOf];omega⟩
      | false=>
       have hkp : keeps z x = false:=keeps_neg hx1 (by have:=HC2.out;rw [HXY.out,← EX.out,← EY.out];simp at this;omega)
       have HCZ : Hid (CzI w0 g n rest z kk (x + 1) d1 W):=by have:=hT.out;rw [HXX.out] at this;exact this.skip hI.out hkp
       clear hkp hp ep vp hy hx
       go_wp2_with fail
       exact ⟨⟨kk,q + 1,d1,by omega,by omega,by omega,by omega,rfl,rfl,by have:=HCZ.out;rw [← HXX.out] at this;exact this⟩,by simp [intOf];omega⟩
     ·have hqe : q = n2:=by omega
      have HE : Hid (CzI w0 g n rest z kk n d1 wr):=by have:=hT.out;rw [hqe,HK2.out] at this;exact this
      have hkkn : kk < n:=by omega
      have hcl : ∀ ty,(Builtin.clear_ #[171] ty #[.slice (some ⟨g,kk,none⟩) (n - kk) (cap - kk)]).run Tryz.prog wr = .ok (.tuple #[]) (wr.setCells g kk (List.replicate (n - kk) (.int .u64 0))):=fun ty=>
       Lib.run_clear_slice wr 171 118 ty _ Tryz.underlying171 Tryz.zeroValue118 rfl rfl g kk _ _ (by omega) (fun j hj=>by rw [HE.out.us.cell (j:=kk + j) (by omega)];rfl) (fun j hj=>HE.out.us.froz (kk + j))
      obtain ⟨d',hd1,hd2⟩:=US.puts (List.replicate (n - kk) 0) kk HE.out.us (by rw [List.length_replicate];omega)
      have hzr : (List.replicate (n - kk) 0).map U64 = List.replicate (n - kk) (.int .u64 0):=by rw [List.map_replicate];rfl
      rw [hzr] at hd2
      have HD1:=Lib.hid hd1
      have HD2:=Lib.hid hd2
      have hqi : ¬ ((q : Int) < (n2 : Int)):=by omega
      clear hd1 hd2 hzr hkz hqe
      go_wp2_with fail
      go_ret
      have hl:=HE.out.len
      refine ⟨by rw [hl];rfl,d',?_,HD2.out⟩
      rw [hl,HD1.out,HE.out.row]
      have : (compactUpTo z n).length = kk:=hl
      rw [← this,List.take_left]
  ·have hke : k = n:=by omega
   go_wp2_with fail
   go_ret
   have hS2:=hS.out
   rw [hke] at hS2
   have hl:=hS2.len
   refine ⟨by rw [hl];rfl,z,?_,hS2.us⟩
   have:=hS2.row
   rw [List.drop_of_length_le (by rw [Array.length_toList,HZ.out];exact Nat.le_refl _),List.append_nil] at this
   rw [this,List.take_length]
set_option maxHeartbeats 1000000 in
set_option maxRecDepth 100000 in
theorem compU_few (p : Option Addr) (n c : Nat) (h : n < 2) (w : World) : Calls Tryz.prog 68 #[.slice p n c] w fun e w'=>e = .returned (.slice p n c) ∧ w = w':=by
 have h2i : (n : Int) < 2:=by omega
 go_enter Tryz.func68,Tryz.ntmps68
 go_wp2_with fail
 go_ret
 exact ⟨rfl,rfl⟩
theorem compact_few {l : List Nat} (h : l.length < 2) : compact l = l:=by
 match l,h with
 | [],_=>rfl
 | [x],_=>rfl
 | _ :: _ :: _,h=>simp at h;omega
def CompactPost (w : World) (base : Nat) (v : Value) (l : List Nat) (e : Ending) (w' : World) : Prop:=
 ∃ v',e = .returned v' ∧ v'.ownBlock = v.ownBlock ∧ w.grownBy w' v.ownBlock ∧ w'.ownsRow base 118 1 v' (compact l).length ((compact l).map U64)
theorem compactU_any {w : World} {base : Nat} {v : Value} {l : List Nat} (h : w.ownsRow base 118 1 v l.length (l.map U64)) (hn : l.length ≤ 1000000) :
  Calls Tryz.prog 68 #[v] w (CompactPost w base v l):=by
 by_cases h2 : l.length < 2
 ·obtain ⟨p,c,rfl⟩ : ∃ p c,v = .slice p l.length c:=owns_form h
  refine (compU_few p l.length c h2 w).mono ?_
  rintro e w' ⟨rfl,rfl⟩
  rw [CompactPost,compact_few h2]
  exact ⟨_,rfl,rfl,⟨rfl,rfl,rfl,Nat.le_refl _,fun _ _ _=>rfl⟩,h⟩
 ·rcases h.2 with ⟨rfl,hz⟩ | ⟨g,cap,cur,rfl,hbase,hg,hc1,hc2,hc3,hc4⟩
  ·omega
  ·rw [Nat.mul_one] at hc4 hc3
   have hU:=US.of (base:=base) (cap:=cap) hg hc4
   refine (compU_walk hU cap hc1 h2 hn (keeps_lt_one _ 0 (by omega))).mono ?_
   rintro e w' ⟨rfl,d',hd,hu⟩
   have hcl : (compact l).length ≤ l.length:=compact_le l
   have hcc : compactUpTo l.toArray l.length = compact l:=rfl
   rw [hcc] at hd ⊢
   have hdl : d'.toList.length = l.length:=by rw [Array.length_toList];exact hu.len
   refine ⟨_,rfl,rfl,⟨hu.but.os,hu.but.tape,hu.but.output,hu.but.size,fun k hk hne=>hu.but.block k hk fun e=>hne (by rw [e];rfl)⟩,by simp,.inr ⟨g,cap,_,rfl,hbase,hu.row,by omega,hc2,?_,?_⟩⟩
   ·have h3 : cur.toList.length = cap:=by rw [Array.length_toList];exact hc3
    rw [Array.size_append,Array.size_map,hu.len,List.size_toArray,List.length_drop,h3,Nat.mul_one]
    show l.length + (cap - l.length) = cap
    omega
   ·rw [Nat.mul_one,Array.toList_append,Array.toList_map,List.take_append_of_le_length (by rw [List.length_map,hdl];exact hcl),← List.map_take,hd]
end Go.Proofs.YtihfcjioilmmjaaGreat
namespace Go.Proofs.YtihfcjioilmmjaaGreat
open Go Go.RowKit
open Go.Lib Go.Maps Go.Shelf Go.Proofs
theorem bitsK_small (bs : List Bool) : ∀ k,bitsK bs k < 2 ^ k
 | 0=>by simp [bitsK]
 | k + 1=>by
  have ih:=bitsK_small bs k
  rw [bitsK_succ]
  have h2 : 2 ^ (k + 1) = 2 * 2 ^ k:=by rw [Nat.pow_succ];omega
  split
  ·exact Nat.or_lt_two_pow (by omega) (by omega)
  ·omega
def SetsS (R : Rec) (hf : List (Int × FR)) (qs : List Qn) (ps : List (List UInt8)) (x : Nat) : Prop:=
 ∃ bs : List Nat,bs.length = ps.length ∧ (∀ (i : Nat) p b,ps[i]? = some p → bs[i]? = some b → OutS R hf (ofBytes p) qs b) ∧ x = bs.foldl (· ||| ·) 0
theorem SetsS.nil {R : Rec} {hf : List (Int × FR)} {qs : List Qn} {x : Nat} : SetsS R hf qs [] x ↔ x = 0:=by
 constructor
 ·rintro ⟨bs,h1,_,rfl⟩
  rw [List.eq_nil_of_length_eq_zero h1];rfl
 ·rintro rfl
  exact ⟨[],rfl,fun i p b hp=>by simp at hp,rfl⟩
theorem SetsS.snoc {R : Rec} {hf : List (Int × FR)} {qs : List Qn} {ps : List (List UInt8)} {p : List UInt8} {x : Nat} : SetsS R hf qs (ps ++ [p]) x ↔ ∃ y b,SetsS R hf qs ps y ∧ OutS R hf (ofBytes p) qs b ∧ x = y ||| b:=by
 constructor
 ·rintro ⟨bs,h1,h2,rfl⟩
  rw [List.length_append] at h1
  have hne : bs ≠ []:=fun e=>by rw [e] at h1;simp at h1
  obtain ⟨b0,b,rfl⟩ : ∃ b0 b,bs = b0 ++ [b]:=⟨bs.dropLast,bs.getLast hne,(List.dropLast_concat_getLast hne).symm⟩
  rw [List.length_append] at h1
  have hl : b0.length = ps.length:=by simpa using h1
  refine ⟨b0.foldl (· ||| ·) 0,b,⟨b0,hl,fun i p' b' hp hb=>h2 i p' b' ?_ ?_,rfl⟩,h2 ps.length p b (by simp) (by rw [← hl];simp),by rw [List.foldl_append];rfl⟩
  ·rw [List.getElem?_append_left (List.getElem?_eq_some_iff.1 hp).1];exact hp
  ·rw [List.getElem?_append_left (List.getElem?_eq_some_iff.1 hb).1];exact hb
 ·rintro ⟨y,b,⟨b0,hl,h2,rfl⟩,hb,rfl⟩
  refine ⟨b0 ++ [b],by simp [hl],fun i p' b' hp hb'=>?_,by rw [List.foldl_append];rfl⟩
  by_cases hi : i < ps.length
  ·rw [List.getElem?_append_left hi] at hp
   rw [List.getElem?_append_left (by omega)] at hb'
   exact h2 i p' b' hp hb'
  ·rw [List.getElem?_append_right (by omega)] at hp
   rw [List.getElem?_append_right (by omega),hl] at hb'
   cases hz : i - ps.length with
   | zero=>
    rw [hz] at hp hb'
    simp only [List.getElem?_cons_zero,Option.some.injEq] at hp hb'
    subst hp hb'
    exact hb
   | succ m=>rw [hz] at hp;simp at hp
def LikeS (R : Rec) (hf : List (Int × FR)) (q : Qn) (qs : List Qn) (s : ByteArray) (k : Int) : Prop:=
 (k = 3 ↔ ¬ (OutS R hf s [q] 1 ∧ SetsS R hf qs (partsV hf s) (2 ^ qs.length - 1))) ∧
 (k = 1 ↔ (OutS R hf s [q] 1 ∧ SetsS R hf qs (partsV hf s) (2 ^ qs.length - 1)) ∧ (∀ x,OutS R hf s [q] x → x = 1) ∧ ∀ x,SetsS R hf qs (partsV hf s) x → x = 2 ^ qs.length - 1) ∧ (k = 1 ∨ k = 2 ∨ k = 3)
def OutPost (R : Rec) (hf : List (Int × FR)) (s : ByteArray) (qs : List Qn) (W : World) (e : Ending) (w' : World) : Prop:=
 ∃ (v : Value) (l : List Nat),e = .returned v ∧ l.Nodup ∧ (∀ x,x ∈ l ↔ OutS R hf s qs x) ∧ w'.ownsRow W.heap.size 118 1 v l.length (l.map U64) ∧ Ext W w'
theorem OutS.small {R : Rec} {hf : List (Int × FR)} {s : ByteArray} {qs : List Qn} {x : Nat} (h : OutS R hf s qs x) : x < 2 ^ qs.length:=by
 obtain ⟨σ,_,rfl⟩:=h
 exact bitsK_small _ _
theorem small_len {l : List Nat} {m : Nat} (hn : l.Nodup) (h : ∀ x ∈ l,x < m) : l.length ≤ m:=by
 have:=nodup_sub (m:=List.range m) hn fun x hx=>List.mem_range.2 (h x hx)
 rwa [List.length_range] at this
theorem outcomes_set {B : Nat} {w0 : World} {rb : Nat} {R : Rec} {cm : Nat} {vv fv : Value} {os : List (Option Nat × Option Nat)} {xs : List (List Value)} (h : RecAt B w0 rb R cm vv fv os xs) {B2 : Nat} {vb : Nat} {hf : List (Int × FR)} {sv : Value} {mp mk mf md : Nat} {lp : List (ByteArray × Value)} {lk lf ld : List ((ByteArray × Nat) × Value)}
  (hV : ViewAt B2 w0 vb hf sv mp mk mf md lp lk lf ld) (hfc : ∀ y ∈ hf,(y.2.attr,y.2.col) ∈ R.cols) (hfb : ∀ y ∈ hf,y.2.st.bits < 256) (hfull : Full R hf) {qv : Value} {qbs : List Nat} {qs : List Qn} (hq : QsAt R w0 qv qbs (qs.map (·.φ))) (h8 : qbs.length ≤ 8)
  (hqa : ∀ (i : Nat) qb q,qbs[i]? = some qb → qs[i]? = some q → ∃ Bq hi tv mbq lmq,QAt Bq hi R w0 qb q tv mbq lmq) (hask : ∀ q ∈ qs,∃ e,askF R e = some q ∧ q.size ≤ 30) (s : ByteArray) :
  Calls Tryz.prog 66 #[.pointer (some ⟨vb,0,none⟩),.string s,qv] w0 (OutPost R hf s qs w0):=by
 have hlen : qbs.length = qs.length:=by have:=hq.2.1;rwa [List.length_map] at this
 refine (outcomes_any h hV hfc hfb hq h8 hqa (fun q hqm c l hl=>by
  obtain ⟨e,he,h30⟩:=hask q hqm
  have:=(askF_ok R e q he).2 c l hl
  omega) s (smpOf R hf s (allM qs)) (fun a c hc=>smpOf_at h hf s (allM qs) hc)).mono ?_
 rintro e w' ⟨v,cols,rfl,hn,hk,hrow,hx⟩
 rw [hlen] at hrow
 exact ⟨v,_,rfl,runW_nodup _ _ cols _ List.nodup_nil,fun x=>runW_outs h hfull s (fun q hqm=>let ⟨e,he,_⟩:=hask q hqm;⟨e,he⟩) hn hk x,hrow,hx⟩
theorem owns_base {w : World} {base base' : Nat} {e : TypeId} {k : Nat} {v : Value} {n : Nat} {xs : List Value} (h : w.ownsRow base e k v n xs) (hb : base' ≤ base) : w.ownsRow base' e k v n xs:=
 ⟨h.1,h.2.imp id fun ⟨g,cap,cur,h1,h2,r⟩=>⟨g,cap,cur,h1,Nat.le_trans hb h2,r⟩⟩
theorem LikeS.of {R : Rec} {hf : List (Int × FR)} {q : Qn} {qs : List Qn} {s : ByteArray} {lo S : List Nat} (h1 : ∀ x,x ∈ lo ↔ OutS R hf s [q] x) (h2 : ∀ x,x ∈ S ↔ SetsS R hf qs (partsV hf s) x) (n1 : lo.Nodup) (n2 : S.Nodup) :
  LikeS R hf q qs s (if 1 ∈ lo ∧ 2 ^ qs.length - 1 ∈ S then (if lo.length = 1 ∧ S.length = 1 then 1 else 2) else 3):=by
 have one : ∀ {l : List Nat} {a : Nat},l.Nodup → a ∈ l → (l.length = 1 ↔ ∀ x ∈ l,x = a):=by
  intro l a hn ha
  constructor
  ·intro hl x hx
   match l,hl with
   | [y],_=>rw [List.mem_singleton.1 hx,List.mem_singleton.1 ha]
  ·intro hall
   have:=nodup_sub (m:=[a]) hn fun x hx=>by rw [hall x hx];exact List.mem_singleton_self _
   have h0:=List.length_pos_of_mem ha
   simp at this
   omega
 unfold LikeS
 rw [← h1,← h2]
 by_cases hc : 1 ∈ lo ∧ 2 ^ qs.length - 1 ∈ S
 ·rw [if_pos hc]
  have e1:=one n1 hc.1
  have e2:=one n2 hc.2
  have e3 : (lo.length = 1 ∧ S.length = 1) ↔ (∀ x,OutS R hf s [q] x → x = 1) ∧ ∀ x,SetsS R hf qs (partsV hf s) x → x = 2 ^ qs.length - 1:=by
   rw [e1,e2]
   exact ⟨fun h=>⟨fun x hx=>h.1 x ((h1 x).2 hx),fun x hx=>h.2 x ((h2 x).2 hx)⟩,fun h=>⟨fun x hx=>h.1 x ((h1 x).1 hx),fun x hx=>h.2 x ((h2 x).1 hx)⟩⟩
  rw [← e3]
  by_cases hk : lo.length = 1 ∧ S.length = 1
  ·rw [if_pos hk];simp [hc,hk]
  ·rw [if_neg hk];simp [hc,hk]
 ·rw [if_neg hc];simp [hc]
structure LgI (R : Rec) (hf : List (Int × FR)) (qs : List Qn) (W : World) (ps : List (List UInt8)) (S : List Nat) (v : Value) (wr : World) : Prop where
 ext : Ext W wr
 row : wr.ownsRow W.heap.size 118 1 v S.length (S.map U64)
 nodup : S.Nodup
 mem : ∀ x,x ∈ S ↔ SetsS R hf qs ps x
theorem SetsS.small {R : Rec} {hf : List (Int × FR)} {qs : List Qn} {ps : List (List UInt8)} {x : Nat} (h : SetsS R hf qs ps x) : x < 2 ^ qs.length:=by
 obtain ⟨bs,h1,h2,rfl⟩:=h
 have : ∀ (l : List Nat) (y : Nat),y < 2 ^ qs.length → (∀ b ∈ l,b < 2 ^ qs.length) → l.foldl (· ||| ·) y < 2 ^ qs.length:=by
  intro l
  induction l with
  | nil=>intro y hy _;exact hy
  | cons b r ih=>intro y hy hb;exact ih (y ||| b) (Nat.or_lt_two_pow hy (hb b List.mem_cons_self)) fun x hx=>hb x (List.mem_cons_of_mem _ hx)
 refine this bs 0 (Nat.two_pow_pos _) fun b hb=>?_
 obtain ⟨i,hi,rfl⟩:=List.mem_iff_getElem.1 hb
 exact (h2 i (ps[i]'(by omega)) _ (List.getElem?_eq_getElem (by omega)) (List.getElem?_eq_getElem hi)).small
theorem LgI.few {R : Rec} {hf : List (Int × FR)} {qs : List Qn} {W : World} {ps : List (List UInt8)} {S : List Nat} {v : Value} {wr : World} (h : LgI R hf qs W ps S v wr) (hq : qs.length ≤ 3) : S.length ≤ 8:=by
 have h1:=small_len h.nodup fun x hx=>((h.mem x).1 hx).small
 have h2 : 2 ^ qs.length ≤ 2 ^ 3:=Nat.pow_le_pow_right (by omega) hq
 omega
def prodL (S l : List Nat) : List Nat:=l.flatMap fun b=>S.map fun y=>y ||| b
theorem prodL_snoc (S l : List Nat) (b : Nat) : prodL S (l ++ [b]) = prodL S l ++ S.map fun y=>y ||| b:=by unfold prodL;rw [List.flatMap_append];simp
theorem prodL_len (S l : List Nat) : (prodL S l).length = l.length * S.length:=by
 unfold prodL
 induction l with
 | nil=>simp
 | cons b r ih=>rw [List.flatMap_cons,List.length_append,ih,List.length_map,List.length_cons,Nat.succ_mul,Nat.add_comm]
theorem mem_prodL {S l : List Nat} {x : Nat} : x ∈ prodL S l ↔ ∃ y b,y ∈ S ∧ b ∈ l ∧ x = y ||| b:=by
 unfold prodL
 rw [List.mem_flatMap]
 constructor
 ·rintro ⟨b,hb,hx⟩
  obtain ⟨y,hy,rfl⟩:=List.mem_map.1 hx
  exact ⟨y,b,hy,hb,rfl⟩
 ·rintro ⟨y,b,hy,hb,rfl⟩
  exact ⟨b,hb,List.mem_map.2 ⟨y,hy,rfl⟩⟩
structure NxI (w2 : World) (nx : List Nat) (v : Value) (wr : World) : Prop where
 ext : Ext w2 wr
 row : wr.ownsRow w2.heap.size 118 1 v nx.length (nx.map U64)
theorem LgI.next {R : Rec} {hf : List (Int × FR)} {qs : List Qn} {W : World} {ps : List (List UInt8)} {S : List Nat} {v : Value} {wr : World} (h : LgI R hf qs W ps S v wr) {p : List UInt8} {l : List Nat} (hl : ∀ x,x ∈ l ↔ OutS R hf (ofBytes p) qs x)
  {nx : List Nat} (hp : nx.Perm (prodL S l)) (hs : nx.Pairwise (· ≤ ·)) {v' : Value} {w' : World} (hx : Ext W w') (hrow : w'.ownsRow W.heap.size 118 1 v' (compact nx).length ((compact nx).map U64)) : LgI R hf qs W (ps ++ [p]) (compact nx) v' w':=by
 obtain ⟨h1,h2⟩:=compact_spec nx hs (fun a b h1 h2=>by omega) (fun a b c h1 h2=>by omega)
 refine ⟨hx,hrow,h1.imp fun h=>h.2,fun x=>?_⟩
 rw [h2,hp.mem_iff,mem_prodL,SetsS.snoc]
 constructor
 ·rintro ⟨y,b,hy,hb,rfl⟩
  exact ⟨y,b,(h.mem y).1 hy,(hl b).1 hb,rfl⟩
 ·rintro ⟨y,b,hy,hb,rfl⟩
  exact ⟨y,b,(h.mem y).2 hy,(hl b).2 hb,rfl⟩
def LikePost (R : Rec) (hf : List (Int × FR)) (q : Qn) (qs : List Qn) (s : ByteArray) (W : World) (e : Ending) (w' : World) : Prop:=
 ∃ k : Int,e = .returned (.int .u8 k) ∧ LikeS R hf q qs s k ∧ Ext W w'
set_option maxHeartbeats 8000000 in
set_option maxRecDepth 100000 in
theorem like_walk {R : Rec} {hf : List (Int × FR)} {q : Qn} {qs : List Qn} (W : World) (vb sb qb mp : Nat) (s : ByteArray) (pa : Option Addr) (pn pc : Nat) (hpn : pn = qs.length) (hq3 : qs.length ≤ 3)
  (hv1 : W.cell? ⟨vb,1,none⟩ = some (.map (some mp))) (hs0 : W.cell? ⟨sb,0,none⟩ = some (.pointer (some ⟨qb,0,none⟩))) (hs1 : W.cell? ⟨sb,1,none⟩ = some (.slice pa pn pc))
  (lp : Option Addr) (lc : Nat) (hps : SlAt W (.slice lp (partsV hf s).length lc) 1 (partsV hf s).length ((partsV hf s).map encStr)) (hpl : (partsV hf s).length ≤ 1000) (hlk : ∀ W',Ext W W' → (Instr.lookup 133 (.map (some mp)) (.string s) false).run Tryz.prog W' = .ok (.slice lp (partsV hf s).length lc) W')
  (hparts : ∀ W',Ext W W' → ∀ t,Calls Tryz.prog 66 #[.pointer (some ⟨vb,0,none⟩),.string t,.slice pa pn pc] W' (OutPost R hf t qs W'))
  (hown : ∀ W',Ext W W' → ∀ g,W'.heap[g]? = some (.cells #[.pointer (some ⟨qb,0,none⟩)] 158 (0,0)) → Calls Tryz.prog 66 #[.pointer (some ⟨vb,0,none⟩),.string s,.slice (some ⟨g,0,none⟩) 1 1] W' (OutPost R hf s [q] W')) :
  Calls Tryz.prog 49 #[.pointer (some ⟨vb,0,none⟩),.string s,.pointer (some ⟨sb,0,none⟩)] W (LikePost R hf q qs s W):=by
 obtain ⟨ps,hpse⟩ : ∃ ps,partsV hf s = ps:=⟨_,rfl⟩
 have HPSE:=Lib.hid hpse
 rw [hpse] at hps hpl hlk
 clear hpse
 obtain ⟨W1,hW1⟩ : ∃ W1,W1 = W.alloc (.cells #[.int .u64 0] 118 (0,0)):=⟨_,rfl⟩
 have hx1 : Ext W W1:=by rw [hW1];exact bel
 have hb1 : W1.heap[W.heap.size]? = some (.cells #[.int .u64 0] 118 (0,0)):=by rw [hW1];simp only [heap_drawn_get,heap_drew_get,heap_setCell_get,heap_alloc_get,World.size_alloc,World.size_setCell,size_drawn,putObj_get,putObj_size];(repeat (first | rw [if_pos trivial] | rw [if_pos rfl] | rw [if_neg (by omega)] | rw [if_pos (by omega)]))
 have hL0 : LgI R hf qs W [] [0] (.slice (some ⟨W.heap.size,0,none⟩) 1 1) W1:=
  ⟨hx1,⟨rfl,.inr ⟨W.heap.size,1,_,rfl,Nat.le_refl _,hb1,Nat.le_refl _,by decide,rfl,rfl⟩⟩,by simp,fun x=>by rw [SetsS.nil];simp⟩
 obtain ⟨_,_,hpe,_,hpml,_,hpel⟩:=hps
 simp only [Value.slice.injEq,true_and] at hpe
 obtain ⟨rfl,rfl⟩:=hpe
 have v1:=hx1.cell' hv1
 have hlk1:=hlk W1 hx1
 obtain ⟨nps,hnps⟩ : ∃ nps,ps.length = nps:=⟨_,rfl⟩
 have HNPS:=Lib.hid hnps
 rw [hnps] at hlk1 hpl
 have HPEL:=Lib.hid hpel
 have HPARTS:=Lib.hid hparts
 have HOWN:=Lib.hid hown
 have HL0:=Lib.hid hL0
 have HS0:=Lib.hid hs0
 have HS1:=Lib.hid hs1
 have HPN:=Lib.hid hpn
 clear hlk hpel hparts hown hL0 hv1 hs0 hs1 hx1 hb1 hpn hnps hpml
 go_enter Tryz.func49,Tryz.ntmps49
 go_upto_region 2 with fail
 rw [← hW1]
 clear hW1
 go_wp2_with fail
 clear hlk1 v1
 go_loopw [7,25] (fun u i wr=>∃ (k : Nat) (S : List Nat),k ≤ nps ∧ i = .int .i64 (k : Int) ∧ Hid (LgI R hf qs W (ps.take k) S u wr)) (fun _ i _=>nps - (intOf i).toNat)
 case atStart=>exact ⟨0,[0],Nat.zero_le _,rfl,HL0.out⟩
 case round=>
  obtain ⟨k,S,hk,rfl,hS⟩:=hrel
  by_cases hlt : k < nps
  ·obtain ⟨p,hp⟩ : ∃ p,ps[k]? = some p:=⟨_,List.getElem?_eq_getElem (by rw [HNPS.out];exact hlt)⟩
   obtain ⟨pb,poff,rfl,hpc⟩:=HPEL.out k (encStr p) (by rw [List.getElem?_map,hp];rfl)
   rw [enc_of] at hpc
   have c0:=hS.out.ext.cell' hpc
   have c1:=hS.out.ext.cell' HS1.out
   have HP:=Lib.hid hp
   have HO:=Lib.hid (HPARTS.out wr hS.out.ext (ofBytes p))
   obtain ⟨sp,scap,rfl⟩:=owns_form hS.out.row
   have hSf:=hS.out.few hq3
   clear hp hpc
   go_wp2_with fail
   refine HO.out.mono ?_
   rintro e w2 ⟨ov,l,rfl,hln,hlm,hlrow,hlx⟩
   obtain ⟨op,ocap,rfl⟩:=owns_form hlrow
   have hlf : l.length ≤ 8:=by
    have h1:=small_len hln fun x hx=>((hlm x).1 hx).small
    have h2 : 2 ^ qs.length ≤ 2 ^ 3:=Nat.pow_le_pow_right (by omega) hq3
    omega
   have HLM:=Lib.hid hlm
   have HLS:=Lib.hid (And.intro (SlAt.of_owns hlrow) (And.intro (SlAt.of_owns (owns_keep hS.out.row fun g _ _ hg=>hlx.block g (heap_lt hg))) hlx))
   clear hln hlm hlrow hlx c0 c1 HO
   go_wp2_with fail
   go_loopw [10,37] (fun u j wr2=>∃ (m : Nat) (nx : List Nat),m ≤ l.length ∧ j = .int .i64 (m : Int) ∧ Hid (NxI w2 nx u wr2 ∧ nx = prodL S (l.take m))) (fun _ j _=>l.length - (intOf j).toNat)
   case atStart=>exact ⟨0,[],Nat.zero_le _,rfl,⟨ext_refl _,World.ownsRow_nil _ _ _ _⟩,rfl⟩
   case round=>
    obtain ⟨m,nx,hm,rfl,hN⟩:=hrel
    by_cases hml : m < l.length
    ·obtain ⟨b,hb⟩ : ∃ b,l[m]? = some b:=⟨_,List.getElem?_eq_getElem hml⟩
     obtain ⟨ob,ooff,rfl,hoc⟩ : ∃ ob ooff,op = some ⟨ob,ooff,none⟩ ∧ w2.cell? ⟨ob,ooff + m,none⟩ = some (.int .u64 (b : Int)):=by
      obtain ⟨_,_,he,_,_,_,hel⟩:=HLS.out.1
      simp only [Value.slice.injEq,true_and] at he
      obtain ⟨rfl,rfl⟩:=he
      exact hel m (.int .u64 (b : Int)) (by rw [List.getElem?_map,hb];rfl)
     have c0:=hN.out.1.ext.cell' hoc
     have HB:=Lib.hid hb
     have hbs : b < 8:=by
      have h1:=((HLM.out b).1 (List.mem_of_getElem? hb)).small
      have h2 : 2 ^ qs.length ≤ 2 ^ 3:=Nat.pow_le_pow_right (by omega) hq3
      omega
     have HNX:=Lib.hid hN.out.2
     have HNI:=Lib.hid hN.out.1
     clear hb hoc hN
     go_wp2_with fail
     clear c0
     go_loopw [10,43] (fun u j wr3=>∃ (n : Nat) (ny : List Nat),n ≤ S.length ∧ j = .int .i64 (n : Int) ∧ Hid (NxI w2 ny u wr3 ∧ ny = nx ++ (S.take n).map fun y=>y ||| b)) (fun _ j _=>S.length - (intOf j).toNat)
     case atStart=>exact ⟨0,nx,Nat.zero_le _,rfl,HNI.out,by simp⟩
     case round=>
      obtain ⟨n,ny,hn,rfl,hY⟩:=hrel
      by_cases hnl : n < S.length
      ·obtain ⟨y,hy⟩ : ∃ y,S[n]? = some y:=⟨_,List.getElem?_eq_getElem hnl⟩
       obtain ⟨yb,yoff,rfl,hyc⟩ : ∃ yb yoff,sp = some ⟨yb,yoff,none⟩ ∧ w2.cell? ⟨yb,yoff + n,none⟩ = some (.int .u64 (y : Int)):=by
        obtain ⟨_,_,he,_,_,_,hel⟩:=HLS.out.2.1
        simp only [Value.slice.injEq,true_and] at he
        obtain ⟨rfl,rfl⟩:=he
        exact hel n (.int .u64 (y : Int)) (by rw [List.getElem?_map,hy];rfl)
       have c0:=hY.out.1.ext.cell' hyc
       have hys : y < 8:=by
        have h1:=((hS.out.mem y).1 (List.mem_of_getElem? hy)).small
        have h2 : 2 ^ qs.length ≤ 2 ^ 3:=Nat.pow_le_pow_right (by omega) hq3
        omega
       have hor : bits .or .u64 (y : Int) (b : Int) = ((y ||| b : Nat) : Int):=u64_or_nat _ _ (by omega) (by omega)
       have hnyl : ny.length ≤ 64:=by
        rw [hY.out.2,HNX.out,List.length_append,prodL_len,List.length_map,List.length_take,List.length_take]
        have h1 : min m l.length * S.length + min n S.length ≤ m * S.length + S.length:=by
         rw [Nat.min_eq_left (Nat.le_of_lt hml)];omega
        have h2 : m * S.length + S.length = (m + 1) * S.length:=by rw [Nat.succ_mul]
        have h3 : (m + 1) * S.length ≤ 8 * 8:=Nat.mul_le_mul (by omega) hSf
        omega
       obtain ⟨x,hx⟩ : ∃ x,y ||| b = x:=⟨_,rfl⟩
       rw [hx] at hor
       obtain ⟨W9,hW9⟩ : ∃ W9,W9 = wr.alloc (.cells #[.int .u64 (x : Int)] 118 (0,0)):=⟨_,rfl⟩
       have hx9 : Ext wr W9:=by rw [hW9];exact bel
       have hb9 : W9.heap[wr.heap.size]? = some (.cells #[.int .u64 (x : Int)] 118 (0,0)):=by rw [hW9];simp only [heap_drawn_get,heap_drew_get,heap_setCell_get,heap_alloc_get,World.size_alloc,World.size_setCell,size_drawn,putObj_get,putObj_size];(repeat (first | rw [if_pos trivial] | rw [if_pos rfl] | rw [if_neg (by omega)] | rw [if_pos (by omega)]))
       have hrow9 : W9.ownsRow w2.heap.size 118 1 _ ny.length (ny.map U64):=owns_keep hY.out.1.row fun g _ _ hg=>hx9.block g (heap_lt hg)
       obtain ⟨v',w10,happ,hrow,hgrow,_⟩:=append_uints (row:=[.int .u64 (x : Int)]) hrow9 wr.heap.size 1 rfl (fun k u hj=>by rw [Nat.zero_add,cell_of hb9 k,List.getElem?_toArray];exact hj) (fun u hu=>by simp at hu;subst hu;rfl) (by omega) (hY.out.1.ext.trans' hx9).size 1
       have hx10 : Ext w2 w10:=(hY.out.1.ext.trans' hx9).grown hgrow (hY.out.1.ext.trans' hx9).size fun k hk=>(owns_block hrow9 hk).1
       rw [hW9] at happ
       obtain ⟨np,nc,rfl⟩:=owns_form hrow
       have HAPP:=Lib.hid happ
       have HNN : Hid (NxI w2 (ny ++ [x]) (.slice np (ny.length + 1) nc) w10):=⟨hx10,by rw [List.length_append,List.map_append];exact hrow⟩
       have HEQ : Hid (ny ++ [x] = nx ++ (S.take (n + 1)).map fun y=>y ||| b):=by
        unfold Hid
        rw [List.take_add_one,hy,Option.toList_some,List.map_append,← List.append_assoc,← hY.out.2,List.map_cons,List.map_nil,hx]
       clear hW9 hx9 hb9 hrow9 happ hrow hgrow hx10 hx hy hyc hnyl
       go_wp2_with (at_builtin;refine wpList_append_run rfl _ _ 171 rfl rfl rfl HAPP.out ?_)
       exact ⟨⟨n + 1,_,by omega,rfl,HNN.out,HEQ.out⟩,by simp [intOf];omega⟩
      ·have hne : n = S.length:=by omega
       have hni : ¬ ((n : Int) < (S.length : Int)):=by omega
       have HEQ : Hid (ny = prodL S (l.take (m + 1))):=by
        unfold Hid
        rw [hY.out.2,hne,List.take_length,HNX.out,List.take_add_one,HB.out,Option.toList_some,prodL_snoc]
       go_wp2_with fail
       exact ⟨⟨m + 1,ny,by omega,rfl,hY.out.1,HEQ.out⟩,by simp [intOf];omega⟩
    ·have hme : m = l.length:=by omega
     have hmi : ¬ ((m : Int) < (l.length : Int)):=by omega
     have HNX : Hid (nx = prodL S l):=by
      unfold Hid
      rw [hN.out.2,hme,List.take_length]
     have hnl : nx.length ≤ 64:=by
      rw [HNX.out,prodL_len]
      have h3 : l.length * S.length ≤ 8 * 8:=Nat.mul_le_mul hlf hSf
      omega
     have HSO:=Lib.hid (sortU_any hN.out.1.row (by omega))
     obtain ⟨np,nc,rfl⟩:=owns_form hN.out.1.row
     clear hme
     go_wp2_with fail
     refine HSO.out.mono ?_
     rintro e w4 ⟨rfl,hg4,nz,hz1,hz2,hz3⟩
     have hx4 : Ext w2 w4:=hN.out.1.ext.grown hg4 hN.out.1.ext.size fun k hk=>(owns_block hN.out.1.row hk).1
     have hzl : nz.length = nx.length:=hz1.length_eq
     rw [← hzl] at hz3
     have HCO:=Lib.hid (compactU_any hz3 (by omega))
     have HZ:=Lib.hid (And.intro hz1 (And.intro hz2 (And.intro hx4 hz3)))
     rw [hzl] at HCO
     clear hg4 hz1 hz2 hz3 hx4 hzl HSO
     go_wp2_with fail
     refine HCO.out.mono ?_
     rintro e w5 ⟨v5,rfl,hb5,hg5,hr5⟩
     have hx5 : Ext w2 w5:=HZ.out.2.2.1.grown (by rw [HZ.out.1.length_eq] at *;exact hg5) HZ.out.2.2.1.size fun k hk=>(owns_block HZ.out.2.2.2 (by rw [HZ.out.1.length_eq];exact hk)).1
     have hx6 : Ext W w5:=(hS.out.ext.trans' HLS.out.2.2).trans' hx5
     have hr6 : w5.ownsRow W.heap.size 118 1 v5 (compact nz).length ((compact nz).map U64):=owns_base hr5 (hS.out.ext.trans' HLS.out.2.2).size
     have HL:=Lib.hid (hS.out.next HLM.out (by rw [← HNX.out];exact HZ.out.1) HZ.out.2.1 hx6 hr6)
     clear hb5 hg5 hr5 hx5 hx6 hr6
     go_wp2_with fail
     refine ⟨⟨k + 1,compact nz,by omega,rfl,?_⟩,by simp [intOf];omega⟩
     have:=HL.out
     unfold Hid
     rw [List.take_add_one,HP.out]
     exact this
  ·have hke : k = nps:=by omega
   have hki : ¬ ((k : Int) < (nps : Int)):=by omega
   have hSS : LgI R hf qs W ps S u7 wr:=by have:=hS.out;rwa [hke,← HNPS.out,List.take_length] at this
   obtain ⟨sp,scap,rfl⟩:=owns_form hSS.row
   have HSS:=Lib.hid hSS
   have c1:=hSS.ext.cell' HS1.out
   have c2:=hSS.ext.cell' HS0.out
   obtain ⟨wz,rfl⟩ : ∃ wz,wz = wr:=⟨wr,rfl⟩
   obtain ⟨W3,hW3⟩ : ∃ W3,W3 = wz.alloc (.cells #[.pointer (some ⟨qb,0,none⟩)] 158 (0,0)):=⟨_,rfl⟩
   have hx3 : Ext wz W3:=by rw [hW3];exact bel
   have hb3 : W3.heap[wz.heap.size]? = some (.cells #[.pointer (some ⟨qb,0,none⟩)] 158 (0,0)):=by rw [hW3];simp only [heap_drawn_get,heap_drew_get,heap_setCell_get,heap_alloc_get,World.size_alloc,World.size_setCell,size_drawn,putObj_get,putObj_size];(repeat (first | rw [if_pos trivial] | rw [if_pos rfl] | rw [if_neg (by omega)] | rw [if_pos (by omega)]))
   have HO:=Lib.hid (HOWN.out W3 (hSS.ext.trans' hx3) _ hb3)
   have HX3:=Lib.hid hx3
   clear hSS hx3 hb3 hke hS
   go_upto_region 18 with fail
   obtain ⟨al,hal⟩ : ∃ al,2 ^ qs.length - 1 = al:=⟨_,rfl⟩
   have HAL:=Lib.hid hal
   go_cut [15] (fun v wx=>v = .int .u64 (al : Int) ∧ wx = wz)
   case first=>
    have hpn:=HPN.out
    rw [← hpn] at hal hq3
    clear hpn
    obtain rfl | rfl | rfl | rfl : pn = 0 ∨ pn = 1 ∨ pn = 2 ∨ pn = 3:=by omega
    all_goals go_wp2_with fail
    all_goals go_meet
    all_goals exact ⟨by rw [← hal];rfl,rfl⟩
   case rest=>
    obtain ⟨rfl,rfl⟩:=hcut
    clear c1 hal
    go_upto_region 19 with fail
    go_wp2_with fail
    rw [← hW3]
    clear hW3 c2
    refine HO.out.mono ?_
    rintro e w4 ⟨ov,lo,rfl,hn4,hm4,hr4,hx4⟩
    obtain ⟨op,oc,rfl⟩:=owns_form hr4
    have hc1:=containsU_any w4 (.slice op lo.length oc) lo 1 (SlAt.of_owns hr4)
    have hc2:=containsU_any w4 (.slice sp S.length scap) S al (SlAt.of_owns (owns_keep HSS.out.row fun g _ _ hg=>(HX3.out.trans' hx4).block g (heap_lt hg)))
    unfold U64 at hc1 hc2
    have HC1:=Lib.hid hc1
    have HC2:=Lib.hid hc2
    have HLK : Hid (LikeS R hf q qs s (if 1 ∈ lo ∧ al ∈ S then (if lo.length = 1 ∧ S.length = 1 then 1 else 2) else 3)):=by
     unfold Hid
     rw [← HAL.out]
     exact LikeS.of hm4 (fun x=>by rw [HPSE.out];exact HSS.out.mem x) hn4 HSS.out.nodup
    have HX4:=Lib.hid ((HSS.out.ext.trans' HX3.out).trans' hx4)
    clear hc1 hc2 hn4 hm4 hr4 hx4 HO
    obtain ⟨b1,hb1⟩ : ∃ b1,decide (1 ∈ lo) = b1:=⟨_,rfl⟩
    obtain ⟨b2,hb2⟩ : ∃ b2,decide (al ∈ S) = b2:=⟨_,rfl⟩
    rw [hb1] at HC1
    rw [hb2] at HC2
    have HB1:=Lib.hid hb1
    have HB2:=Lib.hid hb2
    clear hb1 hb2
    cases b1 with
    | false=>
     go_wp2_with fail
     refine HC1.out.mono ?_
     rintro e w5 ⟨rfl,rfl⟩
     go_wp2_with fail
     go_ret
     refine ⟨3,rfl,?_,HX4.out⟩
     have:=HLK.out
     rwa [if_neg (fun h=>of_decide_eq_false HB1.out h.1)] at this
    | true=>
     go_wp2_with fail
     refine HC1.out.mono ?_
     rintro e w5 ⟨rfl,rfl⟩
     cases b2 with
     | false=>
      go_wp2_with fail
      refine HC2.out.mono ?_
      rintro e w5 ⟨rfl,rfl⟩
      go_wp2_with fail
      go_ret
      refine ⟨3,rfl,?_,HX4.out⟩
      have:=HLK.out
      rwa [if_neg (fun h=>of_decide_eq_false HB2.out h.2)] at this
     | true=>
      go_wp2_with fail
      refine HC2.out.mono ?_
      rintro e w5 ⟨rfl,rfl⟩
      have hlk:=HLK.out
      rw [if_pos ⟨of_decide_eq_true HB1.out,of_decide_eq_true HB2.out⟩] at hlk
      by_cases hl1 : lo.length = 1
      ·by_cases hl2 : S.length = 1
       ·rw [if_pos ⟨hl1,hl2⟩] at hlk
        have HLK2:=Lib.hid hlk
        have e1 : (lo.length : Int) = 1:=by omega
        have e2 : (S.length : Int) = 1:=by omega
        clear hlk hl1 hl2
        go_wp2_with fail
        go_ret
        exact ⟨1,rfl,HLK2.out,HX4.out⟩
       ·rw [if_neg fun h=>hl2 h.2] at hlk
        have HLK2:=Lib.hid hlk
        have e1 : (lo.length : Int) = 1:=by omega
        have e2 : ¬ ((S.length : Int) = 1):=by omega
        clear hlk hl1 hl2
        go_wp2_with fail
        go_ret
        exact ⟨2,rfl,HLK2.out,HX4.out⟩
      ·rw [if_neg fun h=>hl1 h.1] at hlk
       have HLK2:=Lib.hid hlk
       have e1 : ¬ ((lo.length : Int) = 1):=by omega
       clear hlk hl1
       go_wp2_with fail
       go_ret
       exact ⟨2,rfl,HLK2.out,HX4.out⟩
end Go.Proofs.YtihfcjioilmmjaaGreat
namespace Go.Proofs.YtihfcjioilmmjaaGreat
open Go Go.RowKit
open Go.Lib Go.Sort Go.Maps Go.Shelf Go.Proofs
theorem memS_meet {a : Attr} {s t : St} {n : Int} : memS a (meetSt s t) n ↔ memS a s n ∧ memS a t n:=by
 unfold memS meetSt
 constructor
 ·rintro ⟨h1,h2⟩
  refine ⟨⟨fun ha=>?_,fun ha=>?_⟩,fun ha=>?_,fun ha=>?_⟩
  ·have : max s.low t.low ≤ n ∧ n ≤ min s.high t.high:=h1 ha
   exact ⟨by omega,by omega⟩
  ·have:=h2 ha
   simp only [Nat.testBit_and,Bool.and_eq_true] at this
   exact ⟨this.1,this.2.1,this.2.2.1⟩
  ·have : max s.low t.low ≤ n ∧ n ≤ min s.high t.high:=h1 ha
   exact ⟨by omega,by omega⟩
  ·have:=h2 ha
   simp only [Nat.testBit_and,Bool.and_eq_true] at this
   exact ⟨this.1,this.2.1,this.2.2.2⟩
 ·rintro ⟨⟨h1,h2⟩,h3,h4⟩
  refine ⟨fun ha=>?_,fun ha=>?_⟩
  ·have:=h1 ha;have:=h3 ha;exact ⟨by simp only;omega,by simp only;omega⟩
  ·have k1:=h2 ha
   have k2:=h4 ha
   simp only [Nat.testBit_and,Bool.and_eq_true]
   exact ⟨k1.1,k1.2.1,k1.2.2,k2.2.2⟩
structure KnOk (a : Attr) (l : List (Int × FR)) (k : ByteArray × Nat) (x : St × Bool × Attr) : Prop where
 attr : x.2.2 = a
 mem : ∀ n,memS a x.1 n ↔ memS a (allSt a) n ∧ ∀ y ∈ l,keyOf y.2 = k → memS a y.2.st n
 zero : a.values = [] → x.1.bits = 0
 full : a.values = [] → x.2.1 = false → x.1.low ≤ x.1.high
 sub : ∀ i,x.1.bits.testBit i = true → (allSt a).bits.testBit i = true
 some_ : a.values ≠ [] → x.2.1 = false → x.1.bits ≠ 0
theorem know_ok {a : Attr} {k : ByteArray × Nat} : ∀ (r : List (Int × FR)),(∀ y ∈ r,keyOf y.2 = k → y.2.attr = a) →
  match knowK r.reverse k with
  | none=>∀ y ∈ r,keyOf y.2 ≠ k
  | some x=>KnOk a r.reverse k x
 | [],_=>fun y hy=>by cases hy
 | y :: r,h=>by
  have ih:=know_ok r fun y hy=>h y (List.mem_cons_of_mem _ hy)
  rw [List.reverse_cons,knowK_snoc]
  by_cases hk : keyOf y.2 = k
  ·rw [if_pos hk]
   have hya:=h y List.mem_cons_self hk
   have hm : ∀ z,z ∈ r.reverse ++ [y] ↔ z ∈ r.reverse ∨ z = y:=fun z=>by simp
   cases hkn : knowK r.reverse k with
   | none=>
    rw [hkn] at ih
    refine ⟨hya,fun n=>?_,fun ha=>?_,fun ha hd=>?_,fun i hi=>?_,fun ha hd=>?_⟩
    ·show memS a (meetSt (allSt y.2.attr) y.2.st) n ↔ _
     rw [hya,memS_meet]
     constructor
     ·rintro ⟨h1,h2⟩
      refine ⟨h1,fun z hz hzk=>?_⟩
      rcases (hm z).1 hz with hz | rfl
      ·exact absurd hzk (ih z (List.mem_reverse.1 hz))
      ·exact h2
     ·rintro ⟨h1,h2⟩
      exact ⟨h1,h2 y ((hm y).2 (.inr rfl)) hk⟩
    ·show (meetSt (allSt y.2.attr) y.2.st).bits = 0
     rw [hya]
     simp [meetSt,allSt,ha]
    ·have hd' : (false || !meetOk y.2.attr (meetSt (allSt y.2.attr) y.2.st)) = false:=hd
     rw [hya] at hd'
     have hz : (meetSt (allSt a) y.2.st).bits = 0:=by simp [meetSt,allSt,ha]
     show (meetSt (allSt y.2.attr) y.2.st).low ≤ (meetSt (allSt y.2.attr) y.2.st).high
     rw [hya]
     simpa [meetOk,hz,ha] using hd'
    ·have hi' : ((allSt y.2.attr).bits &&& y.2.st.bits).testBit i = true:=hi
     rw [hya,Nat.testBit_and,Bool.and_eq_true] at hi'
     exact hi'.1
    ·have hd' : (false || !meetOk y.2.attr (meetSt (allSt y.2.attr) y.2.st)) = false:=hd
     rw [hya] at hd'
     show (meetSt (allSt y.2.attr) y.2.st).bits ≠ 0
     rw [hya]
     simpa [meetOk,ha] using hd'
   | some x=>
    rw [hkn] at ih
    refine ⟨hya,fun n=>?_,fun ha=>?_,fun ha hd=>?_,fun i hi=>?_,fun ha hd=>?_⟩
    ·show memS a (meetSt x.1 y.2.st) n ↔ _
     rw [memS_meet,ih.mem]
     constructor
     ·rintro ⟨⟨h1,h2⟩,h3⟩
      refine ⟨h1,fun z hz hzk=>?_⟩
      rcases (hm z).1 hz with hz | rfl
      ·exact h2 z hz hzk
      ·exact h3
     ·rintro ⟨h1,h2⟩
      exact ⟨⟨h1,fun z hz hzk=>h2 z ((hm z).2 (.inl hz)) hzk⟩,h2 y ((hm y).2 (.inr rfl)) hk⟩
    ·show (meetSt x.1 y.2.st).bits = 0
     simp [meetSt,ih.zero ha]
    ·have hd' : (x.2.1 || !meetOk y.2.attr (meetSt x.1 y.2.st)) = false:=hd
     rw [hya] at hd'
     have hz : (meetSt x.1 y.2.st).bits = 0:=by simp [meetSt,ih.zero ha]
     show (meetSt x.1 y.2.st).low ≤ (meetSt x.1 y.2.st).high
     rw [Bool.or_eq_false_iff] at hd'
     have:=hd'.2
     simpa [meetOk,hz,ha] using this
    ·have hi' : (x.1.bits &&& y.2.st.bits).testBit i = true:=hi
     rw [Nat.testBit_and,Bool.and_eq_true] at hi'
     exact ih.sub i hi'.1
    ·have hd' : (x.2.1 || !meetOk y.2.attr (meetSt x.1 y.2.st)) = false:=hd
     rw [hya,Bool.or_eq_false_iff] at hd'
     have:=hd'.2
     show (meetSt x.1 y.2.st).bits ≠ 0
     simpa [meetOk,ha] using this
  ·rw [if_neg hk]
   have hm : ∀ z,z ∈ r.reverse ++ [y] ↔ z ∈ r.reverse ∨ z = y:=fun z=>by simp
   cases hkn : knowK r.reverse k with
   | none=>
    rw [hkn] at ih
    intro z hz
    rcases List.mem_cons.1 hz with rfl | hz
    ·exact hk
    ·exact ih z hz
   | some x=>
    rw [hkn] at ih
    refine ⟨ih.attr,fun n=>?_,ih.zero,ih.full,ih.sub,ih.some_⟩
    rw [ih.mem]
    constructor
    ·rintro ⟨h1,h2⟩
     refine ⟨h1,fun z hz hzk=>?_⟩
     rcases (hm z).1 hz with hz | rfl
     ·exact h2 z hz hzk
     ·exact absurd hzk hk
    ·rintro ⟨h1,h2⟩
     exact ⟨h1,fun z hz hzk=>h2 z ((hm z).2 (.inl hz)) hzk⟩
theorem know_at {a : Attr} {k : ByteArray × Nat} (l : List (Int × FR)) (h : ∀ y ∈ l,keyOf y.2 = k → y.2.attr = a) :
  (knowK l k = none ∧ ∀ y ∈ l,keyOf y.2 ≠ k) ∨ ∃ x,knowK l k = some x ∧ KnOk a l k x:=by
 have:=know_ok (a:=a) (k:=k) l.reverse fun y hy=>h y (List.mem_reverse.1 hy)
 rw [List.reverse_reverse] at this
 cases hk : knowK l k with
 | none=>rw [hk] at this;exact .inl ⟨rfl,fun y hy=>this y (List.mem_reverse.2 hy)⟩
 | some x=>rw [hk] at this;exact .inr ⟨x,rfl,this⟩
theorem all_full {a : Attr} (ha : AttrOk a) : (allSt a).low ≤ (allSt a).high:=ha.ends
theorem ofV_mem {a : Attr} {s : ByteArray} {c : Nat} (l : List (Int × FR)) (h : ∀ y ∈ l,keyOf y.2 = (s,c) → y.2.attr = a) (n : Int) :
  memS a (ofV l (s,c) a) n ↔ memS a (allSt a) n ∧ (doubtK l (s,c) = true ∨ ∀ y ∈ l,keyOf y.2 = (s,c) → memS a y.2.st n):=by
 unfold ofV knowV doubtK
 rcases know_at (a:=a) (k:=(s,c)) l h with ⟨hk,hno⟩ | ⟨x,hk,ho⟩
 ·rw [hk]
  exact ⟨fun h1=>⟨h1,.inr fun y hy hyk=>absurd hyk (hno y hy)⟩,fun h1=>h1.1⟩
 ·rw [hk]
  show memS a (if x.2.1 = true then allSt x.2.2 else x.1) n ↔ memS a (allSt a) n ∧ (x.2.1 = true ∨ _)
  cases hd : x.2.1 with
  | true=>rw [if_pos rfl,ho.attr];exact ⟨fun h1=>⟨h1,.inl rfl⟩,fun h1=>h1.1⟩
  | false=>
   rw [if_neg Bool.false_ne_true,ho.mem n]
   exact ⟨fun h1=>⟨h1.1,.inr h1.2⟩,fun h1=>⟨h1.1,h1.2.resolve_left Bool.false_ne_true⟩⟩
theorem ofV_full {a : Attr} (ha : AttrOk a) {s : ByteArray} {c : Nat} (l : List (Int × FR)) (h : ∀ y ∈ l,keyOf y.2 = (s,c) → y.2.attr = a) (hv : a.values = []) : (ofV l (s,c) a).low ≤ (ofV l (s,c) a).high:=by
 unfold ofV knowV
 rcases know_at (a:=a) (k:=(s,c)) l h with ⟨hk,_⟩ | ⟨x,hk,ho⟩
 ·rw [hk];exact all_full ha
 ·rw [hk]
  show (if x.2.1 = true then allSt x.2.2 else x.1).low ≤ (if x.2.1 = true then allSt x.2.2 else x.1).high
  cases hd : x.2.1 with
  | true=>rw [if_pos rfl,ho.attr];exact all_full ha
  | false=>rw [if_neg Bool.false_ne_true];exact ho.full hv hd
theorem ofV_some {a : Attr} (ha : AttrOk a) {s : ByteArray} {c : Nat} (l : List (Int × FR)) (h : ∀ y ∈ l,keyOf y.2 = (s,c) → y.2.attr = a) : ∃ n,memS a (ofV l (s,c) a) n:=by
 have hall : a.values ≠ [] → memS a (allSt a) 0:=fun hv=>⟨fun h'=>absurd h' hv,fun _=>⟨Int.le_refl _,by have:=List.length_pos_iff.2 hv;omega,by
  have hp:=List.length_pos_iff.2 hv
  show (2 ^ a.values.length - 1).testBit 0 = true
  rw [Nat.testBit_two_pow_sub_one]
  simpa using hp⟩⟩
 by_cases hv : a.values = []
 ·exact ⟨(ofV l (s,c) a).low,fun _=>⟨Int.le_refl _,ofV_full ha l h hv⟩,fun h'=>absurd hv h'⟩
 ·unfold ofV knowV
  rcases know_at (a:=a) (k:=(s,c)) l h with ⟨hk,_⟩ | ⟨x,hk,ho⟩
  ·rw [hk];exact ⟨0,hall hv⟩
  ·rw [hk]
   show ∃ n,memS a (if x.2.1 = true then allSt x.2.2 else x.1) n
   cases hd : x.2.1 with
   | true=>rw [if_pos rfl,ho.attr];exact ⟨0,hall hv⟩
   | false=>
    rw [if_neg Bool.false_ne_true]
    obtain ⟨i,hi⟩:=Nat.exists_testBit_of_ne_zero (ho.some_ hv hd)
    have h2:=ho.sub i hi
    have h3 : (2 ^ a.values.length - 1).testBit i = true:=h2
    rw [Nat.testBit_two_pow_sub_one] at h3
    have h4 : i < a.values.length:=by simpa using h3
    exact ⟨(i : Int),fun h'=>absurd h' hv,fun _=>⟨by omega,by omega,by rw [Int.toNat_natCast];exact hi⟩⟩
theorem col_uniq {R : Rec} (hcn : (R.cols.map (·.2)).Nodup) {a a' : Attr} {c : Nat} (h1 : (a,c) ∈ R.cols) (h2 : (a',c) ∈ R.cols) : a = a':=by
 rw [List.Nodup,List.pairwise_map] at hcn
 obtain ⟨i,hi,e1⟩:=List.mem_iff_getElem.1 h1
 obtain ⟨j,hj,e2⟩:=List.mem_iff_getElem.1 h2
 rw [List.pairwise_iff_getElem] at hcn
 rcases Nat.lt_trichotomy i j with hij | hij | hij
 ·exact absurd (by rw [e1,e2]) (hcn i j hi hj hij)
 ·subst hij;rw [e1] at e2;exact congrArg Prod.fst e2
 ·exact absurd (by rw [e1,e2]) (hcn j i hj hi hij)
theorem held_attr {R : Rec} (hcn : (R.cols.map (·.2)).Nodup) {l : List (Int × FR)} (hl : ∀ y ∈ l,(y.2.attr,y.2.col) ∈ R.cols) {a : Attr} {c : Nat} (hc : (a,c) ∈ R.cols) (s : ByteArray) : ∀ y ∈ l,keyOf y.2 = (s,c) → y.2.attr = a:=fun y hy hk=>by
 have : y.2.col = c:=congrArg Prod.snd hk
 have h1:=hl y hy
 rw [this] at h1
 exact col_uniq hcn h1 hc
theorem full_of {R : Rec} (hok : RecOk R) (hcn : (R.cols.map (·.2)).Nodup) {l : List (Int × FR)} (hl : ∀ y ∈ l,(y.2.attr,y.2.col) ∈ R.cols) : Full R l:=
 fun s a c hc hv=>ofV_full (hok.attrs _ hc) l (held_attr hcn hl hc s) hv
end Go.Proofs.YtihfcjioilmmjaaGreat
namespace Go.Proofs.YtihfcjioilmmjaaGreat
open Go Go.RowKit
open Go.Lib Go.Proofs
mutual
def countF : Nat → Exp → Nat
 | d,.mk _ _ values _ _ kids=>match d with
  | 0=>1000
  | d + 1=>countL d kids (1 + values.length / 10)
def countL : Nat → List Exp → Nat → Nat
 | _,[],n=>n
 | d,k :: r,n=>if n < 100 then countL d r (n + countF d k) else n
end
theorem countL_stop {d : Nat} {l : List Exp} {n : Nat} (h : ¬ n < 100) : countL d l n = n:=by
 cases l with
 | nil=>rw [countL]
 | cons k r=>rw [countL,if_neg h]
theorem countL_le {d b : Nat} : ∀ (l : List Exp) (n : Nat),n ≤ b + 100 → (∀ k ∈ l,countF d k ≤ b) → countL d l n ≤ b + 100
 | [],n,h,_=>by rw [countL];exact h
 | k :: r,n,h,hk=>by
  rw [countL]
  split
  ·have h1:=hk k List.mem_cons_self
   exact countL_le r _ (by omega) fun k hm=>hk k (List.mem_cons_of_mem _ hm)
  ·exact h
theorem countF_le {w : World} {cs : List Value} {e : Exp} (h : ExpAt w cs e) : ∀ d,countF d e ≤ 1000000000000000000 + 1000 + d * 100:=by
 induction h with
 | @mk op attr vv kv lo hi values kids css hop hattr hlo hhi hv hlen hs h6 hkid ih=>
  intro d
  cases d with
  | zero=>rw [countF];omega
  | succ d=>
   have hm:=hv.1.len
   unfold maxLen at hm
   rw [countF]
   show countL d kids (1 + values.length / 10) ≤ _
   have:=countL_le (d:=d) (b:=1000000000000000000 + 1000 + d * 100) kids (1 + values.length / 10) (by omega) fun k hk=>by
    obtain ⟨i,hi⟩:=List.mem_iff_getElem?.1 hk
    have hil : i < css.length:=by rw [hlen];exact (List.getElem?_eq_some_iff.1 hi).1
    exact ih i _ k (List.getElem?_eq_getElem hil) hi d
   rw [Nat.add_mul]
   omega
theorem tdiv10 (n : Nat) : Int.tdiv (n : Int) 10 = ((n / 10 : Nat) : Int):=by
 rw [Int.tdiv_eq_ediv_of_nonneg (by omega)];rfl
set_option maxHeartbeats 4000000 in
set_option maxRecDepth 100000 in
theorem count_all : ∀ (d : Nat),d ≤ 12 → ∀ (e : Exp) (w : World) (cs : List Value),ExpAt w cs e →
  Calls Tryz.prog 55 #[.agg cs.toArray,.int .i64 (d : Int)] w fun r w'=>r = .returned (.int .i64 ((countF d e : Nat) : Int)) ∧ Ext w w'
 | 0,_,.mk op attr values lo hi kids,w,cs,h=>by
  obtain ⟨o,at_,p,n,c',l,h',p2,n2,c2,rfl⟩:=exp_form h
  go_enter Tryz.func55,Tryz.ntmps55
  go_wp2_with fail
  go_ret
  exact ⟨by rw [countF];rfl,by exact bel⟩
 | d + 1,hd,e,w,cs,h=>by
  have HIH:=Lib.hid (count_all d (by omega))
  cases h with
  | @mk op attr vv kv lo hi values kids css hop hattr hlo hhi hv hlen hs h6 hkid=>
  obtain ⟨vp,vc,rfl,hvz,hvm,hvz2,hvz3⟩:=hv.1
  obtain ⟨kp,kc,rfl,hkcap,hkml,hkz,hkcell⟩:=hs
  clear hvz hvz2 hvz3 hkz hv hkcap hop hattr hlo hhi
  unfold maxLen at hkml hvm
  have HKC:=Lib.hid hkcell
  have HLEN:=Lib.hid hlen
  have H6:=Lib.hid h6
  have HK:=Lib.hid hkid
  clear hkcell hlen h6 hkid
  rw [show countF (d + 1) (.mk op attr values lo hi kids) = countL d kids (1 + values.length / 10) by rw [countF]]
  obtain ⟨W1,hW1⟩ : ∃ W1,W1 = w.alloc (.cells #[.int .u8 op,.string attr,.slice vp values.length vc,.int .i64 lo,.int .i64 hi,.slice kp kids.length kc] 29 (0,0)):=⟨_,rfl⟩
  have hx1 : Ext w W1:=by rw [hW1];exact bel
  have hb1 : W1.heap[w.heap.size]? = some (.cells #[.int .u8 op,.string attr,.slice vp values.length vc,.int .i64 lo,.int .i64 hi,.slice kp kids.length kc] 29 (0,0)):=by rw [hW1];simp only [heap_drawn_get,heap_drew_get,heap_setCell_get,heap_alloc_get,World.size_alloc,World.size_setCell,size_drawn,putObj_get,putObj_size];(repeat (first | rw [if_pos trivial] | rw [if_pos rfl] | rw [if_neg (by omega)] | rw [if_pos (by omega)]))
  have d2:=cell_of hb1 2
  have d5:=cell_of hb1 5
  have HX1:=Lib.hid hx1
  have HB1:=Lib.hid hb1
  have hdi : ((d + 1 : Nat) : Int) = (d : Int) + 1:=by omega
  rw [hdi]
  have he1 : (((d : Int) + 1) == 0) = false:=by rw [beq_eq_false_iff_ne];omega
  have hq:=tdiv10 values.length
  obtain ⟨n0,hn0⟩ : ∃ n0,1 + values.length / 10 = n0:=⟨_,rfl⟩
  have hq1 : ((values.length / 10 : Nat) : Int) = (n0 : Int) - 1:=by omega
  have hn1 : 1 ≤ n0 ∧ n0 ≤ 1000000000000000000:=by omega
  rw [hn0]
  rw [hq1] at hq
  clear hx1 hb1 hdi hq1 hn0
  show Calls Tryz.prog 55 #[.agg #[.int .u8 op,.string attr,.slice vp values.length vc,.int .i64 lo,.int .i64 hi,.slice kp kids.length kc],.int .i64 ((d : Int) + 1)] w _
  go_enter Tryz.func55,Tryz.ntmps55
  go_upto_region 1 with fail
  rw [← hW1]
  clear hW1
  go_upto_region 3 with fail
  clear he1 d5
  go_wp2_with fail
  clear d2 hq
  go_loopw [5,6] (fun n i wr=>∃ (j acc : Nat),j ≤ kids.length ∧ i = .int .i64 j ∧ n = .int .i64 (acc : Int) ∧ acc ≤ 2000000000000000000 ∧ Hid (countL d kids n0 = countL d (kids.drop j) acc) ∧ Hid (Ext W1 wr)) (fun _ i _=>kids.length - (intOf i).toNat)
  case atStart=>exact ⟨0,n0,Nat.zero_le _,rfl,by congr 1;omega,by omega,rfl,ext_refl _⟩
  case round=>
   obtain ⟨j,acc,hj,rfl,rfl,hacc,hr,hx⟩:=hrel
   have d5 : wr.cell? ⟨w.heap.size,5,none⟩ = some (.slice kp kids.length kc):=hx.out.cell' (cell_of HB1.out 5)
   by_cases hlt : j < kids.length
   ·by_cases h100 : acc < 100
    ·obtain ⟨k,hkj⟩ : ∃ k,kids[j]? = some k:=⟨_,List.getElem?_eq_getElem hlt⟩
     obtain ⟨cs,hcj⟩ : ∃ cs,css[j]? = some cs:=⟨_,List.getElem?_eq_getElem (by rw [HLEN.out];exact hlt)⟩
     have hek:=HK.out j cs k hcj hkj
     obtain ⟨yo,ya,yp,yn,yc,yl,yh,zp,zn,zc,rfl⟩:=exp_form hek
     have hcell : ∀ (q : Nat) (u : Value),([.int .u8 yo,.string ya,.slice yp yn yc,.int .i64 yl,.int .i64 yh,.slice zp zn zc] : List Value)[q]? = some u → ∃ b off,kp = some ⟨b,off,none⟩ ∧ w.cell? ⟨b,off + (j * 6 + q),none⟩ = some u:=fun q u hu=>by
      have hq : q < 6:=(List.getElem?_eq_some_iff.1 hu).1
      have h2:=flatten_get 6 css H6.out j q _ hcj hq
      rw [hu] at h2
      exact HKC.out _ u h2
     obtain ⟨kb,koff,rfl,hc0⟩:=hcell 0 (.int .u8 yo) rfl
     have hcell' : ∀ (q : Nat) (u : Value),([.int .u8 yo,.string ya,.slice yp yn yc,.int .i64 yl,.int .i64 yh,.slice zp zn zc] : List Value)[q]? = some u → wr.cell? ⟨kb,koff + (j * 6 + q),none⟩ = some u:=fun q u hu=>by
      obtain ⟨b,off,e,hc⟩:=hcell q u hu
      simp only [Option.some.injEq,Addr.mk.injEq] at e
      obtain ⟨rfl,rfl,_⟩:=e
      exact (HX1.out.trans' hx.out).cell' hc
     have g0 : wr.cell? ⟨kb,koff + j * 6,none⟩ = some (.int .u8 yo):=hcell' 0 _ rfl
     have g1 : wr.cell? ⟨kb,koff + j * 6 + 1,none⟩ = some (.string ya):=hcell' 1 _ rfl
     have g2 : wr.cell? ⟨kb,koff + j * 6 + 2,none⟩ = some (.slice yp yn yc):=hcell' 2 _ rfl
     have g3 : wr.cell? ⟨kb,koff + j * 6 + 3,none⟩ = some (.int .i64 yl):=hcell' 3 _ rfl
     have g4 : wr.cell? ⟨kb,koff + j * 6 + 4,none⟩ = some (.int .i64 yh):=hcell' 4 _ rfl
     have g5 : wr.cell? ⟨kb,koff + j * 6 + 5,none⟩ = some (.slice zp zn zc):=hcell' 5 _ rfl
     have hcall:=HIH.out k wr _ (hek.ext (HX1.out.trans' hx.out))
     have hle:=countF_le hek d
     have hd2 : kids.drop j = k :: kids.drop (j + 1):=by
      rw [List.drop_eq_getElem_cons hlt]
      congr 1
      rw [List.getElem?_eq_getElem hlt] at hkj
      exact Option.some.inj hkj
     obtain ⟨q,hqe⟩ : ∃ q,countF d k = q:=⟨_,rfl⟩
     rw [hqe] at hcall hle
     have HCALL:=Lib.hid hcall
     have HR : Hid (countL d kids n0 = countL d (kids.drop (j + 1)) (acc + q)):=by
      refine hr.out.trans ?_
      rw [hd2,countL,if_pos h100,hqe]
     have e1 : (d : Int) + 1 - 1 = (d : Int):=by omega
     clear hcall hcell hcell' hc0 hkj hcj hek hd2 hqe hr
     go_wp2_with fail
     refine HCALL.out.mono ?_
     rintro e w4 ⟨rfl,hx4⟩
     have HX4:=Lib.hid (hx.out.trans' hx4)
     clear hx4 hx d5 g0 g1 g2 g3 g4 g5 e1
     go_wp2_with fail
     exact ⟨⟨j + 1,acc + q,by omega,rfl,by first | rfl | (congr 1;omega),by omega,HR,HX4⟩,by simp [intOf];omega⟩
    ·go_wp2_with fail
     go_ret
     refine ⟨?_,HX1.out.trans' hx.out⟩
     rw [hr.out,countL_stop h100];rfl
   ·obtain rfl : j = kids.length:=by omega
    go_wp2_with fail
    go_ret
    refine ⟨?_,HX1.out.trans' hx.out⟩
    rw [hr.out,List.drop_length,countL];rfl
theorem count_any {w : World} {cs : List Value} {e : Exp} (h : ExpAt w cs e) : Calls Tryz.prog 55 #[.agg cs.toArray,.int .i64 12] w fun r w'=>r = .returned (.int .i64 ((countF 12 e : Nat) : Int)) ∧ Ext w w':=
 count_all 12 (Nat.le_refl _) e w cs h
theorem countF_big : ∀ (d : Nat) (e : Exp),expBig e → countF d e ≤ 1000000000000 + 1000 + d * 100
 | 0,.mk _ _ _ _ _ _,_=>by rw [countF];omega
 | d + 1,.mk _ _ values _ _ kids,h=>by
  rw [expBig] at h
  rw [countF]
  show countL d kids (1 + values.length / 10) ≤ _
  have:=countL_le (d:=d) (b:=1000000000000 + 1000 + d * 100) kids (1 + values.length / 10) (by omega) fun k hk=>countF_big d k ((expsBig_iff _).1 h.2 k hk)
  rw [Nat.add_mul]
  omega
end Go.Proofs.YtihfcjioilmmjaaGreat
