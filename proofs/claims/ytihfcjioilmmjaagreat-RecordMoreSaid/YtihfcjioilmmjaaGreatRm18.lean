/- Lemmas: wide 1. -/
import Derived.Test.YtihfcjioilmmjaaGreatRm1
import Derived.Test.YtihfcjioilmmjaaGreatRm17
set_option linter.all false
namespace Go.Proofs.YtihfcjioilmmjaaGreat
open Go Go.RowKit
open Go.Lib Go.Proofs
def psum (l : List Exp) (n : Nat) : Nat:=l.foldl (fun n e=>n + countF 12 e) n
def widePatF (own : Exp) (parts : List Exp) : Bool:=decide (40 < psum (parts.take 50) (countF 12 own)) || decide (6 < parts.length)
theorem psum_snoc (l : List Exp) (e : Exp) (n : Nat) : psum (l ++ [e]) n = psum l n + countF 12 e:=by unfold psum;rw [List.foldl_append];rfl
theorem psum_le {b : Nat} : ∀ (l : List Exp) (n : Nat),(∀ e ∈ l,countF 12 e ≤ b) → psum l n ≤ n + l.length * b
 | [],n,_=>by unfold psum;simp
 | e :: r,n,h=>by
  have h1:=h e List.mem_cons_self
  have h2:=psum_le r (n + countF 12 e) fun k hk=>h k (List.mem_cons_of_mem _ hk)
  show psum r (n + countF 12 e) ≤ _
  rw [List.length_cons,Nat.add_mul]
  omega
set_option maxHeartbeats 4000000 in
set_option maxRecDepth 100000 in
theorem widePat_any {w : World} {cs : List Value} {own : Exp} {parts : List Exp} (h : PatAt w cs own parts) (hb : PatBig own parts) :
  Calls Tryz.prog 27 #[.agg cs.toArray] w fun r w'=>r = .returned (.bool (widePatF own parts)) ∧ Ext w w':=by
 obtain ⟨ec,v,rfl,hown,css,hlen,⟨kp,kc,rfl,hkcap,hkml,hkz,hkcell⟩,h6,hkid⟩:=h
 clear hkcap hkz
 unfold maxLen at hkml
 obtain ⟨yo,ya,yp,yn,yc,yl,yh,zp,zn,zc,rfl⟩:=exp_form hown
 obtain ⟨W1,hW1⟩ : ∃ W1,W1 = w.alloc (.cells #[.int .u8 yo,.string ya,.slice yp yn yc,.int .i64 yl,.int .i64 yh,.slice zp zn zc,.slice kp parts.length kc] 31 (0,0)):=⟨_,rfl⟩
 have hx1 : Ext w W1:=by rw [hW1];exact bel
 have hb1 : W1.heap[w.heap.size]? = some (.cells #[.int .u8 yo,.string ya,.slice yp yn yc,.int .i64 yl,.int .i64 yh,.slice zp zn zc,.slice kp parts.length kc] 31 (0,0)):=by rw [hW1];simp only [heap_drawn_get,heap_drew_get,heap_setCell_get,heap_alloc_get,World.size_alloc,World.size_setCell,size_drawn,putObj_get,putObj_size];(repeat (first | rw [if_pos trivial] | rw [if_pos rfl] | rw [if_neg (by omega)] | rw [if_pos (by omega)]))
 have d0:=cell_of hb1 0
 have d1:=cell_of hb1 1
 have d2:=cell_of hb1 2
 have d3:=cell_of hb1 3
 have d4:=cell_of hb1 4
 have d5:=cell_of hb1 5
 have hc:=count_any (hown.ext hx1)
 have hcb:=countF_big 12 own hb.1
 have hps:=psum_le (b:=1000000000000 + 1000 + 12 * 100) (parts.take 50) (countF 12 own) fun e he=>countF_big 12 e (hb.2 e (List.mem_of_mem_take he))
 have hpl : (parts.take 50).length ≤ 50:=by rw [List.length_take];omega
 have hpsb : ∀ (j : Nat),psum ((parts.take 50).take j) (countF 12 own) ≤ 1000000000000000:=fun j=>by
  have h1:=psum_le (b:=1000000000000 + 1000 + 12 * 100) ((parts.take 50).take j) (countF 12 own) fun e he=>countF_big 12 e (hb.2 e (List.mem_of_mem_take (List.mem_of_mem_take he)))
  have h2 : ((parts.take 50).take j).length ≤ 50:=by rw [List.length_take,List.length_take];omega
  have h3:=Nat.mul_le_mul_right (1000000000000 + 1000 + 12 * 100) h2
  omega
 obtain ⟨n0,hn0⟩ : ∃ n0,countF 12 own = n0:=⟨_,rfl⟩
 have hbig:=hb.2
 unfold widePatF
 rw [hn0] at hc hcb hpsb ⊢
 have HC:=Lib.hid hc
 have HX1:=Lib.hid hx1
 have HB1:=Lib.hid hb1
 have HKC:=Lib.hid hkcell
 have HLEN:=Lib.hid hlen
 have H6:=Lib.hid h6
 have HK:=Lib.hid hkid
 have HPB:=Lib.hid hpsb
 have HBIG:=Lib.hid hbig
 clear hx1 hb1 hkcell hlen h6 hkid hc hps hpsb hpl hn0 hb hown hbig
 show Calls Tryz.prog 27 #[.agg #[.int .u8 yo,.string ya,.slice yp yn yc,.int .i64 yl,.int .i64 yh,.slice zp zn zc,.slice kp parts.length kc]] w _
 go_enter Tryz.func27,Tryz.ntmps27
 go_upto_region 1 with fail
 rw [← hW1]
 clear hW1
 go_wp2_with fail
 refine HC.out.mono ?_
 rintro e w2 ⟨rfl,hx2⟩
 have HX2:=Lib.hid (HX1.out.trans' hx2)
 have HB2:=Lib.hid (hx2.obj HB1.out)
 clear hx2 d0 d1 d2 d3 d4 d5
 go_wp2_with fail
 go_loopw [3,4] (fun n i wr=>∃ (j acc : Nat),j ≤ parts.length ∧ j ≤ 50 ∧ i = .int .i64 j ∧ n = .int .i64 (acc : Int) ∧ acc ≤ 1000000000000000 ∧ Hid (psum ((parts.take 50).take j) n0 = acc) ∧ Hid (Ext w2 wr)) (fun _ i _=>parts.length - (intOf i).toNat)
 case atStart=>exact ⟨0,n0,Nat.zero_le _,Nat.zero_le _,rfl,rfl,by omega,rfl,ext_refl _⟩
 case round=>
  obtain ⟨j,acc,hj,hj5,rfl,rfl,hacc,hr,hx⟩:=hrel
  have hxw:=HX2.out.trans' hx.out
  have HXW:=Lib.hid hxw
  have d6 : wr.cell? ⟨w.heap.size,6,none⟩ = some (.slice kp parts.length kc):=hx.out.cell' (cell_of HB2.out 6)
  by_cases hlt : j < parts.length
  ·by_cases h50 : j < 50
   ·obtain ⟨k,hkj⟩ : ∃ k,parts[j]? = some k:=⟨_,List.getElem?_eq_getElem hlt⟩
    obtain ⟨cs,hcj⟩ : ∃ cs,css[j]? = some cs:=⟨_,List.getElem?_eq_getElem (by rw [HLEN.out];exact hlt)⟩
    have hek:=HK.out j cs k hcj hkj
    obtain ⟨yo,ya,yp,yn,yc,yl,yh,zp,zn,zc,rfl⟩:=exp_form hek
    have hcell : ∀ (q : Nat) (u : Value),([.int .u8 yo,.string ya,.slice yp yn yc,.int .i64 yl,.int .i64 yh,.slice zp zn zc] : List Value)[q]? = some u → ∃ b off,kp = some ⟨b,off,none⟩ ∧ w.cell? ⟨b,off + (j * 6 + q),none⟩ = some u:=fun q u hu=>by
     have hq : q < 6:=(List.getElem?_eq_some_iff.1 hu).1
     have h2:=flatten_get 6 css H6.out j q _ hcj hq
     rw [hu] at h2
     exact HKC.out _ u h2
    obtain ⟨kb,koff,rfl,hc0⟩:=hcell 0 (.int .u8 yo) rfl
    have hcell' : ∀ (q : Nat) (u : Value),([.int .u8 yo,.string ya,.slice yp yn yc,.int .i64 yl,.int .i64 yh,.slice zp zn zc] : List Value)[q]? = some u → wr.cell? ⟨kb,koff + (j * 6 + q),none⟩ = some u:=fun q u hu=>by
     obtain ⟨b,off,e,hc⟩:=hcell q u hu
     simp only [Option.some.injEq,Addr.mk.injEq] at e
     obtain ⟨rfl,rfl,_⟩:=e
     exact hxw.cell' hc
    have g0 : wr.cell? ⟨kb,koff + j * 6,none⟩ = some (.int .u8 yo):=hcell' 0 _ rfl
    have g1 : wr.cell? ⟨kb,koff + j * 6 + 1,none⟩ = some (.string ya):=hcell' 1 _ rfl
    have g2 : wr.cell? ⟨kb,koff + j * 6 + 2,none⟩ = some (.slice yp yn yc):=hcell' 2 _ rfl
    have g3 : wr.cell? ⟨kb,koff + j * 6 + 3,none⟩ = some (.int .i64 yl):=hcell' 3 _ rfl
    have g4 : wr.cell? ⟨kb,koff + j * 6 + 4,none⟩ = some (.int .i64 yh):=hcell' 4 _ rfl
    have g5 : wr.cell? ⟨kb,koff + j * 6 + 5,none⟩ = some (.slice zp zn zc):=hcell' 5 _ rfl
    have hcall:=count_any (hek.ext hxw)
    have hle:=countF_big 12 k (HBIG.out k (List.mem_of_getElem? hkj))
    have htk : (parts.take 50).take (j + 1) = (parts.take 50).take j ++ [k]:=by
     rw [List.take_add_one,List.getElem?_take,if_pos h50,hkj];rfl
    have hpsn:=psum_snoc ((parts.take 50).take j) k n0
    rw [← htk,hr.out] at hpsn
    have hacc':=HPB.out (j + 1)
    obtain ⟨q,hqe⟩ : ∃ q,countF 12 k = q:=⟨_,rfl⟩
    rw [hpsn] at hacc'
    rw [hqe] at hcall hle hpsn hacc'
    have HCALL:=Lib.hid hcall
    have HPS:=Lib.hid hpsn
    clear hcall hcell hcell' hc0 hkj hcj hek hqe hr hpsn htk hxw
    go_wp2_with fail
    refine HCALL.out.mono ?_
    rintro e w4 ⟨rfl,hx4⟩
    have HX4:=Lib.hid (hx.out.trans' hx4)
    clear hx4 hx d6 g0 g1 g2 g3 g4 g5
    go_wp2_with fail
    exact ⟨⟨j + 1,acc + q,by omega,by omega,rfl,by first | rfl | (congr 1;omega),by omega,HPS,HX4⟩,by simp [intOf];omega⟩
   ·have hta : (parts.take 50).take j = parts.take 50:=List.take_of_length_le (by rw [List.length_take];omega)
    have hr' : Hid (psum (parts.take 50) n0 = acc):=by
     have:=hr.out
     rw [hta] at this
     exact this
    clear hta hxw
    have hgt : (6 : Int) < (parts.length : Int):=by omega
    by_cases h40 : 40 < acc
    ·go_wp2_with fail
     go_ret
     refine ⟨?_,HXW.out⟩
     rw [hr'.out];simp [h40]
    ·go_wp2_with fail
     go_ret
     refine ⟨?_,HXW.out⟩
     rw [hr'.out];simp;omega
  ·obtain rfl : j = parts.length:=by omega
   have hta : (parts.take 50).take parts.length = parts.take 50:=List.take_of_length_le (by rw [List.length_take];omega)
   have hr' : Hid (psum (parts.take 50) n0 = acc):=by
    have:=hr.out
    rw [hta] at this
    exact this
   clear hta hxw
   by_cases h40 : 40 < acc
   ·go_wp2_with fail
    go_ret
    refine ⟨?_,HXW.out⟩
    rw [hr'.out];simp [h40]
   ·skip
    go_wp2_with fail
    go_ret
    refine ⟨?_,HXW.out⟩
    rw [hr'.out,show decide (40 < acc) = decide (40 < (acc : Int)) from decide_eq_decide.2 (by omega),show decide (6 < parts.length) = decide (6 < (parts.length : Int)) from decide_eq_decide.2 (by omega)];rfl
def wideFact (f : Fct) : Bool:=decide (10 < f.values.length) || decide (60 < f.subject.size)
def wideFactsF (l : List Fct) : Bool:=l.any wideFact || decide (8 < l.length)
set_option maxHeartbeats 4000000 in
set_option maxRecDepth 100000 in
theorem wideFacts_any {w : World} {v : Value} {l : List Fct} (h : FactsAt w v l) :
  Calls Tryz.prog 8 #[v] w fun r w'=>r = .returned (.bool (wideFactsF l)) ∧ w = w':=by
 have hlm : l.length ≤ maxLen:=let ⟨_,_,hs,_⟩:=h;hs.len
 obtain ⟨a,cap,rfl,hcap,hel⟩:=RowsAt.at (cells:=factCells) (by decide) (fun _ _=>rfl) h
 unfold maxLen at hlm
 have HEL:=Lib.hid hel
 clear hel h hcap
 unfold wideFactsF
 go_enter Tryz.func8,Tryz.ntmps8
 go_wp2_with fail
 go_loopw [3] (fun i wr=>∃ j : Nat,j ≤ l.length ∧ i = .int .i64 j ∧ Hid ((l.take j).any wideFact = false) ∧ wr = w) (fun i _=>l.length - (intOf i).toNat)
 case atStart=>exact ⟨0,Nat.zero_le _,rfl,rfl,rfl⟩
 case round=>
  obtain ⟨j,hj,rfl,hr,rfl⟩:=hrel
  by_cases hlt : j < l.length
  ·obtain ⟨f,hf⟩ : ∃ f,l[j]? = some f:=⟨_,List.getElem?_eq_getElem hlt⟩
   obtain ⟨b,off,u,rfl,hok,hc⟩:=HEL.out j f hf
   obtain ⟨up,uc,rfl,hz1,hz2,hz3⟩:=hok.1.1
   have hsub:=hok.2.1
   unfold maxLen at hsub
   have g0 : wr.cell? ⟨b,off + j * 5,none⟩ = some (.string f.subject):=hc 0 _ rfl
   have g2 : wr.cell? ⟨b,off + j * 5 + 2,none⟩ = some (.slice up f.values.length uc):=hc 2 _ rfl
   have htk : l.take (j + 1) = l.take j ++ [f]:=by rw [List.take_add_one,hf];rfl
   have hany : (l.take (j + 1)).any wideFact = wideFact f:=by rw [htk,List.any_append,hr.out];simp
   have hyes : wideFact f = true → l.any wideFact = true:=fun h=>List.any_eq_true.2 ⟨f,List.mem_of_getElem? hf,h⟩
   have HANY:=Lib.hid hany
   have HYES:=Lib.hid hyes
   clear hz1 hz2 hz3 hok hc htk hany hyes hf
   by_cases h10 : 10 < f.values.length
   ·have hy:=Lib.hid (HYES.out (by unfold wideFact;simp [h10]))
    go_wp2_with fail
    go_ret
    refine ⟨?_,rfl⟩
    rw [hy.out];rfl
   ·by_cases h60 : 60 < f.subject.size
    ·have hy:=Lib.hid (HYES.out (by unfold wideFact;simp [h60]))
     go_wp2_with fail
     go_ret
     refine ⟨?_,rfl⟩
     rw [hy.out];rfl
    ·have hn : Hid ((l.take (j + 1)).any wideFact = false):=Lib.hid (HANY.out.trans (by unfold wideFact;simp [h10,h60]))
     go_wp2_with fail
     exact ⟨⟨j + 1,by omega,rfl,hn,by first | rfl | trivial⟩,by simp [intOf];omega⟩
  ·obtain rfl : j = l.length:=by omega
   have hr':=hr.out
   rw [List.take_length] at hr'
   have HR:=Lib.hid hr'
   clear hr'
   go_wp2_with fail
   go_ret
   refine ⟨?_,rfl⟩
   rw [HR.out,Bool.false_or,show decide (8 < l.length) = decide (8 < (l.length : Int)) from decide_eq_decide.2 (by omega)];rfl
end Go.Proofs.YtihfcjioilmmjaaGreat
