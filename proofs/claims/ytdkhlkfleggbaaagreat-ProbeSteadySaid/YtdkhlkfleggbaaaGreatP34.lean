/- Layer 29: the reference's Put. Printed by gengsv4.py. -/
import Derived.Test.YtdkhlkfleggbaaaGreatP18
import Derived.Test.YtdkhlkfleggbaaaGreatP33
import Derived.Test.YtdkhlkfleggbaaaGreatP19
namespace Go.Proofs.YtdkhlkfleggbaaaGreat
set_option maxHeartbeats 4000000
set_option maxRecDepth 8000
open Lib (hid)
set_option linter.unusedVariables false
open Go.RowKit
theorem aqm (A B:Option Addr) (n c d:Nat) (L:List V4) (w:World) (hn:Hid (L.length=n)) (hA:Hid (Vws w w.heap.size A L)) (hB:Hid (Vws w w.heap.size B L)) (h0:n≤1000000) :
 Calls Tryz.prog 69 #[.slice A n c,.slice B n d] w fun e w'=>e=.returned (.bool true)∧Below w.heap.size w w':=by
 have hb:((n:Int) != (n:Int))=false:=by rw[bne_eq_false_iff_eq]
 go_enter Tryz.func69,Tryz.ntmps69
 go_wp2
 go_loopw [5] (fun i wr=>∃k nq:Nat,k≤n∧i=.int .i64 k∧wr=w.drewN nq) (fun i _=>n-(intOf i).toNat)
 case atStart=>exact⟨0,0,Nat.zero_le _,rfl,rfl⟩
 case round=>
  obtain⟨k,nq,hk,rfl,rfl⟩:=hrel
  by_cases hlt:k<n
  ·have hkl:k<L.length:=by rw[hn.out];exact hlt
   obtain⟨b1,o1,hA1,hb1,hc1⟩:=hA.out k hkl
   obtain⟨b2,o2,hA2,hb2,hc2⟩:=hB.out k hkl
   subst hA1 hA2
   generalize L[k]=v at *
   obtain⟨⟨vb0,vn0⟩,⟨vb1,vn1⟩,⟨vb2,vn2⟩,⟨vb3,vn3⟩⟩:=v
   have e1:∀(j:Nat) u,(jj ((vb0,vn0),(vb1,vn1),(vb2,vn2),(vb3,vn3)))[j]?=some u→w.cell? ⟨b1,o1+k*8+j,none⟩=some u:=fun j u hu=>by
    rw[show o1+k*8+j=o1+8*k+j from by omega];exact hc1 j u hu
   have e2:∀(j:Nat) u,(jj ((vb0,vn0),(vb1,vn1),(vb2,vn2),(vb3,vn3)))[j]?=some u→w.cell? ⟨b2,o2+k*8+j,none⟩=some u:=fun j u hu=>by
    rw[show o2+k*8+j=o2+8*k+j from by omega];exact hc2 j u hu
   have x0:w.cell? ⟨b1,o1+k*8,none⟩=some (.bool vb0):=e1 0 _ rfl
   have x1:=e1 1 _ rfl
   have x2:=e1 2 _ rfl
   have x3:=e1 3 _ rfl
   have x4:=e1 4 _ rfl
   have x5:=e1 5 _ rfl
   have x6:=e1 6 _ rfl
   have x7:=e1 7 _ rfl
   have y0:w.cell? ⟨b2,o2+k*8,none⟩=some (.bool vb0):=e2 0 _ rfl
   have y1:=e2 1 _ rfl
   have y2:=e2 2 _ rfl
   have y3:=e2 3 _ rfl
   have y4:=e2 4 _ rfl
   have y5:=e2 5 _ rfl
   have y6:=e2 6 _ rfl
   have y7:=e2 7 _ rfl
   have i1:(0:Int) ≤(k:Int):=Int.natCast_nonneg _
   have i2:(k:Int)<(n:Int):=by omega
   clear hc1 hc2 e1 e2 hkl
   go_wp2_with fail
   go_quiet (fail)
   go_wp2_with fail
   go_roundw
   case rel=>exact⟨k+1,_,by omega,by go_num,rfl⟩
   case measure=>simp[intOf];omega
  ·go_wp2_with fail
   go_ret
   exact⟨by rfl,v4 (Below.refl _ _) _⟩
theorem atn (T N S:Int) (A B:Option Addr) (n c d:Nat) (L:List V4) (w:World) (hn:Hid (L.length=n)) (hA:Hid (Vws w w.heap.size A L)) (hB:Hid (Vws w w.heap.size B L)) (h0:n≤1000000) :
 Calls Tryz.prog 50 #[a2i T N S A n c,a2i T N S B n d] w fun e w'=>e=.returned (.bool true)∧Below w.heap.size w w':=by
 have hbb:∀o1 o2,Below w.heap.size w ((w.alloc o1).alloc o2):=fun o1 o2=>qb (qa _ _) (qa _ _)
 have HV:∀o1 o2,Hid (Calls Tryz.prog 69 #[.slice A n c,.slice B n d] ((w.alloc o1).alloc o2) fun e w'=>e=.returned (.bool true)∧Below ((w.alloc o1).alloc o2).heap.size ((w.alloc o1).alloc o2) w'):=fun o1 o2=>
  aqm A B n c d L _ hn ((hA.out.below (hbb o1 o2) (Nat.le_refl _)).more (hbb o1 o2).size) ((hB.out.below (hbb o1 o2) (Nat.le_refl _)).more (hbb o1 o2).size) h0
 have HB:=fun o1 o2=>hid (hbb o1 o2)
 clear hA hB hbb
 go_enter Tryz.func50,Tryz.ntmps50
 go_wp2_with fail
 refine(HV _ _).out.mono ?_
 rintro r w1 ⟨rfl,hb1⟩
 go_wp2_with fail
 go_ret
 exact⟨by rfl,qb (HB _ _).out hb1⟩
theorem ax3 (A:Option Addr) (R:List ByteArray) (c:Nat) (w:World) (hA:A=none→c=0) (hs:vf w w.heap.size A R) (hn:R.length≤1000000) (hz:∀t∈R,t.size≤1000000):Calls Tryz.prog 106 #[.slice A R.length c] w (ai5 (zl R) w):=by
 by_cases h:as3 R.length
 ·have:zl R=(ku,3):=by unfold zl;rw[if_pos h]
  rw[this]
  exact alb A R.length c w h hn
 ·unfold as3 at h
  exact a3z A R.length c ((R.length-3) / 4) R w rfl hA hs hz (hid (by omega)) (by omega)
theorem awf (R:List ByteArray):(zl R).1.L.length≤4:=by
 by_cases h:(zl R).2=0
 ·exact(ask h).1
 ·rw[a2a h];exact Nat.zero_le _
end Go.Proofs.YtdkhlkfleggbaaaGreat
