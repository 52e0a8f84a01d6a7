/- Layer 27: the reference's Take. Printed by gengsar.py. -/
import Derived.Test.YtoabkoniegmkaaaGreatH24
import Derived.Test.YtoabkoniegmkaaaGreatH35
namespace Go.Proofs.YtoabkoniegmkaaaGreat
set_option linter.unusedVariables false
open Go.RowKit
set_option maxRecDepth 8000 in
set_option maxHeartbeats 4000000 in
theorem r03Same_same (A B:Option Addr) (n c d:Nat) (L:List Int) (w:World) (hn:Hid (L.length=n)) (hA:Hid (Ints w w.heap.size A L)) (hB:Hid (Ints w w.heap.size B L)) (h0:n≤1000000) :
    Calls Tryz.prog 77 #[.slice A n c,.slice B n d] w fun e w'=>e=.returned (.bool true)∧Below w.heap.size w w':=by
  have hb:((n:Int) != (n:Int))=false:=by rw [bne_eq_false_iff_eq]
  go_enter Tryz.func77,Tryz.ntmps77
  go_wp2
  go_loopw [5] (fun i wr=>∃ k nq:Nat,k≤n∧i=.int .i64 k∧wr=w.drewN nq) (fun i _=>n - (intOf i).toNat)
  case atStart=>exact⟨0,0,Nat.zero_le _,rfl,rfl⟩
  case round=>
    obtain⟨k,nq,hk,rfl,rfl⟩:=hrel
    by_cases hlt:k < n
    · have hkl:k < L.length:=by rw [hn.out];exact hlt
      obtain⟨b1,o1,hA1,hb1,hc1⟩:=hA.out k hkl
      obtain⟨b2,o2,hA2,hb2,hc2⟩:=hB.out k hkl
      subst hA1 hA2
      generalize L[k]=v at *
      have hv:(v != v)=false:=by rw [bne_eq_false_iff_eq]
      have i1:(0:Int)≤(k:Int):=Int.natCast_nonneg _
      have i2:(k:Int) < (n:Int):=by omega
      clear hkl
      go_wp2_with fail
      go_quiet (fail)
      go_wp2_with fail
      go_roundw
      case rel=>exact⟨k+1,_,by omega,by go_num,rfl⟩
      case measure=>simp [intOf];omega
    · go_wp2_with fail
      go_ret
      exact⟨by rfl,bdrewN (Below.refl _ _) _⟩
set_option maxRecDepth 8000 in
set_option maxHeartbeats 4000000 in
theorem r27Same_same (a:Bool) (f:Int) (b0:Bool) (n0:Int) (b1:Bool) (n1:Int) (b2:Bool) (n2:Int) (A B:Option Addr) (n c d:Nat) (L:List Int) (w:World) (hn:Hid (L.length=n)) (hA:Hid (Ints w w.heap.size A L)) (hB:Hid (Ints w w.heap.size B L)) (h0:n≤1000000) :
    Calls Tryz.prog 32 #[gsaV a f A n c b0 n0 b1 n1 b2 n2,gsaV a f B n d b0 n0 b1 n1 b2 n2] w fun e w'=>e=.returned (.bool true)∧Below w.heap.size w w':=by
  have hbb:Below w.heap.size w ((w.alloc (.cells (gsaC a f A n c b0 n0 b1 n1 b2 n2) 39)).alloc (.cells (gsaC a f B n d b0 n0 b1 n1 b2 n2) 39)):=bthen (below_new _ _) (below_new _ _)
  have HV:Hid (Calls Tryz.prog 77 #[.slice A n c,.slice B n d] ((w.alloc (.cells (gsaC a f A n c b0 n0 b1 n1 b2 n2) 39)).alloc (.cells (gsaC a f B n d b0 n0 b1 n1 b2 n2) 39)) fun e w'=>e=.returned (.bool true)∧Below ((w.alloc (.cells (gsaC a f A n c b0 n0 b1 n1 b2 n2) 39)).alloc (.cells (gsaC a f B n d b0 n0 b1 n1 b2 n2) 39)).heap.size ((w.alloc (.cells (gsaC a f A n c b0 n0 b1 n1 b2 n2) 39)).alloc (.cells (gsaC a f B n d b0 n0 b1 n1 b2 n2) 39)) w'):=
    r03Same_same A B n c d L _ hn ((hA.out.below hbb (Nat.le_refl _)).more hbb.size) ((hB.out.below hbb (Nat.le_refl _)).more hbb.size) h0
  have HB:=Lib.hid hbb
  have HC1:Hid (∀ o,((w.alloc (.cells (gsaC a f A n c b0 n0 b1 n1 b2 n2) 39)).alloc (.cells (gsaC a f B n d b0 n0 b1 n1 b2 n2) 39)).cell? ⟨w.heap.size,o,none⟩=(gsaC a f A n c b0 n0 b1 n1 b2 n2)[o]?):=fun o=>(World.cell?_alloc_past _ _ _ (by simp)).trans (World.cell?_alloc_at _ _ _ _ rfl)
  have HC2:Hid (∀ o,((w.alloc (.cells (gsaC a f A n c b0 n0 b1 n1 b2 n2) 39)).alloc (.cells (gsaC a f B n d b0 n0 b1 n1 b2 n2) 39)).cell? ⟨w.heap.size+1,o,none⟩=(gsaC a f B n d b0 n0 b1 n1 b2 n2)[o]?):=fun o=>World.cell?_alloc_at _ _ _ _ (by simp)
  have HZ:Hid (((w.alloc (.cells (gsaC a f A n c b0 n0 b1 n1 b2 n2) 39)).alloc (.cells (gsaC a f B n d b0 n0 b1 n1 b2 n2) 39)).heap.size=w.heap.size+2):=by show _=_;simp
  have hv:(f==f)=true:=by simp
  have hv0:(n0==n0)=true:=by simp
  have hv1:(n1==n1)=true:=by simp
  have hv2:(n2==n2)=true:=by simp
  clear hA hB hbb
  go_enter Tryz.func32,Tryz.ntmps32
  go_wp2_with fail
  refine HV.out.mono ?_
  rintro r w1 ⟨rfl,hb1⟩
  have hz:=HZ.out
  have HC1':Hid (∀ o,w1.cell? ⟨w.heap.size,o,none⟩=(gsaC a f A n c b0 n0 b1 n1 b2 n2)[o]?):=fun o=>((bcell hb1).1 _ o (by omega)).trans (HC1.out o)
  have HC2':Hid (∀ o,w1.cell? ⟨w.heap.size+1,o,none⟩=(gsaC a f B n d b0 n0 b1 n1 b2 n2)[o]?):=fun o=>((bcell hb1).1 _ o (by omega)).trans (HC2.out o)
  have HB1:=Lib.hid (bthen HB.out hb1)
  clear hz hb1 HC1 HC2 HB HV HZ
  have x3:=HC1'.out 3
  have y3:=HC2'.out 3
  have x4:=HC1'.out 4
  have y4:=HC2'.out 4
  have x5:=HC1'.out 5
  have y5:=HC2'.out 5
  have x6:=HC1'.out 6
  have y6:=HC2'.out 6
  have x7:=HC1'.out 7
  have y7:=HC2'.out 7
  have x8:=HC1'.out 8
  have y8:=HC2'.out 8
  go_wp2_with fail
  go_ret
  exact⟨by first | rfl | simp,HB1.out⟩
theorem gsaTake_any (A:Option Addr) (R:List ByteArray) (c:Nat) (w:World) (hA:A=none→c=0) (hs:Strs w w.heap.size A R) (hz:∀ t∈R,t.size≤1000000):Calls Tryz.prog 45 #[.slice A R.length c] w (GsaPost (takeGsa R) w):=by
  by_cases h:R.length=17
  · exact gsaTake_ok A R.length c R w rfl hA hs hz h
  · have:takeGsa R=(zeroS,3):=by unfold takeGsa;rw [if_pos h]
    rw [this]
    exact gsaTake_bad A R.length c w (by rw [bne_iff_ne];omega)
theorem takeGsa_len (R:List ByteArray):(takeGsa R).1.ids.length≤12:=by
  unfold takeGsa
  split
  · exact Nat.zero_le _
  · split
    · exact rdIds_len 12 _
    · exact Nat.zero_le _
theorem putGsa_small (m:GsaD):Small (putGsa m).1:=by
  unfold putGsa
  split
  · exact Small.nil
  · have hd:∀ lo hi n s,Small s.2→Small (wrDig lo hi n s).2:=fun lo hi n s h=>by
      unfold wrDig
      split
      · exact wrText_small h (by decide)
      · exact wrText_small h (by rw [digT_size];omega)
    have hi:∀ (l:List (Bool×Int)) s,Small s.2→Small (wrIds l s).2:=fun l=>by
      induction l with
      | nil=>intro s h;exact h
      | cons n l ih=>intro s h;exact ih _ (wrNum_small h)
    exact wrDone_small (wrNum_small (wrNum_small (wrNum_small (hi _ _ (hd _ _ _ _ (wrText_small Small.nil (by unfold modeT;split <;> decide)))))))
end Go.Proofs.YtoabkoniegmkaaaGreat
