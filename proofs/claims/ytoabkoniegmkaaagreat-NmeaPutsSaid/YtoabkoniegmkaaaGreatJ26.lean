/- Layer 27: Same, knows; the law GsaTakes, walked. Printed by gengsas.py. -/
import Derived.Test.YtoabkoniegmkaaaGreatJ21
import Derived.Test.YtoabkoniegmkaaaGreatJ25
import Derived.Test.YtoabkoniegmkaaaGreatJ27
import Derived.Test.YtoabkoniegmkaaaGreatJ30
namespace Go.Proofs.YtoabkoniegmkaaaGreat
set_option linter.unusedVariables false
open Go.RowKit
set_option maxRecDepth 8000 in
set_option maxHeartbeats 4000000 in
theorem r03Same_same (A B:Option Addr) (n c d:Nat) (L:List Int) (w:World) (hn:Hid (L.length=n)) (hA:Hid (Ints w w.heap.size A L)) (hB:Hid (Ints w w.heap.size B L)) (h0:n≤1000000) :
    Calls Tryz.prog 77 #[.slice A n c,.slice B n d] w fun e w'=>e=.returned (.bool true)∧Below w.heap.size w w':=by
  have hb:((n:Int) != (n:Int))=false:=by rw [bne_eq_false_iff_eq]
  go_enter Tryz.func77,Tryz.ntmps77
  go_wp2
  go_loopw [5] (fun i wr=>∃ k nq:Nat,k≤n∧i=.int .i64 k∧wr=w.drewN nq) (fun i _=>n - (intOf i).toNat)
  case atStart=>exact⟨0,0,Nat.zero_le _,rfl,rfl⟩
  case round=>
    obtain⟨k,nq,hk,rfl,rfl⟩:=hrel
    by_cases hlt:k < n
    · have hkl:k < L.length:=by rw [hn.out];exact hlt
      obtain⟨b1,o1,hA1,hb1,hc1⟩:=hA.out k hkl
      obtain⟨b2,o2,hA2,hb2,hc2⟩:=hB.out k hkl
      subst hA1 hA2
      generalize L[k]=v at *
      have hv:(v != v)=false:=by rw [bne_eq_false_iff_eq]
      have i1:(0:Int)≤(k:Int):=Int.natCast_nonneg _
      have i2:(k:Int) < (n:Int):=by omega
      clear hkl
      go_wp2_with fail
      go_quiet (fail)
      go_wp2_with fail
      go_roundw
      case rel=>exact⟨k+1,_,by omega,by go_num,rfl⟩
      case measure=>simp [intOf];omega
    · go_wp2_with fail
      go_ret
      exact⟨by rfl,bdrewN (Below.refl _ _) _⟩
set_option maxRecDepth 8000 in
set_option maxHeartbeats 4000000 in
theorem r27Same_same (a:Bool) (f:Int) (b0:Bool) (n0:Int) (b1:Bool) (n1:Int) (b2:Bool) (n2:Int) (A B:Option Addr) (n c d:Nat) (L:List Int) (w:World) (hn:Hid (L.length=n)) (hA:Hid (Ints w w.heap.size A L)) (hB:Hid (Ints w w.heap.size B L)) (h0:n≤1000000) :
    Calls Tryz.prog 32 #[gsaV a f A n c b0 n0 b1 n1 b2 n2,gsaV a f B n d b0 n0 b1 n1 b2 n2] w fun e w'=>e=.returned (.bool true)∧Below w.heap.size w w':=by
  have hbb:Below w.heap.size w ((w.alloc (.cells (gsaC a f A n c b0 n0 b1 n1 b2 n2) 39)).alloc (.cells (gsaC a f B n d b0 n0 b1 n1 b2 n2) 39)):=bthen (below_new _ _) (below_new _ _)
  have HV:Hid (Calls Tryz.prog 77 #[.slice A n c,.slice B n d] ((w.alloc (.cells (gsaC a f A n c b0 n0 b1 n1 b2 n2) 39)).alloc (.cells (gsaC a f B n d b0 n0 b1 n1 b2 n2) 39)) fun e w'=>e=.returned (.bool true)∧Below ((w.alloc (.cells (gsaC a f A n c b0 n0 b1 n1 b2 n2) 39)).alloc (.cells (gsaC a f B n d b0 n0 b1 n1 b2 n2) 39)).heap.size ((w.alloc (.cells (gsaC a f A n c b0 n0 b1 n1 b2 n2) 39)).alloc (.cells (gsaC a f B n d b0 n0 b1 n1 b2 n2) 39)) w'):=
    r03Same_same A B n c d L _ hn ((hA.out.below hbb (Nat.le_refl _)).more hbb.size) ((hB.out.below hbb (Nat.le_refl _)).more hbb.size) h0
  have HB:=Lib.hid hbb
  have HC1:Hid (∀ o,((w.alloc (.cells (gsaC a f A n c b0 n0 b1 n1 b2 n2) 39)).alloc (.cells (gsaC a f B n d b0 n0 b1 n1 b2 n2) 39)).cell? ⟨w.heap.size,o,none⟩=(gsaC a f A n c b0 n0 b1 n1 b2 n2)[o]?):=fun o=>(World.cell?_alloc_past _ _ _ (by simp)).trans (World.cell?_alloc_at _ _ _ _ rfl)
  have HC2:Hid (∀ o,((w.alloc (.cells (gsaC a f A n c b0 n0 b1 n1 b2 n2) 39)).alloc (.cells (gsaC a f B n d b0 n0 b1 n1 b2 n2) 39)).cell? ⟨w.heap.size+1,o,none⟩=(gsaC a f B n d b0 n0 b1 n1 b2 n2)[o]?):=fun o=>World.cell?_alloc_at _ _ _ _ (by simp)
  have HZ:Hid (((w.alloc (.cells (gsaC a f A n c b0 n0 b1 n1 b2 n2) 39)).alloc (.cells (gsaC a f B n d b0 n0 b1 n1 b2 n2) 39)).heap.size=w.heap.size+2):=by show _=_;simp
  have hv:(f==f)=true:=by simp
  have hv0:(n0==n0)=true:=by simp
  have hv1:(n1==n1)=true:=by simp
  have hv2:(n2==n2)=true:=by simp
  clear hA hB hbb
  go_enter Tryz.func32,Tryz.ntmps32
  go_wp2_with fail
  refine HV.out.mono ?_
  rintro r w1 ⟨rfl,hb1⟩
  have hz:=HZ.out
  have HC1':Hid (∀ o,w1.cell? ⟨w.heap.size,o,none⟩=(gsaC a f A n c b0 n0 b1 n1 b2 n2)[o]?):=fun o=>((bcell hb1).1 _ o (by omega)).trans (HC1.out o)
  have HC2':Hid (∀ o,w1.cell? ⟨w.heap.size+1,o,none⟩=(gsaC a f B n d b0 n0 b1 n1 b2 n2)[o]?):=fun o=>((bcell hb1).1 _ o (by omega)).trans (HC2.out o)
  have HB1:=Lib.hid (bthen HB.out hb1)
  clear hz hb1 HC1 HC2 HB HV HZ
  have x3:=HC1'.out 3
  have y3:=HC2'.out 3
  have x4:=HC1'.out 4
  have y4:=HC2'.out 4
  have x5:=HC1'.out 5
  have y5:=HC2'.out 5
  have x6:=HC1'.out 6
  have y6:=HC2'.out 6
  have x7:=HC1'.out 7
  have y7:=HC2'.out 7
  have x8:=HC1'.out 8
  have y8:=HC2'.out 8
  go_wp2_with fail
  go_ret
  exact⟨by first | rfl | simp,HB1.out⟩
theorem gsaTake_any (A:Option Addr) (R:List ByteArray) (c:Nat) (w:World) (hA:A=none→c=0) (hs:Strs w w.heap.size A R) (hz:∀ t∈R,t.size≤1000000):Calls Tryz.prog 45 #[.slice A R.length c] w (GsaPost (takeGsa R) w):=by
  by_cases h:R.length=17
  · exact gsaTake_ok A R.length c R w rfl hA hs hz h
  · have:takeGsa R=(zeroS,3):=by unfold takeGsa;rw [if_pos h]
    rw [this]
    exact gsaTake_bad A R.length c w (by rw [bne_iff_ne];omega)
theorem takeGsa_len (R:List ByteArray):(takeGsa R).1.ids.length≤12:=by
  unfold takeGsa
  split
  · exact Nat.zero_le _
  · split
    · exact rdIds_len 12 _
    · exact Nat.zero_le _
section
variable {P : Program} {ops : Array Oper} {rest : List Oper} {o : Oper} {a : Act} {w : World} {Q : Exit → Act → World → Prop}
end
theorem eqlGga (x:GgaT) (w:World):(binOp .eql 32 (.agg (gL x).toArray) (.agg (gL x).toArray)).run Tryz.prog w=.ok (.bool true) w:=by
  unfold gL
  simp [go_sem]
theorem eqlRmc (x:RmcT) (w:World):(binOp .eql 36 (.agg (rL x).toArray) (.agg (rL x).toArray)).run Tryz.prog w=.ok (.bool true) w:=by
  unfold rL
  simp [go_sem]
theorem eqlVtg (x:V4) (w:World):(binOp .eql 41 (.agg (viewC x).toArray) (.agg (viewC x).toArray)).run Tryz.prog w=.ok (.bool true) w:=by
  unfold viewC
  simp [go_sem]
theorem Blk.nm {w:World} {b:Nat} {k:Int} {t:ByteArray} {G R S V U:List Value} (h:Blk w b (nmL k t G R S V U)) (hl:Lens G R S V U):NmAt w b k t G R S V U:=(nmAt_iff hl).1 h.rg
set_option maxRecDepth 8000 in
set_option maxHeartbeats 8000000 in
theorem r30Same_go {m:NmD} {A B A' B':Option Addr} {n c c' p d d':Nat} {w:World}
    (HS:∀ W,Below w.heap.size w W→Hid (Calls Tryz.prog 32 #[.agg (sL m.s (.slice A n c)).toArray,.agg (sL m.s (.slice A' n c')).toArray] W fun e w'=>e=.returned (.bool true)∧Below W.heap.size W w'))
    (HV:∀ W,Below w.heap.size w W→Hid (Calls Tryz.prog 33 #[.agg (uL m.u (.slice B p d)).toArray,.agg (uL m.u (.slice B' p d')).toArray] W fun e w'=>e=.returned (.bool true)∧Below W.heap.size W w')) :
    Calls Tryz.prog 13 #[.agg (nmC m (.slice A n c) (.slice B p d)).toArray,.agg (nmC m (.slice A' n c') (.slice B' p d')).toArray] w fun e w'=>e=.returned (.bool true)∧Below w.heap.size w w':=by
  have EG:∀ W:World,(binOp .eql 32 (.agg (gL m.g).toArray) (.agg (gL m.g).toArray)).run Tryz.prog W=.ok (.bool true) W:=fun W=>eqlGga m.g W
  have ER:∀ W:World,(binOp .eql 36 (.agg (rL m.r).toArray) (.agg (rL m.r).toArray)).run Tryz.prog W=.ok (.bool true) W:=fun W=>eqlRmc m.r W
  have EV:∀ W:World,(binOp .eql 41 (.agg (viewC m.v).toArray) (.agg (viewC m.v).toArray)).run Tryz.prog W=.ok (.bool true) W:=fun W=>eqlVtg m.v W
  go_enter Tryz.func13,Tryz.ntmps13
  go_upto_region 1 with (first
    | (refine wpList_box_new rfl _ _ rfl (nmC m (.slice A n c) (.slice B p d)).toArray rfl ?_;intro W1 hW1;have H1:Hid (Blk W1 w.heap.size (nmC m (.slice A n c) (.slice B p d))):=Blk.new hW1;have HB1:=Lib.hid hW1.bel;clear hW1)
    | (refine wpList_box_new rfl _ _ rfl (nmC m (.slice A' n c') (.slice B' p d')).toArray rfl ?_;intro W2 hW2;have H2:Hid (Blk W2 W1.heap.size (nmC m (.slice A' n c') (.slice B' p d'))):=Blk.new hW2;have H12:=Lib.hid (H1.out.grew hW2);have HB2:=Lib.hid (bthen HB1.out hW2.bel);clear hW2 H1 HB1))
  have a0:=H12.out.cell 0 rfl
  have a1:=H12.out.cell 1 rfl
  have c0:=H2.out.cell 0 rfl
  have c1:=H2.out.cell 1 rfl
  try (apply wp_seq_k;intro K_ HK_)
  apply wp_region_lit
  repeat (fail_if_success (show Oper.wp _ ⟨some 19, _, _, _, _, _⟩ _ _ _ _)
          first | go_values | go_skip | go_guarded | go_step | go_upon)
  refine wp_load_mid _ _ rfl w.heap.size 2 rfl (gL m.g) _ (H12.out.nm (nmLens m _ _)).g Tryz.underlying32 rfl onGga_size ?_
  repeat (fail_if_success (show Oper.wp _ ⟨some 21, _, _, _, _, _⟩ _ _ _ _)
          first | go_values | go_skip | go_guarded | go_step | go_upon)
  refine wp_load_mid _ _ rfl W1.heap.size 2 rfl (gL m.g) _ (H2.out.nm (nmLens m _ _)).g Tryz.underlying32 rfl onGga_size ?_
  repeat (fail_if_success (show Oper.wp _ ⟨some 26, _, _, _, _, _⟩ _ _ _ _)
          first | go_values | go_skip | go_guarded | go_step | go_upon)
  refine wp_load_mid _ _ rfl w.heap.size 24 rfl (rL m.r) _ (H12.out.nm (nmLens m _ _)).r Tryz.underlying36 rfl onRmc_size ?_
  repeat (fail_if_success (show Oper.wp _ ⟨some 28, _, _, _, _, _⟩ _ _ _ _)
          first | go_values | go_skip | go_guarded | go_step | go_upon)
  refine wp_load_mid _ _ rfl W1.heap.size 24 rfl (rL m.r) _ (H2.out.nm (nmLens m _ _)).r Tryz.underlying36 rfl onRmc_size ?_
  clear a0 a1 c0 c1
  repeat (fail_if_success (show Oper.wp _ ⟨some 33, _, _, _, _, _⟩ _ _ _ _)
          first | go_values | go_skip | go_guarded | go_step | go_upon)
  refine wp_load_mid _ _ rfl w.heap.size 44 rfl (sL m.s (.slice A n c)) _ (H12.out.nm (nmLens m _ _)).s Tryz.underlying39 rfl onGsa_size ?_
  repeat (fail_if_success (show Oper.wp _ ⟨some 35, _, _, _, _, _⟩ _ _ _ _)
          first | go_values | go_skip | go_guarded | go_step | go_upon)
  refine wp_load_mid _ _ rfl W1.heap.size 44 rfl (sL m.s (.slice A' n c')) _ (H2.out.nm (nmLens m _ _)).s Tryz.underlying39 rfl onGsa_size ?_
  repeat (fail_if_success (show Calls _ _ _ _ _)
          first | go_values | go_skip | go_guarded | go_step | go_upon)
  refine (HS _ HB2.out).out.mono ?_
  rintro e W3 ⟨rfl,hb⟩
  have H13:=Lib.hid (H12.out.on hb)
  have H3:=Lib.hid (H2.out.on hb)
  have HB3:=Lib.hid (bthen HB2.out hb)
  clear hb H12 H2 HB2 HS
  dsimp only
  repeat (fail_if_success (show Oper.wp _ ⟨some 40, _, _, _, _, _⟩ _ _ _ _)
          first | go_values | go_skip | go_guarded | go_step | go_upon)
  refine wp_load_mid _ _ rfl w.heap.size 53 rfl (viewC m.v) _ (H13.out.nm (nmLens m _ _)).v Tryz.underlying41 rfl onVtg_size ?_
  repeat (fail_if_success (show Oper.wp _ ⟨some 42, _, _, _, _, _⟩ _ _ _ _)
          first | go_values | go_skip | go_guarded | go_step | go_upon)
  refine wp_load_mid _ _ rfl W1.heap.size 53 rfl (viewC m.v) _ (H3.out.nm (nmLens m _ _)).v Tryz.underlying41 rfl onVtg_size ?_
  repeat (fail_if_success (show Oper.wp _ ⟨some 47, _, _, _, _, _⟩ _ _ _ _)
          first | go_values | go_skip | go_guarded | go_step | go_upon)
  refine wp_load_mid _ _ rfl w.heap.size 61 rfl (uL m.u (.slice B p d)) _ (H13.out.nm (nmLens m _ _)).u Tryz.underlying44 rfl onGsv_size ?_
  repeat (fail_if_success (show Oper.wp _ ⟨some 49, _, _, _, _, _⟩ _ _ _ _)
          first | go_values | go_skip | go_guarded | go_step | go_upon)
  refine wp_load_mid _ _ rfl W1.heap.size 61 rfl (uL m.u (.slice B' p d')) _ (H3.out.nm (nmLens m _ _)).u Tryz.underlying44 rfl onGsv_size ?_
  repeat (fail_if_success (show Calls _ _ _ _ _)
          first | go_values | go_skip | go_guarded | go_step | go_upon)
  refine (HV _ HB3.out).out.mono ?_
  rintro e W4 ⟨rfl,hb⟩
  have HB4:=Lib.hid (bthen HB3.out hb)
  clear hb H13 H3 HB3 HV
  go_wp2_with fail
  go_ret
  exact⟨rfl,HB4.out⟩
theorem putGsa_small (m:GsaD):Small (putGsa m).1:=by
  unfold putGsa
  split
  · exact Small.nil
  · have hd:∀ lo hi n s,Small s.2→Small (wrDig lo hi n s).2:=fun lo hi n s h=>by
      unfold wrDig
      split
      · exact wrText_small h (by decide)
      · exact wrText_small h (by rw [digT_size];omega)
    have hi:∀ (l:List (Bool×Int)) s,Small s.2→Small (wrIds l s).2:=fun l=>by
      induction l with
      | nil=>intro s h;exact h
      | cons n l ih=>intro s h;exact ih _ (wrNum_small h)
    exact wrDone_small (wrNum_small (wrNum_small (wrNum_small (hi _ _ (hd _ _ _ _ (wrText_small Small.nil (by unfold modeT;split <;> decide)))))))
end Go.Proofs.YtoabkoniegmkaaaGreat
