/- Layer 30, plain: what is encoded is decoded. -/
import Derived.Test.YtoabkoniegmkaaaGreatJ25
import Derived.Test.YtoabkoniegmkaaaGreatJ44
import Derived.Test.YtoabkoniegmkaaaGreatJ43
namespace Go.Proofs.YtoabkoniegmkaaaGreat
set_option linter.unusedVariables false
open Go.RowKit
theorem put_take30 {m:NmD} (hk:1≤m.k∧m.k≤5) (h:(putF30 m).2=0):take30 m.t (word30 m.k) (putF30 m).1=(only30 m.t m,0):=by
  have hc:m.k=1∨m.k=2∨m.k=3∨m.k=4∨m.k=5:=by omega
  rcases hc with k | k | k | k | k
  · have hF:putF30 m=putGga m.g:=by unfold putF30;rw [if_pos k]
    rw [hF] at h ⊢
    obtain⟨h4,-⟩:=gga_put_take h
    obtain⟨e1,e2⟩:=only_1 (t:=m.t) k
    rw [e1,e2]
    unfold take30
    rw [rd30_1,h4]
    rfl
  · have hF:putF30 m=putRmc m.r:=by unfold putF30;rw [if_neg (by omega),if_pos k]
    rw [hF] at h ⊢
    obtain⟨h4,-⟩:=rmc_put_take h
    obtain⟨e1,e2⟩:=only_2 (t:=m.t) k
    rw [e1,e2]
    unfold take30
    rw [rd30_2,h4]
    rfl
  · have hF:putF30 m=putGsa m.s:=by unfold putF30;rw [if_neg (by omega),if_neg (by omega),if_pos k]
    rw [hF] at h ⊢
    obtain⟨h4,-⟩:=gsa_put_take h
    obtain⟨e1,e2⟩:=only_3 (t:=m.t) k
    rw [e1,e2]
    unfold take30
    rw [rd30_3,h4]
    rfl
  · have hF:putF30 m=putVtg [m.v.1,m.v.2.1,m.v.2.2.1,m.v.2.2.2]:=by unfold putF30;rw [if_neg (by omega),if_neg (by omega),if_neg (by omega),if_pos k]
    rw [hF] at h ⊢
    obtain⟨h4,-⟩:=vtg_put_take rfl h
    obtain⟨e1,e2⟩:=only_4 (t:=m.t) k
    rw [e1,e2]
    unfold take30
    rw [rd30_4,h4]
    rfl
  · have hF:putF30 m=putGsv m.u:=by unfold putF30;rw [if_neg (by omega),if_neg (by omega),if_neg (by omega),if_neg (by omega)]
    rw [hF] at h ⊢
    obtain⟨h4,-⟩:=gsv_put_take h
    obtain⟨e1,e2⟩:=only_5 (t:=m.t) k
    rw [e1,e2]
    unfold take30
    rw [rd30_5,h4]
    rfl
theorem back30 {m:NmD} (M:ByteArray) (h:(enc30 m).2=0):(enc30 m).1.size≤82∧dec30 ((enc30 m).1++M)=(plain30 m,(enc30 m).1.size,0):=by
  unfold enc30 at h ⊢
  split at h
  · next k=>
    rw [if_pos k]
    obtain⟨hk,h0,e⟩:=put30_zero k
    rw [e] at h ⊢
    obtain⟨h1,h2⟩:=take_put22 (M:=M) h
    refine⟨h1,?_⟩
    unfold dec30
    rw [h2]
    simp only
    rw [if_pos trivial,put_take30 hk h0,plain30_only hk]
  · next k=>exact absurd h k
theorem enc30_err {m:NmD} (h:(enc30 m).2≠0):(enc30 m).1=ByteArray.empty:=by
  unfold enc30 at h ⊢
  split at h
  · next k=>
    rw [if_pos k]
    unfold putS at h ⊢
    split at h
    · next q=>rw [if_pos q]
    · next q=>
      rw [if_neg q]
      split at h
      · next r=>rw [if_pos r]
      · next r=>exact absurd rfl h
  · next k=>rw [if_neg k]
set_option maxRecDepth 8000 in
set_option maxHeartbeats 2000000 in
theorem nmeaBack_few {C:Array Value} {m:NmD} {X:ByteArray} {w:World} (hC:Hid (NmV 0 w C m)) (hg:Hid (m.t.size≤maxLen∧m.s.ids.length≤maxLen∧m.u.L.length≤maxLen)) (hf:few30 m=false) :
    Calls Tryz.prog 6 #[.agg C,.string X] w fun e w'=>e=.returned (.bool true)∧Below w.heap.size w w':=by
  have HK:=fun W=>Lib.hid (knows30_any W)
  have HF:∀ W,NmV 0 W C m→Hid (Calls Tryz.prog 16 #[.agg C] W fun e w'=>e=.returned (.bool false)∧Below W.heap.size W w'):=fun W h=>Lib.hid (by rw [← hf];exact r30Few_any h hg.out.1 hg.out.2.1 hg.out.2.2)
  clear hf
  go_enter Tryz.func6,Tryz.ntmps6
  go_wp2_with (first
    | (refine wpList_box_new rfl _ _ rfl C rfl ?_;intro W1 hW1;have HM1:=Lib.hid (Blk.newL (L:=C.toList) hW1 rfl);have HC1:=Lib.hid (hC.out.on hW1.bel);have HB1:=Lib.hid hW1.bel;clear hW1)
    | refine wpList_load_mid rfl 46 _ rfl w.heap.size 0 rfl C.toList _ HM1.out.rg Tryz.underlying46 rfl (by rw [Array.length_toList];exact nm_sizeC hC.out) ?_)
  refine (HF _ HC1.out).out.mono ?_
  rintro e w1 ⟨rfl,hb⟩
  have HB2:=Lib.hid (bthen HB1.out hb)
  clear hb HB1 HM1 HC1 HF
  go_wp2_with fail
  refine (HK _).out.mono ?_
  rintro e w2 ⟨rfl,hb⟩
  have HB3:=Lib.hid (bthen HB2.out hb)
  clear hb HB2 HK
  go_wp2_with fail
  go_ret
  exact⟨rfl,HB3.out⟩
set_option maxRecDepth 8000 in
set_option maxHeartbeats 2000000 in
theorem nmeaBack_big {C:Array Value} {m:NmD} {X:ByteArray} {w:World} (hC:Hid (NmV 0 w C m)) (hg:Hid (m.t.size≤maxLen∧m.s.ids.length≤maxLen∧m.u.L.length≤maxLen)) (hf:few30 m=true) (hX:X.size≤maxLen) (h:500 < (X.size:Int)) :
    Calls Tryz.prog 6 #[.agg C,.string X] w fun e w'=>e=.returned (.bool true)∧Below w.heap.size w w':=by
  unfold maxLen at hX
  have HK:=fun W=>Lib.hid (knows30_any W)
  have HF:∀ W,NmV 0 W C m→Hid (Calls Tryz.prog 16 #[.agg C] W fun e w'=>e=.returned (.bool true)∧Below W.heap.size W w'):=fun W h=>Lib.hid (by rw [← hf];exact r30Few_any h hg.out.1 hg.out.2.1 hg.out.2.2)
  clear hf
  go_enter Tryz.func6,Tryz.ntmps6
  go_wp2_with (first
    | (refine wpList_box_new rfl _ _ rfl C rfl ?_;intro W1 hW1;have HM1:=Lib.hid (Blk.newL (L:=C.toList) hW1 rfl);have HC1:=Lib.hid (hC.out.on hW1.bel);have HB1:=Lib.hid hW1.bel;clear hW1)
    | refine wpList_load_mid rfl 46 _ rfl w.heap.size 0 rfl C.toList _ HM1.out.rg Tryz.underlying46 rfl (by rw [Array.length_toList];exact nm_sizeC hC.out) ?_)
  refine (HF _ HC1.out).out.mono ?_
  rintro e w1 ⟨rfl,hb⟩
  have HB2:=Lib.hid (bthen HB1.out hb)
  clear hb HB1 HM1 HC1 HF
  go_wp2_with fail
  refine (HK _).out.mono ?_
  rintro e w2 ⟨rfl,hb⟩
  have HB3:=Lib.hid (bthen HB2.out hb)
  clear hb HB2 HK
  go_wp2_with fail
  go_ret
  exact⟨rfl,HB3.out⟩
set_option maxRecDepth 8000 in
set_option maxHeartbeats 8000000 in
theorem nmeaBack_go {C:Array Value} {m M:NmD} {X U:ByteArray} {E:Int} {w:World} (hC:Hid (NmV 0 w C m)) (hg:Hid (m.t.size≤maxLen∧m.s.ids.length≤maxLen∧m.u.L.length≤maxLen)) (hf:few30 m=true) (hX:(X.size:Int)≤500)
    (H1:∀ W,NmV 0 W C m→Hid (Calls Tryz.prog 15 #[.agg C] W (EncOut (U,E) W))) (HE:Hid (E≠0→U=ByteArray.empty)) (HU:Hid (E=0→(U.size:Int)≤82))
    (H2:Hid (E=0→∀ W,Calls Tryz.prog 11 #[.string (U++X)] W (DecOut (M,U.size,0) W)))
    (H3:∀ W,NmV 0 W C m→Hid (Calls Tryz.prog 21 #[.agg C] W fun e w'=>∃ D,e=.returned (.agg D)∧NmV W.heap.size w' D M∧Below W.heap.size W w')) (hm:Hid (M.s.ids.length≤1000000∧M.u.L.length≤1000000)) :
    Calls Tryz.prog 6 #[.agg C,.string X] w fun e w'=>e=.returned (.bool true)∧Below w.heap.size w w':=by
  have HK:=fun W=>Lib.hid (knows30_any W)
  have HF:∀ W,NmV 0 W C m→Hid (Calls Tryz.prog 16 #[.agg C] W fun e w'=>e=.returned (.bool true)∧Below W.heap.size W w'):=fun W h=>Lib.hid (by rw [← hf];exact r30Few_any h hg.out.1 hg.out.2.1 hg.out.2.2)
  clear hf
  go_enter Tryz.func6,Tryz.ntmps6
  go_wp2_with (first
    | (refine wpList_box_new rfl _ _ rfl C rfl ?_;intro W1 hW1;have HM1:=Lib.hid (Blk.newL (L:=C.toList) hW1 rfl);have HC1:=Lib.hid (hC.out.on hW1.bel);have HB1:=Lib.hid hW1.bel;clear hW1)
    | refine wpList_load_mid rfl 46 _ rfl w.heap.size 0 rfl C.toList _ HM1.out.rg Tryz.underlying46 rfl (by rw [Array.length_toList];exact nm_sizeC hC.out) ?_)
  refine (HF _ HC1.out).out.mono ?_
  rintro e w1 ⟨rfl,hb⟩
  have HB2:=Lib.hid (bthen HB1.out hb)
  have HM2:=Lib.hid (HM1.out.on hb)
  have HC2:=Lib.hid (HC1.out.on hb)
  clear hb HB1 HM1 HC1 HF
  go_wp2_with fail
  refine (HK _).out.mono ?_
  rintro e w2 ⟨rfl,hb⟩
  have HB3:=Lib.hid (bthen HB2.out hb)
  have HM3:=Lib.hid (HM2.out.on hb)
  have HC3:=Lib.hid (HC2.out.on hb)
  clear hb HB2 HK HM2 HC2
  go_wp2_with (refine wpList_load_mid rfl 46 _ rfl w.heap.size 0 rfl C.toList _ HM3.out.rg Tryz.underlying46 rfl (by rw [Array.length_toList];exact nm_sizeC hC.out) ?_)
  refine (H1 _ HC3.out).out.mono ?_
  rintro e w3 ⟨rfl,hb⟩
  have HB4:=Lib.hid (bthen HB3.out hb)
  have HM4:=Lib.hid (HM3.out.on hb)
  have HC4:=Lib.hid (HC3.out.on hb)
  clear hb HB3 HM3 HC3 H1
  dsimp only
  go_wp2_with fail
  refine (num30_any _ _).mono ?_
  rintro e W' ⟨rfl,rfl⟩
  by_cases h0:E=0
  · subst h0
    have HD2:=Lib.hid (H2.out rfl)
    have HN:=HU.out rfl
    clear H2 HU HE
    go_wp2_with fail
    refine (HD2.out _).mono ?_
    rintro e w4 ⟨D1,rfl,hd,hb⟩
    have HD1:=Lib.hid hd
    have HB5:=Lib.hid (bthen HB4.out hb)
    have HM5:=Lib.hid (HM4.out.on hb)
    have HC5:=Lib.hid (HC4.out.on hb)
    clear hd hb HB4 HM4 HC4 HD2
    dsimp only
    go_upto_region 7 with (first
      | (refine wpList_alloc_new rfl 46 rfl zNm (zero_Nm _) ?_;intro Wa1 hWa;have HA1:=Lib.hid (Blk.newL (L:=nmL 0 ByteArray.empty zGga zRmc zGsa zVtg zGsv) hWa rfl);have HLa1:=Lib.hid hWa.bel;clear hWa)
      | (refine wpList_store_in rfl 46 _ _ rfl w4.heap.size 0 D1 rfl rfl (nm_thereC HA1.out zLens HD1.out) (nm_sizeC HD1.out) HD1.out.ones ?_;intro Ws1 hWs;have HX1:Hid (Blk Ws1 w4.heap.size D1.toList):=HA1.out.all hWs (nm_lenC HD1.out);have HL1:=Lib.hid (HLa1.out.trans (hWs.below (Nat.le_refl _)));clear hWs HA1 HLa1))
    try go_frame
    have HB6:=Lib.hid (bthen HB5.out HL1.out)
    have HM6:=Lib.hid (HM5.out.on HL1.out)
    have HC6:=Lib.hid (HC5.out.on HL1.out)
    have HD3:=Lib.hid (HD1.out.on HL1.out)
    clear HB5 HM5 HC5 HD1 HL1
    try (apply wp_seq_k;intro K_ HK_)
    have i0:((U.size:Int)==(U.size:Int))=true:=beq_self_eq_true _
    have i1:decide ((U.size:Int)≤82)=true:=decide_eq_true HN
    have hS0:Below Ws1.heap.size Ws1 Ws1.drew:=(Below.refl _ _).drew
    refine wp_region_held_drew (S:=fun w'=>Below Ws1.heap.size Ws1 w') (by kernel_rfl) hS0 (fun hHeld0=>?_)
    refine wpAnyH_take (i:=0) (oi:=⟨some 41,_,_,_,_,_⟩) (v:=?_) rfl (by kernel_rfl) (by kernel_rfl) (by kernel_rfl) (fun _ _ _ h=>h) (Or.inl ⟨by rfl,?_⟩) (by assumption) ?_
    rotate_left
    · intro w' hSw
      go_simp
      try with_reducible rfl
    try go_frame
    refine wpAnyH_ready (rs:=[1]) (by kernel_rfl) (by simp) ?_
    refine AllReadyH.cons (o:=⟨some 42,_,_,_,_,_⟩) rfl (fun K hK=>?_) AllReadyH.nil
    rw [if_pos (by rfl)]
    go_step
    refine (num30_any _ _).mono ?_
    rintro e W' ⟨rfl,rfl⟩
    try go_frame
    refine hK.out _ _ (hHeld0) (fun hHeld=>?_)
    clear hK K
    try go_frame
    refine wpAnyH_take (i:=2) (oi:=⟨some 43,_,_,_,_,_⟩) (v:=?_) rfl (by kernel_rfl) (by kernel_rfl) (by kernel_rfl) (fun _ _ _ h=>h) (Or.inl ⟨by rfl,?_⟩) (by assumption) ?_
    rotate_left
    · intro w' hSw
      go_simp
      try with_reducible rfl
    try go_frame
    refine wpAnyH_take (i:=3) (oi:=⟨some 44,_,_,_,_,_⟩) (v:=?_) rfl (by kernel_rfl) (by kernel_rfl) (by kernel_rfl) (fun _ _ _ h=>h) (Or.inl ⟨by rfl,?_⟩) (by assumption) ?_
    rotate_left
    · intro w' hSw
      go_simp
      try with_reducible rfl
    try go_frame
    refine wpAnyH_take (i:=4) (oi:=⟨some 45,_,_,_,_,_⟩) (v:=?_) rfl (by kernel_rfl) (by kernel_rfl) (by kernel_rfl) (fun _ _ _ h=>h) (Or.inl ⟨by rfl,?_⟩) (by assumption) ?_
    rotate_left
    · intro w' hSw
      go_simp
      try with_reducible rfl
    try go_frame
    refine wpAnyH_take (i:=5) (oi:=⟨some 46,_,_,_,_,_⟩) (v:=?_) rfl (by kernel_rfl) (by kernel_rfl) (by kernel_rfl) (fun _ _ _ h=>h) (Or.inl ⟨by rfl,?_⟩) (by assumption) ?_
    rotate_left
    · intro w' hSw
      go_simp
      try with_reducible rfl
    try go_frame
    refine wpAnyH_take (i:=6) (oi:=⟨some 47,_,_,_,_,_⟩) (v:=?_) rfl (by kernel_rfl) (by kernel_rfl) (by kernel_rfl) (fun _ _ _ h=>h) (Or.inl ⟨by rfl,?_⟩) (by assumption) ?_
    rotate_left
    · intro w' hSw
      go_simp
      try with_reducible rfl
    try go_frame
    refine wpAnyH_take (i:=7) (oi:=⟨some 48,_,_,_,_,_⟩) (v:=?_) rfl (by kernel_rfl) (by kernel_rfl) (by kernel_rfl) (fun _ _ _ h=>h) (Or.inl ⟨by rfl,?_⟩) (by assumption) ?_
    rotate_left
    · intro w' hSw
      go_simp
      try with_reducible rfl
    try go_frame
    refine wpAnyH_take (i:=8) (oi:=⟨some 49,_,_,_,_,_⟩) (v:=?_) rfl (by kernel_rfl) (by kernel_rfl) (by kernel_rfl) (fun _ _ _ h=>h) (Or.inl ⟨by rfl,?_⟩) (by assumption) ?_
    rotate_left
    · intro w' hSw
      go_simp
      try with_reducible rfl
    try go_frame
    refine wpAnyH_take (i:=9) (oi:=⟨some 50,_,_,_,_,_⟩) (v:=?_) rfl (by kernel_rfl) (by kernel_rfl) (by kernel_rfl) (fun _ _ _ h=>h) (Or.inl ⟨by rfl,?_⟩) (by assumption) ?_
    rotate_left
    · intro w' hSw
      go_simp
      try with_reducible rfl
    try go_frame
    refine wpAnyH_take (i:=10) (oi:=⟨some 51,_,_,_,_,_⟩) (v:=?_) rfl (by kernel_rfl) (by kernel_rfl) (by kernel_rfl) (fun _ _ _ h=>h) (Or.inl ⟨by rfl,?_⟩) (by assumption) ?_
    rotate_left
    · intro w' hSw
      go_simp
      try with_reducible rfl
    try go_frame
    refine wpAnyH_take (i:=11) (oi:=⟨some 52,_,_,_,_,_⟩) (v:=?_) rfl (by kernel_rfl) (by kernel_rfl) (by kernel_rfl) (fun _ _ _ h=>h) (Or.inl ⟨by rfl,?_⟩) (by assumption) ?_
    rotate_left
    · intro w' hSw
      go_simp
      try with_reducible rfl
    try go_frame
    refine wpAnyH_take (i:=12) (oi:=⟨some 53,_,_,_,_,_⟩) (v:=?_) rfl (by kernel_rfl) (by kernel_rfl) (by kernel_rfl) (fun _ _ _ h=>h) (Or.inl ⟨by rfl,?_⟩) (by assumption) ?_
    rotate_left
    · intro w' hSw
      go_simp
      try with_reducible rfl
    try go_frame
    refine wpAnyH_take (i:=13) (oi:=⟨some 54,_,_,_,_,_⟩) (v:=?_) rfl (by kernel_rfl) (by kernel_rfl) (by kernel_rfl) (fun _ _ _ h=>h) (Or.inl ⟨by rfl,?_⟩) (by assumption) ?_
    rotate_left
    · intro w' hSw
      go_simp
      try with_reducible rfl
    try go_frame
    refine wpAnyH_take (i:=14) (oi:=⟨some 55,_,_,_,_,_⟩) (v:=_) rfl (by kernel_rfl) (by kernel_rfl) (by kernel_rfl) (fun _ _ _ h=>h) (yieldsIf_load_mid (by rfl) 46 _ rfl w4.heap.size 0 rfl D1.toList _ (fun w' hSw=>(HX1.out.on hSw).rg) Tryz.underlying46 rfl (by rw [Array.length_toList];exact nm_sizeC HD3.out)) (by assumption) ?_
    try go_frame
    refine wpAnyH_take (i:=15) (oi:=⟨some 56,_,_,_,_,_⟩) (v:=_) rfl (by kernel_rfl) (by kernel_rfl) (by kernel_rfl) (fun _ _ _ h=>h) (yieldsIf_load_mid (by rfl) 46 _ rfl w.heap.size 0 rfl C.toList _ (fun w' hSw=>(HM6.out.on hSw).rg) Tryz.underlying46 rfl (by rw [Array.length_toList];exact nm_sizeC hC.out)) (by assumption) ?_
    try go_frame
    refine wpAnyH_ready (rs:=[16]) (by kernel_rfl) (by simp) ?_
    refine AllReadyH.cons (o:=⟨some 57,_,_,_,_,_⟩) rfl (fun K hK=>?_) AllReadyH.nil
    rw [if_pos (by rfl)]
    go_step
    refine (H3 _ (HC6.out.on hHeld0)).out.mono ?_
    rintro e w5 ⟨D2,rfl,hd,hb⟩
    have HD2:=Lib.hid hd
    have hb5:Below Ws1.heap.size Ws1 w5:=hHeld0.trans (hb.mono hHeld0.size)
    have HB7:=Lib.hid (bthen HB6.out hb5)
    have HD4:=Lib.hid (HD3.out.on hb5)
    clear hd hb
    try go_frame
    refine hK.out _ _ (hb5) (fun hHeld=>?_)
    clear hK K
    try go_frame
    refine wpAnyH_ready (rs:=[17]) (by kernel_rfl) (by simp) ?_
    refine AllReadyH.cons (o:=⟨some 58,_,_,_,_,_⟩) rfl (fun K hK=>?_) AllReadyH.nil
    rw [if_pos (by rfl)]
    go_step
    refine (r30Same_any HD4.out HD2.out hm.out.1 hm.out.2).mono ?_
    rintro e w8 ⟨rfl,hb⟩
    have hb8:Below Ws1.heap.size Ws1 w8:=hb5.trans (hb.mono hb5.size)
    have HB8:=Lib.hid (bthen HB6.out hb8)
    clear hb
    try go_frame
    refine hK.out _ _ (hb8) (fun hHeld=>?_)
    clear hK K
    try go_frame
    refine wpAnyH_take (i:=18) (oi:=⟨some 59,_,_,_,_,_⟩) (v:=?_) rfl (by kernel_rfl) (by kernel_rfl) (by kernel_rfl) (fun _ _ _ h=>h) (Or.inl ⟨by rfl,?_⟩) (by assumption) ?_
    rotate_left
    · intro w' hSw
      go_simp
      try with_reducible rfl
    try go_frame
    refine wpAnyH_take (i:=19) (oi:=⟨some 4,_,_,_,_,_⟩) (v:=?_) rfl (by kernel_rfl) (by kernel_rfl) (by kernel_rfl) (fun _ _ _ h=>h) (Or.inl ⟨by rfl,?_⟩) (by assumption) ?_
    rotate_left
    · intro w' hSw
      go_simp
      try with_reducible rfl
    try go_frame
    refine wpAnyH_done (by kernel_rfl) ?_ _
    try go_frame
    go_wp2_with fail
    go_ret
    exact⟨rfl,HB8.out⟩
  · have hne:(E != 0)=true:=by rw [bne_iff_ne];exact h0
    have HZ:=Lib.hid (HE.out h0)
    clear H2 HU HE
    go_wp2_with fail
    go_ret
    refine⟨?_,HB4.out⟩
    show Ending.returned (.bool U.toList.isEmpty)=.returned (.bool true)
    rw [isEmpty_text,HZ.out,decide_eq_true rfl]
theorem few30_of {m:NmD} (h:few30 m=true):m.t.size≤100∧m.s.ids.length≤20∧m.u.L.length≤20:=of_decide_eq_true h
theorem plain30_ids {m:NmD} (h1:m.s.ids.length≤1000000) (h2:m.u.L.length≤1000000):(plain30 m).s.ids.length≤1000000∧(plain30 m).u.L.length≤1000000:=by
  unfold plain30
  exact⟨(only30_ids h1 h2).1,(only30_ids h1 h2).2⟩
theorem nmeaBack_any (C:Array Value) (m:NmD) (X:ByteArray) (w:World) (hC:NmV 0 w C m) (g1:m.t.size≤maxLen) (g2:m.s.ids.length≤maxLen) (g3:m.u.L.length≤maxLen) (hX:X.size≤maxLen) :
    Calls Tryz.prog 6 #[.agg C,.string X] w fun e w'=>e=.returned (.bool true)∧Below w.heap.size w w':=by
  have HC:=Lib.hid hC
  have HG:Hid (m.t.size≤maxLen∧m.s.ids.length≤maxLen∧m.u.L.length≤maxLen):=⟨g1,g2,g3⟩
  cases hf:few30 m with
  | false=>exact nmeaBack_few HC HG hf
  | true=>
    obtain⟨f1,f2,f3⟩:=few30_of hf
    by_cases h:X.size≤500
    · refine nmeaBack_go (U:=(enc30 m).1) (E:=(enc30 m).2) (M:=plain30 m) HC HG hf (by omega) (fun W hW=>?_) (fun h0=>enc30_err h0) (fun h0=>?_) (fun h0 W=>?_) (fun W hW=>?_) (plain30_ids (by omega) (by omega))
      · exact nmEncode_any hW (by omega) (by omega) (by omega)
      · have:=(back30 (m:=m) X h0).1;omega
      · obtain⟨b1,b2⟩:=back30 (m:=m) X h0
        rw [← b2]
        exact nmDecode_any (by rw [ByteArray.size_append];omega)
      · exact nmPlain_any hW (by omega) (by omega)
    · exact nmeaBack_big HC HG hf hX (by omega)
end Go.Proofs.YtoabkoniegmkaaaGreat
