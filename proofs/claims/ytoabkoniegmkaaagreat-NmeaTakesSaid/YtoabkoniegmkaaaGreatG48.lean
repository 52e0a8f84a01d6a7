/- Layer 30: Encode over plain messages, knows. Printed by gennmc.py. -/
import Derived.Test.YtoabkoniegmkaaaGreatG47
namespace Go.Proofs.YtoabkoniegmkaaaGreat
set_option linter.unusedVariables false
open Go.RowKit
def exD:NmD:=⟨4,⟨#[71,80]⟩,zeroF,zeroM,zeroS,zV4,zeroG⟩
def exT:ByteArray:=⟨#[36,71,80,86,84,71,44,44,44,44,44,44,44,44,42,53,50,13,10]⟩
theorem ex_enc:enc30 exD=(exT,0):=by decide +kernel
theorem ex_dec:(dec30 exT).2=(19,0)∧(dec30 exT).1=exD:=by
  refine⟨by decide +kernel,?_⟩
  kernel_rfl
theorem ex_list:(exT.toList==[36,71,80,86,84,71,44,44,44,44,44,44,44,44,42,53,50,13,10])=true:=by
  rw [ByteArray.toList_eq]
  rfl
theorem build_ex (w:World):(Instr.build 46 #[(0,.int .i64 4),(1,.string ⟨#[71,80]⟩)]).run Tryz.prog w=.ok (.agg (nmL 4 ⟨#[71,80]⟩ zGga zRmc zGsa zVtg zGsv).toArray) w:=by kernel_rfl
theorem exV (lo:Nat) (w:World):NmV lo w (nmL 4 ⟨#[71,80]⟩ zGga zRmc zGsa zVtg zGsv).toArray exD:=⟨_,_,rfl,SlI.nil _ _,SlV.nil _ _⟩
theorem num30_any (E:Int) (w:World):Calls Tryz.prog 14 #[.int .i64 E] w fun e w'=>e=.returned (.int .i64 E)∧w=w':=by
  go_enter Tryz.func14,Tryz.ntmps14
  go_wp2
  go_ret
  exact⟨rfl,rfl⟩
set_option maxRecDepth 8000 in
set_option maxHeartbeats 4000000 in
theorem knows30_any (w:World):Calls Tryz.prog 8 #[] w fun e w'=>e=.returned (.bool true)∧Below w.heap.size w w':=by
  have HE:∀ W,Hid (Calls Tryz.prog 15 #[.agg (nmL 4 ⟨#[71,80]⟩ zGga zRmc zGsa zVtg zGsv).toArray] W (EncOut (exT,0) W)):=fun W=>by rw [← ex_enc];exact nmEncode_go (X:=put30 exD) (Y:=putS (put30 exD).1.1 (put30 exD).1.2.1 (put30 exD).1.2.2) (exV 0 W) (fun W' hb=>nmPut_vtg (exV 0 W') rfl (by decide) (by decide)) fun _ A c W' hs=>Put_any (put30 exD).1.1 (put30 exD).1.2.1 (put30 exD).1.2.2 A c W' (by decide +kernel) (by decide +kernel) hs
  have HD:∀ W,Hid (Calls Tryz.prog 11 #[.string exT] W (DecOut (exD,19,0) W)):=fun W=>by
    have h:=nmDecode_any (t:=exT) (w:=W) (by decide)
    rw [show dec30 exT=(exD,19,0) from Prod.ext ex_dec.2 ex_dec.1] at h
    exact h
  have HB:=fun W=>Lib.hid (build_ex W)
  go_enter Tryz.func8,Tryz.ntmps8
  go_wp2_with (refine wpList_build2 (u:=.int .i64 4) (u':=.string ⟨#[71,80]⟩) rfl 46 0 1 _ _ rfl rfl rfl (HB _).out ?_)
  refine (HE _).out.mono ?_
  rintro e W1 ⟨rfl,hb1⟩
  have HB1:=Lib.hid hb1
  clear hb1
  dsimp only
  go_wp2_with fail
  refine (HD _).out.mono ?_
  rintro e W2 ⟨D,rfl,hd,hb⟩
  have HDD:=Lib.hid hd
  have HB2:=Lib.hid (bthen HB1.out hb)
  clear hd hb HB1 HD HE
  dsimp only
  go_upto_region 3 with (first
    | (refine wpList_alloc_new rfl 46 rfl zNm (zero_Nm _) ?_;intro W6 hW6;have HA:=Lib.hid (Blk.newL (L:=nmL 0 ByteArray.empty zGga zRmc zGsa zVtg zGsv) hW6 rfl);have HL6:=Lib.hid hW6.bel;clear hW6)
    | (refine wpList_store_in rfl 46 _ _ rfl W2.heap.size 0 D rfl rfl (nm_thereC HA.out zLens HDD.out) (nm_sizeC HDD.out) HDD.out.ones ?_;intro W7 hW7;have HM7:Hid (Blk W7 W2.heap.size D.toList):=HA.out.all hW7 (nm_lenC HDD.out);have HL7:=Lib.hid (HL6.out.trans (hW7.below (Nat.le_refl _)));have HB7:=Lib.hid (bthen HB2.out HL7.out);clear hW7 HA HL6))
  try go_frame
  try (apply wp_seq_k;intro K_ HK_)
  apply wp_region_lit
  have ex1:(exT.toList==[36,71,80,86,84,71,44,44,44,44,44,44,44,44,42,53,50,13,10])=true:=ex_list
  repeat (fail_if_success (with_reducible show Calls _ _ _ _ _)
          first | go_values | go_skip | go_guarded | go_step | go_upon)
  refine (num30_any _ _).mono ?_
  rintro e W' ⟨rfl,rfl⟩
  dsimp only
  repeat (fail_if_success (with_reducible show Oper.wp _ ⟨some 24, _, _, _, _, _⟩ _ _ _ _)
          first | go_values | go_skip | go_guarded | go_step | go_upon)
  refine wp_load_mid _ _ rfl W2.heap.size 0 rfl D.toList _ HM7.out.rg Tryz.underlying46 rfl (by rw [Array.length_toList];exact nm_sizeC HDD.out) ?_
  have hbx:=build_ex
  repeat (fail_if_success (with_reducible show Calls _ _ _ _ _)
          first | go_values | go_skip | go_guarded | go_step | go_upon)
  refine (r30Same_any (HDD.out.on HL7.out) (exV 0 _) (by decide) (by decide)).mono ?_
  rintro e W8 ⟨rfl,hb⟩
  have HB8:=Lib.hid (bthen HB7.out hb)
  clear hb HM7 HL7 HB7
  dsimp only
  repeat (fail_if_success (with_reducible show Calls _ _ _ _ _)
          first | go_values | go_skip | go_guarded | go_step | go_upon)
  refine (num30_any _ _).mono ?_
  rintro e W' ⟨rfl,rfl⟩
  go_wp2_with fail
  go_ret
  exact⟨rfl,HB8.out⟩
theorem wpList_load_w {P:Program} {ops:Array Oper} {rest:List Oper} {o:Oper} {a:Act} {w:World} {Q:Exit→Act→World→Prop} (hw:Region.wanted o (yielded ops a.tmps)=true) (ty:TypeId) (x:Operand) (ho:o.op=.load ty x) (b f:Nat) (hx:a.eval x=.pointer (some ⟨b,f,none⟩)) (cs:List Value) (d:TypeDesc) (hc:w.rangeAt b f cs)
    (hu:P.underlying ty=some d) (hd:d.isRow=true) (hi:(P.info? ty).map (·.size)=some cs.length) (h:wpList P ops Q rest (a.put o.dst (.agg cs.toArray)) w):wpList P ops Q (o :: rest) a w:=
  wpList_step fun K hK=>by simp only [hw,if_true];exact wp_load_mid ty x ho b f hx cs d hc hu hd hi (hK _ _ h)
theorem only30_ids {t:ByteArray} {m:NmD} (h1:m.s.ids.length≤1000000) (h2:m.u.L.length≤1000000):(only30 t m).s.ids.length≤1000000∧(only30 t m).u.L.length≤1000000:=by
  have e1:zeroS.ids.length≤1000000:=by decide
  have e2:zeroG.L.length≤1000000:=by decide
  unfold only30
  split
  · exact⟨e1,e2⟩
  split
  · exact⟨e1,e2⟩
  split
  · exact⟨h1,e2⟩
  split
  · exact⟨e1,e2⟩
  split
  · exact⟨e1,h2⟩
  · exact⟨e1,e2⟩
theorem take30_ids (t y:ByteArray) (fs:List ByteArray):(take30 t y fs).1.s.ids.length≤1000000∧(take30 t y fs).1.u.L.length≤1000000:=by
  unfold take30
  split
  · exact only30_ids (rd30_ids y fs).1 (rd30_ids y fs).2
  · exact⟨Nat.zero_le _,Nat.zero_le _⟩
theorem dec30_ids (t:ByteArray):(dec30 t).1.s.ids.length≤1000000∧(dec30 t).1.u.L.length≤1000000:=by
  unfold dec30
  split
  · exact take30_ids _ _ _
  · exact⟨Nat.zero_le _,Nat.zero_le _⟩
set_option maxRecDepth 8000 in
set_option maxHeartbeats 2000000 in
theorem nmeaTakes_few (T Y X:ByteArray) (A:Option Addr) (n c:Nat) (w:World) (HF:∀ W,Below w.heap.size w W→Hid (Calls Tryz.prog 7 #[.slice A n c] W fun e w'=>e=.returned (.bool false)∧w'=W)) :
    Calls Tryz.prog 3 #[.agg #[.string T,.string Y,.slice A n c],.string X] w fun e w'=>e=.returned (.bool true)∧Below w.heap.size w w':=by
  have HK:=fun W=>Lib.hid (knows30_any W)
  have HB0:=Lib.hid (below_new w (.cells #[.string T,.string Y,.slice A n c] 24))
  go_enter Tryz.func3,Tryz.ntmps3
  go_wp2_with fail
  refine (HF _ HB0.out).out.mono ?_
  rintro e w' ⟨rfl,rfl⟩
  go_wp2_with fail
  refine (HK _).out.mono ?_
  rintro e w1 ⟨rfl,hb1⟩
  go_wp2_with fail
  go_ret
  exact⟨rfl,bthen HB0.out hb1⟩
set_option maxRecDepth 8000 in
set_option maxHeartbeats 2000000 in
theorem nmeaTakes_big (T Y X:ByteArray) (A:Option Addr) (n c:Nat) (w:World) (hT:T.size≤maxLen) (hX:X.size≤maxLen) (hbig:100 < (T.size:Int)∨(T.size:Int)≤100∧500 < (X.size:Int)) (HF:∀ W,Below w.heap.size w W→Hid (Calls Tryz.prog 7 #[.slice A n c] W fun e w'=>e=.returned (.bool true)∧w'=W)) :
    Calls Tryz.prog 3 #[.agg #[.string T,.string Y,.slice A n c],.string X] w fun e w'=>e=.returned (.bool true)∧Below w.heap.size w w':=by
  unfold maxLen at hT hX
  have HK:=fun W=>Lib.hid (knows30_any W)
  have HB0:=Lib.hid (below_new w (.cells #[.string T,.string Y,.slice A n c] 24))
  rcases hbig with h | ⟨h,h'⟩
  · go_enter Tryz.func3,Tryz.ntmps3
    go_wp2_with fail
    refine (HF _ HB0.out).out.mono ?_
    rintro e w' ⟨rfl,rfl⟩
    go_wp2_with fail
    refine (HK _).out.mono ?_
    rintro e w1 ⟨rfl,hb1⟩
    go_wp2_with fail
    go_ret
    exact⟨rfl,bthen HB0.out hb1⟩
  · go_enter Tryz.func3,Tryz.ntmps3
    go_wp2_with fail
    refine (HF _ HB0.out).out.mono ?_
    rintro e w' ⟨rfl,rfl⟩
    go_wp2_with fail
    refine (HK _).out.mono ?_
    rintro e w1 ⟨rfl,hb1⟩
    go_wp2_with fail
    go_ret
    exact⟨rfl,bthen HB0.out hb1⟩
set_option maxRecDepth 8000 in
set_option maxHeartbeats 8000000 in
theorem nmeaTakes_go (T Y X:ByteArray) (A:Option Addr) (n c:Nat) (w:World) (M1 M2:NmD) (E1 E2:Int) (N2:Nat) (hT:(T.size:Int)≤100) (hX:(X.size:Int)≤500) (hm1:Hid (M1.s.ids.length≤1000000∧M1.u.L.length≤1000000)) (hm2:Hid (M2.s.ids.length≤1000000∧M2.u.L.length≤1000000))
    (HF:∀ W,Below w.heap.size w W→Hid (Calls Tryz.prog 7 #[.slice A n c] W fun e w'=>e=.returned (.bool true)∧w'=W))
    (H1:∀ W,Below w.heap.size w W→Hid (Calls Tryz.prog 9 #[.agg #[.string T,.string Y,.slice A n c]] W (NmOut (M1,E1) W)))
    (H2:∀ W,Below w.heap.size w W→Hid (Calls Tryz.prog 10 #[.agg #[.string T,.string Y,.slice A n c]] W (NmOut (M1,E1) W)))
    (H3:∀ W,Hid (Calls Tryz.prog 11 #[.string X] W (DecOut (M2,N2,E2) W)))
    (H4:∀ W,Hid (Calls Tryz.prog 12 #[.string X] W (DecOut (M2,N2,E2) W))) :
    Calls Tryz.prog 3 #[.agg #[.string T,.string Y,.slice A n c],.string X] w fun e w'=>e=.returned (.bool true)∧Below w.heap.size w w':=by
  have HK:=fun W=>Lib.hid (knows30_any W)
  go_enter Tryz.func3,Tryz.ntmps3
  go_wp2_with (first
    | (refine wpList_box_new rfl _ _ rfl #[.string T,.string Y,.slice A n c] rfl ?_;intro W0 hW0;have HS0:=Lib.hid (Blk.newL (L:=[.string T,.string Y,.slice A n c]) hW0 rfl);have HB0:=Lib.hid hW0.bel;have c0:=HS0.out.cell 0 rfl;have c2:=HS0.out.cell 2 rfl;clear hW0))
  refine (HF _ HB0.out).out.mono ?_
  rintro e w' ⟨rfl,rfl⟩
  go_wp2_with fail
  refine (HK _).out.mono ?_
  rintro e w1 ⟨rfl,hb1⟩
  have HB1:=Lib.hid (bthen HB0.out hb1)
  have HS1:=Lib.hid (HS0.out.on hb1)
  clear hb1 HB0 HS0 c0 c2 HF HK
  go_wp2_with (refine wpList_load_mid rfl 24 _ rfl w.heap.size 0 rfl [.string T,.string Y,.slice A n c] _ HS1.out.rg Tryz.underlying24 rfl sen_size ?_)
  refine (H1 _ HB1.out).out.mono ?_
  rintro e w2 ⟨D1,rfl,hd,hb⟩
  have HD1:=Lib.hid hd
  have HB2:=Lib.hid (bthen HB1.out hb)
  have HS2:=Lib.hid (HS1.out.on hb)
  clear hd hb HB1 HS1 H1
  dsimp only
  go_upto_region 4 with (first
    | (refine wpList_alloc_new rfl 46 rfl zNm (zero_Nm _) ?_;intro Wa1 hWa;have HA1:=Lib.hid (Blk.newL (L:=nmL 0 ByteArray.empty zGga zRmc zGsa zVtg zGsv) hWa rfl);have HLa1:=Lib.hid hWa.bel;clear hWa)
    | (refine wpList_store_in rfl 46 _ _ rfl w2.heap.size 0 D1 rfl rfl (nm_thereC HA1.out zLens HD1.out) (nm_sizeC HD1.out) HD1.out.ones ?_;intro Ws1 hWs;have HM1:Hid (Blk Ws1 w2.heap.size D1.toList):=HA1.out.all hWs (nm_lenC HD1.out);have HL1:=Lib.hid (HLa1.out.trans (hWs.below (Nat.le_refl _)));clear hWs HA1 HLa1))
  try go_frame
  have HS3:=Lib.hid (HS2.out.on HL1.out)
  have HB3:=Lib.hid (bthen HB2.out HL1.out)
  have HDa:=Lib.hid (HD1.out.on HL1.out)
  clear HS2 HB2 HL1 HD1
  go_wp2_with (refine wpList_load_mid rfl 24 _ rfl w.heap.size 0 rfl [.string T,.string Y,.slice A n c] _ HS3.out.rg Tryz.underlying24 rfl sen_size ?_)
  refine (H2 _ HB3.out).out.mono ?_
  rintro e w4 ⟨D2,rfl,hd,hb⟩
  have HD2:=Lib.hid hd
  have HB4:=Lib.hid (bthen HB3.out hb)
  have HM1b:=Lib.hid (HM1.out.on hb)
  have HDb:=Lib.hid (HDa.out.on hb)
  clear hd hb HB3 HS3 H2 HM1 HDa
  dsimp only
  go_upto_region 5 with (first
    | (refine wpList_alloc_new rfl 46 rfl zNm (zero_Nm _) ?_;intro Wa2 hWa;have HA2:=Lib.hid (Blk.newL (L:=nmL 0 ByteArray.empty zGga zRmc zGsa zVtg zGsv) hWa rfl);have HLa2:=Lib.hid hWa.bel;clear hWa)
    | (refine wpList_store_in rfl 46 _ _ rfl w4.heap.size 0 D2 rfl rfl (nm_thereC HA2.out zLens HD2.out) (nm_sizeC HD2.out) HD2.out.ones ?_;intro Ws2 hWs;have HM2:Hid (Blk Ws2 w4.heap.size D2.toList):=HA2.out.all hWs (nm_lenC HD2.out);have HL2:=Lib.hid (HLa2.out.trans (hWs.below (Nat.le_refl _)));clear hWs HA2 HLa2))
  try go_frame
  have HB5:=Lib.hid (bthen HB4.out HL2.out)
  have HM1c:=Lib.hid (HM1b.out.on HL2.out)
  have HDc:=Lib.hid (HDb.out.on HL2.out)
  have HD2c:=Lib.hid (HD2.out.on HL2.out)
  clear HB4 HM1b HDb HD2 HL2
  go_wp2_with fail
  refine (H3 _).out.mono ?_
  rintro e w6 ⟨D3,rfl,hd,hb⟩
  have HD3:=Lib.hid hd
  have HB6:=Lib.hid (bthen HB5.out hb)
  have HM1d:=Lib.hid (HM1c.out.on hb)
  have HM2d:=Lib.hid (HM2.out.on hb)
  have HDd:=Lib.hid (HDc.out.on hb)
  have HD2d:=Lib.hid (HD2c.out.on hb)
  clear hd hb HB5 H3 HM1c HM2 HDc HD2c
  dsimp only
  go_upto_region 6 with (first
    | (refine wpList_alloc_new rfl 46 rfl zNm (zero_Nm _) ?_;intro Wa3 hWa;have HA3:=Lib.hid (Blk.newL (L:=nmL 0 ByteArray.empty zGga zRmc zGsa zVtg zGsv) hWa rfl);have HLa3:=Lib.hid hWa.bel;clear hWa)
    | (refine wpList_store_in rfl 46 _ _ rfl w6.heap.size 0 D3 rfl rfl (nm_thereC HA3.out zLens HD3.out) (nm_sizeC HD3.out) HD3.out.ones ?_;intro Ws3 hWs;have HM3:Hid (Blk Ws3 w6.heap.size D3.toList):=HA3.out.all hWs (nm_lenC HD3.out);have HL3:=Lib.hid (HLa3.out.trans (hWs.below (Nat.le_refl _)));clear hWs HA3 HLa3))
  try go_frame
  have HB7:=Lib.hid (bthen HB6.out HL3.out)
  have HM1e:=Lib.hid (HM1d.out.on HL3.out)
  have HM2e:=Lib.hid (HM2d.out.on HL3.out)
  have HDe:=Lib.hid (HDd.out.on HL3.out)
  have HD2e:=Lib.hid (HD2d.out.on HL3.out)
  have HD3e:=Lib.hid (HD3.out.on HL3.out)
  clear HB6 HM1d HM2d HDd HD2d HD3 HL3
  go_wp2_with fail
  refine (H4 _).out.mono ?_
  rintro e w8 ⟨D4,rfl,hd,hb⟩
  have HD4:=Lib.hid hd
  have HB8:=Lib.hid (bthen HB7.out hb)
  have HM1f:=Lib.hid (HM1e.out.on hb)
  have HM2f:=Lib.hid (HM2e.out.on hb)
  have HM3f:=Lib.hid (HM3.out.on hb)
  have HDf:=Lib.hid (HDe.out.on hb)
  have HD2f:=Lib.hid (HD2e.out.on hb)
  have HD3f:=Lib.hid (HD3e.out.on hb)
  clear hd hb HB7 H4 HM1e HM2e HM3 HDe HD2e HD3e
  dsimp only
  go_upto_region 7 with (first
    | (refine wpList_alloc_new rfl 46 rfl zNm (zero_Nm _) ?_;intro Wa4 hWa;have HA4:=Lib.hid (Blk.newL (L:=nmL 0 ByteArray.empty zGga zRmc zGsa zVtg zGsv) hWa rfl);have HLa4:=Lib.hid hWa.bel;clear hWa)
    | (refine wpList_store_in rfl 46 _ _ rfl w8.heap.size 0 D4 rfl rfl (nm_thereC HA4.out zLens HD4.out) (nm_sizeC HD4.out) HD4.out.ones ?_;intro Ws4 hWs;have HM4:Hid (Blk Ws4 w8.heap.size D4.toList):=HA4.out.all hWs (nm_lenC HD4.out);have HL4:=Lib.hid (HLa4.out.trans (hWs.below (Nat.le_refl _)));clear hWs HA4 HLa4))
  try go_frame
  have HB9:=Lib.hid (bthen HB8.out HL4.out)
  have HM1g:=Lib.hid (HM1f.out.on HL4.out)
  have HM2g:=Lib.hid (HM2f.out.on HL4.out)
  have HM3g:=Lib.hid (HM3f.out.on HL4.out)
  have HDg:=Lib.hid (HDf.out.on HL4.out)
  have HD2g:=Lib.hid (HD2f.out.on HL4.out)
  have HD3g:=Lib.hid (HD3f.out.on HL4.out)
  have HD4g:=Lib.hid (HD4.out.on HL4.out)
  clear HB8 HM1f HM2f HM3f HDf HD2f HD3f HD4 HL4
  try (apply wp_seq_k;intro K_ HK_)
  apply wp_region_lit
  refine wpList_load_mid rfl 46 _ rfl w2.heap.size 0 rfl D1.toList _ HM1g.out.rg Tryz.underlying46 rfl (by rw [Array.length_toList];exact nm_sizeC HDg.out) ?_
  refine wpList_load_mid rfl 46 _ rfl w4.heap.size 0 rfl D2.toList _ HM2g.out.rg Tryz.underlying46 rfl (by rw [Array.length_toList];exact nm_sizeC HD2g.out) ?_
  repeat (fail_if_success (with_reducible show Calls _ _ _ _ _)
          first | go_values | go_skip | go_guarded | go_step | go_upon)
  refine (r30Same_any HDg.out HD2g.out hm1.out.1 hm1.out.2).mono ?_
  rintro e wa ⟨rfl,hb⟩
  have HBa:=Lib.hid (bthen HB9.out hb)
  have HM3h:=Lib.hid (HM3g.out.on hb)
  have HM4h:=Lib.hid (HM4.out.on hb)
  have HD3h:=Lib.hid (HD3g.out.on hb)
  have HD4h:=Lib.hid (HD4g.out.on hb)
  clear hb HB9 HM3g HM4 HD3g HD4g HM1g HM2g HDg HD2g
  dsimp only
  repeat (fail_if_success (with_reducible show Calls _ _ _ _ _)
          first | go_values | go_skip | go_guarded | go_step | go_upon)
  refine (num30_any _ _).mono ?_
  rintro e W' ⟨rfl,rfl⟩
  dsimp only
  repeat (fail_if_success (with_reducible show Calls _ _ _ _ _)
          first | go_values | go_skip | go_guarded | go_step | go_upon)
  refine (num30_any _ _).mono ?_
  rintro e W' ⟨rfl,rfl⟩
  have ie:(E1==E1)=true:=beq_self_eq_true E1
  dsimp only
  repeat (fail_if_success (with_reducible show Oper.wp _ ⟨some 68, _, _, _, _, _⟩ _ _ _ _)
          first | go_values | go_skip | go_guarded | go_step | go_upon)
  refine wp_load_mid _ _ rfl w6.heap.size 0 rfl D3.toList _ HM3h.out.rg Tryz.underlying46 rfl (by rw [Array.length_toList];exact nm_sizeC HD3h.out) ?_
  go_step
  refine wpList_load_w (by rfl) 46 _ rfl w8.heap.size 0 rfl D4.toList _ HM4h.out.rg Tryz.underlying46 rfl (by rw [Array.length_toList];exact nm_sizeC HD4h.out) ?_
  repeat (fail_if_success (with_reducible show Calls _ _ _ _ _)
          first | go_values | go_skip | go_guarded | go_step | go_upon)
  refine (r30Same_any HD3h.out HD4h.out hm2.out.1 hm2.out.2).mono ?_
  rintro e wb ⟨rfl,hb⟩
  have HBb:=Lib.hid (bthen HBa.out hb)
  clear hb HBa HM3h HM4h HD3h HD4h
  dsimp only
  repeat (fail_if_success (with_reducible show Calls _ _ _ _ _)
          first | go_values | go_skip | go_guarded | go_step | go_upon)
  refine (num30_any _ _).mono ?_
  rintro e W' ⟨rfl,rfl⟩
  dsimp only
  repeat (fail_if_success (with_reducible show Calls _ _ _ _ _)
          first | go_values | go_skip | go_guarded | go_step | go_upon)
  refine (num30_any _ _).mono ?_
  rintro e W' ⟨rfl,rfl⟩
  have ie2:(E2==E2)=true:=beq_self_eq_true E2
  go_wp2_with fail
  go_ret
  exact⟨rfl,HBb.out⟩
theorem nmeaTakes_any (T Y:ByteArray) (fs:List ByteArray) (A:Option Addr) (c:Nat) (X:ByteArray) (w:World) (hn:fs.length≤maxLen) (hT:T.size≤maxLen) (hY:Y.size≤maxLen) (hs:Strs w w.heap.size A fs) (hz:∀ f∈fs,f.size≤maxLen) (hX:X.size≤maxLen) :
    Calls Tryz.prog 3 #[.agg #[.string T,.string Y,.slice A fs.length c],.string X] w fun e w'=>e=.returned (.bool true)∧Below w.heap.size w w':=by
  have hst:∀ W,Below w.heap.size w W→Strs W W.heap.size A fs:=fun W hb=>(hs.below hb (Nat.le_refl _)).more hb.size
  have hf:∀ W,Below w.heap.size w W→Calls Tryz.prog 7 #[.slice A fs.length c] W fun e w'=>e=.returned (.bool (fewL fs))∧w'=W:=fun W hb=>r25Few_any A fs.length c fs W rfl (hst W hb) hz hn
  cases hfew:fewL fs with
  | false=>exact nmeaTakes_few T Y X A fs.length c w fun W hb=>by have:=hf W hb;rw [hfew] at this;exact this
  | true=>
    have hf':∀ W,Below w.heap.size w W→Hid (Calls Tryz.prog 7 #[.slice A fs.length c] W fun e w'=>e=.returned (.bool true)∧w'=W):=fun W hb=>by have:=hf W hb;rw [hfew] at this;exact this
    obtain⟨h40,h100⟩:=(fewL_iff fs).1 hfew
    by_cases hb1:T.size≤100∧X.size≤500
    · obtain⟨⟨M1,E1⟩,e1⟩:∃ x,take30 T Y fs=x:=⟨_,rfl⟩
      obtain⟨⟨M2,N2,E2⟩,e2⟩:∃ x,dec30 X=x:=⟨_,rfl⟩
      have g1:=take30_ids T Y fs
      have g2:=dec30_ids X
      rw [e1] at g1
      rw [e2] at g2
      refine nmeaTakes_go T Y X A fs.length c w M1 M2 E1 E2 N2 (by omega) (by omega) g1 g2 hf' (fun W hb=>?_) (fun W hb=>?_) (fun W=>?_) (fun W=>?_)
      · rw [← e1];exact nmTake_any (hst W hb) (by omega) (fun f hq=>Nat.le_trans (h100 f hq) (by omega))
      · rw [← e1];exact r30Take_any (hst W hb) (by omega) (fun f hq=>Nat.le_trans (h100 f hq) (by omega))
      · rw [← e2];exact nmDecode_any (by omega)
      · rw [← e2];exact r30Decode_any (by omega)
    · exact nmeaTakes_big T Y X A fs.length c w hT hX (by omega) hf'
end Go.Proofs.YtoabkoniegmkaaaGreat
