/- Layer 30: Encode over plain messages, knows. Printed by gennmc.py. -/
import Derived.Test.YtoabkoniegmkaaaGreatH47
namespace Go.Proofs.YtoabkoniegmkaaaGreat
set_option linter.unusedVariables false
open Go.RowKit
def exD:NmD:=⟨4,⟨#[71,80]⟩,zeroF,zeroM,zeroS,zV4,zeroG⟩
def exT:ByteArray:=⟨#[36,71,80,86,84,71,44,44,44,44,44,44,44,44,42,53,50,13,10]⟩
theorem ex_enc:enc30 exD=(exT,0):=by decide +kernel
theorem ex_dec:(dec30 exT).2=(19,0)∧(dec30 exT).1=exD:=by
  refine⟨by decide +kernel,?_⟩
  kernel_rfl
theorem ex_list:(exT.toList==[36,71,80,86,84,71,44,44,44,44,44,44,44,44,42,53,50,13,10])=true:=by
  rw [ByteArray.toList_eq]
  rfl
theorem build_ex (w:World):(Instr.build 46 #[(0,.int .i64 4),(1,.string ⟨#[71,80]⟩)]).run Tryz.prog w=.ok (.agg (nmL 4 ⟨#[71,80]⟩ zGga zRmc zGsa zVtg zGsv).toArray) w:=by kernel_rfl
theorem exV (lo:Nat) (w:World):NmV lo w (nmL 4 ⟨#[71,80]⟩ zGga zRmc zGsa zVtg zGsv).toArray exD:=⟨_,_,rfl,SlI.nil _ _,SlV.nil _ _⟩
theorem num30_any (E:Int) (w:World):Calls Tryz.prog 14 #[.int .i64 E] w fun e w'=>e=.returned (.int .i64 E)∧w=w':=by
  go_enter Tryz.func14,Tryz.ntmps14
  go_wp2
  go_ret
  exact⟨rfl,rfl⟩
set_option maxRecDepth 8000 in
set_option maxHeartbeats 4000000 in
theorem knows30_any (w:World):Calls Tryz.prog 8 #[] w fun e w'=>e=.returned (.bool true)∧Below w.heap.size w w':=by
  have HE:∀ W,Hid (Calls Tryz.prog 15 #[.agg (nmL 4 ⟨#[71,80]⟩ zGga zRmc zGsa zVtg zGsv).toArray] W (EncOut (exT,0) W)):=fun W=>by rw [← ex_enc];exact nmEncode_go (X:=put30 exD) (Y:=putS (put30 exD).1.1 (put30 exD).1.2.1 (put30 exD).1.2.2) (exV 0 W) (fun W' hb=>nmPut_vtg (exV 0 W') rfl (by decide) (by decide)) fun _ A c W' hs=>Put_any (put30 exD).1.1 (put30 exD).1.2.1 (put30 exD).1.2.2 A c W' (by decide +kernel) (by decide +kernel) hs
  have HD:∀ W,Hid (Calls Tryz.prog 11 #[.string exT] W (DecOut (exD,19,0) W)):=fun W=>by
    have h:=nmDecode_any (t:=exT) (w:=W) (by decide)
    rw [show dec30 exT=(exD,19,0) from Prod.ext ex_dec.2 ex_dec.1] at h
    exact h
  have HB:=fun W=>Lib.hid (build_ex W)
  go_enter Tryz.func8,Tryz.ntmps8
  go_wp2_with (refine wpList_build2 (u:=.int .i64 4) (u':=.string ⟨#[71,80]⟩) rfl 46 0 1 _ _ rfl rfl rfl (HB _).out ?_)
  refine (HE _).out.mono ?_
  rintro e W1 ⟨rfl,hb1⟩
  have HB1:=Lib.hid hb1
  clear hb1
  dsimp only
  go_wp2_with fail
  refine (HD _).out.mono ?_
  rintro e W2 ⟨D,rfl,hd,hb⟩
  have HDD:=Lib.hid hd
  have HB2:=Lib.hid (bthen HB1.out hb)
  clear hd hb HB1 HD HE
  dsimp only
  go_upto_region 3 with (first
    | (refine wpList_alloc_new rfl 46 rfl zNm (zero_Nm _) ?_;intro W6 hW6;have HA:=Lib.hid (Blk.newL (L:=nmL 0 ByteArray.empty zGga zRmc zGsa zVtg zGsv) hW6 rfl);have HL6:=Lib.hid hW6.bel;clear hW6)
    | (refine wpList_store_in rfl 46 _ _ rfl W2.heap.size 0 D rfl rfl (nm_thereC HA.out zLens HDD.out) (nm_sizeC HDD.out) HDD.out.ones ?_;intro W7 hW7;have HM7:Hid (Blk W7 W2.heap.size D.toList):=HA.out.all hW7 (nm_lenC HDD.out);have HL7:=Lib.hid (HL6.out.trans (hW7.below (Nat.le_refl _)));have HB7:=Lib.hid (bthen HB2.out HL7.out);clear hW7 HA HL6))
  try go_frame
  try (apply wp_seq_k;intro K_ HK_)
  apply wp_region_lit
  have ex1:(exT.toList==[36,71,80,86,84,71,44,44,44,44,44,44,44,44,42,53,50,13,10])=true:=ex_list
  repeat (fail_if_success (with_reducible show Calls _ _ _ _ _)
          first | go_values | go_skip | go_guarded | go_step | go_upon)
  refine (num30_any _ _).mono ?_
  rintro e W' ⟨rfl,rfl⟩
  dsimp only
  repeat (fail_if_success (with_reducible show Oper.wp _ ⟨some 24, _, _, _, _, _⟩ _ _ _ _)
          first | go_values | go_skip | go_guarded | go_step | go_upon)
  refine wp_load_mid _ _ rfl W2.heap.size 0 rfl D.toList _ HM7.out.rg Tryz.underlying46 rfl (by rw [Array.length_toList];exact nm_sizeC HDD.out) ?_
  have hbx:=build_ex
  repeat (fail_if_success (with_reducible show Calls _ _ _ _ _)
          first | go_values | go_skip | go_guarded | go_step | go_upon)
  refine (r30Same_any (HDD.out.on HL7.out) (exV 0 _) (by decide) (by decide)).mono ?_
  rintro e W8 ⟨rfl,hb⟩
  have HB8:=Lib.hid (bthen HB7.out hb)
  clear hb HM7 HL7 HB7
  dsimp only
  repeat (fail_if_success (with_reducible show Calls _ _ _ _ _)
          first | go_values | go_skip | go_guarded | go_step | go_upon)
  refine (num30_any _ _).mono ?_
  rintro e W' ⟨rfl,rfl⟩
  go_wp2_with fail
  go_ret
  exact⟨rfl,HB8.out⟩
theorem wpList_load_w {P:Program} {ops:Array Oper} {rest:List Oper} {o:Oper} {a:Act} {w:World} {Q:Exit→Act→World→Prop} (hw:Region.wanted o (yielded ops a.tmps)=true) (ty:TypeId) (x:Operand) (ho:o.op=.load ty x) (b f:Nat) (hx:a.eval x=.pointer (some ⟨b,f,none⟩)) (cs:List Value) (d:TypeDesc) (hc:w.rangeAt b f cs)
    (hu:P.underlying ty=some d) (hd:d.isRow=true) (hi:(P.info? ty).map (·.size)=some cs.length) (h:wpList P ops Q rest (a.put o.dst (.agg cs.toArray)) w):wpList P ops Q (o :: rest) a w:=
  wpList_step fun K hK=>by simp only [hw,if_true];exact wp_load_mid ty x ho b f hx cs d hc hu hd hi (hK _ _ h)
theorem only30_ids {t:ByteArray} {m:NmD} (h1:m.s.ids.length≤1000000) (h2:m.u.L.length≤1000000):(only30 t m).s.ids.length≤1000000∧(only30 t m).u.L.length≤1000000:=by
  have e1:zeroS.ids.length≤1000000:=by decide
  have e2:zeroG.L.length≤1000000:=by decide
  unfold only30
  split
  · exact⟨e1,e2⟩
  split
  · exact⟨e1,e2⟩
  split
  · exact⟨h1,e2⟩
  split
  · exact⟨e1,e2⟩
  split
  · exact⟨e1,h2⟩
  · exact⟨e1,e2⟩
theorem take30_ids (t y:ByteArray) (fs:List ByteArray):(take30 t y fs).1.s.ids.length≤1000000∧(take30 t y fs).1.u.L.length≤1000000:=by
  unfold take30
  split
  · exact only30_ids (rd30_ids y fs).1 (rd30_ids y fs).2
  · exact⟨Nat.zero_le _,Nat.zero_le _⟩
theorem dec30_ids (t:ByteArray):(dec30 t).1.s.ids.length≤1000000∧(dec30 t).1.u.L.length≤1000000:=by
  unfold dec30
  split
  · exact take30_ids _ _ _
  · exact⟨Nat.zero_le _,Nat.zero_le _⟩
end Go.Proofs.YtoabkoniegmkaaaGreat
