/- Layer 31: the forms (sensed). Printed by gensch3.py. -/
import Derived.Test.YtaiepcgfofpmjaaGreatS25
namespace Go.Proofs.YtaiepcgfofpmjaaGreat
set_option linter.unusedVariables false
open Go.RowKit
set_option maxRecDepth 8000
set_option maxHeartbeats 1000000
theorem schSensed_24 (w:World):Calls Tryz.prog 276 #[.int .i64 24] w (FrmNew form24 w):=by
  go_enter Tryz.func276,Tryz.ntmps276
  go_upto_region 1 with fail
  have P0:=Lib.hid (Pk.start w)
  generalize w.alloc (.cells #[.string ⟨#[]⟩,.slice none 0 0] 371)=w0 at *
  go_wp2_with fail
  refine (pk_u64 n24_0 P0 rfl rfl (by decide)).mono ?_
  rintro e w1 ⟨A0,c0,rfl,P1⟩
  go_wp2_with fail
  refine (pk_u8 n24_1 P1 rfl rfl (by decide)).mono ?_
  rintro e w2 ⟨A1,c1,rfl,P2⟩
  go_wp2_with fail
  refine (pk_i32 n24_2 P2 rfl rfl (by decide)).mono ?_
  rintro e w3 ⟨A2,c2,rfl,P3⟩
  go_wp2_with fail
  refine (pk_u16 n24_3 P3 rfl rfl (by decide)).mono ?_
  rintro e w4 ⟨A3,c3,rfl,P4⟩
  go_wp2_with fail
  refine (pk_u8 n24_4 P4 rfl rfl (by decide)).mono ?_
  rintro e w5 ⟨A4,c4,rfl,P5⟩
  go_wp2_with fail
  refine (pk_of form24 P5 rfl rfl (by kernel_rfl) (by kernel_rfl) rfl).mono ?_
  rintro e wf ⟨AF,cf,rfl,PF⟩
  obtain⟨r0,r1,z0,z1⟩:=PF.out.cells
  go_wp2_with fail
  exact bodyPost_ret (by rw [results_cF rfl];simp [asAddr,Result.andThen];exact PF.out.res _ _) rfl (PF.out.post _ _ rfl rfl)
theorem schSensed_25 (w:World):Calls Tryz.prog 276 #[.int .i64 25] w (FrmNew form25 w):=by
  go_enter Tryz.func276,Tryz.ntmps276
  go_upto_region 1 with fail
  have P0:=Lib.hid (Pk.start w)
  generalize w.alloc (.cells #[.string ⟨#[]⟩,.slice none 0 0] 371)=w0 at *
  go_wp2_with fail
  refine (pk_u8 n25_0 P0 rfl rfl (by decide)).mono ?_
  rintro e w1 ⟨A0,c0,rfl,P1⟩
  go_wp2_with fail
  refine (pk_array 20 n25_1 P1 rfl rfl (by decide)).mono ?_
  rintro e w2 ⟨A1,c1,rfl,P2⟩
  go_wp2_with fail
  refine (pk_of form25 P2 rfl rfl (by kernel_rfl) (by kernel_rfl) rfl).mono ?_
  rintro e wf ⟨AF,cf,rfl,PF⟩
  obtain⟨r0,r1,z0,z1⟩:=PF.out.cells
  go_wp2_with fail
  exact bodyPost_ret (by rw [results_cF rfl];simp [asAddr,Result.andThen];exact PF.out.res _ _) rfl (PF.out.post _ _ rfl rfl)
theorem schSensed_26 (w:World):Calls Tryz.prog 276 #[.int .i64 26] w (FrmNew form26 w):=by
  go_enter Tryz.func276,Tryz.ntmps276
  go_upto_region 1 with fail
  have P0:=Lib.hid (Pk.start w)
  generalize w.alloc (.cells #[.string ⟨#[]⟩,.slice none 0 0] 371)=w0 at *
  go_wp2_with fail
  refine (pk_u32 n26_0 P0 rfl rfl (by decide)).mono ?_
  rintro e w1 ⟨A0,c0,rfl,P1⟩
  go_wp2_with fail
  refine (pk_inertial P1).mono ?_
  rintro e w2 ⟨A1,c1,rfl,P2⟩
  go_wp2_with fail
  refine (pk_of form26 P2 rfl rfl (by kernel_rfl) (by kernel_rfl) rfl).mono ?_
  rintro e wf ⟨AF,cf,rfl,PF⟩
  obtain⟨r0,r1,z0,z1⟩:=PF.out.cells
  go_wp2_with fail
  exact bodyPost_ret (by rw [results_cF rfl];simp [asAddr,Result.andThen];exact PF.out.res _ _) rfl (PF.out.post _ _ rfl rfl)
theorem schSensed_27 (w:World):Calls Tryz.prog 276 #[.int .i64 27] w (FrmNew form27 w):=by
  go_enter Tryz.func276,Tryz.ntmps276
  go_upto_region 1 with fail
  have P0:=Lib.hid (Pk.start w)
  generalize w.alloc (.cells #[.string ⟨#[]⟩,.slice none 0 0] 371)=w0 at *
  go_wp2_with fail
  refine (pk_u64 n27_0 P0 rfl rfl (by decide)).mono ?_
  rintro e w1 ⟨A0,c0,rfl,P1⟩
  go_wp2_with fail
  refine (pk_inertial P1).mono ?_
  rintro e w2 ⟨A1,c1,rfl,P2⟩
  go_wp2_with fail
  refine (pk_of form27 P2 rfl rfl (by kernel_rfl) (by kernel_rfl) rfl).mono ?_
  rintro e wf ⟨AF,cf,rfl,PF⟩
  obtain⟨r0,r1,z0,z1⟩:=PF.out.cells
  go_wp2_with fail
  exact bodyPost_ret (by rw [results_cF rfl];simp [asAddr,Result.andThen];exact PF.out.res _ _) rfl (PF.out.post _ _ rfl rfl)
theorem schSensed_28 (w:World):Calls Tryz.prog 276 #[.int .i64 28] w (FrmNew form28 w):=by
  go_enter Tryz.func276,Tryz.ntmps276
  go_upto_region 1 with fail
  have P0:=Lib.hid (Pk.start w)
  generalize w.alloc (.cells #[.string ⟨#[]⟩,.slice none 0 0] 371)=w0 at *
  go_wp2_with fail
  refine (pk_u64 n28_0 P0 rfl rfl (by decide)).mono ?_
  rintro e w1 ⟨A0,c0,rfl,P1⟩
  go_wp2_with fail
  refine (pk_i16 n28_1 P1 rfl rfl (by decide)).mono ?_
  rintro e w2 ⟨A1,c1,rfl,P2⟩
  go_wp2_with fail
  refine (pk_of form28 P2 rfl rfl (by kernel_rfl) (by kernel_rfl) rfl).mono ?_
  rintro e wf ⟨AF,cf,rfl,PF⟩
  obtain⟨r0,r1,z0,z1⟩:=PF.out.cells
  go_wp2_with fail
  exact bodyPost_ret (by rw [results_cF rfl];simp [asAddr,Result.andThen];exact PF.out.res _ _) rfl (PF.out.post _ _ rfl rfl)
theorem schSensed_33 (w:World):Calls Tryz.prog 276 #[.int .i64 33] w (FrmNew form33 w):=by
  go_enter Tryz.func276,Tryz.ntmps276
  go_upto_region 1 with fail
  have P0:=Lib.hid (Pk.start w)
  generalize w.alloc (.cells #[.string ⟨#[]⟩,.slice none 0 0] 371)=w0 at *
  go_wp2_with fail
  refine (pk_u32 n33_0 P0 rfl rfl (by decide)).mono ?_
  rintro e w1 ⟨A0,c0,rfl,P1⟩
  go_wp2_with fail
  refine (pk_i32 n33_1 P1 rfl rfl (by decide)).mono ?_
  rintro e w2 ⟨A1,c1,rfl,P2⟩
  go_wp2_with fail
  refine (pk_i16 n33_2 P2 rfl rfl (by decide)).mono ?_
  rintro e w3 ⟨A2,c2,rfl,P3⟩
  go_wp2_with fail
  refine (pk_u16 n33_3 P3 rfl rfl (by decide)).mono ?_
  rintro e w4 ⟨A3,c3,rfl,P4⟩
  go_wp2_with fail
  refine (pk_of form33 P4 rfl rfl (by kernel_rfl) (by kernel_rfl) rfl).mono ?_
  rintro e wf ⟨AF,cf,rfl,PF⟩
  obtain⟨r0,r1,z0,z1⟩:=PF.out.cells
  go_wp2_with fail
  exact bodyPost_ret (by rw [results_cF rfl];simp [asAddr,Result.andThen];exact PF.out.res _ _) rfl (PF.out.post _ _ rfl rfl)
theorem schSensed_none (i:Int) (w:World) (h24:¬ i=24) (h25:¬ i=25) (h26:¬ i=26) (h27:¬ i=27) (h28:¬ i=28) (h33:¬ i=33):Calls Tryz.prog 276 #[.int .i64 i] w (FrmNew noF w):=by
  go_enter Tryz.func276,Tryz.ntmps276
  go_wp2_with fail
  exact bodyPost_ret (by rw [results_cF rfl];simp [asAddr,Result.andThen];exact form_none.1) rfl form_none.2
theorem schSensed_any (i:Int) (w:World):Calls Tryz.prog 276 #[.int .i64 i] w (FrmNew (sensedF i) w):=by
  by_cases h24:i=24
  · subst h24;exact schSensed_24 w
  by_cases h25:i=25
  · subst h25;exact schSensed_25 w
  by_cases h26:i=26
  · subst h26;exact schSensed_26 w
  by_cases h27:i=27
  · subst h27;exact schSensed_27 w
  by_cases h28:i=28
  · subst h28;exact schSensed_28 w
  by_cases h33:i=33
  · subst h33;exact schSensed_33 w
  rw [show sensedF i=noF from by unfold sensedF;rw [if_neg h24];rw [if_neg h25];rw [if_neg h26];rw [if_neg h27];rw [if_neg h28];rw [if_neg h33]]
  exact schSensed_none i w h24 h25 h26 h27 h28 h33
end Go.Proofs.YtaiepcgfofpmjaaGreat
