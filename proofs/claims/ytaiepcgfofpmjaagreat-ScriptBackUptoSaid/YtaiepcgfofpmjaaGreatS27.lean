/- Layer 31: the forms (state). Printed by gensch3.py. -/
import Derived.Test.YtaiepcgfofpmjaaGreatS25
namespace Go.Proofs.YtaiepcgfofpmjaaGreat
set_option linter.unusedVariables false
open Go.RowKit
set_option maxRecDepth 8000
set_option maxHeartbeats 1000000
theorem schState_0 (w:World):Calls Tryz.prog 275 #[.int .i64 0] w (FrmNew form0 w):=by
  go_enter Tryz.func275,Tryz.ntmps275
  go_upto_region 1 with fail
  have P0:=Lib.hid (Pk.start w)
  generalize w.alloc (.cells #[.string ⟨#[]⟩,.slice none 0 0] 371)=w0 at *
  go_wp2_with fail
  refine (pk_u8 n0_0 P0 rfl rfl (by decide)).mono ?_
  rintro e w1 ⟨A0,c0,rfl,P1⟩
  go_wp2_with fail
  refine (pk_u32 n0_1 P1 rfl rfl (by decide)).mono ?_
  rintro e w2 ⟨A1,c1,rfl,P2⟩
  go_wp2_with fail
  refine (pk_u8 n0_2 P2 rfl rfl (by decide)).mono ?_
  rintro e w3 ⟨A2,c2,rfl,P3⟩
  go_wp2_with fail
  refine (pk_of form0 P3 rfl rfl (by kernel_rfl) (by kernel_rfl) rfl).mono ?_
  rintro e wf ⟨AF,cf,rfl,PF⟩
  obtain⟨r0,r1,z0,z1⟩:=PF.out.cells
  go_wp2_with fail
  exact bodyPost_ret (by rw [results_cF rfl];simp [asAddr,Result.andThen];exact PF.out.res _ _) rfl (PF.out.post _ _ rfl rfl)
theorem schState_1 (w:World):Calls Tryz.prog 275 #[.int .i64 1] w (FrmNew form1 w):=by
  go_enter Tryz.func275,Tryz.ntmps275
  go_upto_region 1 with fail
  have P0:=Lib.hid (Pk.start w)
  generalize w.alloc (.cells #[.string ⟨#[]⟩,.slice none 0 0] 371)=w0 at *
  go_wp2_with fail
  refine (pk_u32 n1_0 P0 rfl rfl (by decide)).mono ?_
  rintro e w1 ⟨A0,c0,rfl,P1⟩
  go_wp2_with fail
  refine (pk_u16 n1_1 P1 rfl rfl (by decide)).mono ?_
  rintro e w2 ⟨A1,c1,rfl,P2⟩
  go_wp2_with fail
  refine (pk_i16 n1_2 P2 rfl rfl (by decide)).mono ?_
  rintro e w3 ⟨A2,c2,rfl,P3⟩
  go_wp2_with fail
  refine (pk_i8 n1_3 P3 rfl rfl (by decide)).mono ?_
  rintro e w4 ⟨A3,c3,rfl,P4⟩
  go_wp2_with fail
  refine (pk_u16 n1_4 P4 rfl rfl (by decide)).mono ?_
  rintro e w5 ⟨A4,c4,rfl,P5⟩
  go_wp2_with fail
  refine (pk_of form1 P5 rfl rfl (by kernel_rfl) (by kernel_rfl) rfl).mono ?_
  rintro e wf ⟨AF,cf,rfl,PF⟩
  obtain⟨r0,r1,z0,z1⟩:=PF.out.cells
  go_wp2_with fail
  exact bodyPost_ret (by rw [results_cF rfl];simp [asAddr,Result.andThen];exact PF.out.res _ _) rfl (PF.out.post _ _ rfl rfl)
theorem schState_2 (w:World):Calls Tryz.prog 275 #[.int .i64 2] w (FrmNew form2 w):=by
  go_enter Tryz.func275,Tryz.ntmps275
  go_upto_region 1 with fail
  have P0:=Lib.hid (Pk.start w)
  generalize w.alloc (.cells #[.string ⟨#[]⟩,.slice none 0 0] 371)=w0 at *
  go_wp2_with fail
  refine (pk_u64 n2_0 P0 rfl rfl (by decide)).mono ?_
  rintro e w1 ⟨A0,c0,rfl,P1⟩
  go_wp2_with fail
  refine (pk_u32 n2_1 P1 rfl rfl (by decide)).mono ?_
  rintro e w2 ⟨A1,c1,rfl,P2⟩
  go_wp2_with fail
  refine (pk_of form2 P2 rfl rfl (by kernel_rfl) (by kernel_rfl) rfl).mono ?_
  rintro e wf ⟨AF,cf,rfl,PF⟩
  obtain⟨r0,r1,z0,z1⟩:=PF.out.cells
  go_wp2_with fail
  exact bodyPost_ret (by rw [results_cF rfl];simp [asAddr,Result.andThen];exact PF.out.res _ _) rfl (PF.out.post _ _ rfl rfl)
theorem schState_4 (w:World):Calls Tryz.prog 275 #[.int .i64 4] w (FrmNew form4 w):=by
  go_enter Tryz.func275,Tryz.ntmps275
  go_upto_region 1 with fail
  have P0:=Lib.hid (Pk.start w)
  generalize w.alloc (.cells #[.string ⟨#[]⟩,.slice none 0 0] 371)=w0 at *
  go_wp2_with fail
  refine (pk_u64 n4_0 P0 rfl rfl (by decide)).mono ?_
  rintro e w1 ⟨A0,c0,rfl,P1⟩
  go_wp2_with fail
  refine (pk_u32 n4_1 P1 rfl rfl (by decide)).mono ?_
  rintro e w2 ⟨A1,c1,rfl,P2⟩
  go_wp2_with fail
  refine (pk_u8 n4_2 P2 rfl rfl (by decide)).mono ?_
  rintro e w3 ⟨A2,c2,rfl,P3⟩
  go_wp2_with fail
  refine (pk_of form4 P3 rfl rfl (by kernel_rfl) (by kernel_rfl) rfl).mono ?_
  rintro e wf ⟨AF,cf,rfl,PF⟩
  obtain⟨r0,r1,z0,z1⟩:=PF.out.cells
  go_wp2_with fail
  exact bodyPost_ret (by rw [results_cF rfl];simp [asAddr,Result.andThen];exact PF.out.res _ _) rfl (PF.out.post _ _ rfl rfl)
theorem schState_111 (w:World):Calls Tryz.prog 275 #[.int .i64 111] w (FrmNew form111 w):=by
  go_enter Tryz.func275,Tryz.ntmps275
  go_upto_region 1 with fail
  have P0:=Lib.hid (Pk.start w)
  generalize w.alloc (.cells #[.string ⟨#[]⟩,.slice none 0 0] 371)=w0 at *
  go_wp2_with fail
  refine (pk_i64 n111_0 P0 rfl rfl (by decide)).mono ?_
  rintro e w1 ⟨A0,c0,rfl,P1⟩
  go_wp2_with fail
  refine (pk_of form111 P1 rfl rfl (by kernel_rfl) (by kernel_rfl) rfl).mono ?_
  rintro e wf ⟨AF,cf,rfl,PF⟩
  obtain⟨r0,r1,z0,z1⟩:=PF.out.cells
  go_wp2_with fail
  exact bodyPost_ret (by rw [results_cF rfl];simp [asAddr,Result.andThen];exact PF.out.res _ _) rfl (PF.out.post _ _ rfl rfl)
theorem schState_125 (w:World):Calls Tryz.prog 275 #[.int .i64 125] w (FrmNew form125 w):=by
  go_enter Tryz.func275,Tryz.ntmps275
  go_upto_region 1 with fail
  have P0:=Lib.hid (Pk.start w)
  generalize w.alloc (.cells #[.string ⟨#[]⟩,.slice none 0 0] 371)=w0 at *
  go_wp2_with fail
  refine (pk_u16 n125_0 P0 rfl rfl (by decide)).mono ?_
  rintro e w1 ⟨A0,c0,rfl,P1⟩
  go_wp2_with fail
  refine (pk_of form125 P1 rfl rfl (by kernel_rfl) (by kernel_rfl) rfl).mono ?_
  rintro e wf ⟨AF,cf,rfl,PF⟩
  obtain⟨r0,r1,z0,z1⟩:=PF.out.cells
  go_wp2_with fail
  exact bodyPost_ret (by rw [results_cF rfl];simp [asAddr,Result.andThen];exact PF.out.res _ _) rfl (PF.out.post _ _ rfl rfl)
theorem schState_none (i:Int) (w:World) (h0:¬ i=0) (h1:¬ i=1) (h2:¬ i=2) (h4:¬ i=4) (h111:¬ i=111) (h125:¬ i=125):Calls Tryz.prog 275 #[.int .i64 i] w (FrmNew noF w):=by
  go_enter Tryz.func275,Tryz.ntmps275
  go_wp2_with fail
  exact bodyPost_ret (by rw [results_cF rfl];simp [asAddr,Result.andThen];exact form_none.1) rfl form_none.2
theorem schState_any (i:Int) (w:World):Calls Tryz.prog 275 #[.int .i64 i] w (FrmNew (stateF i) w):=by
  by_cases h0:i=0
  · subst h0;exact schState_0 w
  by_cases h1:i=1
  · subst h1;exact schState_1 w
  by_cases h2:i=2
  · subst h2;exact schState_2 w
  by_cases h4:i=4
  · subst h4;exact schState_4 w
  by_cases h111:i=111
  · subst h111;exact schState_111 w
  by_cases h125:i=125
  · subst h125;exact schState_125 w
  rw [show stateF i=noF from by unfold stateF;rw [if_neg h0];rw [if_neg h1];rw [if_neg h2];rw [if_neg h4];rw [if_neg h111];rw [if_neg h125]]
  exact schState_none i w h0 h1 h2 h4 h111 h125
end Go.Proofs.YtaiepcgfofpmjaaGreat
