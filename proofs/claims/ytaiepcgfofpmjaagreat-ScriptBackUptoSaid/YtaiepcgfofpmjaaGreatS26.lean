/- Layer 31: the forms (own). Printed by gensch3.py. -/
import Derived.Test.YtaiepcgfofpmjaaGreatS25
namespace Go.Proofs.YtaiepcgfofpmjaaGreat
set_option linter.unusedVariables false
open Go.RowKit
set_option maxRecDepth 8000
set_option maxHeartbeats 1000000
theorem schOwn_200 (w:World):Calls Tryz.prog 278 #[.int .i64 200] w (FrmNew form200 w):=by
  go_enter Tryz.func278,Tryz.ntmps278
  go_upto_region 1 with fail
  have P0:=Lib.hid (Pk.start w)
  generalize w.alloc (.cells #[.string ⟨#[]⟩,.slice none 0 0] 371)=w0 at *
  go_wp2_with fail
  refine (pk_u32 n200_0 P0 rfl rfl (by decide)).mono ?_
  rintro e w1 ⟨A0,c0,rfl,P1⟩
  go_wp2_with fail
  refine (pk_i16 n200_1 P1 rfl rfl (by decide)).mono ?_
  rintro e w2 ⟨A1,c1,rfl,P2⟩
  go_wp2_with fail
  refine (pk_of form200 P2 rfl rfl (by kernel_rfl) (by kernel_rfl) rfl).mono ?_
  rintro e wf ⟨AF,cf,rfl,PF⟩
  obtain⟨r0,r1,z0,z1⟩:=PF.out.cells
  go_wp2_with fail
  exact bodyPost_ret (by rw [results_cF rfl];simp [asAddr,Result.andThen];exact PF.out.res _ _) rfl (PF.out.post _ _ rfl rfl)
theorem schOwn_201 (w:World):Calls Tryz.prog 278 #[.int .i64 201] w (FrmNew form201 w):=by
  go_enter Tryz.func278,Tryz.ntmps278
  go_upto_region 1 with fail
  have P0:=Lib.hid (Pk.start w)
  generalize w.alloc (.cells #[.string ⟨#[]⟩,.slice none 0 0] 371)=w0 at *
  go_wp2_with fail
  refine (pk_u32 n201_0 P0 rfl rfl (by decide)).mono ?_
  rintro e w1 ⟨A0,c0,rfl,P1⟩
  go_wp2_with fail
  refine (pk_i32 n201_1 P1 rfl rfl (by decide)).mono ?_
  rintro e w2 ⟨A1,c1,rfl,P2⟩
  go_wp2_with fail
  refine (pk_u32 n201_2 P2 rfl rfl (by decide)).mono ?_
  rintro e w3 ⟨A2,c2,rfl,P3⟩
  go_wp2_with fail
  refine (pk_u16 n201_3 P3 rfl rfl (by decide)).mono ?_
  rintro e w4 ⟨A3,c3,rfl,P4⟩
  go_wp2_with fail
  refine (pk_of form201 P4 rfl rfl (by kernel_rfl) (by kernel_rfl) rfl).mono ?_
  rintro e wf ⟨AF,cf,rfl,PF⟩
  obtain⟨r0,r1,z0,z1⟩:=PF.out.cells
  go_wp2_with fail
  exact bodyPost_ret (by rw [results_cF rfl];simp [asAddr,Result.andThen];exact PF.out.res _ _) rfl (PF.out.post _ _ rfl rfl)
theorem schOwn_202 (w:World):Calls Tryz.prog 278 #[.int .i64 202] w (FrmNew form202 w):=by
  go_enter Tryz.func278,Tryz.ntmps278
  go_upto_region 1 with fail
  have P0:=Lib.hid (Pk.start w)
  generalize w.alloc (.cells #[.string ⟨#[]⟩,.slice none 0 0] 371)=w0 at *
  go_wp2_with fail
  refine (pk_u32 n202_0 P0 rfl rfl (by decide)).mono ?_
  rintro e w1 ⟨A0,c0,rfl,P1⟩
  go_wp2_with fail
  refine (pk_u8 n202_1 P1 rfl rfl (by decide)).mono ?_
  rintro e w2 ⟨A1,c1,rfl,P2⟩
  go_wp2_with fail
  refine (pk_array 64 n202_2 P2 rfl rfl (by decide)).mono ?_
  rintro e w3 ⟨A2,c2,rfl,P3⟩
  go_wp2_with fail
  refine (pk_of form202 P3 rfl rfl (by kernel_rfl) (by kernel_rfl) rfl).mono ?_
  rintro e wf ⟨AF,cf,rfl,PF⟩
  obtain⟨r0,r1,z0,z1⟩:=PF.out.cells
  go_wp2_with fail
  exact bodyPost_ret (by rw [results_cF rfl];simp [asAddr,Result.andThen];exact PF.out.res _ _) rfl (PF.out.post _ _ rfl rfl)
theorem schOwn_none (i:Int) (w:World) (h200:¬ i=200) (h201:¬ i=201) (h202:¬ i=202):Calls Tryz.prog 278 #[.int .i64 i] w (FrmNew noF w):=by
  go_enter Tryz.func278,Tryz.ntmps278
  go_wp2_with fail
  exact bodyPost_ret (by rw [results_cF rfl];simp [asAddr,Result.andThen];exact form_none.1) rfl form_none.2
theorem schOwn_any (i:Int) (w:World):Calls Tryz.prog 278 #[.int .i64 i] w (FrmNew (ownF i) w):=by
  by_cases h200:i=200
  · subst h200;exact schOwn_200 w
  by_cases h201:i=201
  · subst h201;exact schOwn_201 w
  by_cases h202:i=202
  · subst h202;exact schOwn_202 w
  rw [show ownF i=noF from by unfold ownF;rw [if_neg h200];rw [if_neg h201];rw [if_neg h202]]
  exact schOwn_none i w h200 h201 h202
end Go.Proofs.YtaiepcgfofpmjaaGreat
