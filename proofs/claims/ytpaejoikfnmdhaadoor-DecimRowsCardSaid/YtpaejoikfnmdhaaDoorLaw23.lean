/- The laws of layer 23: num, knows. -/
import Derived.Test.YtpaejoikfnmdhaaDoorDec26
namespace Go.Proofs.YtpaejoikfnmdhaaDoor
set_option linter.unusedVariables false
open Go.RowKit

theorem num23_any (n : Int) (w : World) : Calls Tryd.prog 13 #[.int .i64 n] w fun e w' => e = .returned (.int .i64 n) ∧ w = w' := by
  go_enter Tryd.func13, Tryd.ntmps13
  go_wp2
  go_ret
  exact ⟨rfl, rfl⟩

theorem knows_put : putN true (-5) 1 3 2 (-99) 99 = (⟨#[45, 48, 46, 48, 53]⟩, 0) := by decide +kernel
theorem knows_ang : angN true 288423000 true = (⟨#[52, 56, 48, 52, 46, 50, 51]⟩, ⟨#[78]⟩, 0) := by decide +kernel

set_option maxRecDepth 8000 in
set_option maxHeartbeats 2000000 in
theorem knows23_any (w : World) : Calls Tryd.prog 8 #[] w fun e w' => e = .returned (.bool true) ∧ Below w.heap.size w w' := by
  have HP := fun W => Lib.hid (Put23_any true (-5) 1 3 2 (-99) 99 W)
  rw [knows_put] at HP
  have HA := fun W => Lib.hid (Angle23_any true 288423000 true W)
  rw [knows_ang] at HA
  go_enter Tryd.func8, Tryd.ntmps8
  go_wp2_with fail
  refine ((HP _).out).mono ?_
  rintro e w1 ⟨rfl, hb1⟩
  go_wp2_with fail
  refine ((HA _).out).mono ?_
  rintro e w2 ⟨rfl, hb2⟩
  go_wp2_with fail
  refine (num23_any _ _).mono ?_
  rintro e w' ⟨rfl, rfl⟩
  go_wp2_with fail
  refine (num23_any _ _).mono ?_
  rintro e w' ⟨rfl, rfl⟩
  go_wp2_with fail
  go_ret
  exact ⟨rfl, bthen hb1 hb2⟩

end Go.Proofs.YtpaejoikfnmdhaaDoor
