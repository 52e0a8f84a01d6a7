/- The law DecimNil, walked. -/
import Derived.Test.YtpaejoikfnmdhaaDoorLaw23d
import Derived.Test.YtpaejoikfnmdhaaDoorNil23b
namespace Go.Proofs.YtpaejoikfnmdhaaDoor
set_option linter.unusedVariables false
open Go.RowKit

theorem dead_new (w : World) : DeadP (.pointer (some ⟨w.heap.size, 0, none⟩)) (w.alloc (.cells #[.bool false, .int .i64 0, .slice none 0 0] 58)) :=
  .inr ⟨w.heap.size, rfl, by simp, by simp [World.cell?_alloc_at], by simp [World.cell?_alloc_at]⟩
theorem dead_new2 (w : World) : DeadP (.pointer (some ⟨w.heap.size, 0, none⟩)) (w.alloc (.cells #[.bool false, .int .i64 0, .slice none 0 0] 59)) :=
  .inr ⟨w.heap.size, rfl, by simp, by simp [World.cell?_alloc_at], by simp [World.cell?_alloc_at]⟩

set_option maxRecDepth 8000 in
set_option maxHeartbeats 4000000 in
theorem decimNil_any (b : Bool) (n W M F L H : Int) (w : World) :
    Calls Tryd.prog 6 #[numV b n, colV W M F L H] w fun e w' => e = .returned (.bool true) ∧ Below w.heap.size w w' := by
  have HK := fun W => Lib.hid (knows23_any W)
  have HS0 := Lib.hid (BackS.start w b n W M F L H)
  go_enter Tryd.func6, Tryd.ntmps6
  go_wp2
  go_loopw [5, 6, 7] (fun p r i wr => ∃ k : Nat, i = .int .i64 (k : Int) ∧ k ≤ 2 ∧ Hid (DeadP p wr) ∧ Hid (DeadP r wr) ∧ Hid (BackS w b n W M F L H wr)) (fun _ _ i _ => 2 - (intOf i).toNat)
  case atStart => exact ⟨0, rfl, by omega, .inl rfl, .inl rfl, HS0⟩
  case round =>
    obtain ⟨k, rfl, hk, hp, hr, hs⟩ := hrel
    by_cases hlt : k < 2
    · have hi : (k : Int) < 2 := by omega
      obtain ⟨k0, k1, k2, k3, k4, k5, k6, -, z0⟩ := hs.out
      have z0' : w.heap.size < wr.heap.size := by omega
      go_wp2_with fail
      refine ((PenNum_dead u5 b n W M F L H _ hp.out)).mono ?_
      rintro e w1 ⟨rfl, hb⟩
      have hs1 := Lib.hid (hs.out.step hb)
      have hp1 := Lib.hid (hp.out.keep hb)
      have hr1 := Lib.hid (hr.out.keep hb)
      clear hb hs hp hr k0 k1 k2 k3 k4 k5 k6 z0 z0'
      obtain ⟨k0, k1, k2, k3, k4, k5, k6, -, -⟩ := hs1.out
      go_wp2_with fail
      refine ((PenAngle_dead u5 b n true _ hp1.out)).mono ?_
      rintro e w2 ⟨rfl, hb⟩
      have hs := Lib.hid (hs1.out.step hb)
      have hp := Lib.hid (hp1.out.keep hb)
      have hr := Lib.hid (hr1.out.keep hb)
      clear hb hs1 hp1 hr1 k0 k1 k2 k3 k4 k5 k6
      go_wp2_with fail
      refine ((PenText_dead u5 ⟨#[97]⟩ 0 _ hp.out)).mono ?_
      rintro e w3 ⟨rfl, hb⟩
      have hs1 := Lib.hid (hs.out.step hb)
      have hp1 := Lib.hid (hp.out.keep hb)
      have hr1 := Lib.hid (hr.out.keep hb)
      clear hb hs hp hr
      go_wp2_with fail
      refine ((EyeFail_dead u6 4 _ hr1.out)).mono ?_
      rintro e w' ⟨rfl, rfl⟩
      go_wp2_with fail
      refine ((PenDone_dead u5 _ hp1.out)).mono ?_
      rintro e w' ⟨rfl, rfl⟩
      go_wp2_with fail
      refine (num23_any _ _).mono ?_
      rintro e w' ⟨rfl, rfl⟩
      go_wp2_with fail
      refine (num23_any _ _).mono ?_
      rintro e w' ⟨rfl, rfl⟩
      obtain ⟨k0, k1, k2, k3, k4, k5, k6, -, -⟩ := hs1.out
      go_wp2_with fail
      refine ((EyeNum_dead u6 W M F L H _ hr1.out)).mono ?_
      rintro e w4 ⟨rfl, hb⟩
      have hs := Lib.hid (hs1.out.step hb)
      have hp := Lib.hid (hp1.out.keep hb)
      have hr := Lib.hid (hr1.out.keep hb)
      clear hb hs1 hp1 hr1 k0 k1 k2 k3 k4 k5 k6
      go_wp2_with fail
      refine ((EyeAngle_dead u6 true _ hr.out)).mono ?_
      rintro e w5 ⟨rfl, hb⟩
      have hs1 := Lib.hid (hs.out.step hb)
      have hp1 := Lib.hid (hp.out.keep hb)
      have hr1 := Lib.hid (hr.out.keep hb)
      clear hb hs hp hr
      go_wp2_with fail
      refine ((EyeText_dead u6 _ hr1.out)).mono ?_
      rintro e w' ⟨rfl, rfl⟩
      go_wp2_with fail
      refine ((EyeLeft_dead u6 _ hr1.out)).mono ?_
      rintro e w' ⟨rfl, rfl⟩
      go_wp2_with fail
      refine ((EyeErr_dead u6 _ hr1.out)).mono ?_
      rintro e w' ⟨rfl, rfl⟩
      go_wp2_with fail
      refine (num23_any _ _).mono ?_
      rintro e w' ⟨rfl, rfl⟩
      go_wp2_with fail
      refine (num23_any _ _).mono ?_
      rintro e w' ⟨rfl, rfl⟩
      go_wp2_with fail
      go_roundw
      case rel => exact ⟨k + 1, by go_num, by omega, Lib.hid ((dead_new w5).keep (below_new _ _)), Lib.hid (by have := dead_new2 (w5.alloc (.cells #[.bool false, .int .i64 0, .slice none 0 0] 58)); simpa using this), Lib.hid ((hs1.out.step (below_new _ _)).step (below_new _ _))⟩
      case measure => simp [intOf]; omega
    · obtain rfl : k = 2 := by omega
      go_wp2_with fail
      refine ((HK _).out).mono ?_
      rintro e w1 ⟨rfl, hb⟩
      go_wp2_with fail
      go_ret
      exact ⟨rfl, bthen hs.out.2.2.2.2.2.2.2.1.out hb⟩

end Go.Proofs.YtpaejoikfnmdhaaDoor
