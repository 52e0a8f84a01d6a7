/- Layer 23: the reference's Angle. -/
import Derived.Test.YtpaejoikfnmdhaaDoorDec21
import Derived.Deep.QuietTactic
namespace Go.Proofs.YtpaejoikfnmdhaaDoor
set_option linter.unusedVariables false
open Go.RowKit

set_option maxRecDepth 8000 in
set_option maxHeartbeats 2000000 in
theorem r23Angle_far (n : Int) (lat : Bool) (w : World) (h : farI lat < n ∨ n ≤ farI lat ∧ n < -farI lat) :
    Calls Tryd.prog 18 #[numV true n, .bool lat] w fun e w' => e = .returned (.tuple #[.string ByteArray.empty, .string ByteArray.empty, .int .i64 5]) ∧ Below w.heap.size w w' := by
  have HK := fun W' => Lib.hid (r23Far_any lat W')
  have k1 : IntKind.i64.wrap (-1080000000) = -1080000000 := IntWalk.i64_in _ (by decide)
  have k2 : IntKind.i64.wrap (-540000000) = -540000000 := IntWalk.i64_in _ (by decide)
  cases lat
  all_goals
    unfold farI at h HK
    simp [-Int.neg_le_neg_iff] at h HK
    rcases h with h | ⟨h, h'⟩
  all_goals
    go_enter Tryd.func18, Tryd.ntmps18
    go_wp2_with fail
    go_quiet ((go_at_call 53; exact quiet_eq (HK _).out))
    go_wp2_with fail
    try simp only [Exit.inBlock, Exit.then]
    refine bodyPost_ret (results3 rfl _ _ _) rfl ?_
    exact ⟨rfl, bdrewN (below_new w _) _⟩

set_option maxRecDepth 8000 in
set_option maxHeartbeats 2000000 in
theorem r23Angle_bad (n : Int) (lat : Bool) (w : World) (h : (n != 0) = true) :
    Calls Tryd.prog 18 #[numV false n, .bool lat] w fun e w' => e = .returned (.tuple #[.string ByteArray.empty, .string ByteArray.empty, .int .i64 5]) ∧ Below w.heap.size w w' := by
  have HK := fun W' => Lib.hid (r23Far_any lat W')
  have k1 : IntKind.i64.wrap (-1080000000) = -1080000000 := IntWalk.i64_in _ (by decide)
  have k2 : IntKind.i64.wrap (-540000000) = -540000000 := IntWalk.i64_in _ (by decide)
  go_enter Tryd.func18, Tryd.ntmps18
  go_wp2_with fail
  go_quiet ((go_at_call 53; exact quiet_eq (HK _).out))
  go_wp2_with fail
  try simp only [Exit.inBlock, Exit.then]
  refine bodyPost_ret (results3 rfl _ _ _) rfl ?_
  exact ⟨rfl, bdrewN (below_new w _) _⟩

set_option maxRecDepth 8000 in
set_option maxHeartbeats 2000000 in
theorem r23Angle_none (lat : Bool) (w : World) :
    Calls Tryd.prog 18 #[numV false 0, .bool lat] w fun e w' => e = .returned (.tuple #[.string ByteArray.empty, .string ByteArray.empty, .int .i64 0]) ∧ Below w.heap.size w w' := by
  have HK := fun W' => Lib.hid (r23Far_any lat W')
  have k1 : IntKind.i64.wrap (-1080000000) = -1080000000 := IntWalk.i64_in _ (by decide)
  have k2 : IntKind.i64.wrap (-540000000) = -540000000 := IntWalk.i64_in _ (by decide)
  go_enter Tryd.func18, Tryd.ntmps18
  go_wp2_with fail
  go_quiet ((go_at_call 53; exact quiet_eq (HK _).out))
  go_wp2_with fail
  try simp only [Exit.inBlock, Exit.then]
  refine bodyPost_ret (results3 rfl _ _ _) rfl ?_
  exact ⟨rfl, bdrewN (below_new w _) _⟩

set_option maxRecDepth 8000 in
set_option maxHeartbeats 2000000 in
theorem r23Angle_pos (x : Nat) (lat : Bool) (w : World) (h : (x : Int) ≤ farI lat) :
    Calls Tryd.prog 18 #[numV true x, .bool lat] w fun e w' => e = .returned (.tuple #[.string (toB (angL x lat)), .string (sideB lat false), .int .i64 0]) ∧ Below w.heap.size w w' := by
  have hx2 : (x : Int) ≤ 1080000000 := by unfold farI at h; split at h <;> omega
  have hx0 : (0 : Int) ≤ (x : Int) := by omega
  have HK := fun W' => Lib.hid (r23Far_any lat W')
  have k1 : IntKind.i64.wrap (-1080000000) = -1080000000 := IntWalk.i64_in _ (by decide)
  have k2 : IntKind.i64.wrap (-540000000) = -540000000 := IntWalk.i64_in _ (by decide)
  have HW := fun W' => Lib.hid (r23sides_any lat W')
  have HD := fun W' => Lib.hid (r23Digits_any (x / 6000000) (wideN lat) W' (by omega) (by unfold wideN; split <;> omega))
  have HM := fun W' => Lib.hid (r23Digits_any (x % 6000000 / 100000) 2 W' (by omega) (by omega))
  have HP := fun W' => Lib.hid (r23behind_any (x % 6000000 % 100000) 5 W' (by omega) (by omega) (by omega))
  have e1 : ((x / 6000000 : Nat) : Int) = (x : Int) / 6000000 := by omega
  have e2 : ((x % 6000000 / 100000 : Nat) : Int) = (x : Int) % 6000000 / 100000 := by omega
  have e3 : ((x % 6000000 % 100000 : Nat) : Int) = (x : Int) % 100000 := by omega
  rw [e1] at HD
  rw [e2] at HM
  rw [e3] at HP
  have HR : Hid (toB (angL x lat) = toB (digL (x / 6000000) (wideN lat)) ++ toB (digL (x % 6000000 / 100000) 2) ++ toB (tailB (x % 6000000 % 100000) 5)) := by
    show _ = _
    rw [toB_append, toB_append, List.append_assoc]
    rfl
  have hA : (toB (digL (x / 6000000) (wideN lat))).size ≤ 20 := by rw [size_B]; exact digF_len 20 _ _
  have hA2 : (toB (digL (x % 6000000 / 100000) 2)).size ≤ 20 := by rw [size_B]; exact digF_len 20 _ _
  have hB : (toB (tailB (x % 6000000 % 100000) 5)).size ≤ 41 := by
    rw [size_B]
    have h2 := pointL_len (x % 6000000 % 100000) 2 5
    unfold pointL at h2
    rw [show (10 : Nat) ^ 5 = 100000 from by decide, Nat.mod_mod, List.length_append] at h2
    omega
  clear e1 e2 e3
  generalize toB (digL (x / 6000000) (wideN lat)) = A at *
  generalize toB (digL (x % 6000000 / 100000) 2) = A2 at *
  generalize toB (tailB (x % 6000000 % 100000) 5) = B at *
  generalize toB (angL x lat) = R at *
  have hS : (sidesB lat).size = 2 := by cases lat <;> rfl
  have HS := Lib.hid (sideB_false lat)
  generalize sidesB lat = S at *
  generalize sideB lat false = Y at *
  generalize (x : Int) = n at *
  cases lat
  all_goals
    unfold farI at h HK
    simp [-Int.neg_le_neg_iff] at h HK
    go_enter Tryd.func18, Tryd.ntmps18
    go_wp2_with fail
    go_quiet ((go_at_call 53; exact quiet_eq (HK _).out))
    go_wp2_with fail
    refine (HW _).out.mono ?_
    rintro e w' ⟨rfl, rfl⟩
    go_wp2_with fail
    refine ((HD _).out).mono ?_
    rintro e w2 ⟨rfl, hb2⟩
    replace hb2 := undrewN hb2
    go_wp2_with fail
    refine ((HM _).out).mono ?_
    rintro e w3 ⟨rfl, hb3⟩
    go_wp2_with fail
    refine ((HP _).out).mono ?_
    rintro e w4 ⟨rfl, hb4⟩
    go_wp2_with fail
    try simp only [Exit.inBlock, Exit.then]
    refine bodyPost_ret (results3 rfl _ _ _) rfl ?_
    exact ⟨by rw [HR.out, ← HS.out]; rfl, bthen (bthen (bthen (below_new w _) hb2) hb3) hb4⟩

set_option maxRecDepth 8000 in
set_option maxHeartbeats 2000000 in
theorem r23Angle_neg (x : Nat) (hp : 0 < x) (lat : Bool) (w : World) (h : -farI lat ≤ -(x : Int)) :
    Calls Tryd.prog 18 #[numV true (-(x : Int)), .bool lat] w fun e w' => e = .returned (.tuple #[.string (toB (angL x lat)), .string (sideB lat true), .int .i64 0]) ∧ Below w.heap.size w w' := by
  have hx2 : (x : Int) ≤ 1080000000 := by unfold farI at h; split at h <;> omega
  have hx0 : (0 : Int) < (x : Int) := by omega
  have HK := fun W' => Lib.hid (r23Far_any lat W')
  have k1 : IntKind.i64.wrap (-1080000000) = -1080000000 := IntWalk.i64_in _ (by decide)
  have k2 : IntKind.i64.wrap (-540000000) = -540000000 := IntWalk.i64_in _ (by decide)
  have HW := fun W' => Lib.hid (r23sides_any lat W')
  have HD := fun W' => Lib.hid (r23Digits_any (x / 6000000) (wideN lat) W' (by omega) (by unfold wideN; split <;> omega))
  have HM := fun W' => Lib.hid (r23Digits_any (x % 6000000 / 100000) 2 W' (by omega) (by omega))
  have HP := fun W' => Lib.hid (r23behind_any (x % 6000000 % 100000) 5 W' (by omega) (by omega) (by omega))
  have e1 : ((x / 6000000 : Nat) : Int) = (x : Int) / 6000000 := by omega
  have e2 : ((x % 6000000 / 100000 : Nat) : Int) = (x : Int) % 6000000 / 100000 := by omega
  have e3 : ((x % 6000000 % 100000 : Nat) : Int) = (x : Int) % 100000 := by omega
  rw [e1] at HD
  rw [e2] at HM
  rw [e3] at HP
  have HR : Hid (toB (angL x lat) = toB (digL (x / 6000000) (wideN lat)) ++ toB (digL (x % 6000000 / 100000) 2) ++ toB (tailB (x % 6000000 % 100000) 5)) := by
    show _ = _
    rw [toB_append, toB_append, List.append_assoc]
    rfl
  have hA : (toB (digL (x / 6000000) (wideN lat))).size ≤ 20 := by rw [size_B]; exact digF_len 20 _ _
  have hA2 : (toB (digL (x % 6000000 / 100000) 2)).size ≤ 20 := by rw [size_B]; exact digF_len 20 _ _
  have hB : (toB (tailB (x % 6000000 % 100000) 5)).size ≤ 41 := by
    rw [size_B]
    have h2 := pointL_len (x % 6000000 % 100000) 2 5
    unfold pointL at h2
    rw [show (10 : Nat) ^ 5 = 100000 from by decide, Nat.mod_mod, List.length_append] at h2
    omega
  clear e1 e2 e3
  generalize toB (digL (x / 6000000) (wideN lat)) = A at *
  generalize toB (digL (x % 6000000 / 100000) 2) = A2 at *
  generalize toB (tailB (x % 6000000 % 100000) 5) = B at *
  generalize toB (angL x lat) = R at *
  have hS : (sidesB lat).size = 2 := by cases lat <;> rfl
  have HS := Lib.hid (sideB_true lat)
  generalize sidesB lat = S at *
  generalize sideB lat true = Y at *
  generalize (x : Int) = n at *
  cases lat
  · unfold farI at h HK
    simp [-Int.neg_le_neg_iff] at h HK
    have j0 : -n < 0 := by omega
    have j3 : n ≤ 1080000000 := by omega
    have j1 : -n ≤ 1080000000 := by omega
    have j2 : -1080000000 ≤ -n := by omega
    clear h
    go_enter Tryd.func18, Tryd.ntmps18
    go_wp2_with fail
    go_quiet ((go_at_call 53; exact quiet_eq (HK _).out))
    go_wp2_with fail
    refine (HW _).out.mono ?_
    rintro e w' ⟨rfl, rfl⟩
    go_wp2_with fail
    refine ((HW _).out).mono ?_
    rintro e w' ⟨rfl, rfl⟩
    go_wp2_with fail
    refine ((HD _).out).mono ?_
    rintro e w2 ⟨rfl, hb2⟩
    replace hb2 := undrewN hb2
    go_wp2_with fail
    refine ((HM _).out).mono ?_
    rintro e w3 ⟨rfl, hb3⟩
    go_wp2_with fail
    refine ((HP _).out).mono ?_
    rintro e w4 ⟨rfl, hb4⟩
    go_wp2_with fail
    try simp only [Exit.inBlock, Exit.then]
    refine bodyPost_ret (results3 rfl _ _ _) rfl ?_
    exact ⟨by rw [HR.out, ← HS.out]; rfl, bthen (bthen (bthen (below_new w _) hb2) hb3) hb4⟩
  · unfold farI at h HK
    simp [-Int.neg_le_neg_iff] at h HK
    have j0 : -n < 0 := by omega
    have j3 : n ≤ 1080000000 := by omega
    have j1 : -n ≤ 540000000 := by omega
    have j2 : -540000000 ≤ -n := by omega
    clear h
    go_enter Tryd.func18, Tryd.ntmps18
    go_wp2_with fail
    go_quiet ((go_at_call 53; exact quiet_eq (HK _).out))
    go_wp2_with fail
    refine (HW _).out.mono ?_
    rintro e w' ⟨rfl, rfl⟩
    go_wp2_with fail
    refine ((HW _).out).mono ?_
    rintro e w' ⟨rfl, rfl⟩
    go_wp2_with fail
    refine ((HD _).out).mono ?_
    rintro e w2 ⟨rfl, hb2⟩
    replace hb2 := undrewN hb2
    go_wp2_with fail
    refine ((HM _).out).mono ?_
    rintro e w3 ⟨rfl, hb3⟩
    go_wp2_with fail
    refine ((HP _).out).mono ?_
    rintro e w4 ⟨rfl, hb4⟩
    go_wp2_with fail
    try simp only [Exit.inBlock, Exit.then]
    refine bodyPost_ret (results3 rfl _ _ _) rfl ?_
    exact ⟨by rw [HR.out, ← HS.out]; rfl, bthen (bthen (bthen (below_new w _) hb2) hb3) hb4⟩

theorem r23Angle_any (b : Bool) (n : Int) (lat : Bool) (w : World) :
    Calls Tryd.prog 18 #[numV b n, .bool lat] w fun e w' => e = .returned (.tuple #[.string (angN b n lat).1, .string (angN b n lat).2.1, .int .i64 (angN b n lat).2.2]) ∧ Below w.heap.size w w' := by
  unfold angN
  cases h : fitsB b n (-farI lat) (farI lat) with
  | false =>
    rw [if_pos rfl]
    cases b with
    | false =>
      unfold fitsB at h
      rw [if_neg (by decide)] at h
      exact r23Angle_bad n lat w (by rw [bne_iff_ne]; exact of_decide_eq_false h)
    | true =>
      have hf : 0 ≤ farI lat := by unfold farI; split <;> decide
      exact r23Angle_far n lat w (by rcases fitsB_false h with h | h <;> omega)
  | true =>
    rw [if_neg (by decide)]
    cases b with
    | false =>
      rw [if_pos rfl]
      have : n = 0 := by unfold fitsB at h; rw [if_neg (by decide)] at h; exact of_decide_eq_true h
      subst this
      exact r23Angle_none lat w
    | true =>
      rw [if_neg (by decide)]
      by_cases hn : n < 0
      · rw [if_pos hn]
        obtain ⟨k, hk⟩ := Int.eq_ofNat_of_zero_le (show 0 ≤ -n by omega)
        obtain rfl : n = -(k : Int) := by omega
        rw [show (-(-(k : Int))).toNat = k from by omega]
        exact r23Angle_neg k (by omega) lat w (fitsB_true h).1
      · rw [if_neg hn]
        obtain ⟨k, rfl⟩ := Int.eq_ofNat_of_zero_le (show 0 ≤ n by omega)
        exact r23Angle_pos k lat w (fitsB_true h).2

end Go.Proofs.YtpaejoikfnmdhaaDoor
