/- Layer 23: the reference's behind; the program's pointed. -/
import Derived.Test.YtpaejoikfnmdhaaDoorDec6
namespace Go.Proofs.YtpaejoikfnmdhaaDoor
set_option linter.unusedVariables false
open Go.RowKit

theorem digF_enough (f : Nat) : ∀ n l, n < 10 ^ f → l ≤ f → digF (f + 1) n l = digF f n l := by
  induction f with
  | zero =>
    intro n l h1 h2
    have : n < 1 := h1
    rw [show n = 0 from by omega, show l = 0 from by omega]
    rfl
  | succ f ih =>
    intro n l h1 h2
    by_cases h : 0 < n ∨ 0 < l
    · rw [digF_step (f + 1) n l h, digF_step f n l h, ih (n / 10) (l - 1) (by rw [Nat.pow_succ] at h1; omega) (by omega)]
    · rw [show n = 0 from by omega, show l = 0 from by omega, digF_stop, digF_stop]
theorem digL_step (n l : Nat) (hn : n ≤ 1000000000000000000) (hl : l ≤ 18) (h : 0 < n ∨ 0 < l) : digL n l = digL (n / 10) (l - 1) ++ [UInt8.ofNat (48 + n % 10)] := by
  unfold digL
  rw [digF_step 19 n l h, ← digF_enough 19 (n / 10) (l - 1) (by have : (10 : Nat) ^ 19 = 10000000000000000000 := by decide
                                                                omega) (by omega)]
theorem ofNat_48 (m : Nat) (h : m < 10) : UInt8.ofNat (48 + m) = 48 ↔ m = 0 := by
  constructor
  · intro k
    have := congrArg UInt8.toNat k
    simp at this
    omega
  · rintro rfl; rfl

/-- What stands behind the whole digits: a point and digits, without the noughts at their end. -/
def tailB (r f : Nat) : List UInt8 := if r = 0 then [] else Lib.trimRightB (46 :: digL r f) 48
theorem trim_down (r f : Nat) (hr : 0 < r) (h : r % 10 = 0) (hm : r ≤ 1000000000000000000) (hf : f ≤ 18) : Lib.trimRightB (46 :: digL r f) 48 = Lib.trimRightB (46 :: digL (r / 10) (f - 1)) 48 := by
  rw [digL_step r f hm hf (.inl hr), (ofNat_48 (r % 10) (by omega)).2 h, ← List.cons_append, trimR_eq]
theorem trim_stay (r f : Nat) (hr : 0 < r) (h : r % 10 ≠ 0) (hm : r ≤ 1000000000000000000) (hf : f ≤ 18) : Lib.trimRightB (46 :: digL r f) 48 = 46 :: digL r f := by
  rw [digL_step r f hm hf (.inl hr), ← List.cons_append, trimR_ne _ _ _ (fun k => h ((ofNat_48 (r % 10) (by omega)).1 k))]

set_option maxRecDepth 8000 in
set_option maxHeartbeats 2000000 in
theorem r23behind_any (r f : Nat) (w : World) (hm : r ≤ 1000000000000000000) (hf : f ≤ 18) (hrf : r < 10 ^ f) :
    Calls Tryd.prog 47 #[.int .i64 (r : Int), .int .i64 (f : Int)] w fun e w' => e = .returned (.string (toB (tailB r f))) ∧ Below w.heap.size w w' := by
  by_cases h0 : r = 0
  · subst h0
    have ht : tailB 0 f = [] := rfl
    rw [ht]
    clear hrf
    go_enter Tryd.func47, Tryd.ntmps47
    go_wp2
    go_ret
    exact ⟨rfl, Below.refl _ _⟩
  · have hr0 : 0 < (r : Int) := by omega
    have ht : Hid (tailB r f = Lib.trimRightB (46 :: digL r f) 48) := by show tailB r f = _; unfold tailB; rw [if_neg h0]
    have HRF := Lib.hid hrf
    clear hrf
    go_enter Tryd.func47, Tryd.ntmps47
    go_wp2
    go_loop [0, 1] (fun v u => ∃ r2 f2 : Nat, v = .int .i64 (r2 : Int) ∧ u = .int .i64 (f2 : Int) ∧ 0 < (r2 : Int) ∧ r2 ≤ 1000000000000000000 ∧ f2 ≤ 18 ∧ Hid (r2 < 10 ^ f2) ∧ Hid (tailB r f = Lib.trimRightB (46 :: digL r2 f2) 48)) (fun v _ => (intOf v).toNat)
    case atStart => exact ⟨r, f, rfl, rfl, hr0, hm, hf, HRF, ht⟩
    case round =>
      obtain ⟨r2, f2, rfl, rfl, k0, k1, k2, k3, k4⟩ := hrel
      by_cases h : r2 % 10 = 0
      · have hb : (((r2 : Int) % 10) == 0) = true := by rw [beq_iff_eq]; omega
        have k5 : Hid (r2 / 10 < 10 ^ (f2 - 1)) := by
          have h2 := k3.out
          show _ < _
          cases f2 with
          | zero => have : r2 < 1 := h2; omega
          | succ g => rw [Nat.pow_succ] at h2; rw [Nat.add_sub_cancel]; omega
        have k6 : Hid (tailB r f = Lib.trimRightB (46 :: digL (r2 / 10) (f2 - 1)) 48) := by
          show tailB r f = _
          rw [k4.out, trim_down r2 f2 (by omega) h k1 k2]
        have k7 : 1 ≤ f2 := by
          have h2 := k3.out
          rcases Nat.eq_zero_or_pos f2 with e | e
          · rw [e] at h2; have : r2 < 1 := h2; omega
          · exact e
        have k8 : 0 < (r2 : Int) / 10 := by omega
        clear h k3 k4
        go_wp2
        go_round
        case rel => exact ⟨r2 / 10, f2 - 1, by go_num, by go_num, by omega, by omega, by omega, k5, k6⟩
        case measure => simp [intOf]; omega
      · have hb : (((r2 : Int) % 10) == 0) = false := by rw [beq_eq_false_iff_ne]; omega
        have k6 : Hid (tailB r f = 46 :: digL r2 f2) := by
          show tailB r f = _
          rw [k4.out, trim_stay r2 f2 (by omega) h k1 k2]
        have k7 : Hid (toB (tailB r f) = ⟨#[46]⟩ ++ toB (digL r2 f2)) := by
          show _ = _
          rw [k6.out]
          exact (toB_append [46] _).symm
        have hsz : (toB (digL r2 f2)).size ≤ 20 := by rw [size_B]; exact digF_len 20 r2 f2
        have HD := fun W => Lib.hid (r23Digits_any r2 f2 W k1 k2)
        generalize toB (digL r2 f2) = S at *
        clear h k3 k4 k6
        go_wp2_with fail
        refine (HD _).out.mono ?_
        rintro e w1 ⟨rfl, hb1⟩
        go_wp2_with fail
        go_ret
        exact ⟨by rw [k7.out]; rfl, hb1⟩

/-- A number from 0 on, with a point. -/
def pointL (n whole f : Nat) : List UInt8 := digL (n / 10 ^ f) whole ++ tailB (n % 10 ^ f) f

set_option maxRecDepth 8000 in
set_option maxHeartbeats 2000000 in
theorem pointed_any (n whole f : Nat) (w : World) (hn : n ≤ 1000000000000000000) (hw : whole ≤ 18) (hf : f ≤ 17) :
    Calls Tryd.prog 44 #[.int .i64 (n : Int), .int .i64 (whole : Int), .int .i64 (f : Int)] w fun e w' => e = .returned (.string (toB (pointL n whole f))) ∧ Below w.heap.size w w' := by
  have hT := fun W => Lib.hid (ten_any f W (by omega))
  have t1 := tenI_pos f
  have t2 := tenI_le hf
  rw [tenI_17] at t2
  have hq : (n : Int) / tenI f = ((n / 10 ^ f : Nat) : Int) := by unfold tenI; rw [Int.natCast_ediv]
  have hr : (n : Int) % tenI f = ((n % 10 ^ f : Nat) : Int) := by unfold tenI; rw [Int.natCast_emod]
  have hq1 : n / 10 ^ f ≤ 1000000000000000000 := Nat.le_trans (Nat.div_le_self _ _) hn
  have hr1 : n % 10 ^ f ≤ 1000000000000000000 := Nat.le_trans (Nat.mod_le _ _) hn
  have HP : Hid (pointL n whole f = digL (n / 10 ^ f) whole ++ tailB (n % 10 ^ f) f) := rfl
  generalize n / 10 ^ f = q at *
  generalize n % 10 ^ f = r at *
  generalize tenI f = T at *
  have HD := fun W => Lib.hid (digits_any q whole W hq1 hw)
  have HD2 := fun W => Lib.hid (digits_any r f W hr1 (by omega))
  have hA : (toB (digL q whole)).size ≤ 20 := by rw [size_B]; exact digF_len 20 q whole
  have hB : (toB (digL r f)).size ≤ 20 := by rw [size_B]; exact digF_len 20 r f
  change ∀ W, Hid (Calls Tryd.prog 52 #[.int .i64 (q : Int), .int .i64 (whole : Int)] W fun e w' => e = .returned (.string (toB (digL q whole))) ∧ Below W.heap.size W w') at HD
  change ∀ W, Hid (Calls Tryd.prog 52 #[.int .i64 (r : Int), .int .i64 (f : Int)] W fun e w' => e = .returned (.string (toB (digL r f))) ∧ Below W.heap.size W w') at HD2
  by_cases h0 : r = 0
  · subst h0
    have HR : Hid (toB (pointL n whole f) = toB (digL q whole)) := by
      show _ = _
      rw [HP.out]
      show toB (digL q whole ++ []) = _
      rw [List.append_nil]
    clear HP HD2 hB hr1
    generalize toB (digL q whole) = A at *
    go_enter Tryd.func44, Tryd.ntmps44
    go_wp2_with fail
    refine (hT _).out.mono ?_
    rintro e w' ⟨rfl, rfl⟩
    go_wp2_with fail
    refine (HD _).out.mono ?_
    rintro e w1 ⟨rfl, hb1⟩
    go_wp2_with fail
    refine (hT _).out.mono ?_
    rintro e w' ⟨rfl, rfl⟩
    go_wp2_with fail
    go_ret
    exact ⟨by rw [HR.out]; rfl, hb1⟩
  · have hne : ((r : Int) != 0) = true := by rw [bne_iff_ne]; omega
    have hBl : (toB (digL r f)).data.toList = digL r f := toList_B _
    have hC : (⟨#[46]⟩ ++ toB (digL r f) : ByteArray).size ≤ 21 ∧ 0 < (⟨#[46]⟩ ++ toB (digL r f) : ByteArray).size := by
      have h1 : (ByteArray.mk #[46]).size = 1 := rfl
      rw [ByteArray.size_append]; omega
    have hl : (⟨#[46]⟩ ++ toB (digL r f) : ByteArray).data.toList = 46 :: digL r f := by
      show (toB [46] ++ toB (digL r f)).data.toList = _
      rw [toB_append, toList_B]; rfl
    have HTR := fun W => Lib.hid (trimRight_any (⟨#[46]⟩ ++ toB (digL r f)) W (by omega) hC.2)
    rw [hl] at HTR
    have ht : tailB r f = Lib.trimRightB (46 :: digL r f) 48 := by unfold tailB; rw [if_neg h0]
    rw [← ht] at HTR
    have hD : (toB (tailB r f)).size ≤ 21 := by
      rw [size_B, ht]
      have h1 : (digL r f).length ≤ 20 := digF_len 20 r f
      unfold Lib.trimRightB
      rw [List.length_reverse]
      have h2 := (List.dropWhile_suffix (fun x => x == (48 : UInt8)) (l := (46 :: digL r f).reverse)).length_le
      rw [List.length_reverse, List.length_cons] at h2
      omega
    have HR : Hid (toB (pointL n whole f) = toB (digL q whole) ++ toB (tailB r f)) := by
      show _ = _
      rw [HP.out, toB_append]
    clear HP hBl hl ht h0
    generalize toB (tailB r f) = D at *
    generalize toB (digL q whole) = A at *
    generalize toB (digL r f) = B at *
    go_enter Tryd.func44, Tryd.ntmps44
    go_wp2_with fail
    refine (hT _).out.mono ?_
    rintro e w' ⟨rfl, rfl⟩
    go_wp2_with fail
    refine (HD _).out.mono ?_
    rintro e w1 ⟨rfl, hb1⟩
    go_wp2_with fail
    refine (hT _).out.mono ?_
    rintro e w' ⟨rfl, rfl⟩
    go_wp2_with fail
    refine (HD2 _).out.mono ?_
    rintro e w2 ⟨rfl, hb2⟩
    go_wp2_with fail
    refine (HTR _).out.mono ?_
    rintro e w' ⟨rfl, rfl⟩
    go_wp2_with fail
    go_ret
    exact ⟨by rw [HR.out]; rfl, bthen hb1 hb2⟩

end Go.Proofs.YtpaejoikfnmdhaaDoor
