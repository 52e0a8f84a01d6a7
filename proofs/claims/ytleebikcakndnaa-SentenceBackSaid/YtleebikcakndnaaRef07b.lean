/- Contracts of the reference of layer 7: Unhex, Seal. -/
import Derived.Test.YtleebikcakndnaaRef07
namespace Go.Proofs.Ytleebikcakndnaa
set_option linter.unusedVariables false
open Go.RowKit

theorem digI_yes (c : Int) (h : isR c = true) : digI c = valR c := by unfold digI; rw [if_pos h]
theorem digI_no (c : Int) (h : isR c = false) : digI c = -1 := by unfold digI; rw [if_neg (by rw [h]; decide)]

set_option maxHeartbeats 400000 in
theorem r07Unhex_core (s : ByteArray) (w : World) (a b : Int) (hs0 : 2 ≤ s.size) (hs1 : s.size ≤ 2)
    (d0 : Hid (digI ((s[0]'(by omega)).toNat : Int) = a)) (d1 : Hid (digI ((s[1]'(by omega)).toNat : Int) = b)) (a1 : -1 ≤ a) (a2 : a < 16) (b1 : -1 ≤ b) (b2 : b < 16)
    (R : Value) (hR : Hid ((0 ≤ a → 0 ≤ b → R = .tuple #[.int .u8 (16 * a + b), .bool true]) ∧ (a < 0 ∨ b < 0 → R = .tuple #[.int .u8 0, .bool false]))) :
    Calls Try.prog 30 #[.string s] w fun e w' => e = .returned R ∧ w = w' := by
  have hb : ((s.size : Int) != 2) = false := by rw [bne_eq_false_iff_eq]; omega
  have u0 : ((s[0]'(by omega)).toNat : Int) ≤ 255 := by have := (s[0]'(by omega)).toNat_lt; omega
  have u1 : ((s[1]'(by omega)).toNat : Int) ≤ 255 := by have := (s[1]'(by omega)).toNat_lt; omega
  by_cases ha : a < 0
  · go_enter Try.func30, Try.ntmps30
    go_wp2_with fail
    refine (r07Digit_any _ _ (by omega) u0).mono ?_
    rintro e w' ⟨rfl, rfl⟩
    rw [d0.out]
    go_wp2_with fail
    refine (r07Digit_any _ _ (by omega) u1).mono ?_
    rintro e w' ⟨rfl, rfl⟩
    rw [d1.out]
    go_wp2_with fail
    go_ret2
    exact ⟨by rw [hR.out.2 (.inl ha)]; rfl, rfl⟩
  · by_cases hb0 : b < 0
    · go_enter Try.func30, Try.ntmps30
      go_wp2_with fail
      refine (r07Digit_any _ _ (by omega) u0).mono ?_
      rintro e w' ⟨rfl, rfl⟩
      rw [d0.out]
      go_wp2_with fail
      refine (r07Digit_any _ _ (by omega) u1).mono ?_
      rintro e w' ⟨rfl, rfl⟩
      rw [d1.out]
      go_wp2_with fail
      go_ret2
      exact ⟨by rw [hR.out.2 (.inr hb0)]; rfl, rfl⟩
    · go_enter Try.func30, Try.ntmps30
      go_wp2_with fail
      refine (r07Digit_any _ _ (by omega) u0).mono ?_
      rintro e w' ⟨rfl, rfl⟩
      rw [d0.out]
      go_wp2_with fail
      refine (r07Digit_any _ _ (by omega) u1).mono ?_
      rintro e w' ⟨rfl, rfl⟩
      rw [d1.out]
      go_wp2_with fail
      go_ret2
      exact ⟨by rw [hR.out.1 (by omega) (by omega)]; rfl, rfl⟩

theorem digI_bd (c : Int) : -1 ≤ digI c ∧ digI c < 16 := by
  cases h : isR c with
  | true => rw [digI_yes c h]; have := valR_bd c h; omega
  | false => rw [digI_no c h]; omega
theorem digI_pos (c : Int) (h : 0 ≤ digI c) : isR c = true := by
  cases h' : isR c with
  | true => rfl
  | false => rw [digI_no c h'] at h; omega

theorem r07Unhex_any (s : ByteArray) (w : World) :
    Calls Try.prog 30 #[.string s] w fun e w' => e = .returned (.tuple #[.int .u8 ((unhexL s.data.toList).getD 0), .bool (unhexL s.data.toList).isSome]) ∧ w = w' := by
  by_cases hs : s.size = 2
  · have b0 := digI_bd ((s[0]'(by omega)).toNat : Int)
    have b1 := digI_bd ((s[1]'(by omega)).toNat : Int)
    refine r07Unhex_core s w _ _ (by omega) (by omega) rfl rfl b0.1 b0.2 b1.1 b1.2 _ ⟨fun h0 h1 => ?_, fun h => ?_⟩
    · have r0 := digI_pos _ h0
      have r1 := digI_pos _ h1
      rw [unhexL_two s hs, r0, r1, digI_yes _ r0, digI_yes _ r1]
      rfl
    · rw [unhexL_two s hs, if_neg]
      · rfl
      · intro hc
        rw [Bool.and_eq_true] at hc
        rw [digI_yes _ hc.1, digI_yes _ hc.2] at h
        have v0 := valR_bd _ hc.1
        have v1 := valR_bd _ hc.2
        omega
  · rw [unhexL_len (by simpa using hs)]
    have hb : ((s.size : Int) != 2) = true := by rw [bne_iff_ne]; omega
    clear hs
    go_enter Try.func30, Try.ntmps30
    go_wp2
    go_ret2
    exact ⟨rfl, rfl⟩

theorem r07Unhex_none (s : ByteArray) (w : World) (h : unhexL s.data.toList = none) :
    Calls Try.prog 30 #[.string s] w fun e w' => e = .returned (.tuple #[.int .u8 0, .bool false]) ∧ w = w' :=
  (r07Unhex_any s w).mono fun e w' ⟨he, hb⟩ => ⟨by rw [he, h]; rfl, hb⟩
theorem r07Unhex_some (s : ByteArray) (v : Int) (w : World) (h : unhexL s.data.toList = some v) :
    Calls Try.prog 30 #[.string s] w fun e w' => e = .returned (.tuple #[.int .u8 v, .bool true]) ∧ w = w' :=
  (r07Unhex_any s w).mono fun e w' ⟨he, hb⟩ => ⟨by rw [he, h]; rfl, hb⟩

set_option maxHeartbeats 400000 in
theorem r07Seal_any (s : ByteArray) (w : World) (hs : s.size ≤ 1000000) :
    Calls Try.prog 23 #[.string s] w fun e w' => e = .returned (.string (sealB s)) ∧ Below w.heap.size w w' := by
  have hl : (hexL (sumI s)).length = 2 := rfl
  obtain ⟨b0, b1⟩ := sumI_bd s
  go_enter Try.func23, Try.ntmps23
  go_wp2_with fail
  refine (r07Of_any s _ hs).mono ?_
  rintro e w' ⟨rfl, rfl⟩
  go_wp2_with fail
  refine (r07Hex_any (sumI s) _ b0 b1).mono ?_
  rintro e w' ⟨rfl, hb⟩
  go_wp2
  go_ret
  exact ⟨rfl, hb⟩

end Go.Proofs.Ytleebikcakndnaa
