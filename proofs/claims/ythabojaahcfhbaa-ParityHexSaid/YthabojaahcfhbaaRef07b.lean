/- Contracts of the reference of layer 7: Unhex, Seal, Open. -/
import Derived.Test.YthabojaahcfhbaaRef07
namespace Go.Proofs.Ythabojaahcfhbaa
set_option linter.unusedVariables false
open Go.RowKit

theorem digI_yes (c : Int) (h : isR c = true) : digI c = valR c := by unfold digI; rw [if_pos h]
theorem digI_no (c : Int) (h : isR c = false) : digI c = -1 := by unfold digI; rw [if_neg (by rw [h]; decide)]

set_option maxHeartbeats 400000 in
theorem r07Unhex_core (s : ByteArray) (w : World) (a b : Int) (hs0 : 2 ≤ s.size) (hs1 : s.size ≤ 2)
    (d0 : Hid (digI ((s[0]'(by omega)).toNat : Int) = a)) (d1 : Hid (digI ((s[1]'(by omega)).toNat : Int) = b)) (a1 : -1 ≤ a) (a2 : a < 16) (b1 : -1 ≤ b) (b2 : b < 16)
    (R : Value) (hR : Hid ((0 ≤ a → 0 ≤ b → R = .tuple #[.int .u8 (16 * a + b), .bool true]) ∧ (a < 0 ∨ b < 0 → R = .tuple #[.int .u8 0, .bool false]))) :
    Calls Try.prog 9 #[.string s] w fun e w' => e = .returned R ∧ w = w' := by
  have hb : ((s.size : Int) != 2) = false := by rw [bne_eq_false_iff_eq]; omega
  have u0 : ((s[0]'(by omega)).toNat : Int) ≤ 255 := by have := (s[0]'(by omega)).toNat_lt; omega
  have u1 : ((s[1]'(by omega)).toNat : Int) ≤ 255 := by have := (s[1]'(by omega)).toNat_lt; omega
  by_cases ha : a < 0
  · go_enter Try.func9, Try.ntmps9
    go_wp2_with fail
    refine (r07Digit_any _ _ (by omega) u0).mono ?_
    rintro e w' ⟨rfl, rfl⟩
    rw [d0.out]
    go_wp2_with fail
    refine (r07Digit_any _ _ (by omega) u1).mono ?_
    rintro e w' ⟨rfl, rfl⟩
    rw [d1.out]
    go_wp2_with fail
    go_ret2
    exact ⟨by rw [hR.out.2 (.inl ha)]; rfl, rfl⟩
  · by_cases hb0 : b < 0
    · go_enter Try.func9, Try.ntmps9
      go_wp2_with fail
      refine (r07Digit_any _ _ (by omega) u0).mono ?_
      rintro e w' ⟨rfl, rfl⟩
      rw [d0.out]
      go_wp2_with fail
      refine (r07Digit_any _ _ (by omega) u1).mono ?_
      rintro e w' ⟨rfl, rfl⟩
      rw [d1.out]
      go_wp2_with fail
      go_ret2
      exact ⟨by rw [hR.out.2 (.inr hb0)]; rfl, rfl⟩
    · go_enter Try.func9, Try.ntmps9
      go_wp2_with fail
      refine (r07Digit_any _ _ (by omega) u0).mono ?_
      rintro e w' ⟨rfl, rfl⟩
      rw [d0.out]
      go_wp2_with fail
      refine (r07Digit_any _ _ (by omega) u1).mono ?_
      rintro e w' ⟨rfl, rfl⟩
      rw [d1.out]
      go_wp2_with fail
      go_ret2
      exact ⟨by rw [hR.out.1 (by omega) (by omega)]; rfl, rfl⟩

theorem digI_bd (c : Int) : -1 ≤ digI c ∧ digI c < 16 := by
  cases h : isR c with
  | true => rw [digI_yes c h]; have := valR_bd c h; omega
  | false => rw [digI_no c h]; omega
theorem digI_pos (c : Int) (h : 0 ≤ digI c) : isR c = true := by
  cases h' : isR c with
  | true => rfl
  | false => rw [digI_no c h'] at h; omega

theorem r07Unhex_any (s : ByteArray) (w : World) :
    Calls Try.prog 9 #[.string s] w fun e w' => e = .returned (.tuple #[.int .u8 ((unhexL s.data.toList).getD 0), .bool (unhexL s.data.toList).isSome]) ∧ w = w' := by
  by_cases hs : s.size = 2
  · have b0 := digI_bd ((s[0]'(by omega)).toNat : Int)
    have b1 := digI_bd ((s[1]'(by omega)).toNat : Int)
    refine r07Unhex_core s w _ _ (by omega) (by omega) rfl rfl b0.1 b0.2 b1.1 b1.2 _ ⟨fun h0 h1 => ?_, fun h => ?_⟩
    · have r0 := digI_pos _ h0
      have r1 := digI_pos _ h1
      rw [unhexL_two s hs, r0, r1, digI_yes _ r0, digI_yes _ r1]
      rfl
    · rw [unhexL_two s hs, if_neg]
      · rfl
      · intro hc
        rw [Bool.and_eq_true] at hc
        rw [digI_yes _ hc.1, digI_yes _ hc.2] at h
        have v0 := valR_bd _ hc.1
        have v1 := valR_bd _ hc.2
        omega
  · rw [unhexL_len (by simpa using hs)]
    have hb : ((s.size : Int) != 2) = true := by rw [bne_iff_ne]; omega
    clear hs
    go_enter Try.func9, Try.ntmps9
    go_wp2
    go_ret2
    exact ⟨rfl, rfl⟩

theorem r07Unhex_none (s : ByteArray) (w : World) (h : unhexL s.data.toList = none) :
    Calls Try.prog 9 #[.string s] w fun e w' => e = .returned (.tuple #[.int .u8 0, .bool false]) ∧ w = w' :=
  (r07Unhex_any s w).mono fun e w' ⟨he, hb⟩ => ⟨by rw [he, h]; rfl, hb⟩
theorem r07Unhex_some (s : ByteArray) (v : Int) (w : World) (h : unhexL s.data.toList = some v) :
    Calls Try.prog 9 #[.string s] w fun e w' => e = .returned (.tuple #[.int .u8 v, .bool true]) ∧ w = w' :=
  (r07Unhex_any s w).mono fun e w' ⟨he, hb⟩ => ⟨by rw [he, h]; rfl, hb⟩

set_option maxHeartbeats 400000 in
theorem r07Seal_any (s : ByteArray) (w : World) (hs : s.size ≤ 1000000) :
    Calls Try.prog 16 #[.string s] w fun e w' => e = .returned (.string (sealB s)) ∧ Below w.heap.size w w' := by
  have hl : (hexL (sumI s)).length = 2 := rfl
  obtain ⟨b0, b1⟩ := sumI_bd s
  go_enter Try.func16, Try.ntmps16
  go_wp2_with fail
  refine (r07Of_any s _ hs).mono ?_
  rintro e w' ⟨rfl, rfl⟩
  go_wp2_with fail
  refine (r07Hex_any (sumI s) _ b0 b1).mono ?_
  rintro e w' ⟨rfl, hb⟩
  go_wp2
  go_ret
  exact ⟨rfl, hb⟩

theorem r07Open_short (s : ByteArray) (w : World) (hs : s.size < 3) : Calls Try.prog 11 #[.string s] w (OpenPost s w) := by
  have hn : openB s = none := by simp [openB, hs]
  unfold OpenPost
  rw [hn]
  clear hn
  go_enter Try.func11, Try.ntmps11
  go_wp2
  go_ret2
  exact ⟨rfl, Below.refl _ _⟩

set_option maxHeartbeats 400000 in
theorem r07Open_star (s : ByteArray) (n : Nat) (w : World) (hs : n + 3 ≤ s.size) (hs' : s.size ≤ n + 3) (hm : s.size ≤ 1000000) (e1 : (s.size : Int) - 3 = (n : Int))
    (hst : ((s[n]'(by omega)).toNat : Int) ≠ 42) : Calls Try.prog 11 #[.string s] w fun e w' => e = .returned (.tuple #[.string ByteArray.empty, .bool false]) ∧ Below w.heap.size w w' := by
  have hb : (((s[n]'(by omega)).toNat : Int) != 42) = true := by rw [bne_iff_ne]; exact hst
  go_enter Try.func11, Try.ntmps11
  go_wp2
  go_ret2
  exact ⟨rfl, Below.refl _ _⟩

set_option maxHeartbeats 400000 in
theorem r07Open_unhex (s : ByteArray) (n : Nat) (w : World) (hs : n + 3 ≤ s.size) (hs' : s.size ≤ n + 3) (hm : s.size ≤ 1000000) (e1 : (s.size : Int) - 3 = (n : Int))
    (hst : (((s[n]'(by omega)).toNat : Int) != 42) = false) (hu : Hid (unhexL (s.extract (n + 1) s.size).data.toList = none)) : Calls Try.prog 11 #[.string s] w fun e w' => e = .returned (.tuple #[.string ByteArray.empty, .bool false]) ∧ Below w.heap.size w w' := by
  go_enter Try.func11, Try.ntmps11
  go_wp2_with fail
  refine (r07Unhex_none _ _ hu).mono ?_
  rintro e w1 ⟨rfl, rfl⟩
  go_wp2
  go_ret2
  exact ⟨rfl, Below.refl _ _⟩

set_option maxHeartbeats 400000 in
theorem r07Open_sum (s : ByteArray) (n : Nat) (v : Int) (w : World) (hs : n + 3 ≤ s.size) (hs' : s.size ≤ n + 3) (hm : s.size ≤ 1000000) (e1 : (s.size : Int) - 3 = (n : Int))
    (hst : (((s[n]'(by omega)).toNat : Int) != 42) = false) (hu : Hid (unhexL (s.extract (n + 1) s.size).data.toList = some v)) (hv : (v != sumI (s.extract 0 n)) = true) :
    Calls Try.prog 11 #[.string s] w fun e w' => e = .returned (.tuple #[.string ByteArray.empty, .bool false]) ∧ Below w.heap.size w w' := by
  go_enter Try.func11, Try.ntmps11
  go_wp2_with fail
  refine (r07Unhex_some _ v _ hu).mono ?_
  rintro e w1 ⟨rfl, rfl⟩
  go_wp2_with fail
  refine (r07Of_any _ _ (by simp only [ByteArray.size_extract]; omega)).mono ?_
  rintro e w' ⟨rfl, rfl⟩
  go_wp2
  go_ret2
  exact ⟨rfl, Below.refl _ _⟩

set_option maxHeartbeats 400000 in
theorem r07Open_yes (s : ByteArray) (n : Nat) (v : Int) (w : World) (hs : n + 3 ≤ s.size) (hs' : s.size ≤ n + 3) (hm : s.size ≤ 1000000) (e1 : (s.size : Int) - 3 = (n : Int))
    (hst : (((s[n]'(by omega)).toNat : Int) != 42) = false) (hu : Hid (unhexL (s.extract (n + 1) s.size).data.toList = some v)) (hv : (v != sumI (s.extract 0 n)) = false) :
    Calls Try.prog 11 #[.string s] w fun e w' => e = .returned (.tuple #[.string (s.extract 0 n), .bool true]) ∧ Below w.heap.size w w' := by
  go_enter Try.func11, Try.ntmps11
  go_wp2_with fail
  refine (r07Unhex_some _ v _ hu).mono ?_
  rintro e w1 ⟨rfl, rfl⟩
  go_wp2_with fail
  refine (r07Of_any _ _ (by simp only [ByteArray.size_extract]; omega)).mono ?_
  rintro e w' ⟨rfl, rfl⟩
  go_wp2
  go_ret2
  exact ⟨rfl, Below.refl _ _⟩

theorem r07Open_any (s : ByteArray) (w : World) (hm : s.size ≤ 1000000) : Calls Try.prog 11 #[.string s] w (OpenPost s w) := by
  by_cases hs : s.size < 3
  · exact r07Open_short s w hs
  · obtain ⟨n, hn⟩ : ∃ n, s.size = n + 3 := ⟨s.size - 3, by omega⟩
    have e1 : (s.size : Int) - 3 = (n : Int) := by omega
    have en : s.size - 3 = n := by omega
    have hlt : n < s.size := by omega
    have hat := at_star s n hlt
    by_cases hst : ((s[n]'hlt).toNat : Int) = 42
    · have hst' : (((s[n]'hlt).toNat : Int) != 42) = false := by rw [bne_eq_false_iff_eq]; exact hst
      cases hu : unhexL (s.extract (n + 1) s.size).data.toList with
      | none =>
        have ho : openB s = none := by unfold openB; rw [if_neg hs, en, if_neg (fun h => by rw [hu] at h; exact absurd h.2 (by simp))]
        unfold OpenPost
        rw [ho]
        exact r07Open_unhex s n w (by omega) (by omega) hm e1 hst' hu
      | some v =>
        by_cases hv : v = sumI (s.extract 0 n)
        · have ho : openB s = some (s.extract 0 n) := by unfold openB; rw [if_neg hs, en, if_pos ⟨hat.2 hst, by rw [hu, hv]⟩]
          unfold OpenPost
          rw [ho]
          exact r07Open_yes s n v w (by omega) (by omega) hm e1 hst' hu (by rw [bne_eq_false_iff_eq]; exact hv)
        · have ho : openB s = none := by unfold openB; rw [if_neg hs, en, if_neg (fun h => by rw [hu] at h; exact hv (by simpa using h.2))]
          unfold OpenPost
          rw [ho]
          exact r07Open_sum s n v w (by omega) (by omega) hm e1 hst' hu (by rw [bne_iff_ne]; exact hv)
    · have ho : openB s = none := by unfold openB; rw [if_neg hs, en, if_neg (fun h => hst (hat.1 h.1))]
      unfold OpenPost
      rw [ho]
      exact r07Open_star s n w (by omega) (by omega) hm e1 hst

end Go.Proofs.Ythabojaahcfhbaa
