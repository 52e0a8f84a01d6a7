/- Contracts of package parity (program): Seal, Open. -/
import Derived.Test.YtleebikcakndnaaPar
namespace Go.Proofs.Ytleebikcakndnaa
set_option linter.unusedVariables false
open Go.RowKit

/-- A text's sum, as an Int. -/
def sumI (s : ByteArray) : Int := ((xorL s.data.toList).toNat : Int)
theorem sumI_bd (s : ByteArray) : 0 ≤ sumI s ∧ sumI s ≤ 255 := by unfold sumI; have := (xorL s.data.toList).toNat_lt; omega

theorem Of_sum (s : ByteArray) (w : World) (hs : s.size ≤ maxLen) :
    Calls Try.prog 40 #[.string s] w fun e w' => e = .returned (.int .u8 (sumI s)) ∧ w = w' := Of_any s w hs

def sealB (s : ByteArray) : ByteArray := s ++ ⟨#[42]⟩ ++ ⟨(hexL (sumI s)).toArray⟩

set_option maxHeartbeats 400000 in
theorem Seal_any (s : ByteArray) (w : World) (hs : s.size ≤ 1000000) :
    Calls Try.prog 19 #[.string s] w fun e w' => e = .returned (.string (sealB s)) ∧ Below w.heap.size w w' := by
  have hl : (hexL (sumI s)).length = 2 := rfl
  obtain ⟨b0, b1⟩ := sumI_bd s
  go_enter Try.func19, Try.ntmps19
  go_wp2_with fail
  refine (Of_sum s _ (by unfold maxLen; omega)).mono ?_
  rintro e w' ⟨rfl, rfl⟩
  go_wp2_with fail
  refine (Hex_any (sumI s) _ b0 b1).mono ?_
  rintro e w' ⟨rfl, hb⟩
  go_wp2
  go_ret
  exact ⟨rfl, hb⟩

theorem Unhex_none (s : ByteArray) (w : World) (h : unhexL s.data.toList = none) :
    Calls Try.prog 44 #[.string s] w fun e w' => e = .returned (.tuple #[.int .u8 0, .bool false]) ∧ Below w.heap.size w w' :=
  (Unhex_any s w).mono fun e w' ⟨he, hb⟩ => ⟨by rw [he, h]; rfl, hb⟩
theorem Unhex_some (s : ByteArray) (v : Int) (w : World) (h : unhexL s.data.toList = some v) :
    Calls Try.prog 44 #[.string s] w fun e w' => e = .returned (.tuple #[.int .u8 v, .bool true]) ∧ Below w.heap.size w w' :=
  (Unhex_any s w).mono fun e w' ⟨he, hb⟩ => ⟨by rw [he, h]; rfl, hb⟩

/-- What was sealed. -/
def openB (s : ByteArray) : Option ByteArray :=
  if s.size < 3 then none
  else if s.data.toList[s.size - 3]? = some 42 ∧ unhexL (s.extract (s.size - 3 + 1) s.size).data.toList = some (sumI (s.extract 0 (s.size - 3))) then some (s.extract 0 (s.size - 3)) else none

def OpenPost (s : ByteArray) (w : World) (e : Ending) (w' : World) : Prop :=
  e = .returned (.tuple #[.string ((openB s).getD ByteArray.empty), .bool (openB s).isSome]) ∧ Below w.heap.size w w'

theorem Open_short (s : ByteArray) (w : World) (hs : s.size < 3) : Calls Try.prog 26 #[.string s] w (OpenPost s w) := by
  have hn : openB s = none := by simp [openB, hs]
  unfold OpenPost
  rw [hn]
  clear hn
  go_enter Try.func26, Try.ntmps26
  go_wp2
  go_ret2
  exact ⟨rfl, Below.refl _ _⟩

set_option maxHeartbeats 400000 in
theorem Open_star (s : ByteArray) (n : Nat) (w : World) (hs : n + 3 ≤ s.size) (hs' : s.size ≤ n + 3) (hm : s.size ≤ 1000000) (e1 : (s.size : Int) - 3 = (n : Int))
    (hst : ((s[n]'(by omega)).toNat : Int) ≠ 42) : Calls Try.prog 26 #[.string s] w fun e w' => e = .returned (.tuple #[.string ByteArray.empty, .bool false]) ∧ Below w.heap.size w w' := by
  have hb : (((s[n]'(by omega)).toNat : Int) != 42) = true := by rw [bne_iff_ne]; exact hst
  go_enter Try.func26, Try.ntmps26
  go_wp2
  go_ret2
  exact ⟨rfl, Below.refl _ _⟩

set_option maxHeartbeats 400000 in
theorem Open_unhex (s : ByteArray) (n : Nat) (w : World) (hs : n + 3 ≤ s.size) (hs' : s.size ≤ n + 3) (hm : s.size ≤ 1000000) (e1 : (s.size : Int) - 3 = (n : Int))
    (hst : (((s[n]'(by omega)).toNat : Int) != 42) = false) (hu : Hid (unhexL (s.extract (n + 1) s.size).data.toList = none)) : Calls Try.prog 26 #[.string s] w fun e w' => e = .returned (.tuple #[.string ByteArray.empty, .bool false]) ∧ Below w.heap.size w w' := by
  go_enter Try.func26, Try.ntmps26
  go_wp2_with fail
  refine (Unhex_none _ _ hu).mono ?_
  rintro e w1 ⟨rfl, hb1⟩
  go_wp2
  go_ret2
  exact ⟨rfl, hb1⟩

set_option maxHeartbeats 400000 in
theorem Open_sum (s : ByteArray) (n : Nat) (v : Int) (w : World) (hs : n + 3 ≤ s.size) (hs' : s.size ≤ n + 3) (hm : s.size ≤ 1000000) (e1 : (s.size : Int) - 3 = (n : Int))
    (hst : (((s[n]'(by omega)).toNat : Int) != 42) = false) (hu : Hid (unhexL (s.extract (n + 1) s.size).data.toList = some v)) (hv : (v != sumI (s.extract 0 n)) = true) :
    Calls Try.prog 26 #[.string s] w fun e w' => e = .returned (.tuple #[.string ByteArray.empty, .bool false]) ∧ Below w.heap.size w w' := by
  go_enter Try.func26, Try.ntmps26
  go_wp2_with fail
  refine (Unhex_some _ v _ hu).mono ?_
  rintro e w1 ⟨rfl, hb1⟩
  go_wp2_with fail
  refine (Of_sum _ _ (by unfold maxLen; simp only [ByteArray.size_extract]; omega)).mono ?_
  rintro e w' ⟨rfl, rfl⟩
  go_wp2
  go_ret2
  exact ⟨rfl, hb1⟩

set_option maxHeartbeats 400000 in
theorem Open_yes (s : ByteArray) (n : Nat) (v : Int) (w : World) (hs : n + 3 ≤ s.size) (hs' : s.size ≤ n + 3) (hm : s.size ≤ 1000000) (e1 : (s.size : Int) - 3 = (n : Int))
    (hst : (((s[n]'(by omega)).toNat : Int) != 42) = false) (hu : Hid (unhexL (s.extract (n + 1) s.size).data.toList = some v)) (hv : (v != sumI (s.extract 0 n)) = false) :
    Calls Try.prog 26 #[.string s] w fun e w' => e = .returned (.tuple #[.string (s.extract 0 n), .bool true]) ∧ Below w.heap.size w w' := by
  go_enter Try.func26, Try.ntmps26
  go_wp2_with fail
  refine (Unhex_some _ v _ hu).mono ?_
  rintro e w1 ⟨rfl, hb1⟩
  go_wp2_with fail
  refine (Of_sum _ _ (by unfold maxLen; simp only [ByteArray.size_extract]; omega)).mono ?_
  rintro e w' ⟨rfl, rfl⟩
  go_wp2
  go_ret2
  exact ⟨rfl, hb1⟩

theorem at_some (s : ByteArray) (n : Nat) (h : n < s.size) : s.data.toList[n]? = some s[n] := by
  rw [List.getElem?_eq_getElem (by simpa using h)]
  rfl
theorem at_star (s : ByteArray) (n : Nat) (h : n < s.size) : (s.data.toList[n]? = some 42) ↔ (s[n].toNat : Int) = 42 := by
  rw [at_some s n h]
  constructor
  · intro h
    injection h with h
    rw [h]
    rfl
  · intro h
    congr 1
    apply UInt8.toNat_inj.1
    have : (42 : UInt8).toNat = 42 := rfl
    omega

/-- Open: of any text of at most a million bytes. -/
theorem Open_any (s : ByteArray) (w : World) (hm : s.size ≤ 1000000) : Calls Try.prog 26 #[.string s] w (OpenPost s w) := by
  by_cases hs : s.size < 3
  · exact Open_short s w hs
  · obtain ⟨n, hn⟩ : ∃ n, s.size = n + 3 := ⟨s.size - 3, by omega⟩
    have e1 : (s.size : Int) - 3 = (n : Int) := by omega
    have en : s.size - 3 = n := by omega
    have hlt : n < s.size := by omega
    have hat := at_star s n hlt
    by_cases hst : ((s[n]'hlt).toNat : Int) = 42
    · have hst' : (((s[n]'hlt).toNat : Int) != 42) = false := by rw [bne_eq_false_iff_eq]; exact hst
      cases hu : unhexL (s.extract (n + 1) s.size).data.toList with
      | none =>
        have ho : openB s = none := by unfold openB; rw [if_neg hs, en, if_neg (fun h => by rw [hu] at h; exact absurd h.2 (by simp))]
        unfold OpenPost
        rw [ho]
        exact Open_unhex s n w (by omega) (by omega) hm e1 hst' hu
      | some v =>
        by_cases hv : v = sumI (s.extract 0 n)
        · have ho : openB s = some (s.extract 0 n) := by unfold openB; rw [if_neg hs, en, if_pos ⟨hat.2 hst, by rw [hu, hv]⟩]
          unfold OpenPost
          rw [ho]
          exact Open_yes s n v w (by omega) (by omega) hm e1 hst' hu (by rw [bne_eq_false_iff_eq]; exact hv)
        · have ho : openB s = none := by unfold openB; rw [if_neg hs, en, if_neg (fun h => by rw [hu] at h; exact hv (by simpa using h.2))]
          unfold OpenPost
          rw [ho]
          exact Open_sum s n v w (by omega) (by omega) hm e1 hst' hu (by rw [bne_iff_ne]; exact hv)
    · have ho : openB s = none := by unfold openB; rw [if_neg hs, en, if_neg (fun h => hst (hat.1 h.1))]
      unfold OpenPost
      rw [ho]
      exact Open_star s n w (by omega) (by omega) hm e1 hst

end Go.Proofs.Ytleebikcakndnaa
