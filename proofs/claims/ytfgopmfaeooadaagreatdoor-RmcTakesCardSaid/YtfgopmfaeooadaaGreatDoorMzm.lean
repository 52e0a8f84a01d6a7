/- Layer 24: a text's time, by the reference. -/
import Derived.Test.YtfgopmfaeooadaaGreatDoorMz8
import Derived.Test.YtfgopmfaeooadaaGreatDoorMz3
namespace Go.Proofs.YtfgopmfaeooadaaGreatDoor
set_option linter.unusedVariables false
open Go.RowKit

def allD (l : List UInt8) : Bool := l.all digB
theorem allD_snoc {l : List UInt8} {k : Nat} (hk : k < l.length) : allD (l.take (k + 1)) = (allD (l.take k) && digB l[k]) := by
  unfold allD
  rw [List.take_succ_eq_append_getElem hk, List.all_append]
  simp
theorem allD_no {l : List UInt8} {k : Nat} (hk : k < l.length) (h : digB l[k] = false) : allD l = false := by
  unfold allD
  rw [Bool.eq_false_iff]
  intro q
  rw [List.all_eq_true] at q
  rw [q _ (List.getElem_mem hk)] at h
  cases h
set_option maxHeartbeats 1000000 in
theorem r24digits_any (s : ByteArray) (w : World) (hs : s.size ≤ 1000000) : Calls Tryz.prog 84 #[.string s] w fun e w' => e = .returned (.bool (allD s.data.toList)) ∧ w = w' := by
  obtain ⟨X, hX⟩ : ∃ X, allD s.data.toList = X := ⟨_, rfl⟩
  have HX := Lib.hid hX
  rw [hX]
  clear hX
  go_enter Tryz.func84, Tryz.ntmps84
  go_wp2
  go_loop [3] (fun i => ∃ k : Nat, k ≤ s.size ∧ i = .int .i64 (k : Int) ∧ Hid (allD (s.data.toList.take k) = true)) (fun i => s.size - (intOf i).toNat)
  case atStart => exact ⟨0, Nat.zero_le _, rfl, Lib.hid rfl⟩
  case round =>
    obtain ⟨k, hk, rfl, hI⟩ := hrel
    by_cases hlt : k < s.size
    · have hkl : k < s.data.toList.length := by simpa using hlt
      have hsn : allD (s.data.toList.take (k + 1)) = digB s[k] := by
        rw [allD_snoc hkl, hI.out, Bool.true_and]
        rfl
      have hno : digB s[k] = false → X = false := fun q => by
        rw [← HX.out]
        exact allD_no hkl q
      have HSN := Lib.hid hsn
      have HNO := Lib.hid hno
      have HDG : Hid (digB s[k] = (decide (48 ≤ s[k].toNat) && decide (s[k].toNat ≤ 57))) := rfl
      have hv := s[k].toNat_lt
      have hk3 : (s[k].toNat : Int) < 48 ∨ 48 ≤ (s[k].toNat : Int) ∧ 57 < (s[k].toNat : Int) ∨ 48 ≤ (s[k].toNat : Int) ∧ (s[k].toNat : Int) ≤ 57 := by omega
      clear hsn hno
      rcases hk3 with q | ⟨q1, q⟩ | ⟨q1, q⟩
      · have hf : digB s[k] = false := by rw [HDG.out, decide_eq_false (by omega)]; rfl
        have hx := HNO.out hf
        subst hx
        clear hf HDG
        go_wp2
        go_ret
        exact ⟨rfl, rfl⟩
      · have hf : digB s[k] = false := by rw [HDG.out, decide_eq_false (p := s[k].toNat ≤ 57) (by omega), Bool.and_false]
        have hx := HNO.out hf
        subst hx
        clear hf HDG
        go_wp2
        go_ret
        exact ⟨rfl, rfl⟩
      · have hf : digB s[k] = true := by rw [HDG.out, decide_eq_true (by omega), decide_eq_true (by omega)]; rfl
        have HN2 : Hid (allD (s.data.toList.take (k + 1)) = true) := HSN.out.trans hf
        have q57 : ¬ 57 < (s[k].toNat : Int) := by omega
        clear hf HDG HSN HNO
        go_wp2
        go_round
        case rel => exact ⟨k + 1, by omega, by go_num, HN2⟩
        case measure => simp [intOf]; omega
    · obtain rfl : k = s.size := by omega
      have hx : X = true := by
        have := hI.out
        rw [List.take_of_length_le (by simp)] at this
        rw [← HX.out]; exact this
      subst hx
      go_wp2
      go_ret
      exact ⟨rfl, rfl⟩
theorem r24pair_any (s : ByteArray) (w : World) (h : 2 ≤ s.size) (hs : s.size ≤ 1000000) : Calls Tryz.prog 85 #[.string s] w fun e w' => e = .returned (.int .i64 (pairV (s[0]'(by omega)) (s[1]'(by omega))).1) ∧ ∃ n, w' = w.drewN n := by
  have h0 : 0 < s.size := by omega
  have h1 : 1 < s.size := by omega
  have hi0 : (0 : Int) < (s.size : Int) := by omega
  have hi1 : (1 : Int) < (s.size : Int) := by omega
  obtain ⟨wa, a0, a1⟩ := u8_minus s[0]
  obtain ⟨wb, b0, b1⟩ := u8_minus s[1]
  have HP : Hid ((pairV s[0] s[1]).1 = 10 * (((s[0].toNat : Int) - 48) % 256) + (((s[1].toNat : Int) - 48) % 256)) := rfl
  obtain ⟨X, hX⟩ : ∃ X, (pairV s[0] s[1]).1 = X := ⟨_, rfl⟩
  rw [hX] at HP ⊢
  generalize ((s[0].toNat : Int) - 48) % 256 = A at *
  generalize ((s[1].toNat : Int) - 48) % 256 = B at *
  have z1 : IntKind.i64.wrap (10 * A) = 10 * A := IntWalk.i64_in _ (by omega)
  have z2 : IntKind.i64.wrap (10 * A + B) = 10 * A + B := IntWalk.i64_in _ (by omega)
  have z3 : IntKind.i64.wrap A = A := IntWalk.i64_in _ (by omega)
  have z4 : IntKind.i64.wrap B = B := IntWalk.i64_in _ (by omega)
  clear hX
  go_enter Tryz.func85, Tryz.ntmps85
  go_wp2_with fail
  go_quiet (fail)
  go_wp2_with fail
  go_ret
  exact ⟨ret_i64 (by rw [HP.out]; rfl), _, rfl⟩
theorem threeL_short {l : List UInt8} (h : l.length < 6) : threeL (l.take 6) = none := threeL_len (by rw [List.length_take]; omega)
theorem threeL_dig {l : List UInt8} (h : allD l = false) : threeL l = none := by
  unfold threeL
  split
  · rw [if_neg]
    intro q
    simp only [Bool.and_eq_true] at q
    unfold allD at h
    simp only [List.all_cons, List.all_nil, q.1.1.1.1.1, q.1.1.1.1.2, q.1.1.1.2, q.1.1.2, q.1.2, q.2, Bool.and_true] at h
    cases h
  · rfl
theorem takeClk_three {l : List UInt8} (hl : l ≠ []) (h : threeL (l.take 6) = none) : takeClk l = (zC, 3) := by
  unfold takeClk
  rw [if_neg hl, h]
theorem takeClk_behind {l : List UInt8} (hl : l ≠ []) (h : behindL (l.drop 6) = none) : takeClk l = (zC, 3) := by
  unfold takeClk
  rw [if_neg hl, h]
  cases threeL (l.take 6) <;> rfl
theorem behind_bad {l : List UInt8} (h6 : 6 < l.length) (h : l[6] ≠ 46 ∨ l.length < 8 ∨ 9 < l.length ∨ allD (l.drop 7) = false) : behindL (l.drop 6) = none := by
  match l, h6, h with
  | [_, _, _, _, _, _, p], _, _ => rfl
  | [_, _, _, _, _, _, p, a], _, h =>
    show (if _ then _ else _) = _
    rw [if_neg]
    rintro ⟨rfl, q⟩
    rcases h with h | h | h | h
    · exact h rfl
    · exact absurd h (by show ¬ (8 < 8); omega)
    · exact absurd h (by show ¬ (9 < 8); omega)
    · have h : (digB a && true) = false := h
      rw [q] at h; cases h
  | [_, _, _, _, _, _, p, a, b], _, h =>
    show (if _ then _ else _) = _
    rw [if_neg]
    rintro ⟨rfl, q, r⟩
    rcases h with h | h | h | h
    · exact h rfl
    · exact absurd h (by show ¬ (9 < 8); omega)
    · exact absurd h (by show ¬ (9 < 9); omega)
    · have h : (digB a && (digB b && true)) = false := h
      rw [q, r] at h; cases h
  | _ :: _ :: _ :: _ :: _ :: _ :: _ :: _ :: _ :: _ :: _, _, _ => rfl
end Go.Proofs.YtfgopmfaeooadaaGreatDoor
