/- Layer 23: the reference's parse, whole. -/
import Derived.Test.YtpaejoikfnmdhaaDoorDec13
import Derived.IntWalk
namespace Go.Proofs.YtpaejoikfnmdhaaDoor
set_option linter.unusedVariables false
open Go.RowKit

set_option maxHeartbeats 2000000 in
theorem r23parse_good (s : ByteArray) (a b l m f : Nat) (V U : Int) (w : World) (hs : s.size ≤ 1000000) (hlt : a < s.size) (h1 : l ≤ a) (h2 : a ≤ m) (hmf : m + f ≤ 18) (hbf : b ≤ f) (hb1 : (1 : Int) ≤ (b : Int)) (hsz : (a : Int) + 1 + (b : Int) = (s.size : Int))
    (hV0 : 0 ≤ V) (hV : V ≤ 1000000000000000000) (hU0 : 0 ≤ U) (hU : U ≤ 1000000000000000000)
    (HC : ∀ W, Hid (Calls Tryd.prog 62 #[.string s, .int .i64 0] W fun e w' => e = .returned (.int .i64 (a : Int)) ∧ W = w'))
    (HV : ∀ W, Hid (Calls Tryd.prog 63 #[.string (s.extract 0 a), .int .i64 (f : Int)] W fun e w' => e = .returned (.int .i64 V) ∧ W = w'))
    (HD : ∀ W, Hid (Calls Tryd.prog 62 #[.string s, .int .i64 ((a : Int) + 1)] W fun e w' => e = .returned (.int .i64 (b : Int)) ∧ W = w'))
    (HU : ∀ W, Hid (Calls Tryd.prog 63 #[.string (s.extract (a + 1) s.size), .int .i64 ((f : Int) - (b : Int))] W fun e w' => e = .returned (.int .i64 U) ∧ W = w'))
    (h : (((s[a]'hlt).toNat : Int) != 46) = false) :
    Calls Tryd.prog 49 #[.string s, .int .i64 (l : Int), .int .i64 (m : Int), .int .i64 (f : Int)] w fun e w' => e = .returned (.tuple #[.int .i64 (V + U), .bool true]) ∧ w = w' := by
  have i1 : ((a : Int) == (s.size : Int)) = false := by rw [beq_eq_false_iff_ne]; omega
  have i2 : (0 : Int) ≤ (a : Int) := Int.natCast_nonneg _
  have i3 : (a : Int) < (s.size : Int) := by omega
  have i4 : (a : Int) ≤ (s.size : Int) := by omega
  have i5 : ((a : Int) + 1 + (b : Int) != (s.size : Int)) = false := by rw [bne_eq_false_iff_eq]; exact hsz
  have i6 : (a : Int) + 1 ≤ (s.size : Int) := by omega
  have i7 : ((a : Int) + 1).toNat = a + 1 := by omega
  have hb2 : (b : Int) ≤ (f : Int) := by omega
  clear hsz
  go_enter Tryd.func49, Tryd.ntmps49
  go_wp2_with fail
  refine (HC _).out.mono ?_
  rintro e w' ⟨rfl, rfl⟩
  go_wp2_with fail
  refine (HV _).out.mono ?_
  rintro e w' ⟨rfl, rfl⟩
  go_wp2_with fail
  refine (HD _).out.mono ?_
  rintro e w' ⟨rfl, rfl⟩
  go_wp2_with fail
  refine (HU _).out.mono ?_
  rintro e w' ⟨rfl, rfl⟩
  go_wp2_with fail
  go_ret2
  exact ⟨rfl, rfl⟩

theorem tenI_cast (k : Nat) : tenI k = ((10 ^ k : Nat) : Int) := rfl
theorem val_le {l : List UInt8} {n : Nat} (h : ∀ c ∈ l, isD c = true) (hn : l.length + n ≤ 18) : (valD l : Int) * tenI n ≤ 1000000000000000000 ∧ 0 ≤ (valD l : Int) * tenI n := by
  have h1 := valD_lt l h
  have h2 : valD l * 10 ^ n < 10 ^ l.length * 10 ^ n := Nat.mul_lt_mul_of_pos_right h1 (Nat.pow_pos (by decide))
  rw [← Nat.pow_add] at h2
  have h3 : (10 : Nat) ^ (l.length + n) ≤ 10 ^ 18 := Nat.pow_le_pow_right (by decide) hn
  have e : (10 : Nat) ^ 18 = 1000000000000000000 := by decide
  rw [tenI_cast, ← Int.natCast_mul]
  omega

/-- parse of the reference. -/
theorem r23parse_any (s : ByteArray) (l m f : Nat) (w : World) (hs : s.size ≤ 1000000) (hmf : m + f ≤ 18) :
    Calls Tryd.prog 49 #[.string s, .int .i64 (l : Int), .int .i64 (m : Int), .int .i64 (f : Int)] w fun e w' => e = .returned (.tuple #[.int .i64 (((parseN s.data.toList l m f).getD 0 : Nat) : Int), .bool (parseN s.data.toList l m f).isSome]) ∧ w = w' := by
  have hz : s.data.toList.length = s.size := by simp
  unfold parseN
  by_cases g1 : cntD s.data.toList < l ∨ m < cntD s.data.toList
  · rw [if_pos g1]
    exact r23parse_out s l m f w hs (by omega)
  rw [if_neg g1]
  by_cases g2 : cntD s.data.toList = s.data.toList.length
  · rw [if_pos g2]
    have h := r23parse_whole s l m f w hs (by omega) (by omega) hmf g2
    rw [tenI_cast, ← Int.natCast_mul] at h
    exact h
  rw [if_neg g2]
  have hle := cntD_le s.data.toList
  have hA := cntD_take s.data.toList
  have HC := fun W => Lib.hid (r23count0 s W hs)
  have hx : (s.extract 0 (cntD s.data.toList)).data.toList = s.data.toList.take (cntD s.data.toList) := by rw [Lib.extract_upto]
  obtain ⟨a, ha⟩ : ∃ a, cntD s.data.toList = a := ⟨_, rfl⟩
  rw [ha] at g1 g2 hle hA HC hx ⊢
  have hlt : a < s.size := by omega
  have HV := fun W => Lib.hid (r23value_any (s.extract 0 a) f W (by rw [ByteArray.size_extract]; omega) (by rw [hx]; exact hA))
  rw [hx] at HV
  have HD := fun W => Lib.hid (r23count_any s (a + 1) W hs (by omega))
  have hb := cntD_le (s.data.toList.drop (a + 1))
  have hB := cntD_take (s.data.toList.drop (a + 1))
  rw [List.length_drop, hz] at hb
  obtain ⟨b, hbe⟩ : ∃ b, cntD (s.data.toList.drop (a + 1)) = b := ⟨_, rfl⟩
  rw [hbe] at hb hB HD ⊢
  have h46 : s.data.toList[a]? = some 46 ↔ ((s[a]'hlt).toNat : Int) = 46 := by
    rw [List.getElem?_eq_getElem (by omega)]
    constructor
    · intro k; injection k with k
      have k2 : s[a] = 46 := k
      rw [k2]; rfl
    · intro k
      have k2 : s[a] = 46 := UInt8.toNat_inj.1 (by have e : (46 : UInt8).toNat = 46 := rfl; omega)
      exact congrArg some k2
  have hl2 : (s.data.toList.take a).length = a := by rw [List.length_take]; omega
  by_cases g3 : s.data.toList[a]? ≠ some 46 ∨ b < 1 ∨ f < b ∨ a + 1 + b ≠ s.data.toList.length
  · rw [if_pos g3]
    refine r23parse_bad s a b l m f _ w hs hlt (by omega) (by omega) hmf (by omega) HC HV HD ?_
    by_cases k46 : ((s[a]'hlt).toNat : Int) = 46
    · have e46 : (((s[a]'hlt).toNat : Int) != 46) = false := by rw [bne_eq_false_iff_eq]; exact k46
      by_cases kb : (b : Int) < 1
      · exact .inr (.inl ⟨e46, kb⟩)
      · by_cases kf : f < b
        · exact .inr (.inr (.inl ⟨e46, by omega, kf⟩))
        · refine .inr (.inr (.inr ⟨e46, by omega, by omega, ?_⟩))
          rw [bne_iff_ne]
          rcases g3 with g | g | g | g
          · exact absurd (h46.2 k46) g
          · omega
          · omega
          · omega
    · exact .inl (by rw [bne_iff_ne]; exact k46)
  · rw [if_neg g3]
    have g4 : s.data.toList[a]? = some 46 := Classical.not_not.1 fun k => g3 (.inl k)
    have g5 : 1 ≤ b ∧ b ≤ f ∧ a + 1 + b = s.size := by omega
    have hB2 : ∀ c ∈ s.data.toList.drop (a + 1), isD c = true := by
      rw [List.take_of_length_le (by rw [List.length_drop]; omega)] at hB
      exact hB
    have hx2 : (s.extract (a + 1) s.size).data.toList = s.data.toList.drop (a + 1) := by rw [Lib.extract_from]
    have HU := fun W => Lib.hid (r23value_any (s.extract (a + 1) s.size) (f - b) W (by rw [ByteArray.size_extract]; omega) (by rw [hx2]; exact hB2))
    rw [hx2, show ((f - b : Nat) : Int) = (f : Int) - (b : Int) from by omega] at HU
    have v1 := val_le hA (n := f) (by omega)
    have v2 := val_le hB2 (n := f - b) (by rw [List.length_drop]; omega)
    have h := r23parse_good s a b l m f _ _ w hs hlt (by omega) (by omega) hmf g5.2.1 (by omega) (by omega) v1.2 v1.1 v2.2 v2.1 HC HV HD HU (by rw [bne_eq_false_iff_eq]; exact h46.1 g4)
    rw [tenI_cast, tenI_cast, ← Int.natCast_mul, ← Int.natCast_mul, ← Int.natCast_add] at h
    exact h

end Go.Proofs.YtpaejoikfnmdhaaDoor
