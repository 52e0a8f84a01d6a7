/- strings.TrimRight of noughts; the reference's Digits. -/
import Derived.Test.YtpaejoikfnmdhaaDoorDec5
namespace Go.Proofs.YtpaejoikfnmdhaaDoor
set_option linter.unusedVariables false
open Go.RowKit

theorem toList_len (s : ByteArray) : s.toList.length = s.size := by rw [ByteArray.toList_eq]; simp
theorem nonempty_forms {s : ByteArray} (h : 0 < s.size) : s.toList.isEmpty = false ∧ (s.toList == []) = false := by
  have hl := toList_len s
  cases hs : s.toList with
  | nil => rw [hs] at hl; simp at hl; omega
  | cons a l => exact ⟨rfl, rfl⟩

set_option maxRecDepth 20000 in
set_option maxHeartbeats 1000000 in
theorem trimRight_any (s : ByteArray) (w : World) (hs : s.size ≤ 1000000) (h0 : 0 < s.size) :
    Calls Tryd.prog 60 #[.string s, .string ⟨#[48]⟩] w fun e w' => e = .returned (.string (toB (Lib.trimRightB s.data.toList 48))) ∧ w = w' := by
  obtain ⟨f1, f2⟩ := nonempty_forms h0
  have HT := fun W => Lib.hid (trimByte_any s 48 W hs)
  go_enter Tryd.func60, Tryd.ntmps60
  go_wp2_with fail
  refine (HT _).out.mono ?_
  rintro e w' ⟨rfl, rfl⟩
  go_wp2_with fail
  go_ret
  exact ⟨rfl, rfl⟩

set_option maxRecDepth 8000 in
set_option maxHeartbeats 2000000 in
theorem r23Digits_any (n l : Nat) (w : World) (hn : n ≤ 1000000000000000000) (hl : l ≤ 18) :
    Calls Tryd.prog 45 #[.int .i64 (n : Int), .int .i64 (l : Int)] w fun e w' => e = .returned (.string (toB (digL n l))) ∧ Below w.heap.size w w' := by
  have HN19 : Hid (n < 10 ^ (20 - 0 - 1)) := by
    have : (10 : Nat) ^ (20 - 0 - 1) = 10000000000000000000 := by decide
    show n < _
    omega
  have kc := run_conv1 (P := Tryd.prog) 84 9 5 Tryd.underlying84 Tryd.underlying5 Tryd.underlying9
  go_enter Tryd.func45, Tryd.ntmps45
  go_wp2
  go_loopw [0, 5] (fun v s wr => ∃ (m : Nat) (S : ByteArray), v = .int .i64 (m : Int) ∧ s = .string S ∧ S.size ≤ 20 ∧ m ≤ 1000000000000000000 ∧ Hid (m < 10 ^ (20 - S.size - 1)) ∧ Hid (digL n l = digF (20 - S.size) m (l - S.size) ++ S.data.toList) ∧ Hid (Below w.heap.size w wr)) (fun _ s _ => 20 - Lib.strSize s)
  case atStart =>
    exact ⟨n, ⟨#[]⟩, rfl, rfl, by decide, hn, HN19, Lib.hid (by show digL n l = digF 20 n (l - 0) ++ []; rw [List.append_nil]; rfl), Lib.hid (Below.refl _ _)⟩
  case round =>
    obtain ⟨m, S, rfl, rfl, hz, hm, hp, hd, hb⟩ := hrel
    by_cases hgo : 0 < m ∨ S.size < l
    · have hz1 : S.size < 20 := by
        have h2 := hp.out
        rcases Nat.lt_or_ge S.size 20 with h | h
        · exact h
        · have e : 20 - S.size - 1 = 0 := by omega
          rw [e] at h2
          have : m < 1 := h2
          omega
      have hp2 : Hid (m / 10 < 10 ^ (20 - (S.size + 1) - 1)) := by
        have h2 := hp.out
        show _ < _
        by_cases e : S.size = 19
        · rw [e] at h2 ⊢
          have : m < 1 := h2
          show m / 10 < 1
          omega
        · rw [show 20 - S.size - 1 = (20 - (S.size + 1) - 1) + 1 from by omega, Nat.pow_succ] at h2
          omega
      have hd2 : Hid (digL n l = digF (20 - (S.size + 1)) (m / 10) (l - (S.size + 1)) ++ (UInt8.ofNat (48 + m % 10) :: S.data.toList)) := by
        show _ = _
        rw [hd.out, show 20 - S.size = (20 - (S.size + 1)) + 1 from by omega, digF_step _ _ _ (by omega), List.append_assoc]
        rfl
      have hgo2 : 0 < (m : Int) ∨ (m : Int) ≤ 0 ∧ (S.size : Int) < (l : Int) := by omega
      have hof : UInt8.ofNat (48 + m % 10) = 48 + UInt8.ofNat (m % 10) := by rw [UInt8.ofNat_add]; rfl
      rw [hof] at hd2
      have hnext : Hid (∃ (m2 : Nat) (S2 : ByteArray), Value.int .i64 ((m : Int) / 10) = .int .i64 (m2 : Int) ∧ Value.string (⟨#[48 + UInt8.ofNat (m % 10)]⟩ ++ S) = .string S2 ∧ S2.size ≤ 20 ∧ m2 ≤ 1000000000000000000 ∧ Hid (m2 < 10 ^ (20 - S2.size - 1)) ∧ Hid (digL n l = digF (20 - S2.size) m2 (l - S2.size) ++ S2.data.toList)) := by
        have z1 : (ByteArray.mk #[48 + UInt8.ofNat (m % 10)] ++ S).size = S.size + 1 := by
          rw [ByteArray.size_append]
          have : (ByteArray.mk #[48 + UInt8.ofNat (m % 10)]).size = 1 := rfl
          omega
        refine ⟨m / 10, _, rfl, rfl, by omega, by omega, by rw [z1]; exact hp2, ?_⟩
        rw [z1]
        show _ = _
        rw [hd2.out]
        congr 1
      have hbn : Hid (∀ z : Int, Below w.heap.size w (wr.alloc (.cells #[.int .u8 z] 5))) := fun z => hb.out.alloc hb.out.size _
      have hms : 20 - Lib.strSize (.string (⟨#[48 + UInt8.ofNat (m % 10)]⟩ ++ S)) < 20 - Lib.strSize (.string S) := by
        rw [Lib.strSize_string, Lib.strSize_string, ByteArray.size_append]
        have : (ByteArray.mk #[48 + UInt8.ofNat (m % 10)]).size = 1 := rfl
        omega
      have HMS := Lib.hid hms
      clear hp hd hgo hof hd2 hp2 hms HN19 hn
      rcases hgo2 with h | ⟨h, h'⟩
      · go_wp2
        go_round
        case rel =>
          obtain ⟨m2, S2, q1, q2, q3, q4, q5, q6⟩ := hnext.out
          exact ⟨m2, S2, q1, q2, q3, q4, q5, q6, Lib.hid (hbn.out _)⟩
        case measure => exact HMS.out
      · obtain rfl : m = 0 := by omega
        clear h
        go_wp2
        go_round
        case rel =>
          obtain ⟨m2, S2, q1, q2, q3, q4, q5, q6⟩ := hnext.out
          exact ⟨m2, S2, q1, q2, q3, q4, q5, q6, Lib.hid (hbn.out _)⟩
        case measure => exact HMS.out
    · have h1 : (m : Int) ≤ 0 := by omega
      have h2 : (l : Int) ≤ (S.size : Int) := by omega
      have hres : Hid (digL n l = S.data.toList) := by
        have h3 := hd.out
        rw [show m = 0 from by omega, show l - S.size = 0 from by omega, digF_stop] at h3
        exact h3
      clear hp hd hgo HN19 hn hm
      go_wp2
      go_ret
      exact ⟨by rw [hres.out, B_toList]; rfl, hb.out⟩

end Go.Proofs.YtpaejoikfnmdhaaDoor
