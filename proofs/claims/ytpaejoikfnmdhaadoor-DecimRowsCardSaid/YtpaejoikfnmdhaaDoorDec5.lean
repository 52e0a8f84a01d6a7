/- strings.TrimRight of one byte; the reference's Digits and behind. -/
import Derived.Test.YtpaejoikfnmdhaaDoorDec4
import Derived.Lib.TrimByte
namespace Go.Proofs.YtpaejoikfnmdhaaDoor
set_option linter.unusedVariables false
open Go.RowKit

def toB (l : List UInt8) : ByteArray := ⟨l.toArray⟩
theorem B_toList (t : ByteArray) : toB t.data.toList = t := by obtain ⟨⟨l⟩⟩ := t; rfl
theorem toList_B (l : List UInt8) : (toB l).data.toList = l := by simp [toB]
theorem size_B (l : List UInt8) : (toB l).size = l.length := by show l.toArray.size = _; simp
theorem toB_append (a b : List UInt8) : toB a ++ toB b = toB (a ++ b) := by
  apply ByteArray.ext
  simp [toB, ByteArray.data_append]

theorem trimR_nil (c : UInt8) : Lib.trimRightB [] c = [] := rfl
theorem trimR_eq (l : List UInt8) (c : UInt8) : Lib.trimRightB (l ++ [c]) c = Lib.trimRightB l c := by simp [Lib.trimRightB]
theorem trimR_ne (l : List UInt8) (x c : UInt8) (h : x ≠ c) : Lib.trimRightB (l ++ [x]) c = l ++ [x] := by simp [Lib.trimRightB, h]
theorem last_parted (t : ByteArray) (n : Nat) (h : t.size = n + 1) : t.data.toList = (t.extract 0 n).data.toList ++ [t[n]'(by omega)] := by
  have hl : n < t.data.toList.length := by simpa using (show n < t.size by omega)
  have e1 : (t.extract 0 n).data.toList = t.data.toList.take n := by rw [Lib.extract_upto]
  have e2 : t.data.toList[n]'hl = t[n]'(by omega) := rfl
  have e3 : t.data.toList.length = n + 1 := by simpa using h
  rw [e1, ← e2, ← List.take_succ_eq_append_getElem hl, List.take_of_length_le (by omega)]

set_option maxHeartbeats 1000000 in
theorem trimByte_any (s : ByteArray) (c : UInt8) (w : World) (hs : s.size ≤ 1000000) :
    Calls Tryd.prog 67 #[.string s, .int .u8 (c.toNat : Int)] w fun e w' => e = .returned (.string (toB (Lib.trimRightB s.data.toList c))) ∧ w = w' := by
  go_enter Tryd.func67, Tryd.ntmps67
  go_wp2
  go_loop [0] (fun v => ∃ t : ByteArray, v = .string t ∧ t.size ≤ 1000000 ∧ Hid (Lib.trimRightB s.data.toList c = Lib.trimRightB t.data.toList c)) (fun v => Lib.strSize v)
  case atStart => exact ⟨s, rfl, hs, rfl⟩
  case round =>
    obtain ⟨t, rfl, ht, hR⟩ := hrel
    by_cases h0 : t.size = 0
    · have hf : Hid (Lib.trimRightB s.data.toList c = t.data.toList) := by
        have : t.data.toList = [] := List.eq_nil_of_length_eq_zero (by simpa using h0)
        show _ = _
        rw [hR.out, this]; rfl
      go_wp2
      go_ret
      exact ⟨by rw [hf.out, B_toList]; rfl, rfl⟩
    · obtain ⟨n, hn⟩ : ∃ n, t.size = n + 1 := ⟨t.size - 1, by omega⟩
      have hlt : n < t.size := by omega
      have hp := Lib.hid (last_parted t n hn)
      have e1 : (t.size : Int) - 1 = (n : Int) := by omega
      have hpos : (0 : Int) < (t.size : Int) := by omega
      by_cases hc : t[n] = c
      · have hb : (((t[n]'hlt).toNat : Int) == (c.toNat : Int)) = true := by rw [hc]; simp
        have hR2 : Hid (Lib.trimRightB s.data.toList c = Lib.trimRightB (t.extract 0 n).data.toList c) := by
          show _ = _
          rw [hR.out, hp.out, hc, trimR_eq]
        have hz : (t.extract 0 n).size = n := by rw [ByteArray.size_extract]; omega
        clear hp hc hn h0
        go_wp2
        go_round
        case rel => exact ⟨_, rfl, by omega, hR2⟩
        case measure => rw [Lib.strSize_string, Lib.strSize_string]; omega
      · have hb : (((t[n]'hlt).toNat : Int) == (c.toNat : Int)) = false := by
          rw [beq_eq_false_iff_ne]
          exact fun k => hc (UInt8.toNat_inj.1 (by omega))
        have hf : Hid (Lib.trimRightB s.data.toList c = t.data.toList) := by
          show _ = _
          rw [hR.out, hp.out, trimR_ne _ _ _ hc]
        clear hp hc hn h0
        go_wp2
        go_ret
        exact ⟨by rw [hf.out, B_toList]; rfl, rfl⟩

end Go.Proofs.YtpaejoikfnmdhaaDoor
