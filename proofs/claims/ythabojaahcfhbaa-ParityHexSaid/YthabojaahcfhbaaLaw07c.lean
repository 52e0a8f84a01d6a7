/- The law ParityHex, walked. -/
import Derived.Test.YthabojaahcfhbaaLaw07
import Derived.Test.YthabojaahcfhbaaPlain07
namespace Go.Proofs.Ythabojaahcfhbaa
set_option linter.unusedVariables false
open Go.RowKit

/-- A digit as a small letter. -/
def lowU (c : UInt8) : UInt8 := if 65 ≤ (c.toNat : Int) ∧ (c.toNat : Int) ≤ 70 then c + 32 else c
def lowL (l : List UInt8) : List UInt8 := l.map lowU

theorem hex_facts (n : Int) (h0 : 0 ≤ n) (h1 : n ≤ 255) : unhexL (hexL n) = some n ∧ unhexL (lowL (hexL n)) = some n := by
  obtain ⟨k, rfl⟩ := Int.eq_ofNat_of_zero_le h0
  have h : ∀ k : Fin 256, unhexL (hexL ((k.val : Nat) : Int)) = some ((k.val : Nat) : Int) ∧ unhexL (lowL (hexL ((k.val : Nat) : Int))) = some ((k.val : Nat) : Int) := by decide +kernel
  exact h ⟨k, by omega⟩

theorem lowL_snoc (l : List UInt8) (c : UInt8) : lowL (l ++ [c]) = lowL l ++ [lowU c] := by simp [lowL]
def smallB (s : ByteArray) (k : Nat) : ByteArray := ⟨(lowL (s.data.toList.take k)).toArray⟩
theorem smallB_size (s : ByteArray) (k : Nat) (h : k ≤ s.size) : (smallB s k).size = k := by
  show (lowL (s.data.toList.take k)).toArray.size = k
  simp [lowL]
  omega
theorem smallB_succ (s : ByteArray) (k : Nat) (h : k < s.size) (x : UInt8) (hx : x = lowU s[k]) : smallB s k ++ ⟨#[x]⟩ = smallB s (k + 1) := by
  subst hx
  unfold smallB
  rw [take_snoc s k h, lowL_snoc]
  exact ByteArray.mk_append_mk _ [_]

set_option maxHeartbeats 1000000 in
theorem parityHex_walk (b : Int) (w : World) (hbd : 0 ≤ b ∧ b ≤ 255) :
    Calls Try.prog 3 #[.int .u8 b] w fun e w' => e = .returned (.bool true) ∧ Below w.heap.size w w' := by
  obtain ⟨h0, h1⟩ := hbd
  obtain ⟨hf1, hf2⟩ := hex_facts b h0 h1
  obtain ⟨S, hS⟩ : ∃ S : ByteArray, S = ⟨(hexL b).toArray⟩ := ⟨_, rfl⟩
  have hsz : S.size = 2 := by rw [hS]; rfl
  have z0 : 2 ≤ S.size := by omega
  have z1 : S.size ≤ 2 := by omega
  have hd : S.data.toList = hexL b := by rw [hS]
  have HS := Lib.hid hS
  have HU : Hid (unhexL S.data.toList = some b) := by rw [hd]; exact hf1
  have HL : Hid (unhexL (smallB S 2).data.toList = some b) := by
    show unhexL (lowL (S.data.toList.take 2)).toArray.toList = some b
    rw [hd]
    exact hf2
  clear hS hsz hd hf1 hf2
  have kc := run_conv1 (P := Try.prog) 25 9 5 Try.underlying25 Try.underlying5 Try.underlying9
  go_enter Try.func3, Try.ntmps3
  go_wp2_with fail
  refine (Hex_any b _ h0 h1).mono ?_
  rintro e w1 ⟨rfl, hb1⟩
  rw [← HS.out]
  go_wp2_with fail
  refine (Unhex_some S b _ HU.out).mono ?_
  rintro e w2 ⟨rfl, hb2⟩
  go_wp2_with fail
  go_loopw [6, 7] (fun s i wr => ∃ k : Nat, k ≤ S.size ∧ i = .int .i64 k ∧ s = .string (smallB S k) ∧ Below w2.heap.size w2 wr) (fun _ i _ => S.size - (intOf i).toNat)
  case atStart => exact ⟨0, Nat.zero_le _, rfl, rfl, Below.refl _ _⟩
  case round =>
    obtain ⟨k, hk, rfl, rfl, hbr⟩ := hrel
    have hz := smallB_size S k hk
    have hz2 : (smallB S k).size ≤ 2 := by omega
    clear hz
    by_cases hlt : k < S.size
    · have hsucc := smallB_succ S k hlt
      have HC := Lib.hid hsucc
      clear hsucc
      have u := S[k].toNat_lt
      by_cases hc : 65 ≤ (S[k].toNat : Int) ∧ (S[k].toNat : Int) ≤ 70
      · obtain ⟨c0, c1⟩ := hc
        have hx : Hid (S[k] + 32 = lowU S[k]) := by unfold lowU; rw [if_pos ⟨c0, c1⟩]; exact rfl
        go_wp2_with fail
        go_roundw
        case rel => exact ⟨k + 1, by omega, by go_num, by rw [HC.out _ hx.out], hbr.alloc (hb_le hbr) _⟩
        case measure => simp [intOf]; omega
      · have hx : Hid (S[k] = lowU S[k]) := by unfold lowU; rw [if_neg hc]; exact rfl
        have hc' : (S[k].toNat : Int) < 65 ∨ 70 < (S[k].toNat : Int) := by omega
        clear hc
        rcases hc' with hc | hc
        all_goals
          go_wp2_with fail
          go_roundw
          case rel => exact ⟨k + 1, by omega, by go_num, by rw [HC.out _ hx.out], hbr.alloc (hb_le hbr) _⟩
          case measure => simp [intOf]; omega
    · have e2 : k = 2 := by omega
      have HK := Lib.hid e2
      clear e2
      go_wp2_with fail
      rw [HK.out]
      refine (Unhex_some (smallB S 2) b _ HL.out).mono ?_
      rintro e w3 ⟨rfl, hb3⟩
      go_wp2_with fail
      refine (knows07_any _).mono ?_
      rintro e w4 ⟨rfl, hb4⟩
      go_wp2_with fail
      go_ret
      exact ⟨rfl, (bthen (bthen (bthen (bthen hb1 hb2) hbr) hb3) hb4)⟩

end Go.Proofs.Ythabojaahcfhbaa
