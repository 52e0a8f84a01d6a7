/- Contracts of the reference of layer 7: bit, Of, Hex, Digit, Unhex, Seal, Open. -/
import Derived.Test.YtleebikcakndnaaPar2
import Derived.Deep.QuietTactic
import Derived.BigQuiet
namespace Go.Proofs.Ytleebikcakndnaa
set_option linter.unusedVariables false
open Go.RowKit

def bitN (b i : Nat) : Bool := b.testBit i
theorem bitN_eq (b i : Nat) : bitN b i = (((b / 2 ^ i : Nat) : Int) % 2 == 1) := by
  unfold bitN
  rw [Nat.testBit_eq_decide_div_mod_eq]
  generalize b / 2 ^ i = q
  rw [Bool.eq_iff_iff, decide_eq_true_eq, beq_iff_eq]
  omega
theorem bitN_xor (a b i : Nat) : bitN (a ^^^ b) i = (bitN a i != bitN b i) := by unfold bitN; rw [Nat.testBit_xor]

set_option maxHeartbeats 400000 in
theorem r07bit_any (b i : Nat) (w : World) (hb : b < 256) (hi : i ≤ 8) :
    Calls Try.prog 47 #[.int .u8 (b : Int), .int .i64 (i : Int)] w fun e w' => e = .returned (.bool (bitN b i)) ∧ w = w' := by
  go_enter Try.func47, Try.ntmps47
  go_wp2
  go_loop [0, 5] (fun x k => ∃ j : Nat, j ≤ i ∧ k = .int .i64 j ∧ x = .int .u8 ((b / 2 ^ j : Nat) : Int)) (fun _ k => i - (intOf k).toNat)
  case atStart => exact ⟨0, Nat.zero_le _, rfl, by simp⟩
  case round =>
    obtain ⟨j, hj, rfl, rfl⟩ := hrel
    have hle : b / 2 ^ j < 256 := Nat.lt_of_le_of_lt (Nat.div_le_self _ _) hb
    have H := Lib.hid (Nat.div_div_eq_div_mul b (2 ^ j) 2)
    obtain ⟨q, hq⟩ : ∃ q, b / 2 ^ j = q := ⟨_, rfl⟩
    rw [hq] at hle ⊢
    have HQ := Lib.hid hq
    clear hq
    by_cases hlt : j < i
    · go_wp2
      go_round
      case rel => exact ⟨j + 1, by omega, by go_num, by have h1 := H.out; have h2 := HQ.out; rw [h2] at h1; rw [Nat.pow_succ, ← h1]; rfl⟩
      case measure => simp [intOf]; omega
    · go_wp2
      go_ret
      refine ⟨ret_bool ?_, rfl⟩
      have : j = i := by omega
      subst this
      rw [bitN_eq, HQ.out]

/-- The low bits of a number. -/
theorem mod_step (n i : Nat) : n % 2 ^ (i + 1) = n % 2 ^ i + (if bitN n i then 2 ^ i else 0) := by
  unfold bitN
  rw [Nat.testBit_eq_decide_div_mod_eq, Nat.pow_succ, Nat.mod_mul]
  have h : n / 2 ^ i % 2 = 0 ∨ n / 2 ^ i % 2 = 1 := by omega
  rcases h with h | h <;> simp [h]



/-- The reference's sum, bit by bit: A is what the first j bits come to, B is the next bit's place. -/
def OfRel (S j : Nat) (A B : Int) : Prop := A = ((S % 2 ^ j : Nat) : Int) ∧ (j < 8 → B = ((2 ^ j : Nat) : Int))
theorem OfRel.out_ {S j : Nat} {A B : Int} (h : OfRel S j A B) (hS : S < 256) (hj : j < 8) : 0 ≤ A ∧ 0 ≤ B ∧ (bitN S j = true → A + B ≤ 255) ∧ A ≤ 255 ∧ B ≤ 128 := by
  obtain ⟨rfl, hB⟩ := h
  rw [hB hj]
  have h1 := mod_step S j
  have h2 : S % 2 ^ (j + 1) ≤ S := Nat.mod_le _ _
  have h3 : S % 2 ^ j ≤ S := Nat.mod_le _ _
  have h4 : 2 ^ j ≤ 2 ^ 7 := Nat.pow_le_pow_right (by omega) (by omega)
  refine ⟨by omega, by omega, fun hb => ?_, by omega, by omega⟩
  rw [hb, if_pos rfl] at h1
  omega
theorem OfRel.yes {S j : Nat} {A B B' : Int} (h : OfRel S j A B) (hj : j < 8) (hb : bitN S j = true) (hB : j + 1 < 8 → B' = 2 * B) : OfRel S (j + 1) (A + B) B' := by
  obtain ⟨rfl, h2⟩ := h
  refine ⟨?_, fun hj1 => ?_⟩
  · rw [h2 hj, mod_step, hb, if_pos rfl]
    omega
  · rw [hB hj1, h2 hj, Nat.pow_succ]
    omega
theorem OfRel.no {S j : Nat} {A B B' : Int} (h : OfRel S j A B) (hj : j < 8) (hb : bitN S j = false) (hB : j + 1 < 8 → B' = 2 * B) : OfRel S (j + 1) A B' := by
  obtain ⟨rfl, h2⟩ := h
  refine ⟨?_, fun hj1 => ?_⟩
  · rw [mod_step, hb]
    simp
  · rw [hB hj1, h2 hj, Nat.pow_succ]
    omega
theorem OfRel.dbl {S j : Nat} {A B : Int} (h : OfRel S j A B) (hj : j + 1 < 8) : 2 * B ≤ 255 := by
  rw [h.2 (by omega)]
  have h4 : 2 ^ j ≤ 2 ^ 6 := Nat.pow_le_pow_right (by omega) (by omega)
  omega
def oddAt (s : ByteArray) (m j : Nat) : Bool := bitN (xorL (s.data.toList.take m)).toNat j
theorem oddAt_succ (s : ByteArray) (m j : Nat) (h : m < s.size) : oddAt s (m + 1) j = (oddAt s m j != bitN s[m].toNat j) := by
  unfold oddAt
  rw [take_snoc s m h, xorL_snoc, UInt8.toNat_xor, bitN_xor]
theorem oddAt_zero (s : ByteArray) (j : Nat) : oddAt s 0 j = false := by simp [oddAt, xorL, bitN]
theorem oddAt_end (s : ByteArray) (m j : Nat) (h : ¬ m < s.size) : oddAt s m j = bitN (xorL s.data.toList).toNat j := by
  unfold oddAt
  rw [List.take_of_length_le (by simp; omega)]

set_option maxHeartbeats 1000000 in
theorem r07Of_any (s : ByteArray) (w : World) (hs : s.size ≤ 1000000) :
    Calls Try.prog 31 #[.string s] w fun e w' => e = .returned (.int .u8 (sumI s)) ∧ w = w' := by
  obtain ⟨S, hS, hSe⟩ : ∃ S : Nat, S < 256 ∧ (xorL s.data.toList).toNat = S := ⟨_, (xorL s.data.toList).toNat_lt, rfl⟩
  have HS := Lib.hid hSe
  clear hSe
  go_enter Try.func31, Try.ntmps31
  go_wp2
  go_loop [3, 4, 5, 6, 7] (fun out by' i _ _ => ∃ (j : Nat) (A B : Int), j ≤ 8 ∧ i = .int .i64 j ∧ out = .int .u8 A ∧ by' = .int .u8 B ∧ OfRel S j A B) (fun _ _ i _ _ => 8 - (intOf i).toNat)
  case atStart => exact ⟨0, 0, 1, Nat.zero_le _, rfl, rfl, rfl, by simp [Nat.mod_one], fun _ => rfl⟩
  case round =>
    obtain ⟨j, A, B, hj, rfl, rfl, rfl, hr⟩ := hrel
    have HR := Lib.hid hr
    clear hr
    by_cases hlt : j < 8
    · go_wp2
      go_loop [6, 7] (fun odd k => ∃ m : Nat, m ≤ s.size ∧ k = .int .i64 m ∧ odd = .bool (oddAt s m j)) (fun _ k => s.size - (intOf k).toNat)
      case atStart => exact ⟨0, Nat.zero_le _, rfl, by rw [oddAt_zero]⟩
      case round =>
        obtain ⟨m, hm, rfl, rfl⟩ := hrel
        by_cases hmt : m < s.size
        · have hb : s[m].toNat < 256 := s[m].toNat_lt
          go_wp2_with fail
          refine (r07bit_any s[m].toNat j _ hb (by omega)).mono ?_
          rintro e w' ⟨rfl, rfl⟩
          go_wp2_with fail
          go_round
          case rel => exact ⟨m + 1, by omega, by go_num, by rw [oddAt_succ s m j hmt]; rfl⟩
          case measure => simp [intOf]; omega
        · rw [oddAt_end s m j hmt, HS.out]
          obtain ⟨a0, b0, hsum, a1, b1⟩ := HR.out.out_ hS hlt
          cases hbit : bitN S j with
          | true =>
            have hs2 := hsum hbit
            have Hb := Lib.hid hbit
            clear hbit hsum
            by_cases h7 : j + 1 < 8
            · have hd := HR.out.dbl h7
              go_wp2_with fail
              go_round
              case rel => exact ⟨j + 1, A + B, 2 * B, by omega, by go_num, rfl, rfl, HR.out.yes hlt Hb.out fun _ => rfl⟩
              case measure => simp [intOf]; omega
            · go_wp2_with fail
              go_round
              case rel => exact ⟨j + 1, A + B, _, by omega, by go_num, rfl, rfl, HR.out.yes hlt Hb.out fun h => absurd h h7⟩
              case measure => simp [intOf]; omega
          | false =>
            have Hb := Lib.hid hbit
            clear hbit hsum
            by_cases h7 : j + 1 < 8
            · have hd := HR.out.dbl h7
              go_wp2_with fail
              go_round
              case rel => exact ⟨j + 1, A, 2 * B, by omega, by go_num, rfl, rfl, HR.out.no hlt Hb.out fun _ => rfl⟩
              case measure => simp [intOf]; omega
            · go_wp2_with fail
              go_round
              case rel => exact ⟨j + 1, A, _, by omega, by go_num, rfl, rfl, HR.out.no hlt Hb.out fun h => absurd h h7⟩
              case measure => simp [intOf]; omega
    · go_wp2
      go_ret
      refine ⟨ret_u8 ?_, rfl⟩
      have e8 : j = 8 := by omega
      have h1 := HR.out.1
      rw [e8] at h1
      show A = sumI s
      unfold sumI
      rw [HS.out, h1, Nat.mod_eq_of_lt hS]


theorem hexL_dig (n : Int) (h0 : 0 ≤ n) (h1 : n ≤ 255) :
    ((ByteArray.mk #[48, 49, 50, 51, 52, 53, 54, 55, 56, 57, 65, 66, 67, 68, 69, 70]).extract (n / 16).toNat (n / 16 + 1).toNat ++
      (ByteArray.mk #[48, 49, 50, 51, 52, 53, 54, 55, 56, 57, 65, 66, 67, 68, 69, 70]).extract (n % 16).toNat (n % 16 + 1).toNat) = ⟨(hexL n).toArray⟩ := by
  obtain ⟨k, rfl⟩ := Int.eq_ofNat_of_zero_le h0
  have h : ∀ k : Fin 256, ((ByteArray.mk #[48, 49, 50, 51, 52, 53, 54, 55, 56, 57, 65, 66, 67, 68, 69, 70]).extract (((k.val : Nat) : Int) / 16).toNat (((k.val : Nat) : Int) / 16 + 1).toNat ++
      (ByteArray.mk #[48, 49, 50, 51, 52, 53, 54, 55, 56, 57, 65, 66, 67, 68, 69, 70]).extract (((k.val : Nat) : Int) % 16).toNat (((k.val : Nat) : Int) % 16 + 1).toNat) = ⟨(hexL ((k.val : Nat) : Int)).toArray⟩ := by decide +kernel
  exact h ⟨k, by omega⟩


set_option maxHeartbeats 400000 in
theorem r07Hex_any (n : Int) (w : World) (h0 : 0 ≤ n) (h1 : n ≤ 255) :
    Calls Try.prog 42 #[.int .u8 n] w fun e w' => e = .returned (.string ⟨(hexL n).toArray⟩) ∧ Below w.heap.size w w' := by
  have hd := Lib.hid (hexL_dig n h0 h1)
  go_enter Try.func42, Try.ntmps42
  go_wp2_with fail
  go_quiet (fail)
  go_wp2_with fail
  go_ret
  exact ⟨ret_str hd.out, bdrewN (Below.refl _ _) _⟩

/-- The document's digits, one by one. -/
def dgt (k : Nat) : Int := if k < 10 then 48 + k else 55 + k
theorem dgt_at (k : Nat) (hk : k < 16) : (((ByteArray.mk #[48, 49, 50, 51, 52, 53, 54, 55, 56, 57, 65, 66, 67, 68, 69, 70])[k]'hk).toNat : Int) = dgt k := by
  have h : ∀ k : Fin 16, (((ByteArray.mk #[48, 49, 50, 51, 52, 53, 54, 55, 56, 57, 65, 66, 67, 68, 69, 70])[k.val]'k.isLt).toNat : Int) = dgt k.val := by decide +kernel
  exact h ⟨k, hk⟩
def digI (c : Int) : Int := if isR c then valR c else -1
theorem digI_low (c : Int) (ha : 97 ≤ c) (hb : c ≤ 102) : digI c = c - 97 + 10 := by
  unfold digI
  rw [if_pos (by simp [isR]; omega)]
  unfold valR
  split
  · omega
  · split <;> omega
theorem digI_dgt (k : Nat) (hk : k < 16) : digI (dgt k) = (k : Int) := by
  have h : ∀ k : Fin 16, digI (dgt k.val) = ((k.val : Nat) : Int) := by decide +kernel
  exact h ⟨k, hk⟩
theorem digI_none (c : Int) (h : c < 97 ∨ 102 < c) (hno : ∀ j : Nat, j < 16 → dgt j ≠ c) : digI c = -1 := by
  unfold digI
  rw [if_neg]
  intro hr
  have hr' : 48 ≤ c ∧ c ≤ 57 ∨ 65 ≤ c ∧ c ≤ 70 ∨ 97 ≤ c ∧ c ≤ 102 := by simpa [isR] using hr
  rcases hr' with ⟨a, b⟩ | ⟨a, b⟩ | ⟨a, b⟩
  · have := hno (c - 48).toNat (by omega)
    unfold dgt at this
    split at this <;> omega
  · have := hno (c - 55).toNat (by omega)
    unfold dgt at this
    split at this <;> omega
  · omega

set_option maxHeartbeats 1000000 in
theorem r07Digit_any (c : Int) (w : World) (h0 : 0 ≤ c) (h1 : c ≤ 255) :
    Calls Try.prog 46 #[.int .u8 c] w fun e w' => e = .returned (.int .i64 (digI c)) ∧ w = w' := by
  by_cases h : 97 ≤ c ∧ c ≤ 102
  · obtain ⟨ha, hb⟩ := h
    rw [digI_low c ha hb]
    go_enter Try.func46, Try.ntmps46
    go_wp2
    go_ret
    exact ⟨rfl, rfl⟩
  · have h' : c < 97 ∨ 102 < c := by omega
    clear h
    have H := Lib.hid h'
    rcases h' with h | h
    all_goals
      go_enter Try.func46, Try.ntmps46
      go_wp2
      go_loop [3] (fun i => ∃ k : Nat, k ≤ 16 ∧ i = .int .i64 k ∧ ∀ j : Nat, j < k → dgt j ≠ c) (fun i => 16 - (intOf i).toNat)
      case atStart => exact ⟨0, Nat.zero_le _, rfl, fun j hj => absurd hj (Nat.not_lt_zero _)⟩
      case round =>
        obtain ⟨k, hk, rfl, hno⟩ := hrel
        have Hno := Lib.hid hno
        clear hno
        by_cases hlt : k < 16
        · have ek := dgt_at k hlt
          by_cases he : dgt k = c
          · have Hc : Hid (digI c = (k : Int)) := by rw [← he]; exact digI_dgt k hlt
            have hb : (dgt k == c) = true := by rw [beq_iff_eq]; exact he
            clear he
            go_wp2_with fail
            go_ret
            exact ⟨by rw [Hc.out]; rfl, rfl⟩
          · have He := Lib.hid he
            have hb : (dgt k == c) = false := by rw [beq_eq_false_iff_ne]; exact he
            clear he
            go_wp2_with fail
            go_round
            case rel => exact ⟨k + 1, by omega, by go_num, fun j hj => by
              rcases Nat.lt_or_ge j k with h | h
              · exact Hno.out j h
              · obtain rfl : j = k := by omega
                exact He.out⟩
            case measure => simp [intOf]; omega
        · have e16 : k = 16 := by omega
          have Hc : Hid (digI c = -1) := digI_none c H.out (fun j hj => Hno.out j (by omega))
          clear e16
          go_wp2_with fail
          go_ret
          exact ⟨by rw [Hc.out]; rfl, rfl⟩

end Go.Proofs.Ytleebikcakndnaa
