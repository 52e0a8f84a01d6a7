/- Contracts of package parity (program): Of, digit, Hex, value, Unhex, Seal, Open. -/
import Derived.Test.YtleebikcakndnaaProg
import Derived.Test.YtleebikcakndnaaBas
namespace Go.Proofs.Ytleebikcakndnaa
set_option linter.unusedVariables false
open Go.RowKit

def xorL (l : List UInt8) : UInt8 := l.foldl (fun c b => c ^^^ b) 0
theorem xorL_snoc (l : List UInt8) (b : UInt8) : xorL (l ++ [b]) = xorL l ^^^ b := by simp [xorL]

set_option maxHeartbeats 400000 in
theorem Of_any (s : ByteArray) (w : World) (hs : s.size ≤ maxLen) :
    Calls Try.prog 40 #[.string s] w fun e w' => e = .returned (.int .u8 ((xorL s.data.toList).toNat : Int)) ∧ w = w' := by
  unfold maxLen at hs
  go_enter Try.func40, Try.ntmps40
  go_wp2
  go_loop [3, 7] (fun c i => ∃ k : Nat, k ≤ s.size ∧ i = .int .i64 k ∧ c = .int .u8 ((xorL (s.data.toList.take k)).toNat : Int)) (fun _ i => s.size - (intOf i).toNat)
  case atStart => exact ⟨0, Nat.zero_le _, rfl, rfl⟩
  case round =>
    obtain ⟨k, hk, rfl, rfl⟩ := hrel
    by_cases hlt : k < s.size
    · go_wp2
      go_round
      case rel => exact ⟨k + 1, by omega, by go_num, by rw [take_snoc s k hlt, xorL_snoc, xor_u8]⟩
      case measure => simp [intOf]; omega
    · go_wp2
      go_ret
      exact ⟨ret_u8 (by rw [List.take_of_length_le (by simp; omega)]), rfl⟩

/-- A digit to the base 16, as a byte. -/
def dg (n : Int) : Int := if n < 10 then 48 + n else 55 + n

theorem digit_any (n : Int) (w : World) (h0 : 0 ≤ n) (h1 : n ≤ 15) :
    Calls Try.prog 49 #[.int .u8 n] w fun e w' => e = .returned (.int .u8 (dg n)) ∧ w = w' := by
  by_cases h : n < 10
  · have hd : dg n = 48 + n := by simp [dg, h]
    rw [hd]
    clear hd
    go_enter Try.func49, Try.ntmps49
    go_wp2
    go_ret
    exact ⟨rfl, rfl⟩
  · have hd : dg n = 65 + n - 10 := by simp [dg, h]; omega
    rw [hd]
    clear hd
    go_enter Try.func49, Try.ntmps49
    go_wp2
    go_ret
    exact ⟨rfl, rfl⟩

/-- Two digits to the base 16. -/
def hexL (n : Int) : List UInt8 := [UInt8.ofNat (dg (n / 16)).toNat, UInt8.ofNat (dg (n % 16)).toNat]

set_option maxHeartbeats 400000 in
theorem Hex_any (n : Int) (w : World) (h0 : 0 ≤ n) (h1 : n ≤ 255) :
    Calls Try.prog 39 #[.int .u8 n] w fun e w' => e = .returned (.string ⟨(hexL n).toArray⟩) ∧ Below w.heap.size w w' := by
  have kc := run_conv2 (P := Try.prog) 39 9 5 Try.underlying39 Try.underlying5 Try.underlying9
  go_enter Try.func39, Try.ntmps39
  go_wp2_with fail
  refine (digit_any (n / 16) _ (by omega) (by omega)).mono ?_
  rintro e w' ⟨rfl, rfl⟩
  go_wp2_with fail
  refine (digit_any (n % 16) _ (by omega) (by omega)).mono ?_
  rintro e w' ⟨rfl, rfl⟩
  go_wp2
  go_ret
  exact ⟨rfl, (Below.refl _ _).alloc (Nat.le_refl _) _⟩

/-- The number of a digit, of a rune. -/
def valR (c : Int) : Int := if c ≤ 57 then c - 48 else if c ≤ 70 then c - 55 else c - 87
def isR (c : Int) : Bool := decide (48 ≤ c ∧ c ≤ 57 ∨ 65 ≤ c ∧ c ≤ 70 ∨ 97 ≤ c ∧ c ≤ 102)

theorem value_yes (c : Int) (w : World) (h : isR c = true) :
    Calls Try.prog 51 #[.int .i32 c] w fun e w' => e = .returned (.tuple #[.int .u8 (valR c), .bool true]) ∧ w = w' := by
  have h' : 48 ≤ c ∧ c ≤ 57 ∨ 65 ≤ c ∧ c ≤ 70 ∨ 97 ≤ c ∧ c ≤ 102 := by simpa [isR] using h
  clear h
  rcases h' with ⟨h0, h1⟩ | ⟨h0, h1⟩ | ⟨h0, h1⟩
  · have hd : valR c = c - 48 := by simp [valR, h1]
    rw [hd]
    clear hd
    go_enter Try.func51, Try.ntmps51
    go_wp2
    go_ret2
    exact ⟨rfl, rfl⟩
  · have hd : valR c = c - 65 + 10 := by unfold valR; split <;> omega
    rw [hd]
    clear hd
    go_enter Try.func51, Try.ntmps51
    go_wp2
    go_ret2
    exact ⟨rfl, rfl⟩
  · have hd : valR c = c - 97 + 10 := by unfold valR; split; omega; split <;> omega
    rw [hd]
    clear hd
    go_enter Try.func51, Try.ntmps51
    go_wp2
    go_ret2
    exact ⟨rfl, rfl⟩

theorem value_no (c : Int) (w : World) (h : isR c = false) :
    Calls Try.prog 51 #[.int .i32 c] w fun e w' => e = .returned (.tuple #[.int .u8 0, .bool false]) ∧ w = w' := by
  have h' : ¬ (48 ≤ c ∧ c ≤ 57 ∨ 65 ≤ c ∧ c ≤ 70 ∨ 97 ≤ c ∧ c ≤ 102) := by simpa [isR] using h
  clear h
  have h2 : c < 48 ∨ 57 < c ∧ c < 65 ∨ 70 < c ∧ c < 97 ∨ 102 < c := by omega
  clear h'
  rcases h2 with h0 | ⟨h0, h1⟩ | ⟨h0, h1⟩ | h0
  all_goals
    go_enter Try.func51, Try.ntmps51
    go_wp2
    go_ret2
    exact ⟨rfl, rfl⟩


theorem isR_decode (s : ByteArray) (pos : Nat) (h : pos < s.size) : isR ((Utf8.decode s pos).1 : Int) = isR (s[pos].toNat : Int) := by
  by_cases ha : s[pos].toNat < 128
  · rw [decode_ascii s pos h ha]
  · have hd := (decode_high s pos h (by omega)).1
    have e1 : isR ((Utf8.decode s pos).1 : Int) = false := by simp [isR]; omega
    have e2 : isR (s[pos].toNat : Int) = false := by simp [isR]; omega
    rw [e1, e2]
theorem decode_isR (s : ByteArray) (pos : Nat) (h : pos < s.size) (hr : isR (s[pos].toNat : Int) = true) : Utf8.decode s pos = (s[pos].toNat, 1) := by
  have : 48 ≤ (s[pos].toNat : Int) ∧ (s[pos].toNat : Int) ≤ 57 ∨ 65 ≤ (s[pos].toNat : Int) ∧ (s[pos].toNat : Int) ≤ 70 ∨ 97 ≤ (s[pos].toNat : Int) ∧ (s[pos].toNat : Int) ≤ 102 := by simpa [isR] using hr
  exact decode_ascii s pos h (by omega)

/-- The number that two digits to the base 16 are. -/
def unhexL : List UInt8 → Option Int
  | [a, b] => if isR (a.toNat : Int) && isR (b.toNat : Int) then some (16 * valR (a.toNat : Int) + valR (b.toNat : Int)) else none
  | _ => none

theorem unhexL_len {l : List UInt8} (h : l.length ≠ 2) : unhexL l = none := by
  unfold unhexL
  split
  · simp at h
  · rfl

theorem Unhex_len (s : ByteArray) (w : World) (h : s.size ≠ 2) :
    Calls Try.prog 44 #[.string s] w fun e w' => e = .returned (.tuple #[.int .u8 0, .bool false]) ∧ w = w' := by
  have hb : ((s.size : Int) != 2) = true := by rw [bne_iff_ne]; omega
  go_enter Try.func44, Try.ntmps44
  go_wp2
  go_ret2
  exact ⟨rfl, rfl⟩

theorem or_digits16 (a b : Int) (ha0 : 0 ≤ a) (ha : a < 16) (hb0 : 0 ≤ b) (hb : b < 16) : bits BinOp.or IntKind.u8 (a * 16) b = 16 * a + b := by
  obtain ⟨x, rfl⟩ := Int.eq_ofNat_of_zero_le ha0
  obtain ⟨y, rfl⟩ := Int.eq_ofNat_of_zero_le hb0
  have h : ∀ x y : Fin 16, bits BinOp.or IntKind.u8 (((x.val : Nat) : Int) * 16) ((y.val : Nat) : Int) = 16 * ((x.val : Nat) : Int) + ((y.val : Nat) : Int) := by decide +kernel
  exact h ⟨x, by omega⟩ ⟨y, by omega⟩
theorem or_digit0 (b : Int) (hb0 : 0 ≤ b) (hb : b < 16) : bits BinOp.or IntKind.u8 0 b = b := by
  have := or_digits16 0 b (by omega) (by omega) hb0 hb
  simpa using this
theorem valR_bd (c : Int) (h : isR c = true) : 0 ≤ valR c ∧ valR c < 16 := by
  have h' : 48 ≤ c ∧ c ≤ 57 ∨ 65 ≤ c ∧ c ≤ 70 ∨ 97 ≤ c ∧ c ≤ 102 := by simpa [isR] using h
  unfold valR
  split
  · omega
  · split <;> omega

set_option maxHeartbeats 400000 in
theorem Unhex_core (s : ByteArray) (x0 x1 : Int) (w : World) (hb : ((s.size : Int) != 2) = false) (h0 : Hid (isR x0 = true)) (h1 : Hid (isR x1 = true))
    (n0 : ∀ ty, (Instr.next (.pointer (some ⟨w.heap.size, 0, none⟩)) true ty).run Try.prog (w.iter s 0) = .ok (.tuple #[.bool true, .int .i64 0, .int .i32 x0]) (w.iter s 1))
    (n1 : ∀ ty, (Instr.next (.pointer (some ⟨w.heap.size, 0, none⟩)) true ty).run Try.prog (w.iter s 1) = .ok (.tuple #[.bool true, .int .i64 1, .int .i32 x1]) (w.iter s 2))
    (n2 : ∀ ty, (Instr.next (.pointer (some ⟨w.heap.size, 0, none⟩)) true ty).run Try.prog (w.iter s 2) = .ok (.tuple #[.bool false]) (w.iter s 2)) :
    Calls Try.prog 44 #[.string s] w fun e w' => e = .returned (.tuple #[.int .u8 (16 * valR x0 + valR x1), .bool true]) ∧ Below w.heap.size w w' := by
  obtain ⟨v00, v01⟩ := valR_bd _ h0.out
  obtain ⟨v10, v11⟩ := valR_bd _ h1.out
  have o0 := or_digit0 (valR x0) v00 v01
  have o1 := or_digits16 _ _ v00 v01 v10 v11
  go_enter Try.func44, Try.ntmps44
  go_wp2_with fail
  refine wp_loop_rounds 3 ?_
  rw [rounds_succ]
  go_wp2_with fail
  refine (value_yes x0 _ h0.out).mono ?_
  rintro e w' ⟨rfl, rfl⟩
  go_wp2_with fail
  rw [rounds_succ]
  go_wp2_with fail
  refine (value_yes x1 _ h1.out).mono ?_
  rintro e w' ⟨rfl, rfl⟩
  go_wp2_with fail
  rw [rounds_succ]
  go_wp2_with fail
  go_ret2
  exact ⟨rfl, (Below.refl _ _).alloc (Nat.le_refl _) _⟩

set_option maxHeartbeats 400000 in
theorem Unhex_no0 (s : ByteArray) (x0 : Int) (w1 w : World) (hb : ((s.size : Int) != 2) = false) (h0 : Hid (isR x0 = false)) (hw : Below w.heap.size w w1)
    (n0 : ∀ ty, (Instr.next (.pointer (some ⟨w.heap.size, 0, none⟩)) true ty).run Try.prog (w.iter s 0) = .ok (.tuple #[.bool true, .int .i64 0, .int .i32 x0]) w1) :
    Calls Try.prog 44 #[.string s] w fun e w' => e = .returned (.tuple #[.int .u8 0, .bool false]) ∧ Below w.heap.size w w' := by
  go_enter Try.func44, Try.ntmps44
  go_wp2_with fail
  refine wp_loop_rounds 1 ?_
  rw [rounds_succ]
  go_wp2_with fail
  refine (value_no x0 _ h0.out).mono ?_
  rintro e w' ⟨rfl, rfl⟩
  go_wp2_with fail
  go_ret2
  exact ⟨rfl, hw⟩

set_option maxHeartbeats 400000 in
theorem Unhex_no1 (s : ByteArray) (x0 x1 : Int) (w1 w : World) (hb : ((s.size : Int) != 2) = false) (h0 : Hid (isR x0 = true)) (h1 : Hid (isR x1 = false)) (hw : Below w.heap.size w w1)
    (n0 : ∀ ty, (Instr.next (.pointer (some ⟨w.heap.size, 0, none⟩)) true ty).run Try.prog (w.iter s 0) = .ok (.tuple #[.bool true, .int .i64 0, .int .i32 x0]) (w.iter s 1))
    (n1 : ∀ ty, (Instr.next (.pointer (some ⟨w.heap.size, 0, none⟩)) true ty).run Try.prog (w.iter s 1) = .ok (.tuple #[.bool true, .int .i64 1, .int .i32 x1]) w1) :
    Calls Try.prog 44 #[.string s] w fun e w' => e = .returned (.tuple #[.int .u8 0, .bool false]) ∧ Below w.heap.size w w' := by
  obtain ⟨v00, v01⟩ := valR_bd _ h0.out
  have o0 := or_digit0 (valR x0) v00 v01
  go_enter Try.func44, Try.ntmps44
  go_wp2_with fail
  refine wp_loop_rounds 2 ?_
  rw [rounds_succ]
  go_wp2_with fail
  refine (value_yes x0 _ h0.out).mono ?_
  rintro e w' ⟨rfl, rfl⟩
  go_wp2_with fail
  rw [rounds_succ]
  go_wp2_with fail
  refine (value_no x1 _ h1.out).mono ?_
  rintro e w' ⟨rfl, rfl⟩
  go_wp2_with fail
  go_ret2
  exact ⟨rfl, hw⟩

theorem unhexL_two (s : ByteArray) (h : s.size = 2) : unhexL s.data.toList = if isR ((s[0]'(by omega)).toNat : Int) && isR ((s[1]'(by omega)).toNat : Int) then some (16 * valR ((s[0]'(by omega)).toNat : Int) + valR ((s[1]'(by omega)).toNat : Int)) else none := by
  obtain ⟨⟨l⟩⟩ := s
  match l, h with
  | [a, b], _ => rfl

/-- Unhex: of any text. -/
theorem Unhex_any (s : ByteArray) (w : World) :
    Calls Try.prog 44 #[.string s] w fun e w' => e = .returned (.tuple #[.int .u8 ((unhexL s.data.toList).getD 0), .bool (unhexL s.data.toList).isSome]) ∧ Below w.heap.size w w' := by
  by_cases hs : s.size = 2
  · have hb : ((s.size : Int) != 2) = false := by rw [bne_eq_false_iff_eq]; omega
    have n0 : ∀ ty, (Instr.next (.pointer (some ⟨w.heap.size, 0, none⟩)) true ty).run Try.prog (w.iter s 0) = _ := fun ty => run_next_any w s 0 ty (by omega)
    have n1 : ∀ ty, (Instr.next (.pointer (some ⟨w.heap.size, 0, none⟩)) true ty).run Try.prog (w.iter s 1) = _ := fun ty => run_next_any w s 1 ty (by omega)
    have n2 : ∀ ty, (Instr.next (.pointer (some ⟨w.heap.size, 0, none⟩)) true ty).run Try.prog (w.iter s 2) = _ := fun ty => run_next_end w s 2 ty (by omega)
    have r0 := isR_decode s 0 (by omega)
    have r1 := isR_decode s 1 (by omega)
    have hB : ∀ p, Below w.heap.size w (w.iter s p) := fun p => (Below.refl _ _).alloc (Nat.le_refl _) _
    rw [unhexL_two s hs]
    by_cases h0 : isR ((s[0]'(by omega)).toNat : Int) = true
    · have d0 := decode_isR s 0 (by omega) h0
      simp only [d0] at n0
      by_cases h1 : isR ((s[1]'(by omega)).toNat : Int) = true
      · have d1 := decode_isR s 1 (by omega) h1
        simp only [d1] at n1
        rw [h0, h1]
        exact Unhex_core s _ _ w hb h0 h1 n0 n1 n2
      · have h1 : isR ((s[1]'(by omega)).toNat : Int) = false := by simpa using h1
        rw [h0, h1]
        exact Unhex_no1 s _ _ _ w hb h0 (r1.trans h1) (hB _) n0 n1
    · have h0 : isR ((s[0]'(by omega)).toNat : Int) = false := by simpa using h0
      rw [h0]
      exact Unhex_no0 s _ _ w hb (r0.trans h0) (hB _) n0
  · rw [unhexL_len (by simpa using hs)]
    exact (Unhex_len s w hs).mono fun _ _ ⟨he, hw⟩ => ⟨he, by subst hw; exact Below.refl _ _⟩

end Go.Proofs.Ytleebikcakndnaa
