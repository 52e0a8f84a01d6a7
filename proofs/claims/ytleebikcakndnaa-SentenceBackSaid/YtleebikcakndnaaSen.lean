/- Contracts of package sentence (program): letter, sign, all, signs, field. -/
import Derived.Test.YtleebikcakndnaaBld
import Derived.Test.YtleebikcakndnaaPar2
namespace Go.Proofs.Ytleebikcakndnaa
set_option linter.unusedVariables false
open Go.RowKit

def letterP (c : Int) : Bool := decide (32 ≤ c ∧ c ≤ 126 ∧ c ≠ 33 ∧ c ≠ 36 ∧ c ≠ 42 ∧ c ≠ 92 ∧ c ≠ 94 ∧ c ≠ 126)
def signP (c : Int) : Bool := decide (65 ≤ c ∧ c ≤ 90 ∨ 48 ≤ c ∧ c ≤ 57)
def fieldP (c : Int) : Bool := letterP c && decide (c ≠ 44)

set_option maxHeartbeats 1000000 in
theorem letter_any (c : Int) (w : World) :
    Calls Try.prog 38 #[.int .i32 c] w fun e w' => e = .returned (.bool (letterP c)) ∧ w = w' := by
  cases h : letterP c with
  | true =>
    have h' : 32 ≤ c ∧ c ≤ 126 ∧ c ≠ 33 ∧ c ≠ 36 ∧ c ≠ 42 ∧ c ≠ 92 ∧ c ≠ 94 ∧ c ≠ 126 := by simpa [letterP] using h
    clear h
    obtain ⟨h0, h1, h2, h3, h4, h5, h6, h7⟩ := h'
    have k2 : (c == 33) = false := by rw [beq_eq_false_iff_ne]; exact h2
    have k3 : (c == 36) = false := by rw [beq_eq_false_iff_ne]; exact h3
    have k4 : (c == 42) = false := by rw [beq_eq_false_iff_ne]; exact h4
    have k5 : (c == 92) = false := by rw [beq_eq_false_iff_ne]; exact h5
    have k6 : (c == 94) = false := by rw [beq_eq_false_iff_ne]; exact h6
    have k7 : (c == 126) = false := by rw [beq_eq_false_iff_ne]; exact h7
    go_enter Try.func38, Try.ntmps38
    go_wp2
    go_ret
    exact ⟨rfl, rfl⟩
  | false =>
    have h' : c < 32 ∨ 126 < c ∨ c = 33 ∨ c = 36 ∨ c = 42 ∨ c = 92 ∨ c = 94 ∨ c = 126 := by
      have : ¬ (32 ≤ c ∧ c ≤ 126 ∧ c ≠ 33 ∧ c ≠ 36 ∧ c ≠ 42 ∧ c ≠ 92 ∧ c ≠ 94 ∧ c ≠ 126) := by simpa [letterP] using h
      omega
    clear h
    rcases h' with h | h | rfl | rfl | rfl | rfl | rfl | rfl
    all_goals
      go_enter Try.func38, Try.ntmps38
      go_wp2
      go_ret
      first | exact ⟨rfl, rfl⟩ | exact ⟨ret_bool (by simp; omega), rfl⟩

set_option maxHeartbeats 1000000 in
theorem sign_any (c : Int) (w : World) :
    Calls Try.prog 35 #[.int .i32 c] w fun e w' => e = .returned (.bool (signP c)) ∧ w = w' := by
  cases h : signP c with
  | true =>
    have h' : 65 ≤ c ∧ c ≤ 90 ∨ 48 ≤ c ∧ c ≤ 57 := by simpa [signP] using h
    clear h
    rcases h' with ⟨h0, h1⟩ | ⟨h0, h1⟩
    all_goals
      go_enter Try.func35, Try.ntmps35
      go_wp2
      go_ret
      first | exact ⟨rfl, rfl⟩ | exact ⟨ret_bool (by simp; omega), rfl⟩
  | false =>
    have h' : c < 48 ∨ 57 < c ∧ c < 65 ∨ 90 < c := by
      have : ¬ (65 ≤ c ∧ c ≤ 90 ∨ 48 ≤ c ∧ c ≤ 57) := by simpa [signP] using h
      omega
    clear h
    rcases h' with h | ⟨h, h1⟩ | h
    all_goals
      go_enter Try.func35, Try.ntmps35
      go_wp2
      go_ret
      first | exact ⟨rfl, rfl⟩ | exact ⟨ret_bool (by simp; omega), rfl⟩

set_option maxHeartbeats 1000000 in
theorem field1_any (c : Int) (w : World) :
    Calls Try.prog 37 #[.int .i32 c] w fun e w' => e = .returned (.bool (fieldP c)) ∧ w = w' := by
  cases h : letterP c with
  | false =>
    have hf : fieldP c = false := by simp [fieldP, h]
    rw [hf]
    clear hf
    go_enter Try.func37, Try.ntmps37
    go_wp2_with fail
    refine (letter_any c _).mono ?_
    rintro e w' ⟨rfl, rfl⟩
    rw [h]
    clear h
    go_wp2_with fail
    go_ret
    exact ⟨rfl, rfl⟩
  | true =>
    by_cases hc : c = 44
    · have hf : fieldP c = false := by simp [fieldP, hc]
      rw [hf]
      have hb : (c != 44) = false := by rw [bne_eq_false_iff_eq]; exact hc
      clear hf hc
      go_enter Try.func37, Try.ntmps37
      go_wp2_with fail
      refine (letter_any c _).mono ?_
      rintro e w' ⟨rfl, rfl⟩
      rw [h]
      clear h
      go_wp2_with fail
      go_ret
      exact ⟨rfl, rfl⟩
    · have hf : fieldP c = true := by simp [fieldP, hc, h]
      rw [hf]
      have hb : (c != 44) = true := by rw [bne_iff_ne]; exact hc
      clear hf hc
      go_enter Try.func37, Try.ntmps37
      go_wp2_with fail
      refine (letter_any c _).mono ?_
      rintro e w' ⟨rfl, rfl⟩
      rw [h]
      clear h
      go_wp2_with fail
      go_ret
      exact ⟨rfl, rfl⟩

/-- Are all bytes of a text of some kind? -/
def allB (p : Int → Bool) (s : ByteArray) : Bool := s.data.toList.all fun c => p (c.toNat : Int)
theorem allB_no {p : Int → Bool} {s : ByteArray} {k : Nat} (h : k < s.size) (hp : p (s[k].toNat : Int) = false) : allB p s = false := by
  unfold allB
  rw [List.all_eq_false]
  exact ⟨s[k], by show s.data[k] ∈ _; simp, by rw [hp]; simp⟩
theorem allB_yes {p : Int → Bool} {s : ByteArray} (h : ∀ j (hj : j < s.size), p ((s[j]'hj).toNat : Int) = true) : allB p s = true := by
  unfold allB
  rw [List.all_eq_true]
  intro x hx
  obtain ⟨j, hj, rfl⟩ := List.getElem_of_mem hx
  exact h j (by simpa using hj)

theorem signP_high (c : Int) (h : 128 ≤ c) : signP c = false := by simp [signP]; omega
set_option maxHeartbeats 1000000 in
theorem all_sign (s : ByteArray) (w : World) :
    Calls Try.prog 34 #[.string s, .func (.func 35) #[] #[]] w fun e w' => e = .returned (.bool (allB signP s)) ∧ Below w.heap.size w w' := by
  have hB : ∀ p, Below w.heap.size w (w.iter s p) := fun p => (Below.refl _ _).alloc (Nat.le_refl _) _
  have HB := Lib.hid hB
  clear hB
  go_enter Try.func34, Try.ntmps34
  go_wp2_with fail
  go_loopw [] (fun w' => ∃ pos : Nat, pos ≤ s.size ∧ w' = w.iter s pos ∧ ∀ j (hj : j < s.size), j < pos → signP ((s[j]'hj).toNat : Int) = true) (fun w' => s.size - w'.iterPos w.heap.size)
  case atStart => exact ⟨0, Nat.zero_le _, rfl, fun j _ h => absurd h (Nat.not_lt_zero _)⟩
  case round =>
    obtain ⟨pos, hpos, rfl, hall⟩ := hrel
    have HA := Lib.hid hall
    clear hall
    by_cases hp : pos < s.size
    · have hnx : ∀ ty, (Instr.next (.pointer (some ⟨w.heap.size, 0, none⟩)) true ty).run Try.prog (w.iter s pos) = _ := fun ty => run_next_any w s pos ty hp
      cases hc : signP (s[pos].toNat : Int) with
      | true =>
        have hlow : s[pos].toNat < 128 := by
          rcases Nat.lt_or_ge s[pos].toNat 128 with h | h
          · exact h
          · rw [signP_high _ (by omega)] at hc; cases hc
        simp only [decode_ascii s pos hp hlow] at hnx
        have HC := Lib.hid hc
        clear hc hlow
        go_wp2_with fail
        refine (sign_any _ _).mono ?_
        rintro e w' ⟨rfl, rfl⟩
        rw [HC.out]
        go_wp2_with fail
        go_roundw
        case rel =>
          refine ⟨pos + 1, by omega, rfl, fun j hj hlt => ?_⟩
          rcases Nat.lt_or_ge j pos with h | h
          · exact HA.out j hj h
          · obtain rfl : j = pos := by omega
            exact HC.out
        case measure => simp; omega
      | false =>
        have HN := Lib.hid (allB_no hp hc)
        have hr : signP ((Utf8.decode s pos).1 : Int) = false := by
          by_cases ha : s[pos].toNat < 128
          · rw [decode_ascii s pos hp ha]; exact hc
          · exact signP_high _ (by have := (decode_high s pos hp (by omega)).1; omega)
        have HR := Lib.hid hr
        clear hc hr
        go_wp2_with fail
        refine (sign_any _ _).mono ?_
        rintro e w' ⟨rfl, rfl⟩
        rw [HR.out]
        go_wp2_with fail
        go_ret
        exact ⟨by rw [HN.out]; rfl, HB.out _⟩
    · have hnx : ∀ ty, (Instr.next (.pointer (some ⟨w.heap.size, 0, none⟩)) true ty).run Try.prog (w.iter s pos) = _ := fun ty => run_next_end w s pos ty hp
      have HY := Lib.hid (allB_yes (p := signP) (s := s) (fun j hj => HA.out j hj (by omega)))
      go_wp2_with fail
      go_ret
      exact ⟨by rw [HY.out]; rfl, HB.out _⟩
theorem fieldP_high (c : Int) (h : 128 ≤ c) : fieldP c = false := by simp [fieldP, letterP]; omega
set_option maxHeartbeats 1000000 in
theorem all_field (s : ByteArray) (w : World) :
    Calls Try.prog 34 #[.string s, .func (.func 37) #[] #[]] w fun e w' => e = .returned (.bool (allB fieldP s)) ∧ Below w.heap.size w w' := by
  have hB : ∀ p, Below w.heap.size w (w.iter s p) := fun p => (Below.refl _ _).alloc (Nat.le_refl _) _
  have HB := Lib.hid hB
  clear hB
  go_enter Try.func34, Try.ntmps34
  go_wp2_with fail
  go_loopw [] (fun w' => ∃ pos : Nat, pos ≤ s.size ∧ w' = w.iter s pos ∧ ∀ j (hj : j < s.size), j < pos → fieldP ((s[j]'hj).toNat : Int) = true) (fun w' => s.size - w'.iterPos w.heap.size)
  case atStart => exact ⟨0, Nat.zero_le _, rfl, fun j _ h => absurd h (Nat.not_lt_zero _)⟩
  case round =>
    obtain ⟨pos, hpos, rfl, hall⟩ := hrel
    have HA := Lib.hid hall
    clear hall
    by_cases hp : pos < s.size
    · have hnx : ∀ ty, (Instr.next (.pointer (some ⟨w.heap.size, 0, none⟩)) true ty).run Try.prog (w.iter s pos) = _ := fun ty => run_next_any w s pos ty hp
      cases hc : fieldP (s[pos].toNat : Int) with
      | true =>
        have hlow : s[pos].toNat < 128 := by
          rcases Nat.lt_or_ge s[pos].toNat 128 with h | h
          · exact h
          · rw [fieldP_high _ (by omega)] at hc; cases hc
        simp only [decode_ascii s pos hp hlow] at hnx
        have HC := Lib.hid hc
        clear hc hlow
        go_wp2_with fail
        refine (field1_any _ _).mono ?_
        rintro e w' ⟨rfl, rfl⟩
        rw [HC.out]
        go_wp2_with fail
        go_roundw
        case rel =>
          refine ⟨pos + 1, by omega, rfl, fun j hj hlt => ?_⟩
          rcases Nat.lt_or_ge j pos with h | h
          · exact HA.out j hj h
          · obtain rfl : j = pos := by omega
            exact HC.out
        case measure => simp; omega
      | false =>
        have HN := Lib.hid (allB_no hp hc)
        have hr : fieldP ((Utf8.decode s pos).1 : Int) = false := by
          by_cases ha : s[pos].toNat < 128
          · rw [decode_ascii s pos hp ha]; exact hc
          · exact fieldP_high _ (by have := (decode_high s pos hp (by omega)).1; omega)
        have HR := Lib.hid hr
        clear hc hr
        go_wp2_with fail
        refine (field1_any _ _).mono ?_
        rintro e w' ⟨rfl, rfl⟩
        rw [HR.out]
        go_wp2_with fail
        go_ret
        exact ⟨by rw [HN.out]; rfl, HB.out _⟩
    · have hnx : ∀ ty, (Instr.next (.pointer (some ⟨w.heap.size, 0, none⟩)) true ty).run Try.prog (w.iter s pos) = _ := fun ty => run_next_end w s pos ty hp
      have HY := Lib.hid (allB_yes (p := fieldP) (s := s) (fun j hj => HA.out j hj (by omega)))
      go_wp2_with fail
      go_ret
      exact ⟨by rw [HY.out]; rfl, HB.out _⟩

end Go.Proofs.Ytleebikcakndnaa
