/- Contracts: sentence.line, the reference's end and stars. -/
import Derived.Test.YtleebikcakndnaaSen2
import Derived.Test.YtleebikcakndnaaCut
namespace Go.Proofs.Ytleebikcakndnaa
set_option linter.unusedVariables false
open Go.RowKit

def okC (c : Int) : Bool := c == 42 || letterP c
/-- The place of the first byte 13, from a place on; and the error. -/
def scanE (t : ByteArray) : Nat → Nat → Nat × Int
  | 0, _ => (0, 7)
  | f + 1, i => if h : i < t.size then (if (t[i].toNat : Int) = 13 then (i, 0) else if okC (t[i].toNat : Int) then scanE t f (i + 1) else (0, 3)) else (0, 2)
def endE (t : ByteArray) : Nat × Int := scanE t 80 1

def lineB (t : ByteArray) : ByteArray := if (endE t).2 = 0 then t.extract 1 (endE t).1 else ByteArray.empty
theorem scanE_13 (t : ByteArray) (f i : Nat) (h : i < t.size) (hc : (t[i].toNat : Int) = 13) : scanE t (f + 1) i = (i, 0) := by
  unfold scanE; rw [dif_pos h, if_pos hc]
theorem scanE_ok (t : ByteArray) (f i : Nat) (h : i < t.size) (hc : (t[i].toNat : Int) ≠ 13) (ho : okC (t[i].toNat : Int) = true) : scanE t (f + 1) i = scanE t f (i + 1) := by
  rw [scanE, dif_pos h, if_neg hc, if_pos ho]
theorem scanE_bad (t : ByteArray) (f i : Nat) (h : i < t.size) (hc : (t[i].toNat : Int) ≠ 13) (ho : okC (t[i].toNat : Int) = false) : scanE t (f + 1) i = (0, 3) := by
  rw [scanE, dif_pos h, if_neg hc, if_neg (by rw [ho]; decide)]
theorem scanE_short (t : ByteArray) (f i : Nat) (h : ¬ i < t.size) : scanE t (f + 1) i = (0, 2) := by
  rw [scanE, dif_neg h]

set_option maxHeartbeats 2000000 in
theorem line_any (t : ByteArray) (w : World) (hm : t.size ≤ 1000000) :
    Calls Try.prog 24 #[.string t] w fun e w' => e = .returned (.tuple #[.string (lineB t), .int .i64 (endE t).2]) ∧ w = w' := by
  go_enter Try.func24, Try.ntmps24
  go_wp2
  go_loop [4] (fun i => ∃ k : Nat, 1 ≤ k ∧ k ≤ 81 ∧ i = .int .i64 k ∧ Hid (scanE t (81 - k) k = endE t)) (fun i => 81 - (intOf i).toNat)
  case atStart => exact ⟨1, by omega, by omega, rfl, rfl⟩
  case round =>
    obtain ⟨k, hk0, hk, rfl, he⟩ := hrel
    by_cases h81 : k < 81
    · have hf : Hid (81 - k = (80 - k) + 1) := by show _ = _; omega
      by_cases hlt : k < t.size
      · have hu := t[k].toNat_lt
        by_cases h13 : (t[k].toNat : Int) = 13
        · have HE : Hid (endE t = (k, 0)) := by show _ = _; rw [← he.out, hf.out, scanE_13 t _ k hlt h13]
          have hb : ((t[k].toNat : Int) == 13) = true := by rw [beq_iff_eq]; exact h13
          clear h13
          go_wp2_with fail
          go_ret2
          exact ⟨by first | (unfold lineB; rw [HE.out]; rfl) | (rw [HE.out]; rfl), rfl⟩
        · have hb : ((t[k].toNat : Int) == 13) = false := by rw [beq_eq_false_iff_ne]; exact h13
          cases hl : letterP (t[k].toNat : Int) with
          | true =>
            have HE : Hid (scanE t (81 - (k + 1)) (k + 1) = endE t) := by show _ = _; rw [← he.out, hf.out, scanE_ok t _ k hlt h13 (by unfold okC; rw [hl]; simp)]; rw [show 81 - (k + 1) = 80 - k from by omega]
            have hn42 : (t[k].toNat : Int) ≠ 42 := by intro h; rw [h] at hl; exact absurd hl (by decide)
            have hb42 : ((t[k].toNat : Int) != 42) = true := by rw [bne_iff_ne]; exact hn42
            have HL := Lib.hid hl
            clear hl h13 hn42
            go_wp2_with fail
            refine (letter_any _ _).mono ?_
            rintro e w' ⟨rfl, rfl⟩
            rw [HL.out]
            go_wp2_with fail
            go_round
            case rel => exact ⟨k + 1, by omega, by omega, by go_num, HE⟩
            case measure => simp [intOf]; omega
          | false =>
            by_cases h42 : (t[k].toNat : Int) = 42
            · have HE : Hid (scanE t (81 - (k + 1)) (k + 1) = endE t) := by show _ = _; rw [← he.out, hf.out, scanE_ok t _ k hlt h13 (by unfold okC; rw [h42]; rfl)]; rw [show 81 - (k + 1) = 80 - k from by omega]
              have hb42 : ((t[k].toNat : Int) != 42) = false := by rw [bne_eq_false_iff_eq]; exact h42
              have HL := Lib.hid hl
              clear hl h13 h42
              go_wp2_with fail
              first
                | (refine (letter_any _ _).mono ?_
                   rintro e w' ⟨rfl, rfl⟩
                   rw [HL.out]
                   go_wp2_with fail)
                | skip
              go_round
              case rel => exact ⟨k + 1, by omega, by omega, by go_num, HE⟩
              case measure => simp [intOf]; omega
            · have HE : Hid (endE t = (0, 3)) := by show _ = _; rw [← he.out, hf.out, scanE_bad t _ k hlt h13 (by unfold okC; rw [hl, beq_eq_false_iff_ne.2 h42]; rfl)]
              have hb42 : ((t[k].toNat : Int) != 42) = true := by rw [bne_iff_ne]; exact h42
              have HL := Lib.hid hl
              clear hl h13 h42
              go_wp2_with fail
              refine (letter_any _ _).mono ?_
              rintro e w' ⟨rfl, rfl⟩
              rw [HL.out]
              go_wp2_with fail
              go_ret2
              exact ⟨by first | (unfold lineB; rw [HE.out]; rfl) | (rw [HE.out]; rfl), rfl⟩
      · have HE : Hid (endE t = (0, 2)) := by show _ = _; rw [← he.out, hf.out, scanE_short t _ k hlt]
        go_wp2_with fail
        go_ret2
        exact ⟨by first | (unfold lineB; rw [HE.out]; rfl) | (rw [HE.out]; rfl), rfl⟩
    · have HE : Hid (endE t = (0, 7)) := by show _ = _; rw [← he.out, show 81 - k = 0 from by omega]; rfl
      go_wp2_with fail
      go_ret2
      exact ⟨by first | (unfold lineB; rw [HE.out]; rfl) | (rw [HE.out]; rfl), rfl⟩

set_option maxHeartbeats 2000000 in
theorem r22end_any (t : ByteArray) (w : World) (hm : t.size ≤ 1000000) :
    Calls Try.prog 28 #[.string t] w fun e w' => e = .returned (.tuple #[.int .i64 ((endE t).1 : Int), .int .i64 (endE t).2]) ∧ w = w' := by
  go_enter Try.func28, Try.ntmps28
  go_wp2
  go_loop [4] (fun i => ∃ k : Nat, 1 ≤ k ∧ k ≤ 81 ∧ i = .int .i64 k ∧ Hid (scanE t (81 - k) k = endE t)) (fun i => 81 - (intOf i).toNat)
  case atStart => exact ⟨1, by omega, by omega, rfl, rfl⟩
  case round =>
    obtain ⟨k, hk0, hk, rfl, he⟩ := hrel
    by_cases h81 : k < 81
    · have hf : Hid (81 - k = (80 - k) + 1) := by show _ = _; omega
      by_cases hlt : k < t.size
      · have hu := t[k].toNat_lt
        by_cases h13 : (t[k].toNat : Int) = 13
        · have HE : Hid (endE t = (k, 0)) := by show _ = _; rw [← he.out, hf.out, scanE_13 t _ k hlt h13]
          have hb : ((t[k].toNat : Int) == 13) = true := by rw [beq_iff_eq]; exact h13
          clear h13
          go_wp2_with fail
          go_ret2
          exact ⟨by first | (unfold lineB; rw [HE.out]; rfl) | (rw [HE.out]; rfl), rfl⟩
        · have hb : ((t[k].toNat : Int) == 13) = false := by rw [beq_eq_false_iff_ne]; exact h13
          cases hl : letterP (t[k].toNat : Int) with
          | true =>
            have HE : Hid (scanE t (81 - (k + 1)) (k + 1) = endE t) := by show _ = _; rw [← he.out, hf.out, scanE_ok t _ k hlt h13 (by unfold okC; rw [hl]; simp)]; rw [show 81 - (k + 1) = 80 - k from by omega]
            have hn42 : (t[k].toNat : Int) ≠ 42 := by intro h; rw [h] at hl; exact absurd hl (by decide)
            have hb42 : ((t[k].toNat : Int) != 42) = true := by rw [bne_iff_ne]; exact hn42
            have HL := Lib.hid hl
            clear hl h13 hn42
            go_wp2_with fail
            refine (r22letter_any _ _).mono ?_
            rintro e w' ⟨rfl, rfl⟩
            rw [HL.out]
            go_wp2_with fail
            go_round
            case rel => exact ⟨k + 1, by omega, by omega, by go_num, HE⟩
            case measure => simp [intOf]; omega
          | false =>
            by_cases h42 : (t[k].toNat : Int) = 42
            · have HE : Hid (scanE t (81 - (k + 1)) (k + 1) = endE t) := by show _ = _; rw [← he.out, hf.out, scanE_ok t _ k hlt h13 (by unfold okC; rw [h42]; rfl)]; rw [show 81 - (k + 1) = 80 - k from by omega]
              have hb42 : ((t[k].toNat : Int) != 42) = false := by rw [bne_eq_false_iff_eq]; exact h42
              have HL := Lib.hid hl
              clear hl h13 h42
              go_wp2_with fail
              first
                | (refine (r22letter_any _ _).mono ?_
                   rintro e w' ⟨rfl, rfl⟩
                   rw [HL.out]
                   go_wp2_with fail)
                | skip
              go_round
              case rel => exact ⟨k + 1, by omega, by omega, by go_num, HE⟩
              case measure => simp [intOf]; omega
            · have HE : Hid (endE t = (0, 3)) := by show _ = _; rw [← he.out, hf.out, scanE_bad t _ k hlt h13 (by unfold okC; rw [hl, beq_eq_false_iff_ne.2 h42]; rfl)]
              have hb42 : ((t[k].toNat : Int) != 42) = true := by rw [bne_iff_ne]; exact h42
              have HL := Lib.hid hl
              clear hl h13 h42
              go_wp2_with fail
              refine (r22letter_any _ _).mono ?_
              rintro e w' ⟨rfl, rfl⟩
              rw [HL.out]
              go_wp2_with fail
              go_ret2
              exact ⟨by first | (unfold lineB; rw [HE.out]; rfl) | (rw [HE.out]; rfl), rfl⟩
      · have HE : Hid (endE t = (0, 2)) := by show _ = _; rw [← he.out, hf.out, scanE_short t _ k hlt]
        go_wp2_with fail
        go_ret2
        exact ⟨by first | (unfold lineB; rw [HE.out]; rfl) | (rw [HE.out]; rfl), rfl⟩
    · have HE : Hid (endE t = (0, 7)) := by show _ = _; rw [← he.out, show 81 - k = 0 from by omega]; rfl
      go_wp2_with fail
      go_ret2
      exact ⟨by first | (unfold lineB; rw [HE.out]; rfl) | (rw [HE.out]; rfl), rfl⟩

/-- How many stars. -/
def starsN (l : List UInt8) : Nat := l.count 42
theorem starsN_append (a b : List UInt8) : starsN (a ++ b) = starsN a + starsN b := by simp [starsN]
theorem starsN_other (c : UInt8) (h : ¬ c = 42) : starsN [c] = 0 := by simp [starsN, h]

set_option maxHeartbeats 1000000 in
theorem r22stars_any (s : ByteArray) (w : World) (hm : s.size ≤ 1000000) :
    Calls Try.prog 29 #[.string s] w fun e w' => e = .returned (.int .i64 ((starsN s.data.toList : Nat) : Int)) ∧ w = w' := by
  go_enter Try.func29, Try.ntmps29
  go_wp2
  go_loop [3, 4] (fun n i => ∃ k : Nat, k ≤ s.size ∧ i = .int .i64 k ∧ n = .int .i64 ((starsN (s.data.toList.take k) : Nat) : Int)) (fun _ i => s.size - (intOf i).toNat)
  case atStart => exact ⟨0, Nat.zero_le _, rfl, rfl⟩
  case round =>
    obtain ⟨k, hk, rfl, rfl⟩ := hrel
    have hle : starsN (s.data.toList.take k) ≤ k := Nat.le_trans List.count_le_length (List.length_take_le _ _)
    by_cases hlt : k < s.size
    · have HS := Lib.hid (take_snoc s k hlt)
      obtain ⟨C, hC⟩ : ∃ C, C = starsN (s.data.toList.take k) := ⟨_, rfl⟩
      rw [← hC] at hle ⊢
      have HC := Lib.hid hC
      clear hC
      by_cases h42 : (s[k].toNat : Int) = 42
      · have hb : ((s[k].toNat : Int) == 42) = true := by rw [beq_iff_eq]; exact h42
        have hu : Hid (s[k] = 42) := by apply UInt8.toNat_inj.1; have : (42 : UInt8).toNat = 42 := rfl; omega
        clear h42
        go_wp2_with fail
        go_round
        case rel => exact ⟨k + 1, by omega, by go_num, by rw [HS.out, starsN_append, ← HC.out, hu.out]; rfl⟩
        case measure => simp [intOf]; omega
      · have hb : ((s[k].toNat : Int) == 42) = false := by rw [beq_eq_false_iff_ne]; exact h42
        have hu : Hid (¬ s[k] = 42) := by intro h; apply h42; rw [h]; rfl
        clear h42
        go_wp2_with fail
        go_round
        case rel => exact ⟨k + 1, by omega, by go_num, by rw [HS.out, starsN_append, ← HC.out, starsN_other _ hu.out]; rfl⟩
        case measure => simp [intOf]; omega
    · have HE : Hid (s.data.toList.take k = s.data.toList) := List.take_of_length_le (by simp; omega)
      go_wp2_with fail
      go_ret
      exact ⟨ret_i64 (by rw [HE.out]), rfl⟩

end Go.Proofs.Ytleebikcakndnaa
