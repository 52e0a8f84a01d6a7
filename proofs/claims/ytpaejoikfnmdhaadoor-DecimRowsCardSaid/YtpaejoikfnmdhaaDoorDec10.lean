/- Layer 23: the reference's value. -/
import Derived.Test.YtpaejoikfnmdhaaDoorDec9
namespace Go.Proofs.YtpaejoikfnmdhaaDoor
set_option linter.unusedVariables false
open Go.RowKit

/-- The number of digits. -/
def valD (l : List UInt8) : Nat := l.foldl (fun n c => 10 * n + (c.toNat - 48)) 0
theorem valD_snoc (l : List UInt8) (c : UInt8) : valD (l ++ [c]) = 10 * valD l + (c.toNat - 48) := by simp [valD]
theorem valD_lt (l : List UInt8) (h : ∀ c ∈ l, isD c = true) : valD l < 10 ^ l.length := by
  have key : ∀ r : List UInt8, (∀ c ∈ r, isD c = true) → valD r.reverse < 10 ^ r.length := by
    intro r
    induction r with
    | nil => intro _; decide
    | cons c r ih =>
      intro hr
      have h1 := ih (fun x hx => hr x (by simp [hx]))
      have h2 := of_decide_eq_true (hr c (by simp))
      rw [List.reverse_cons, valD_snoc, List.length_cons, Nat.pow_succ]
      omega
  have := key l.reverse (fun c hc => h c (by simpa using hc))
  rw [List.reverse_reverse, List.length_reverse] at this
  exact this

set_option maxHeartbeats 1000000 in
theorem r23value_any (s : ByteArray) (z : Nat) (w : World) (hs : s.size + z ≤ 18) (hd : ∀ c ∈ s.data.toList, isD c = true) :
    Calls Tryd.prog 63 #[.string s, .int .i64 (z : Int)] w fun e w' => e = .returned (.int .i64 ((valD s.data.toList : Int) * tenI z)) ∧ w = w' := by
  have hT := fun W => Lib.hid (r23Ten_any z W (by omega))
  have hstep : ∀ k (h : k < s.size), valD (s.data.toList.take (k + 1)) = 10 * valD (s.data.toList.take k) + ((s[k]).toNat - 48) ∧ 48 ≤ (s[k]).toNat ∧ (s[k]).toNat ≤ 57 := fun k h => by
    rw [take_snoc s k h, valD_snoc]
    have := of_decide_eq_true (hd s[k] (by show s.data[k] ∈ _; simp))
    exact ⟨rfl, this.1, this.2⟩
  have hlt : ∀ k, k ≤ s.size → valD (s.data.toList.take k) < 10 ^ k := fun k h => by
    have := valD_lt (s.data.toList.take k) (fun c hc => hd c (List.mem_of_mem_take hc))
    rw [List.length_take, Nat.min_eq_left (by simpa using h)] at this
    exact this
  have hmul : ∀ k, k ≤ 17 → (10 : Nat) ^ k ≤ 100000000000000000 := fun k h => by
    have : (10 : Nat) ^ k ≤ 10 ^ 17 := Nat.pow_le_pow_right (by decide) h
    have e : (10 : Nat) ^ 17 = 100000000000000000 := by decide
    omega
  have hfin : (valD s.data.toList : Int) * tenI z < 1000000000000000000 ∧ 0 ≤ (valD s.data.toList : Int) * tenI z := by
    have h1 := hlt s.size (Nat.le_refl _)
    rw [List.take_of_length_le (by simp)] at h1
    have h2 : valD s.data.toList * 10 ^ z < 10 ^ s.size * 10 ^ z := Nat.mul_lt_mul_of_pos_right h1 (Nat.pow_pos (by decide))
    rw [← Nat.pow_add] at h2
    have h3 : (10 : Nat) ^ (s.size + z) ≤ 10 ^ 18 := Nat.pow_le_pow_right (by decide) hs
    have e : (10 : Nat) ^ 18 = 1000000000000000000 := by decide
    unfold tenI
    rw [← Int.natCast_mul]
    omega
  have HS := Lib.hid hstep
  have HL := Lib.hid hlt
  have HM := Lib.hid hmul
  have HF := Lib.hid hfin
  clear hstep hlt hmul hfin hd
  go_enter Tryd.func63, Tryd.ntmps63
  go_wp2
  go_loop [5, 6] (fun v i => ∃ k : Nat, k ≤ s.size ∧ i = .int .i64 (k : Int) ∧ v = .int .i64 (valD (s.data.toList.take k) : Int)) (fun _ i => s.size - (intOf i).toNat)
  case atStart => exact ⟨0, Nat.zero_le _, rfl, rfl⟩
  case round =>
    obtain ⟨k, hk, rfl, rfl⟩ := hrel
    by_cases hlt : k < s.size
    · obtain ⟨e1, e2, e3⟩ := HS.out k hlt
      have h1 := HL.out k hk
      have h2 := HM.out k (by omega)
      have h3 : valD (s.data.toList.take k) ≤ 100000000000000000 := by omega
      have E1 := Lib.hid e1
      clear e1 h1 h2
      generalize valD (s.data.toList.take k) = V at *
      have g1 : (48 : Int) ≤ ((s[k]'hlt).toNat : Int) := by omega
      have g2 : ((s[k]'hlt).toNat : Int) ≤ 57 := by omega
      go_wp2
      go_round
      case rel => exact ⟨k + 1, by omega, by go_num, by rw [E1.out]; go_num⟩
      case measure => simp [intOf]; omega
    · have e : s.data.toList.take k = s.data.toList := List.take_of_length_le (by simp; omega)
      rw [e]
      obtain ⟨f1, f2⟩ := HF.out
      have t1 := tenI_pos z
      generalize q1 : tenI z = T at *
      generalize q2 : valD s.data.toList = V at *
      have Q1 := Lib.hid q1
      have Q2 := Lib.hid q2
      clear q1 q2
      go_wp2_with fail
      refine (hT _).out.mono ?_
      rintro e w' ⟨rfl, rfl⟩
      go_wp2_with fail
      go_ret
      exact ⟨by rw [Q1.out, Q2.out]; rfl, rfl⟩

end Go.Proofs.YtpaejoikfnmdhaaDoor
