/- Layer 28: Kmh, Agrees; Few of layer 25. -/
import Derived.Test.YtcoohlopafjnmaaMvd
import Derived.Deep.RegionHeld3
namespace Go.Proofs.Ytcoohlopafjnmaa
set_option linter.unusedVariables false
open Go.RowKit

def kmhN (n : Int) : Int := ((overQ (1852 * (max 0 (min n 999999))).toNat 1000 : Nat) : Int)
theorem kmhN_range (n : Int) : 0 ≤ kmhN n ∧ kmhN n ≤ 2000000 := by
  unfold kmhN
  have h : (1852 * (max 0 (min n 999999))).toNat ≤ 1851998148 := by omega
  generalize (1852 * (max 0 (min n 999999))).toNat = x at *
  unfold overQ
  split <;> omega
/-- Do both speeds agree? -/
def agreeB (b2 : Bool) (n2 : Int) (b3 : Bool) (n3 : Int) : Bool := !b2 || !b3 || (decide (kmhN n2 - 2 ≤ n3) && decide (n3 ≤ kmhN n2 + 2))
theorem agree_ways (b2 : Bool) (n2 : Int) (b3 : Bool) (n3 : Int) : (b2 = false ∧ agreeB b2 n2 b3 n3 = true) ∨ (b2 = true ∧ b3 = false ∧ agreeB b2 n2 b3 n3 = true) ∨ (b2 = true ∧ b3 = true ∧ (n3 < kmhN n2 - 2 ∧ agreeB b2 n2 b3 n3 = false ∨ kmhN n2 + 2 < n3 ∧ agreeB b2 n2 b3 n3 = false ∨ kmhN n2 - 2 ≤ n3 ∧ n3 ≤ kmhN n2 + 2 ∧ agreeB b2 n2 b3 n3 = true)) := by
  unfold agreeB
  cases b2 with
  | false => exact .inl ⟨rfl, rfl⟩
  | true =>
    cases b3 with
    | false => exact .inr (.inl ⟨rfl, rfl, rfl⟩)
    | true =>
      refine .inr (.inr ⟨rfl, rfl, ?_⟩)
      by_cases h1 : n3 < kmhN n2 - 2
      · exact .inl ⟨h1, by simp; omega⟩
      · by_cases h2 : kmhN n2 + 2 < n3
        · exact .inr (.inl ⟨h2, by simp; omega⟩)
        · exact .inr (.inr ⟨by omega, by omega, by simp; omega⟩)
/-- Are fields few, and short? -/
def fewL (fs : List ByteArray) : Bool := decide (fs.length ≤ 40) && fs.all fun f => decide (f.size ≤ 100)
theorem fewL_iff (fs : List ByteArray) : fewL fs = true ↔ fs.length ≤ 40 ∧ ∀ f ∈ fs, f.size ≤ 100 := by simp [fewL]
set_option maxHeartbeats 2000000 in
theorem r25Few_main (A : Option Addr) (n c : Nat) (fs : List ByteArray) (w : World) (hl : Hid (fs.length = n)) (hs : Hid (Strs w w.heap.size A fs)) (hz : Hid (∀ f ∈ fs, f.size ≤ maxLen)) (hn : n ≤ 40) :
    Calls Try.prog 4 #[.slice A n c] w fun e w' => e = .returned (.bool (fewL fs)) ∧ w' = w := by
  have i0 : (n : Int) ≤ 40 := by omega
  go_enter Try.func4, Try.ntmps4
  go_wp2
  go_loop [3] (fun v => ∃ k : Nat, v = .int .i64 (k : Int) ∧ k ≤ n ∧ Hid (∀ (j : Nat) (h : j < fs.length), j < k → fs[j].size ≤ 100)) (fun v => n - (intOf v).toNat)
  case atStart => exact ⟨0, rfl, Nat.zero_le _, fun j _ h => absurd h (Nat.not_lt_zero _)⟩
  case round =>
    obtain ⟨k, rfl, hk, hall⟩ := hrel
    by_cases hlt : k < n
    · have hkl : k < fs.length := by rw [hl.out]; exact hlt
      obtain ⟨b, off, hAb, hb, hc⟩ := hs.out k hkl
      subst hAb
      have hz1 : fs[k].size ≤ maxLen := hz.out _ (List.getElem_mem _)
      have i3 : (k : Int) < (n : Int) := by omega
      have i4 : (0 : Int) ≤ (k : Int) := by omega
      by_cases hbig : fs[k].size ≤ 100
      · have HN : Hid (∀ (j : Nat) (h : j < fs.length), j < k + 1 → fs[j].size ≤ 100) := fun j h hj => by
          rcases Nat.lt_or_ge j k with q | q
          · exact hall.out j h q
          · obtain rfl : j = k := by omega
            exact hbig
        have i5 : (fs[k].size : Int) ≤ 100 := by omega
        generalize fs[k] = f at hc hbig i5 hz1
        clear hall
        go_wp2_with fail
        go_round
        case rel => exact ⟨k + 1, by go_num, by omega, HN⟩
        case measure => simp [intOf]; omega
      · have i5 : (100 : Int) < (fs[k].size : Int) := by omega
        have HF : Hid (fewL fs = false) := by
          show _ = _
          cases hq : fewL fs with
          | false => rfl
          | true => exact absurd (((fewL_iff fs).1 hq).2 _ (List.getElem_mem _)) hbig
        unfold maxLen at hz1
        generalize fs[k] = f at hc hbig i5 hz1
        clear hall
        go_wp2_with fail
        go_ret
        exact ⟨by rw [HF.out]; rfl, rfl⟩
    · have HF : Hid (fewL fs = true) := (fewL_iff fs).2 ⟨by rw [hl.out]; exact hn, fun f hf => by
        obtain ⟨j, hj, rfl⟩ := List.mem_iff_getElem.1 hf
        exact hall.out j hj (by rw [hl.out] at hj; omega)⟩
      have i3 : (n : Int) ≤ (k : Int) := by omega
      clear hall
      go_wp2_with fail
      go_ret
      exact ⟨by rw [HF.out]; rfl, rfl⟩
theorem r25Few_any (A : Option Addr) (n c : Nat) (fs : List ByteArray) (w : World) (hl : fs.length = n) (hs : Strs w w.heap.size A fs) (hz : ∀ f ∈ fs, f.size ≤ maxLen) (hm : n ≤ maxLen) :
    Calls Try.prog 4 #[.slice A n c] w fun e w' => e = .returned (.bool (fewL fs)) ∧ w' = w := by
  by_cases h : n ≤ 40
  · exact r25Few_main A n c fs w hl hs hz h
  · have HF : Hid (fewL fs = false) := by
      show _ = _
      cases hq : fewL fs with
      | false => rfl
      | true => exact absurd ((fewL_iff fs).1 hq).1 (by omega)
    unfold maxLen at hm
    have i0 : (40 : Int) < (n : Int) := by omega
    clear hs hz
    go_enter Try.func4, Try.ntmps4
    go_wp2
    go_ret
    exact ⟨by rw [HF.out]; rfl, rfl⟩
end Go.Proofs.Ytcoohlopafjnmaa
