/- Layer 33: Same. -/
import Derived.Test.YtloebedipfppeaaGapQ
import Derived.BigQuiet
import Derived.Deep.QuietTactic
namespace Go.Proofs.Ytloebedipfppeaa
set_option linter.unusedVariables false
open Go.RowKit

set_option maxRecDepth 8000 in
set_option maxHeartbeats 4000000 in
theorem r33Same_same (A B : Option Addr) (n c d : Nat) (L : List Ln) (w : World) (hn : Hid (L.length = n)) (hA : Hid (Lns w w.heap.size A L)) (hB : Hid (Lns w w.heap.size B L)) (h0 : n ≤ 1000000) :
    Calls Try.prog 11 #[.slice A n c, .slice B n d] w fun e w' => e = .returned (.bool true) ∧ Below w.heap.size w w' := by
  have hb : ((n : Int) != (n : Int)) = false := by rw [bne_eq_false_iff_eq]
  go_enter Try.func11, Try.ntmps11
  go_wp2
  go_loopw [5] (fun i wr => ∃ k nq : Nat, k ≤ n ∧ i = .int .i64 k ∧ wr = w.drewN nq) (fun i _ => n - (intOf i).toNat)
  case atStart => exact ⟨0, 0, Nat.zero_le _, rfl, rfl⟩
  case round =>
    obtain ⟨k, nq, hk, rfl, rfl⟩ := hrel
    by_cases hlt : k < n
    · have hkl : k < L.length := by rw [hn.out]; exact hlt
      obtain ⟨b1, o1, hA1, hb1, hc1⟩ := hA.out k hkl
      obtain ⟨b2, o2, hA2, hb2, hc2⟩ := hB.out k hkl
      subst hA1 hA2
      generalize L[k] = v at *
      obtain ⟨v0, v1, v2, v3, v4⟩ := v
      have e1 : ∀ (j : Nat) u, (lnL (v0, v1, v2, v3, v4))[j]? = some u → w.cell? ⟨b1, o1 + k * 5 + j, none⟩ = some u := fun j u hu => by
        rw [show o1 + k * 5 + j = o1 + 5 * k + j from by omega]; exact hc1 j u hu
      have e2 : ∀ (j : Nat) u, (lnL (v0, v1, v2, v3, v4))[j]? = some u → w.cell? ⟨b2, o2 + k * 5 + j, none⟩ = some u := fun j u hu => by
        rw [show o2 + k * 5 + j = o2 + 5 * k + j from by omega]; exact hc2 j u hu
      have x0 : w.cell? ⟨b1, o1 + k * 5, none⟩ = some (.int .i64 v0) := e1 0 _ rfl
      have x1 := e1 1 _ rfl
      have x2 := e1 2 _ rfl
      have x3 := e1 3 _ rfl
      have x4 := e1 4 _ rfl
      have y0 : w.cell? ⟨b2, o2 + k * 5, none⟩ = some (.int .i64 v0) := e2 0 _ rfl
      have y1 := e2 1 _ rfl
      have y2 := e2 2 _ rfl
      have y3 := e2 3 _ rfl
      have y4 := e2 4 _ rfl
      have i1 : (0 : Int) ≤ (k : Int) := Int.natCast_nonneg _
      have i2 : (k : Int) < (n : Int) := by omega
      clear hc1 hc2 e1 e2 hkl
      go_wp2_with fail
      go_quiet (fail)
      go_wp2_with fail
      go_roundw
      case rel => exact ⟨k + 1, _, by omega, by go_num, rfl⟩
      case measure => simp [intOf]; omega
    · go_wp2_with fail
      go_ret
      exact ⟨by rfl, bdrewN (Below.refl _ _) _⟩
end Go.Proofs.Ytloebedipfppeaa
