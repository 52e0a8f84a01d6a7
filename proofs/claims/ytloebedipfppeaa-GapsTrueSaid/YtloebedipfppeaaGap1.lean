/- Layer 33: small functions. -/
import Derived.Test.YtloebedipfppeaaGap0
import Derived.Shelf.SlicesE.IndexFunc
import Derived.Ground.SlgfProg
import Derived.Lib.SliceRun
import Derived.IntWalk
namespace Go.Proofs.Ytloebedipfppeaa
set_option linter.unusedVariables false
open Go.RowKit Go.Shelf

/-- May a number be a byte? -/
def octB (n : Int) : Bool := decide (0 ≤ n) && decide (n ≤ 255)
theorem octB_iff {n : Int} : octB n = true ↔ 0 ≤ n ∧ n ≤ 255 := by simp [octB]
theorem octet_any (n : Int) (w : World) : Calls Try.prog 20 #[.int .i64 n] w fun e w' => e = .returned (.bool (octB n)) ∧ w' = w := by
  unfold octB
  by_cases h1 : 0 ≤ n
  · by_cases h2 : n ≤ 255
    · go_enter Try.func20, Try.ntmps20
      go_wp2
      go_ret
      exact ⟨by simp; omega, rfl⟩
    · go_enter Try.func20, Try.ntmps20
      go_wp2
      go_ret
      exact ⟨by simp; omega, rfl⟩
  · go_enter Try.func20, Try.ntmps20
    go_wp2
    go_ret
    exact ⟨by simp; omega, rfl⟩
def lostOf (was now : Int) : Int := (now - was + 511) % 256
theorem lost_le (a b : Int) : 0 ≤ lostOf a b ∧ lostOf a b ≤ 255 := by unfold lostOf; omega
theorem between_eq {a b : Int} (h1 : 0 ≤ a ∧ a ≤ 255) (h2 : 0 ≤ b ∧ b ≤ 255) : (Int.tmod (b - a - 1) 256 + 256).tmod 256 = lostOf a b := by
  unfold lostOf
  rcases Int.lt_or_le (b - a - 1) 0 with h | h
  · by_cases h3 : b - a - 1 = -256
    · rw [h3]
      have : b - a + 511 = 256 := by omega
      rw [this]
      rfl
    · have e1 : Int.tmod (b - a - 1) 256 = b - a - 1 := by
        have := Int.neg_tmod (-(b - a - 1)) 256
        rw [Int.neg_neg] at this
        rw [this, Int.tmod_eq_emod_of_nonneg (by omega)]
        omega
      rw [e1, Int.tmod_eq_emod_of_nonneg (by omega)]
      omega
  · rw [Int.tmod_eq_emod_of_nonneg h, Int.tmod_eq_emod_of_nonneg (by omega)]
    omega
theorem between_any {a b : Int} (h1 : 0 ≤ a ∧ a ≤ 255) (h2 : 0 ≤ b ∧ b ≤ 255) (w : World) : Calls Try.prog 15 #[.int .i64 a, .int .i64 b] w fun e w' => e = .returned (.int .i64 (lostOf a b)) ∧ w' = w := by
  have HE := Lib.hid (between_eq h1 h2)
  have w1 : IntKind.i64.wrap (b - a) = b - a := IntWalk.i64_in _ (by omega)
  have w2 : IntKind.i64.wrap (b - a - 1) = b - a - 1 := IntWalk.i64_in _ (by omega)
  have h3 : -256 ≤ Int.tmod (b - a - 1) 256 ∧ Int.tmod (b - a - 1) 256 ≤ 255 := by
    have p1 := Int.lt_tmod_of_pos (b - a - 1) (by decide : (0 : Int) < 256)
    have p2 := Int.tmod_lt_of_pos (b - a - 1) (by decide : (0 : Int) < 256)
    omega
  have w3 : IntKind.i64.wrap (Int.tmod (b - a - 1) 256) = Int.tmod (b - a - 1) 256 := IntWalk.i64_in _ (by omega)
  have w4 : IntKind.i64.wrap (Int.tmod (b - a - 1) 256 + 256) = Int.tmod (b - a - 1) 256 + 256 := IntWalk.i64_in _ (by omega)
  have h5 := lost_le a b
  have w5 : IntKind.i64.wrap ((Int.tmod (b - a - 1) 256 + 256).tmod 256) = (Int.tmod (b - a - 1) 256 + 256).tmod 256 := by rw [HE.out]; exact IntWalk.i64_in _ (by omega)
  clear h3 h5
  go_enter Try.func15, Try.ntmps15
  go_wp2
  go_ret
  exact ⟨by rw [HE.out]; rfl, rfl⟩
theorem out_any (n : Int) (w : World) : Calls Try.prog 22 #[.int .i64 n] w fun e w' => e = .returned (.bool (!octB n)) ∧ w' = w := by
  unfold octB
  by_cases h1 : n < 0
  · go_enter Try.func22, Try.ntmps22
    go_wp2
    go_ret
    exact ⟨by simp; omega, rfl⟩
  · by_cases h2 : n ≤ 255
    · have i1 : n < 256 := by omega
      have i2 : 0 ≤ n := by omega
      go_enter Try.func22, Try.ntmps22
      go_wp2
      go_ret
      exact ⟨by simp; omega, rfl⟩
    · have i1 : 256 ≤ n := by omega
      have i2 : 0 ≤ n := by omega
      go_enter Try.func22, Try.ntmps22
      go_wp2
      go_ret
      exact ⟨by simp; omega, rfl⟩
shelf_lay_g SlLaysH.n8 Slgf 8 at Try 21 as gapContains
theorem octets_any (b : Nat) (x y z : Int) (w : World) (h0 : w.cell? ⟨b, 0, none⟩ = some (.int .i64 x)) (h1 : w.cell? ⟨b, 1, none⟩ = some (.int .i64 y)) (h2 : w.cell? ⟨b, 2, none⟩ = some (.int .i64 z)) :
    Calls Try.prog 14 #[.slice (some ⟨b, 0, none⟩) 3 3] w fun e w' => e = .returned (.bool (octB x && octB y && octB z)) ∧ ∃ q, w' = w.drewN q := by
  have eg : ∀ args w, (callFunc 22 args).run Try.prog w = .ok (.enter 22 args) w := enters_of Try.func22 (by kernel_rfl) rfl
  have hcon := AnyE.slices_ContainsFunc gapContains (Value.int .i64) (fun n => !octB n) 22 #[] eg b 0 3 3 [x, y, z] w
    (fun W n _ => (out_any n W).mono fun e w' ⟨h, h'⟩ => ⟨h, 0, by rw [h']; rfl⟩) (Nat.le_refl _) (by decide) (fun j hj => by
      simp only [List.length_cons, List.length_nil] at hj
      rcases (by omega : j = 0 ∨ j = 1 ∨ j = 2) with rfl | rfl | rfl
      · exact h0
      · exact h1
      · exact h2)
  change Calls Try.prog 21 _ _ _ at hcon
  have e1 : List.any (List.take 3 [x, y, z]) (fun n => !octB n) = !(octB x && octB y && octB z) := by
    show (!octB x || (!octB y || (!octB z || false))) = _
    cases octB x <;> cases octB y <;> cases octB z <;> rfl
  rw [e1] at hcon
  clear h0 h1 h2
  generalize (octB x && octB y && octB z) = r at hcon ⊢
  go_enter Try.func14, Try.ntmps14
  go_wp2_with (go_at_call 21; refine hcon.mono ?_; rintro e w' ⟨rfl, q, rfl⟩)
  go_ret
  exact ⟨by simp, q, rfl⟩
end Go.Proofs.Ytloebedipfppeaa
