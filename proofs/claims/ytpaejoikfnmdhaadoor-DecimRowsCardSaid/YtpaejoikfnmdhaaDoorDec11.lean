/- Layer 23: parse, the plain law; the reference's parse. -/
import Derived.Test.YtpaejoikfnmdhaaDoorDec10
namespace Go.Proofs.YtpaejoikfnmdhaaDoor
set_option linter.unusedVariables false
open Go.RowKit

/-- The number of a text: from least to most digits ahead of the point, from 1 to frac behind it. -/
def parseN (l : List UInt8) (least most frac : Nat) : Option Nat :=
  if cntD l < least ∨ most < cntD l then none
  else if cntD l = l.length then some (valD l * 10 ^ frac)
  else if l[cntD l]? ≠ some 46 ∨ cntD (l.drop (cntD l + 1)) < 1 ∨ frac < cntD (l.drop (cntD l + 1)) ∨ cntD l + 1 + cntD (l.drop (cntD l + 1)) ≠ l.length then none
  else some (valD (l.take (cntD l)) * 10 ^ frac + valD (l.drop (cntD l + 1)) * 10 ^ (frac - cntD (l.drop (cntD l + 1))))
theorem cntD_le (l : List UInt8) : cntD l ≤ l.length := by
  unfold cntD
  exact (List.takeWhile_prefix isD).length_le
theorem while_all : ∀ l : List UInt8, ∀ c ∈ l.takeWhile isD, isD c = true := by
  intro l
  induction l with
  | nil => intro c h; simp at h
  | cons x l ih =>
    intro c h
    rw [List.takeWhile_cons] at h
    split at h
    · rename_i hx
      rcases List.mem_cons.1 h with rfl | h
      · exact hx
      · exact ih c h
    · simp at h
theorem cntD_take (l : List UInt8) : ∀ c ∈ l.take (cntD l), isD c = true := by
  intro c hc
  have : l.take (cntD l) = l.takeWhile isD := by
    unfold cntD
    exact (List.prefix_iff_eq_take.1 (List.takeWhile_prefix isD)).symm
  rw [this] at hc
  exact while_all l c hc

end Go.Proofs.YtpaejoikfnmdhaaDoor
