/- How long the texts are that are written. -/
import Derived.Test.YteofmahbimkggaaDoorMh
namespace Go.Proofs.YteofmahbimkggaaDoor
set_option linter.unusedVariables false
open Go.RowKit

theorem putN_size (b : Bool) (n W M F L H : Int) : (putN b n W M F L H).1.size ≤ 42 := by
  unfold putN
  split
  · exact Nat.zero_le _
  split
  · exact Nat.zero_le _
  split
  · exact Nat.zero_le _
  split
  · show (toB _).size ≤ 42
    have := pointL_len (-n).toNat W.toNat F.toNat
    rw [size_B, List.length_cons]
    omega
  · show (toB _).size ≤ 42
    have := pointL_len n.toNat W.toNat F.toNat
    rw [size_B]
    omega
/-- All texts are short. -/
def Small (l : List ByteArray) : Prop := ∀ t ∈ l, t.size ≤ 100
theorem Small.nil : Small [] := fun t h => by cases h
theorem Small.snoc {l : List ByteArray} {t : ByteArray} (h : Small l) (ht : t.size ≤ 100) : Small (l ++ [t]) := fun u hu => by
  rcases List.mem_append.1 hu with q | q
  · exact h u q
  · rw [List.mem_singleton.1 q]; exact ht
theorem wrNum_small {W M F L H : Int} {n : Bool × Int} {s : Rd} (h : Small s.2) : Small (wrNum W M F L H n s).2 := h.snoc (Nat.le_trans (putN_size _ _ _ _ _ _ _) (by omega))
theorem wrText_small {t : ByteArray} {E : Int} {s : Rd} (h : Small s.2) (ht : t.size ≤ 100) : Small (wrText t E s).2 := h.snoc ht
theorem wrCol_small {k : Cl} {n : Bool × Int} {s : Rd} (h : Small s.2) (hc : k.c.size ≤ 100) : Small (wrCol k n s).2 := by
  unfold wrCol
  refine wrText_small (wrNum_small h) ?_
  unfold unitT
  split
  · exact hc
  · simp
theorem wrDone_small {s : Rd} (h : Small s.2) : Small (wrDone s).1 := by
  unfold wrDone
  simp only
  split
  · exact h
  · exact Small.nil
theorem wrCols_small : ∀ (K : List Cl) (N : List (Bool × Int)) (s : Rd), (∀ k ∈ K, k.c.size ≤ 100) → Small s.2 → Small (wrCols K N s).2
  | [], _, _, _, h => h
  | _ :: _, [], _, _, h => h
  | k :: K, n :: N, s, hK, h => wrCols_small K N (wrCol k n s) (fun j hj => hK j (List.mem_cons_of_mem _ hj)) (wrCol_small h (hK k (List.mem_cons_self ..)))
theorem putVtg_small (N : List (Bool × Int)) : Small (putVtg N).1 := wrDone_small (wrCols_small _ _ _ (by decide) Small.nil)
theorem wrDone_none {s : Rd} (h : (wrDone s).2 ≠ 0) : (wrDone s).1 = [] := if_neg h
end Go.Proofs.YteofmahbimkggaaDoor
