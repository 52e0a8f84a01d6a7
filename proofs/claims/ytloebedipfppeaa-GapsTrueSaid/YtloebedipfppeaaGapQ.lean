/- Layer 33: plain facts for the laws. -/
import Derived.Test.YtloebedipfppeaaGapP
namespace Go.Proofs.Ytloebedipfppeaa
set_option linter.unusedVariables false
open Go.RowKit
set_option linter.unusedSimpArgs false

/-- Of another sender nothing turns. -/
theorem hear_others {l : List Ln} {q s c : Int} {x : Ln} (hs : SortedL l) (hx : x ∈ l) (hk : x.1 ≠ s) : x ∈ (hearL l q s c).1 := by
  cases ho : (octB q && octB s && octB c) with
  | false => unfold hearL; rw [if_pos ho]; exact hx
  | true =>
    by_cases hy : ∃ y ∈ l, lnKey y = (s, c)
    · obtain ⟨y, hy, hk'⟩ := hy
      obtain ⟨t, r, e, h⟩ := hear_known (q := q) ho hs hy hk'
      rw [h]
      rw [e] at hx
      have hxy : x ≠ y := fun e => by
        rw [e] at hk
        exact hk (congrArg Prod.fst hk')
      rcases List.mem_append.1 hx with hx | hx
      · exact List.mem_append_left _ hx
      · rcases List.mem_cons.1 hx with e | hx
        · exact absurd e hxy
        · exact List.mem_append_right _ (List.mem_cons_of_mem _ hx)
    · have hno : ∀ x ∈ l, lnKey x ≠ (s, c) := fun x hx' hk => hy ⟨x, hx', hk⟩
      rw [hear_unknown ho hno]
      split
      · exact hx
      · rw [← List.takeWhile_append_dropWhile (p := fun x => aheadB x s c) (l := l)] at hx
        rcases List.mem_append.1 hx with hx | hx
        · exact List.mem_append_left _ hx
        · exact List.mem_append_right _ (List.mem_cons_of_mem _ hx)
theorem hear_ours {l : List Ln} {q u h s : Int} (hs : SortedL l) (hx : ((7, 7, u, h, s) : Ln) ∈ l) (hq : octB q = true) :
    (7, 7, q, wrap64 (h + 1), wrap64 (s + lostOf u q)) ∈ (hearL l q 7 7).1 ∧ (hearL l q 7 7).2 = (lostOf u q, true) := by
  have ho : (octB q && octB 7 && octB 7) = true := by rw [hq]; rfl
  obtain ⟨t, r, e, h'⟩ := hear_known (q := q) ho hs hx rfl
  rw [h']
  exact ⟨List.mem_append_right _ List.mem_cons_self, rfl⟩
theorem hear_first {q : Int} (hq : octB q = true) : hearL [] q 7 7 = ([(7, 7, q, 1, 0)], 0, true) := by
  have ho : (octB q && octB 7 && octB 7) = true := by rw [hq]; rfl
  rw [hear_unknown ho (fun x hx => by cases hx)]
  rfl
theorem lost_gone {u g : Int} (h1 : 0 ≤ u ∧ u ≤ 255) (h2 : 0 ≤ g ∧ g ≤ 255) : lostOf u ((u + g + 1) % 256) = g := by unfold lostOf; omega
/-- Two lines of one sender are one. -/
theorem sorted_key {l : List Ln} (hs : SortedL l) {i j : Nat} (hi : i < l.length) (hj : j < l.length) (e : lnKey l[i] = lnKey l[j]) : i = j := by
  have e1 : l[i].1 = l[j].1 := (Prod.ext_iff.1 e).1
  have e2 : l[i].2.1 = l[j].2.1 := (Prod.ext_iff.1 e).2
  rcases Nat.lt_trichotomy i j with h | h | h
  · have := List.pairwise_iff_getElem.1 hs i j hi hj h
    rw [aheadB_iff] at this
    omega
  · exact h
  · have := List.pairwise_iff_getElem.1 hs j i hj hi h
    rw [aheadB_iff] at this
    omega
/-- Sums of lines. -/
def sumH (D : List Ln) : Int := D.foldl (fun a x => wrap64 (a + x.2.2.2.1)) 0
def sumLo (D : List Ln) : Int := D.foldl (fun a x => wrap64 (a + x.2.2.2.2)) 0
theorem sumH_snoc (D : List Ln) (k : Nat) (h : k < D.length) : sumH (D.take (k + 1)) = wrap64 (sumH (D.take k) + D[k].2.2.2.1) := by
  unfold sumH
  rw [List.take_succ_eq_append_getElem h, List.foldl_append]
  rfl
theorem sumLo_snoc (D : List Ln) (k : Nat) (h : k < D.length) : sumLo (D.take (k + 1)) = wrap64 (sumLo (D.take k) + D[k].2.2.2.2) := by
  unfold sumLo
  rw [List.take_succ_eq_append_getElem h, List.foldl_append]
  rfl
theorem hear_false {l : List Ln} {q s c : Int} (h : (hearL l q s c).2.2 = false) : (hearL l q s c).1 = l := by
  unfold hearL at h ⊢
  split at h
  · next h1 => rw [if_pos h1]
  · next h1 =>
    rw [if_neg h1]
    cases hd : l.dropWhile (fun x => aheadB x s c) with
    | nil =>
      rw [hd] at h
      simp only at h ⊢
      split at h
      · next h2 => rw [if_pos h2]
      · cases h
    | cons y r =>
      rw [hd] at h
      simp only at h ⊢
      split at h
      · cases h
      · next h2 =>
        rw [if_neg h2]
        split at h
        · next h3 => rw [if_pos h3]
        · cases h
theorem octs_heard {l : List Ln} (hg : ∀ x ∈ l, octB x.2.2.1 = true) (q s c : Int) : ∀ x ∈ (hearL l q s c).1, octB x.2.2.1 = true := by
  cases ho : (octB q && octB s && octB c) with
  | false => unfold hearL; rw [if_pos ho]; exact hg
  | true =>
    have hq : octB q = true := by simp only [Bool.and_eq_true] at ho; exact ho.1.1
    unfold hearL
    rw [if_neg (by rw [ho]; simp)]
    have ht : ∀ x ∈ l.takeWhile (fun x => aheadB x s c), octB x.2.2.1 = true := fun x hx => hg x ((List.takeWhile_sublist _).mem hx)
    have hd : ∀ x ∈ l.dropWhile (fun x => aheadB x s c), octB x.2.2.1 = true := fun x hx => hg x ((List.dropWhile_sublist _).mem hx)
    cases hdw : l.dropWhile (fun x => aheadB x s c) with
    | nil =>
      simp only
      split
      · exact hg
      · intro x hx
        rcases List.mem_append.1 hx with hx | hx
        · exact ht x hx
        · rcases List.mem_cons.1 hx with rfl | hx
          · exact hq
          · cases hx
    | cons y r =>
      rw [hdw] at hd
      simp only
      split
      · intro x hx
        rcases List.mem_append.1 hx with hx | hx
        · exact ht x hx
        · rcases List.mem_cons.1 hx with rfl | hx
          · exact hq
          · exact hd x (List.mem_cons_of_mem _ hx)
      · split
        · exact hg
        · intro x hx
          rcases List.mem_append.1 hx with hx | hx
          · exact ht x hx
          · rcases List.mem_cons.1 hx with rfl | hx
            · exact hq
            · exact hd x hx
end Go.Proofs.Ytloebedipfppeaa
