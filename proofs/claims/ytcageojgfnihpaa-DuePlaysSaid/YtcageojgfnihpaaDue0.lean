/- Layer 43: heaps as plain functions; no program in sight. -/
import Derived.Test.YtcageojgfnihpaaBas
namespace Go.Proofs.Ytcageojgfnihpaa
set_option linter.unusedVariables false

/-- A timer: the block in which it lies, its id, when it is due, how much later again. -/
structure Tm where
  b : Nat
  id : Int
  t : Int
  ev : Int
def befT (x y : Tm) : Bool := decide (x.t < y.t ∨ x.t = y.t ∧ x.id < y.id)
theorem befT_iff {x y : Tm} : befT x y = true ↔ x.t < y.t ∨ x.t = y.t ∧ x.id < y.id := by simp [befT]
theorem befT_no {x y : Tm} : befT x y = false ↔ ¬ (x.t < y.t ∨ x.t = y.t ∧ x.id < y.id) := by simp [befT]
theorem befT_asymm {x y : Tm} (h : befT x y = true) : befT y x = false := by rw [befT_iff] at h; rw [befT_no]; omega
theorem not_trans {x y z : Tm} (h : befT x y = false) (k : befT y z = false) : befT x z = false := by rw [befT_no] at *; omega
def swapF (f : Nat → Tm) (i k : Nat) : Nat → Tm := fun x => if x = i then f k else if x = k then f i else f x
theorem swapF_l (f : Nat → Tm) (i k : Nat) : swapF f i k i = f k := by simp [swapF]
theorem swapF_r (f : Nat → Tm) (i k : Nat) : swapF f i k k = f i := by unfold swapF; split <;> simp_all
theorem swapF_o (f : Nat → Tm) (i k : Nat) {x : Nat} (h1 : x ≠ i) (h2 : x ≠ k) : swapF f i k x = f x := by simp [swapF, h1, h2]
/-- The same timers. -/
def SameS (f g : Nat → Tm) (n : Nat) : Prop := (∀ i, i < n → ∃ j, j < n ∧ g i = f j) ∧ (∀ j, j < n → ∃ i, i < n ∧ g i = f j)
theorem SameS.refl (f : Nat → Tm) (n : Nat) : SameS f f n := ⟨fun i h => ⟨i, h, rfl⟩, fun i h => ⟨i, h, rfl⟩⟩
theorem SameS.trans {f g h : Nat → Tm} {n : Nat} (a : SameS f g n) (b : SameS g h n) : SameS f h n := by
  refine ⟨fun i hi => ?_, fun j hj => ?_⟩
  · obtain ⟨k, hk, e⟩ := b.1 i hi
    obtain ⟨m, hm, e'⟩ := a.1 k hk
    exact ⟨m, hm, e.trans e'⟩
  · obtain ⟨k, hk, e⟩ := a.2 j hj
    obtain ⟨m, hm, e'⟩ := b.2 k hk
    exact ⟨m, hm, e'.trans e⟩
theorem SameS.swap (f : Nat → Tm) {n i k : Nat} (hi : i < n) (hk : k < n) : SameS f (swapF f i k) n := by
  refine ⟨fun x hx => ?_, fun x hx => ?_⟩
  · by_cases h1 : x = i
    · exact ⟨k, hk, by rw [h1, swapF_l]⟩
    · by_cases h2 : x = k
      · exact ⟨i, hi, by rw [h2, swapF_r]⟩
      · exact ⟨x, hx, swapF_o f i k h1 h2⟩
  · by_cases h1 : x = i
    · exact ⟨k, hk, by rw [h1, swapF_r]⟩
    · by_cases h2 : x = k
      · exact ⟨i, hi, by rw [h2, swapF_l]⟩
      · exact ⟨x, hx, swapF_o f i k h1 h2⟩
/-- Each timer in a block of its own. -/
def InjT (f : Nat → Tm) (n : Nat) : Prop := ∀ i j, i < n → j < n → (f i).b = (f j).b → i = j
theorem InjT.swap {f : Nat → Tm} {n i k : Nat} (h : InjT f n) (hi : i < n) (hk : k < n) : InjT (swapF f i k) n := by
  have hσ : ∀ x, x < n → ∃ y, y < n ∧ swapF f i k x = f y ∧ (y = if x = i then k else if x = k then i else x) := fun x hx => by
    by_cases h1 : x = i
    · exact ⟨k, hk, by rw [h1, swapF_l], by rw [if_pos h1]⟩
    · by_cases h2 : x = k
      · exact ⟨i, hi, by rw [h2, swapF_r], by rw [if_neg h1, if_pos h2]⟩
      · exact ⟨x, hx, swapF_o f i k h1 h2, by rw [if_neg h1, if_neg h2]⟩
  intro x y hx hy e
  obtain ⟨x', hx', ex, qx⟩ := hσ x hx
  obtain ⟨y', hy', ey, qy⟩ := hσ y hy
  rw [ex, ey] at e
  have := h x' y' hx' hy' e
  subst qx qy
  split at this <;> split at this <;> (try split at this) <;> (try split at this) <;> omega
abbrev par (k : Nat) : Nat := (k - 1) / 2
/-- An edge is as it should be. -/
def edge (f : Nat → Tm) (k : Nat) : Prop := befT (f k) (f (par k)) = false
def HeapF (f : Nat → Tm) (n : Nat) : Prop := ∀ k, k < n → 0 < k → edge f k
/-- All edges are, but j's own. -/
def UpI (f : Nat → Tm) (n j : Nat) : Prop := (∀ k, k < n → 0 < k → k ≠ j → edge f k) ∧ (0 < j → ∀ k, k < n → 0 < k → par k = j → befT (f k) (f (par j)) = false)
theorem UpI.root {f : Nat → Tm} {n : Nat} (h : UpI f n 0) : HeapF f n := fun k hk h0 => h.1 k hk h0 (by omega)
theorem UpI.stop {f : Nat → Tm} {n j : Nat} (h : UpI f n j) (hj : befT (f j) (f (par j)) = false) : HeapF f n := fun k hk h0 => by
  by_cases e : k = j
  · subst e; exact hj
  · exact h.1 k hk h0 e
theorem UpI.step {f : Nat → Tm} {n j : Nat} (h : UpI f n j) (h0 : 0 < j) (hjn : j < n) (hj : befT (f j) (f (par j)) = true) : UpI (swapF f (par j) j) n (par j) := by
  have hp : par j < j := by show (j - 1) / 2 < j; omega
  refine ⟨fun k hk hk0 hkp => ?_, fun hp0 k hk hk0 hkp => ?_⟩
  · show befT _ _ = false
    by_cases e : k = j
    · subst e
      rw [swapF_r, swapF_l]
      exact befT_asymm hj
    · rw [swapF_o f _ _ hkp e]
      by_cases e1 : par k = par j
      · rw [e1, swapF_l]
        have := h.1 k hk hk0 e
        unfold edge at this
        rw [e1] at this
        exact not_trans this (befT_asymm hj)
      · by_cases e2 : par k = j
        · rw [e2, swapF_r]
          exact h.2 h0 k hk hk0 e2
        · rw [swapF_o f _ _ e1 e2]
          exact h.1 k hk hk0 e
  · have hpp : par (par j) < par j := by show (par j - 1) / 2 < par j; omega
    rw [swapF_o (x := par (par j)) f _ _ (by omega) (by omega)]
    have hgp : befT (f (par j)) (f (par (par j))) = false := h.1 (par j) (by omega) hp0 (by omega)
    by_cases e : k = j
    · subst e
      rw [swapF_r]
      exact hgp
    · rw [swapF_o f _ _ (by have : par k < k := by (show (k - 1) / 2 < k); omega
                            omega) e]
      have := h.1 k hk hk0 e
      unfold edge at this
      rw [hkp] at this
      exact not_trans this hgp
/-- All edges are, but those below i, and i's own where nothing has moved yet. -/
def DnI (f : Nat → Tm) (n i0 i : Nat) : Prop := i0 ≤ i ∧ (∀ k, k < n → 0 < k → par k ≠ i → (k ≠ i0 ∨ i ≠ i0) → edge f k) ∧ (0 < i → ∀ k, k < n → 0 < k → par k = i → befT (f k) (f (par i)) = false)
theorem DnI.stop {f : Nat → Tm} {n i0 i : Nat} (h : DnI f n i0 i) (hc : ∀ k, k < n → 0 < k → par k = i → edge f k) : (i = i0 → UpI f n i0) ∧ (i ≠ i0 → HeapF f n) := by
  refine ⟨fun e => ?_, fun e k hk h0 => ?_⟩
  · subst e
    refine ⟨fun k hk h0 hne => ?_, h.2.2⟩
    by_cases e1 : par k = i
    · exact hc k hk h0 e1
    · exact h.2.1 k hk h0 e1 (Or.inl hne)
  · by_cases e1 : par k = i
    · exact hc k hk h0 e1
    · exact h.2.1 k hk h0 e1 (Or.inr e)
theorem DnI.step {f : Nat → Tm} {n i0 i j : Nat} (h : DnI f n i0 i) (hj : j < n) (hji : par j = i) (hj0 : 0 < j) (hmin : ∀ k, k < n → 0 < k → par k = i → befT (f k) (f j) = false) (hlt : befT (f j) (f i) = true) : DnI (swapF f i j) n i0 j := by
  have hij : i < j := by have : (j - 1) / 2 = i := hji; omega
  refine ⟨by have := h.1; omega, fun k hk hk0 hkj hk1 => ?_, fun _ k hk hk0 hkj => ?_⟩
  · show befT _ _ = false
    by_cases e : k = j
    · subst e
      rw [swapF_r, hji, swapF_l]
      exact befT_asymm hlt
    · by_cases e1 : k = i
      · subst e1
        rw [swapF_l]
        have hp : par k < k := by show (k - 1) / 2 < k; omega
        rw [swapF_o (x := par k) f _ _ (by omega) (by omega)]
        exact h.2.2 hk0 j hj hj0 hji
      · rw [swapF_o f _ _ e1 e]
        by_cases e2 : par k = i
        · rw [e2, swapF_l]
          exact hmin k hk hk0 e2
        · rw [swapF_o f _ _ e2 hkj]
          refine h.2.1 k hk hk0 e2 ?_
          by_cases e3 : i = i0
          · exact Or.inl (by omega)
          · exact Or.inr e3
  · have hp : par k < k := by show (k - 1) / 2 < k; omega
    rw [hji, swapF_l, swapF_o (x := k) f _ _ (by omega) (by omega)]
    have h1 : edge f k := h.2.1 k hk hk0 (by omega) (Or.inl (by have := h.1; omega))
    unfold edge at h1
    rw [hkj] at h1
    exact h1
theorem DnI.root {f g : Nat → Tm} {n : Nat} (h : HeapF f n) (hg : ∀ k, 0 < k → g k = f k) : DnI g n 0 0 := by
  refine ⟨Nat.le_refl _, fun k hk h0 hp hk1 => ?_, fun q => by omega⟩
  show befT _ _ = false
  rw [hg k h0, hg (par k) (by omega)]
  exact h k hk h0
/-- The least of a heap is its first. -/
theorem HeapF.least {f : Nat → Tm} {n : Nat} (h : HeapF f n) : ∀ k, k < n → befT (f k) (f 0) = false := by
  intro k
  induction k using Nat.strongRecOn with
  | ind k ih =>
    intro hk
    by_cases h0 : k = 0
    · subst h0
      rw [befT_no]; omega
    · have hp : par k < k := by show (k - 1) / 2 < k; omega
      exact not_trans (h k hk (by omega)) (ih (par k) hp (by omega))
theorem HeapF.less {f : Nat → Tm} {n m : Nat} (h : HeapF f n) (hm : m ≤ n) : HeapF f m := fun k hk h0 => h k (by omega) h0
theorem HeapF.push {f g : Nat → Tm} {n : Nat} (h : HeapF f n) (hg : ∀ k, k < n → g k = f k) : UpI g (n + 1) n := by
  refine ⟨fun k hk h0 hne => ?_, fun h0 k hk hk0 hkp => ?_⟩
  · show befT _ _ = false
    have hp : par k < k := by show (k - 1) / 2 < k; omega
    rw [hg k (by omega), hg (par k) (by omega)]
    exact h k (by omega) h0
  · have hp : par k < k := by show (k - 1) / 2 < k; omega
    omega
/-- The last one put in the place of i. -/
theorem HeapF.drop {f g : Nat → Tm} {n i : Nat} (h : HeapF f (n + 1)) (hi : i < n) (hg : ∀ k, k < n → k ≠ i → g k = f k) (hgi : g i = f n) : DnI g n i i := by
  refine ⟨Nat.le_refl _, fun k hk h0 hp hk1 => ?_, fun h0 k hk hk0 hkp => ?_⟩
  · show befT _ _ = false
    have hpk : par k < k := by show (k - 1) / 2 < k; omega
    have hki : k ≠ i := by omega
    rw [hg k hk hki, hg (par k) (by omega) hp]
    exact h k (by omega) h0
  · have hpk : par k < k := by show (k - 1) / 2 < k; omega
    have hpi : par i < i := by show (i - 1) / 2 < i; omega
    rw [hg k hk (by omega), hg (par i) (by omega) (by omega)]
    have h1 := h k (by omega) hk0
    have h2 := h i (by omega) h0
    unfold edge at h1 h2
    rw [hkp] at h1
    exact not_trans h1 h2
end Go.Proofs.Ytcageojgfnihpaa
