/- Layer 43: the law DueOrder as a plain law: timers set, and asked for at one time. -/
import Derived.Test.YtcageojgfnihpaaDueE
namespace Go.Proofs.Ytcageojgfnihpaa
set_option linter.unusedVariables false
open Go.RowKit

def setF {α : Type} (f : Nat → α) (j : Nat) (v : α) : Nat → α := fun k => if k = j then v else f k
theorem setF_at {α : Type} (f : Nat → α) (j : Nat) (v : α) : setF f j v j = v := if_pos rfl
theorem setF_ne {α : Type} (f : Nat → α) {j k : Nat} (v : α) (h : k ≠ j) : setF f j v k = f k := if_neg h
/-- What was set: by id, when and how much later again. -/
def SetI (r : List Tr) (At Ev : Nat → Int) (St : Nat → Bool) : Prop :=
  (∀ x ∈ r, ∃ j : Nat, j < 16 ∧ x = ((j : Int), At j, Ev j) ∧ St j = true) ∧ (∀ j : Nat, j < 16 → St j = true → ((j : Int), At j, Ev j) ∈ r ∧ 0 ≤ At j ∧ (Ev j = 0 ∨ 100 ≤ Ev j))
theorem SetI.nil (At Ev : Nat → Int) : SetI [] At Ev (fun _ => false) := ⟨fun x hx => (by cases hx), fun j _ h => (by cases h)⟩
theorem SetI.put {r : List Tr} {At Ev : Nat → Int} {St : Nat → Bool} (h : SetI r At Ev St) {j : Nat} (hj : j < 16) {t ev : Int} (ht : 0 ≤ t) (he : ev = 0 ∨ 100 ≤ ev) :
    SetI (((j : Int), t, ev) :: without r (j : Int)) (setF At j t) (setF Ev j ev) (setF St j true) := by
  refine ⟨fun x hx => ?_, fun k hk hs => ?_⟩
  · rcases List.mem_cons.1 hx with rfl | hx
    · exact ⟨j, hj, by rw [setF_at, setF_at], setF_at _ _ _⟩
    · obtain ⟨hx, hne⟩ := List.mem_filter.1 hx
      obtain ⟨k, hk, rfl, hs⟩ := h.1 x hx
      have hkj : k ≠ j := fun e => by subst e; simp at hne
      exact ⟨k, hk, by rw [setF_ne _ _ hkj, setF_ne _ _ hkj], by rw [setF_ne _ _ hkj]; exact hs⟩
  · by_cases e : k = j
    · subst e
      rw [setF_at, setF_at]
      exact ⟨List.mem_cons_self, ht, he⟩
    · rw [setF_ne _ _ e] at hs
      rw [setF_ne _ _ e, setF_ne _ _ e]
      obtain ⟨h1, h2⟩ := h.2 k hk hs
      exact ⟨List.mem_cons_of_mem _ (List.mem_filter.2 ⟨h1, decide_eq_true (show (k : Int) ≠ (j : Int) by omega)⟩), h2⟩
/-- How often all came. -/
def sumC (Cm : Nat → Int) : Nat → Int
  | 0 => 0
  | n + 1 => sumC Cm n + Cm n
theorem sumC_set (Cm : Nat → Int) (j : Nat) (v : Int) : ∀ n, sumC (setF Cm j v) n = sumC Cm n + if j < n then v - Cm j else 0
  | 0 => by simp [sumC]
  | n + 1 => by
    rw [sumC, sumC, sumC_set Cm j v n]
    by_cases e : n = j
    · subst e
      rw [setF_at, if_neg (by omega), if_pos (by omega)]
      omega
    · rw [setF_ne _ _ e]
      by_cases e2 : j < n
      · rw [if_pos e2, if_pos (by omega)]; omega
      · rw [if_neg e2, if_neg (by omega)]; omega
theorem sumC_le {Cm : Nat → Int} {b : Int} : ∀ n, (∀ j, j < n → Cm j ≤ b) → sumC Cm n ≤ n * b
  | 0, _ => by simp [sumC]
  | n + 1, h => by
    have h1 := sumC_le n (fun j hj => h j (by omega))
    have h2 := h n (by omega)
    have e : ((n + 1 : Nat) : Int) * b = n * b + b := by rw [Int.natCast_add, Int.add_mul]; simp
    rw [sumC, e]
    omega
theorem sumC_zero (n : Nat) : sumC (fun _ => 0) n = 0 := by
  induction n with
  | zero => rfl
  | succ n ih => rw [sumC, ih]; rfl
/-- Timers that are asked for. -/
structure AskI (r : List Tr) (At Ev : Nat → Int) (St : Nat → Bool) (Cm : Nat → Int) (now was : Int) : Prop where
  ok : ∀ j : Nat, j < 16 → St j = true → 0 ≤ At j ∧ (Ev j = 0 ∨ 100 ≤ Ev j)
  there : ∀ x ∈ r, ∃ j : Nat, j < 16 ∧ x = ((j : Int), At j + Cm j * Ev j, Ev j) ∧ St j = true ∧ was ≤ x.2.1 ∧ (Ev j = 0 → Cm j = 0)
  gone : ∀ j : Nat, j < 16 → St j = true → (∀ x ∈ r, x.1 ≠ (j : Int)) → Ev j = 0 ∧ Cm j = 1 ∧ At j ≤ now
  came : ∀ j : Nat, j < 16 → 0 ≤ Cm j ∧ (1 ≤ Cm j → At j + (Cm j - 1) * Ev j ≤ now ∧ St j = true) ∧ (Ev j = 0 → Cm j ≤ 1)
  now0 : 0 ≤ now ∧ now ≤ 10000
theorem AskI.start {r : List Tr} {At Ev : Nat → Int} {St : Nat → Bool} (h : SetI r At Ev St) {now : Int} (hn : 0 ≤ now ∧ now ≤ 10000) : AskI r At Ev St (fun _ => 0) now 0 := by
  refine ⟨fun j hj hs => (h.2 j hj hs).2, fun x hx => ?_, fun j hj hs hno => absurd rfl (hno _ (h.2 j hj hs).1), fun j hj => ⟨Int.le_refl _, fun h => by omega, fun _ => by omega⟩, hn⟩
  obtain ⟨j, hj, rfl, hs⟩ := h.1 x hx
  exact ⟨j, hj, by simp, hs, (h.2 j hj hs).2.1, fun _ => rfl⟩
theorem AskI.step {r : List Tr} {At Ev : Nat → Int} {St : Nat → Bool} {Cm : Nat → Int} {now was : Int} (h : AskI r At Ev St Cm now was) {x : Tr} (hx : Least x r) (ht : x.2.1 ≤ now) :
    ∃ j : Nat, j < 16 ∧ x = ((j : Int), At j + Cm j * Ev j, Ev j) ∧ St j = true ∧ was ≤ x.2.1 ∧
      (x.2.2 = 0 → AskI (without r x.1) At Ev St (setF Cm j (Cm j + 1)) now x.2.1) ∧ (x.2.2 ≠ 0 → AskI ((x.1, x.2.1 + x.2.2, x.2.2) :: without r x.1) At Ev St (setF Cm j (Cm j + 1)) now x.2.1) := by
  obtain ⟨j, hj, e, hs, hw, hz⟩ := h.there x hx.1
  have hc := h.came j hj
  have hok := h.ok j hj hs
  have hne : ∀ y ∈ without r x.1, ∃ k : Nat, k < 16 ∧ k ≠ j ∧ y = ((k : Int), At k + setF Cm j (Cm j + 1) k * Ev k, Ev k) ∧ St k = true ∧ x.2.1 ≤ y.2.1 ∧ (Ev k = 0 → setF Cm j (Cm j + 1) k = 0) := fun y hy => by
    obtain ⟨hy, hyx⟩ := List.mem_filter.1 hy
    obtain ⟨k, hk, e', hs', hw', hz'⟩ := h.there y hy
    have hkj : k ≠ j := fun e2 => by subst e2; rw [e, e'] at hyx; simp at hyx
    have hm := hx.2 y hy
    rw [befR_no] at hm
    exact ⟨k, hk, hkj, by rw [setF_ne _ _ hkj]; exact e', hs', by omega, by rw [setF_ne _ _ hkj]; exact hz'⟩
  have hcame : ∀ k : Nat, k < 16 → 0 ≤ setF Cm j (Cm j + 1) k ∧ (1 ≤ setF Cm j (Cm j + 1) k → At k + (setF Cm j (Cm j + 1) k - 1) * Ev k ≤ now ∧ St k = true) ∧ (Ev k = 0 → setF Cm j (Cm j + 1) k ≤ 1) := fun k hk => by
    by_cases e2 : k = j
    · subst e2
      rw [setF_at]
      refine ⟨by omega, fun _ => ⟨?_, hs⟩, fun h0 => by have := hz h0; omega⟩
      rw [Int.add_sub_cancel]
      rw [e] at ht
      exact ht
    · rw [setF_ne _ _ e2]
      exact h.came k hk
  refine ⟨j, hj, e, hs, hw, fun h0 => ?_, fun h0 => ?_⟩
  · have hej : Ev j = 0 := by rw [e] at h0; exact h0
    refine ⟨h.ok, fun y hy => ?_, fun k hk hsk hno => ?_, hcame, h.now0⟩
    · obtain ⟨k, hk, -, e', hs', hw', hz'⟩ := hne y hy
      exact ⟨k, hk, e', hs', hw', hz'⟩
    · by_cases e2 : k = j
      · subst e2
        rw [setF_at]
        have := hz hej
        refine ⟨hej, by omega, ?_⟩
        rw [e] at ht
        have ht : At k + Cm k * Ev k ≤ now := ht
        rw [hej] at ht
        omega
      · rw [setF_ne _ _ e2]
        refine h.gone k hk hsk fun y hy e3 => ?_
        refine hno y (List.mem_filter.2 ⟨hy, decide_eq_true ?_⟩) e3
        rw [e3, e]
        show (k : Int) ≠ (j : Int)
        omega
  · have hej : Ev j ≠ 0 := by rw [e] at h0; exact h0
    have hpos : 100 ≤ Ev j := by omega
    refine ⟨h.ok, fun y hy => ?_, fun k hk hsk hno => ?_, hcame, h.now0⟩
    · rcases List.mem_cons.1 hy with rfl | hy
      · refine ⟨j, hj, ?_, hs, ?_, fun q => absurd q hej⟩
        · rw [setF_at, e]
          show ((j : Int), At j + Cm j * Ev j + Ev j, Ev j) = _
          rw [Int.add_mul, Int.one_mul, Int.add_assoc]
        · rw [e]
          show At j + Cm j * Ev j ≤ At j + Cm j * Ev j + Ev j
          omega
      · obtain ⟨k, hk, -, e', hs', hw', hz'⟩ := hne y hy
        exact ⟨k, hk, e', hs', hw', hz'⟩
    · by_cases e2 : k = j
      · subst e2
        exact absurd (by rw [e]) (hno _ List.mem_cons_self)
      · rw [setF_ne _ _ e2]
        refine h.gone k hk hsk fun y hy e3 => ?_
        refine hno y (List.mem_cons_of_mem _ (List.mem_filter.2 ⟨hy, decide_eq_true ?_⟩)) e3
        rw [e3, e]
        show (k : Int) ≠ (j : Int)
        omega
/-- How often each ought to come. -/
def wantI (At Ev : Nat → Int) (St : Nat → Bool) (now : Int) (j : Nat) : Int := if St j = true ∧ At j ≤ now then (if 0 < Ev j then (now - At j) / Ev j + 1 else 1) else 0
theorem AskI.few {r : List Tr} {At Ev : Nat → Int} {St : Nat → Bool} {Cm : Nat → Int} {now was : Int} (h : AskI r At Ev St Cm now was) : sumC Cm 16 ≤ 1616 := by
  have h1 := sumC_le (Cm := Cm) (b := 101) 16 fun j hj => by
    obtain ⟨c1, c2, c3⟩ := h.came j hj
    have h0 := h.now0
    rcases Int.lt_or_le (Cm j) 1 with q | q
    · omega
    · obtain ⟨c4, c5⟩ := c2 q
      obtain ⟨o1, o2⟩ := h.ok j hj c5
      rcases o2 with o2 | o2
      · have := c3 o2; omega
      · have h3 : (Cm j - 1) * 100 ≤ (Cm j - 1) * Ev j := Int.mul_le_mul_of_nonneg_left o2 (by omega)
        omega
  omega
theorem AskI.done {r : List Tr} {At Ev : Nat → Int} {St : Nat → Bool} {Cm : Nat → Int} {now was : Int} (h : AskI r At Ev St Cm now was) (hl : ∀ x ∈ r, now < x.2.1) {j : Nat} (hj : j < 16) : Cm j = wantI At Ev St now j := by
  obtain ⟨c1, c2, c3⟩ := h.came j hj
  unfold wantI
  by_cases hs : St j = true
  · obtain ⟨o1, o2⟩ := h.ok j hj hs
    by_cases hin : ∀ x ∈ r, x.1 ≠ (j : Int)
    · obtain ⟨g1, g2, g3⟩ := h.gone j hj hs hin
      rw [if_pos ⟨hs, g3⟩, if_neg (by omega), g2]
    · obtain ⟨x, hxn⟩ := Classical.not_forall.1 hin
      obtain ⟨hx, he⟩ := Classical.not_imp.1 hxn
      have he : x.1 = (j : Int) := Classical.not_not.1 he
      obtain ⟨k, hk, e, hs', hw, hz⟩ := h.there x hx
      have hkj : k = j := by rw [e] at he; exact Int.ofNat.inj he
      subst hkj
      have ht := hl x hx
      rw [e] at ht
      have ht : now < At k + Cm k * Ev k := ht
      by_cases ha : At k ≤ now
      · rw [if_pos ⟨hs, ha⟩]
        rcases o2 with o2 | o2
        · rw [o2] at ht; omega
        · rw [if_pos (by omega)]
          have hc : 1 ≤ Cm k := by
            rcases Int.lt_or_le (Cm k) 1 with q | q
            · have : Cm k = 0 := by omega
              rw [this] at ht; omega
            · exact q
          obtain ⟨c4, -⟩ := c2 hc
          have hdiv : (now - At k) / Ev k = Cm k - 1 := by
            have e1 : (Cm k - 1) * Ev k = Cm k * Ev k - Ev k := by rw [Int.sub_mul, Int.one_mul]
            refine Int.ediv_eq_iff_of_pos (by omega) |>.2 ⟨by omega, ?_⟩
            omega
          omega
      · rw [if_neg (by omega)]
        rcases Int.lt_or_le (Cm k) 1 with q | q
        · omega
        · obtain ⟨c4, -⟩ := c2 q
          have h3 : 0 ≤ (Cm k - 1) * Ev k := Int.mul_nonneg (by omega) (by omega)
          omega
  · rw [if_neg (fun q => hs q.1)]
    rcases Int.lt_or_le (Cm j) 1 with q | q
    · omega
    · exact absurd (c2 q).2 hs
end Go.Proofs.Ytcageojgfnihpaa
