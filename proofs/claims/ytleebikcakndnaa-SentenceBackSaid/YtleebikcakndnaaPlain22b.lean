/- The plain law of layer 22, for Back and Steady: what a taken text looks like. -/
import Derived.Test.YtleebikcakndnaaLaw22b
import Derived.Test.YtleebikcakndnaaPlain07
namespace Go.Proofs.Ytleebikcakndnaa
set_option linter.unusedVariables false
open Go.RowKit

/-- The parts of a body. -/
def partsL (P : List UInt8) : ByteArray × ByteArray × List ByteArray :=
  (toB (P.take 2), toB ((P.drop 2).take 3), if 5 < P.length then (splitC (P.drop 6)).map toB else [])
/-- A body that may be taken. -/
def BodyOk (P : List UInt8) : Prop :=
  5 ≤ P.length ∧ P.length ≤ 76 ∧ (∀ c ∈ P.take 5, signP (c.toNat : Int) = true) ∧ (∀ c ∈ P, letterP (c.toNat : Int) = true) ∧ (5 < P.length → P[5]? = some 44)
/-- A whole text. -/
def wholeL (P : List UInt8) (x y : UInt8) (M : List UInt8) : List UInt8 := 36 :: (P ++ [42, x, y, 13, 10] ++ M)

theorem toList_B (l : List UInt8) : (toB l).data.toList = l := by simp [toB]
theorem size_B (l : List UInt8) : (toB l).size = l.length := by show l.toArray.size = _; simp
theorem get_B (l : List UInt8) (i : Nat) (h : i < (toB l).size) : (toB l)[i] = l[i]'(by rw [size_B] at h; exact h) := by
  show (toB l).data[i] = _
  simp [toB]

theorem unhex_letters {x y : UInt8} {v : Int} (h : unhexL [x, y] = some v) : isR (x.toNat : Int) = true ∧ isR (y.toNat : Int) = true := by
  have h' : (if isR (x.toNat : Int) && isR (y.toNat : Int) then some (16 * valR (x.toNat : Int) + valR (y.toNat : Int)) else none) = some v := h
  split at h'
  · rename_i hc; rw [Bool.and_eq_true] at hc; exact hc
  · cases h'
theorem isR_ok {c : Int} (h : isR c = true) : okC c = true ∧ c ≠ 13 ∧ c ≠ 42 := by
  have h1 := of_decide_eq_true h
  refine ⟨?_, by omega, by omega⟩
  unfold okC
  rw [Bool.or_eq_true]
  right
  unfold letterP
  rw [decide_eq_true_eq]
  omega

/-- The scan runs over bytes that may stand in a line. -/
theorem scanE_run (t : ByteArray) : ∀ (k f i : Nat), k < f → (∀ j, i ≤ j → j < i + k → ∃ h : j < t.size, okC (t[j].toNat : Int) = true ∧ (t[j].toNat : Int) ≠ 13) → (∃ h : i + k < t.size, (t[i + k].toNat : Int) = 13) → scanE t f i = (i + k, 0) := by
  intro k
  induction k with
  | zero =>
    intro f i hf _ ⟨h, hc⟩
    obtain ⟨f, rfl⟩ : ∃ g, f = g + 1 := ⟨f - 1, by omega⟩
    exact scanE_13 t f i h hc
  | succ k ih =>
    intro f i hf hall ⟨h, hc⟩
    obtain ⟨f, rfl⟩ : ∃ g, f = g + 1 := ⟨f - 1, by omega⟩
    obtain ⟨h0, h1, h2⟩ := hall i (Nat.le_refl _) (by omega)
    rw [scanE_ok t f i h0 h2 h1, ih f (i + 1) (by omega) (fun j a b => hall j (by omega) (by omega)) (by rw [show i + 1 + k = i + (k + 1) from by omega]; exact ⟨h, hc⟩)]
    rw [show i + 1 + k = i + (k + 1) from by omega]

theorem scanE_all (t : ByteArray) : ∀ (f i j : Nat), scanE t f i = (j, 0) → (∀ q, i ≤ q → q < j → ∃ h : q < t.size, okC (t[q].toNat : Int) = true ∧ (t[q].toNat : Int) ≠ 13) ∧ ∃ h : j < t.size, (t[j].toNat : Int) = 13 := by
  intro f
  induction f with
  | zero => intro i j h; simp [scanE] at h
  | succ f ih =>
    intro i j h
    unfold scanE at h
    by_cases hi : i < t.size
    · rw [dif_pos hi] at h
      by_cases h13 : (t[i].toNat : Int) = 13
      · rw [if_pos h13] at h
        injection h with h _
        subst h
        exact ⟨fun q a b => absurd a (by omega), hi, h13⟩
      · rw [if_neg h13] at h
        by_cases ho : okC (t[i].toNat : Int) = true
        · rw [if_pos ho] at h
          obtain ⟨a1, a2⟩ := ih _ _ h
          refine ⟨fun q a b => ?_, a2⟩
          by_cases hq : q = i
          · subst hq; exact ⟨hi, ho, h13⟩
          · exact a1 q (by omega) b
        · rw [if_neg ho] at h
          simp at h
    · rw [dif_neg hi] at h
      simp at h

theorem letter_ok {c : Int} (h : letterP c = true) : okC c = true ∧ c ≠ 13 ∧ c ≠ 42 := by
  have h1 := of_decide_eq_true h
  exact ⟨by unfold okC; rw [h, Bool.or_true], by omega, by omega⟩
theorem letter_of {c : Int} (h : okC c = true) (h42 : c ≠ 42) : letterP c = true := by
  unfold okC at h
  rw [Bool.or_eq_true, beq_iff_eq] at h
  exact h.resolve_left h42

section
variable {P : List UInt8} {x y : UInt8} {M : List UInt8}

theorem whole_len : (wholeL P x y M).length = P.length + 6 + M.length := by simp [wholeL]; omega
theorem whole_at (j : Nat) (h1 : 1 ≤ j) (h2 : j < P.length + 4) (hj : j < (wholeL P x y M).length) : ∃ h : j - 1 < (P ++ [42, x, y]).length, (wholeL P x y M)[j] = (P ++ [42, x, y])[j - 1] := by
  have hl : (P ++ [42, x, y]).length = P.length + 3 := by simp
  refine ⟨by omega, ?_⟩
  obtain ⟨j, rfl⟩ : ∃ i, j = i + 1 := ⟨j - 1, by omega⟩
  have e : wholeL P x y M = 36 :: ((P ++ [42, x, y]) ++ ([13, 10] ++ M)) := by simp [wholeL]
  simp only [e, List.getElem_cons_succ, Nat.add_sub_cancel]
  rw [List.getElem_append_left (by omega)]
theorem whole_drop : (wholeL P x y M).drop (P.length + 4) = 13 :: 10 :: M := by
  have e : wholeL P x y M = (36 :: (P ++ [42, x, y])) ++ (13 :: 10 :: M) := by simp [wholeL]
  rw [e, List.drop_left' (by simp)]
theorem whole_line : ((wholeL P x y M).drop 1).take (P.length + 3) = P ++ [42, x, y] := by
  have e : (wholeL P x y M).drop 1 = (P ++ [42, x, y]) ++ (13 :: 10 :: M) := by simp [wholeL]
  rw [e, List.take_left' (by simp)]
theorem drop_at {l q : List UInt8} {n : Nat} {c : UInt8} (h : l.drop n = c :: q) : l[n]? = some c ∧ l.drop (n + 1) = q := by
  constructor
  · have := List.getElem?_drop (xs := l) (i := n) (j := 0)
    rw [h] at this
    simpa using this.symm
  · have : l.drop (n + 1) = (l.drop n).drop 1 := by rw [List.drop_drop]
    rw [this, h]; rfl

theorem endE_form (hP : BodyOk P) (hu : unhexL [x, y] = some ((xorL P).toNat : Int)) : endE (toB (wholeL P x y M)) = (P.length + 4, 0) := by
  obtain ⟨p1, p2, p3, p4, p5⟩ := hP
  obtain ⟨ux, uy⟩ := unhex_letters hu
  have hl := whole_len (P := P) (x := x) (y := y) (M := M)
  unfold endE
  rw [scanE_run (toB (wholeL P x y M)) (P.length + 3) 80 1 (by omega), show 1 + (P.length + 3) = P.length + 4 from by omega]
  · intro j h1 h2
    have hj : j < (toB (wholeL P x y M)).size := by rw [size_B]; omega
    refine ⟨hj, ?_⟩
    rw [get_B _ _ hj]
    obtain ⟨h3, h4⟩ := whole_at (P := P) (x := x) (y := y) (M := M) j h1 (by omega) (by omega)
    rw [h4]
    have hm : (P ++ [42, x, y])[j - 1] ∈ P ++ [42, x, y] := List.getElem_mem h3
    have key : ∀ c ∈ P ++ [42, x, y], okC (c.toNat : Int) = true ∧ (c.toNat : Int) ≠ 13 := by
      intro c hc
      rcases List.mem_append.1 hc with h | h
      · have := letter_ok (p4 c h); exact ⟨this.1, this.2.1⟩
      · have : c = 42 ∨ c = x ∨ c = y := by simpa using h
        rcases this with rfl | rfl | rfl
        · exact ⟨by decide, by decide⟩
        · exact ⟨(isR_ok ux).1, (isR_ok ux).2.1⟩
        · exact ⟨(isR_ok uy).1, (isR_ok uy).2.1⟩
    exact key _ hm
  · have hj : 1 + (P.length + 3) < (toB (wholeL P x y M)).size := by rw [size_B]; omega
    refine ⟨hj, ?_⟩
    obtain ⟨h1, _⟩ := drop_at (whole_drop (P := P) (x := x) (y := y) (M := M))
    rw [get_B _ _ hj]
    rw [List.getElem?_eq_getElem (by omega)] at h1
    injection h1 with h1
    have : (wholeL P x y M)[1 + (P.length + 3)]'(by omega) = 13 := by rw [← h1]; congr 1; omega
    rw [this]
    rfl

theorem line_form (hP : BodyOk P) (hu : unhexL [x, y] = some ((xorL P).toNat : Int)) : lineB (toB (wholeL P x y M)) = toB (P ++ [42, x, y]) := by
  rw [lineB_ok (endE_form hP hu), extract_list, toList_B, show P.length + 4 - 1 = P.length + 3 from by omega, whole_line]

theorem formed_form (hP : BodyOk P) {v : Int} (hu : unhexL [x, y] = some v) : formedB (toB (P ++ [42, x, y])) = true := by
  obtain ⟨p1, p2, p3, p4, p5⟩ := hP
  have hl : (P ++ [42, x, y]).length = P.length + 3 := by simp
  have hz : (toB (P ++ [42, x, y])).size = P.length + 3 := by rw [size_B, hl]
  have hno : ∀ c ∈ P, c ≠ 42 := fun c hc h42 => by have := (letter_ok (p4 c hc)).2.2; rw [h42] at this; exact this rfl
  have ht5 : (P ++ [42, x, y]).take 5 = P.take 5 := by rw [List.take_append_of_le_length p1]
  refine formed_of hz p1 ?_ ?_ ?_ ?_ (v := v) ?_
  · rw [get_B _ _ (by omega), List.getElem_append_right (by omega)]
    simp
  · rw [toList_B, starsN_append, starsN_none hno, starsN_cons42, unhex_no_star hu]
  · unfold signsP allB
    rw [Bool.and_eq_true, decide_eq_true_eq, data_extract, toList_B, List.drop_zero, Nat.sub_zero, ht5, ByteArray.size_extract, List.all_eq_true]
    exact ⟨by omega, p3⟩
  · by_cases h : P.length = 5
    · exact .inl h
    · right
      rw [toList_B, List.getElem?_append_left (by omega)]
      exact p5 (by omega)
  · rw [last_two, toList_B, show (P ++ [42, x, y]).drop (P.length + 1) = [x, y] from by simp [List.drop_append, List.drop_eq_nil_of_le]]
    exact hu

theorem take_form (hP : BodyOk P) (hu : unhexL [x, y] = some ((xorL P).toNat : Int)) : takeS (toB (wholeL P x y M)) = (partsL P, P.length + 6, 0) := by
  have hl := whole_len (P := P) (x := x) (y := y) (M := M)
  have hE := endE_form (M := M) hP hu
  obtain ⟨_, h10⟩ := drop_at (whole_drop (P := P) (x := x) (y := y) (M := M))
  obtain ⟨h10, _⟩ := drop_at h10
  rw [takeS_5 (by rw [size_B]; omega) (by rw [toList_B]; rfl) (by rw [hE]) (by rw [hE, size_B]; show ¬ _ < P.length + 4 + 2; omega) (by rw [hE, toList_B]; exact h10) (by rw [line_form hP hu]; exact formed_form hP hu)]
  rw [line_form hP hu, hE]
  have ho := openB_form P x y
  rw [if_pos hu] at ho
  have ho' : openB (toB (P ++ [42, x, y])) = some (toB P) := ho
  rw [ho']
  have e1 : (toB P).extract 0 2 = toB (P.take 2) := by rw [extract_list, toList_B]; rfl
  have e2 : (toB P).extract 2 5 = toB ((P.drop 2).take 3) := by rw [extract_list, toList_B]
  have e3 : splitB ((toB P).extract 6 (toB P).size) = (splitC (P.drop 6)).map toB := by
    unfold splitB
    rw [data_extract, toList_B, size_B, List.take_of_length_le (by rw [List.length_drop]; exact Nat.le_refl _)]
  show (((toB P).extract 0 2, (toB P).extract 2 5, if 5 < (toB P).size then splitB ((toB P).extract 6 (toB P).size) else []), P.length + 4 + 2, (0 : Int)) = _
  rw [e1, e2, e3, size_B]
  rfl
end

end Go.Proofs.Ytleebikcakndnaa
