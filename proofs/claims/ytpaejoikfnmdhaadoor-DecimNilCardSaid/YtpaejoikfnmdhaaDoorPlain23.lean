/- Layer 23, plain: what is put is taken; what is taken, put, is not longer. -/
import Derived.Test.YtpaejoikfnmdhaaDoorDec25
namespace Go.Proofs.YtpaejoikfnmdhaaDoor
set_option linter.unusedVariables false
open Go.RowKit

theorem digF_isD (f : Nat) : ∀ n l, ∀ c ∈ digF f n l, isD c = true := by
  induction f with
  | zero => intro n l c h; simp [digF] at h
  | succ f ih =>
    intro n l c h
    unfold digF at h
    split at h
    · rcases List.mem_append.1 h with h | h
      · exact ih _ _ c h
      · have : c = UInt8.ofNat (48 + n % 10) := by simpa using h
        subst this
        refine decide_eq_true ?_
        simp
        omega
    · simp at h
theorem digF_val (f : Nat) : ∀ n l, n < 10 ^ f → valD (digF f n l) = n := by
  induction f with
  | zero => intro n l h; have : n < 1 := h; have : n = 0 := by omega
            subst this; rfl
  | succ f ih =>
    intro n l h
    unfold digF
    split
    · rw [valD_snoc, ih _ _ (by rw [Nat.pow_succ] at h; omega)]
      simp
      omega
    · have : n = 0 := by omega
      subst this; rfl
theorem digF_ge (f : Nat) : ∀ n l, l ≤ f → l ≤ (digF f n l).length := by
  induction f with
  | zero => intro n l h; omega
  | succ f ih =>
    intro n l h
    unfold digF
    split
    · have := ih (n / 10) (l - 1) (by omega)
      simp
      omega
    · simp; omega
theorem digF_le (f : Nat) : ∀ n l k, n < 10 ^ k → l ≤ k → (digF f n l).length ≤ k := by
  induction f with
  | zero => intro n l k _ _; simp [digF]
  | succ f ih =>
    intro n l k h1 h2
    unfold digF
    split
    · rename_i h
      cases k with
      | zero => have : n < 1 := h1; omega
      | succ k =>
        have := ih (n / 10) (l - 1) k (by rw [Nat.pow_succ] at h1; omega) (by omega)
        simp
        omega
    · simp
theorem big20 {n : Nat} (h : n ≤ 1000000000000000000) : n < 10 ^ 20 := by
  have : (10 : Nat) ^ 20 = 100000000000000000000 := by decide
  omega
theorem digL_isD (n l : Nat) : ∀ c ∈ digL n l, isD c = true := digF_isD 20 n l
theorem digL_val {n l : Nat} (h : n ≤ 1000000000000000000) : valD (digL n l) = n := digF_val 20 n l (big20 h)
theorem digL_ge {n l : Nat} (h : l ≤ 20) : l ≤ (digL n l).length := digF_ge 20 n l h
theorem digL_le {n l k : Nat} (h : n < 10 ^ k) (hl : l ≤ k) : (digL n l).length ≤ k := digF_le 20 n l k h hl
theorem digL_eq {n l : Nat} (h : n < 10 ^ l) (hl : l ≤ 20) : (digL n l).length = l := Nat.le_antisymm (digL_le h (Nat.le_refl _)) (digL_ge hl)

/-- What is behind the point: digits of which the last one is none of 0. -/
theorem tail_form (f : Nat) : ∀ r, 0 < r → r < 10 ^ f → f ≤ 18 → ∃ r' k, r = r' * 10 ^ k ∧ k < f ∧ r' % 10 ≠ 0 ∧ Lib.trimRightB (46 :: digL r f) 48 = 46 :: digL r' (f - k) := by
  induction f with
  | zero => intro r h1 h2 _; have : r < 1 := h2; omega
  | succ f ih =>
    intro r h1 h2 h3
    have hm : r ≤ 1000000000000000000 := by
      have h4 : (10 : Nat) ^ (f + 1) ≤ 10 ^ 18 := Nat.pow_le_pow_right (by decide) h3
      have e : (10 : Nat) ^ 18 = 1000000000000000000 := by decide
      omega
    by_cases h : r % 10 = 0
    · rw [trim_down r (f + 1) h1 h hm h3, Nat.add_sub_cancel]
      obtain ⟨r', k, e1, e2, e3, e4⟩ := ih (r / 10) (by omega) (by rw [Nat.pow_succ] at h2; omega) (by omega)
      refine ⟨r', k + 1, ?_, by omega, e3, ?_⟩
      · rw [Nat.pow_succ, ← Nat.mul_assoc, ← e1]; omega
      · rw [e4, show f + 1 - (k + 1) = f - k from by omega]
    · exact ⟨r, 0, by simp, by omega, h, trim_stay r (f + 1) h1 h hm h3⟩
theorem tail_cut {r' k v j : Nat} (h : r' * 10 ^ k = v * 10 ^ j) (hr : r' % 10 ≠ 0) : j ≤ k := by
  rcases Nat.lt_or_ge k j with h1 | h1
  · exfalso
    obtain ⟨d, rfl⟩ : ∃ d, j = k + (d + 1) := ⟨j - k - 1, by omega⟩
    have e1 : r' = v * 10 ^ (d + 1) := by
      have : r' * 10 ^ k = v * 10 ^ (d + 1) * 10 ^ k := by rw [h, Nat.pow_add, Nat.mul_assoc, Nat.mul_comm (10 ^ k)]
      exact Nat.eq_of_mul_eq_mul_right (Nat.pow_pos (by decide)) this
    rw [Nat.pow_succ, ← Nat.mul_assoc] at e1
    omega
  · exact h1

theorem cntD_parts {A T : List UInt8} (hA : ∀ c ∈ A, isD c = true) (hT : ∀ c, T.head? = some c → isD c = false) : cntD (A ++ T) = A.length := by
  unfold cntD
  rw [List.takeWhile_append_of_pos hA]
  have : T.takeWhile isD = [] := by
    cases T with
    | nil => rfl
    | cons c T => rw [List.takeWhile_cons_of_neg (by rw [hT c rfl]; decide)]
  rw [this, List.append_nil]
theorem cntD_all {B : List UInt8} (hB : ∀ c ∈ B, isD c = true) : cntD B = B.length := by
  have := cntD_parts (T := []) hB (fun c h => by simp at h)
  rwa [List.append_nil] at this

/-- A text of digits, and a point and digits. -/
def NumText (l : List UInt8) (a m f n : Nat) : Prop :=
  ∃ A T, l = A ++ T ∧ (∀ c ∈ A, isD c = true) ∧ a ≤ A.length ∧ A.length ≤ m ∧
    (T = [] ∧ n = valD A * 10 ^ f ∨ ∃ B, T = 46 :: B ∧ (∀ c ∈ B, isD c = true) ∧ 1 ≤ B.length ∧ B.length ≤ f ∧ n = valD A * 10 ^ f + valD B * 10 ^ (f - B.length))
theorem parseN_of {l : List UInt8} {a m f n : Nat} (h : NumText l a m f n) : parseN l a m f = some n := by
  obtain ⟨A, T, rfl, hA, h1, h2, h3⟩ := h
  rcases h3 with ⟨rfl, rfl⟩ | ⟨B, rfl, hB, h4, h5, rfl⟩
  · rw [List.append_nil]
    unfold parseN
    rw [cntD_all hA, if_neg (by omega), if_pos rfl]
  · have hc := cntD_parts (T := 46 :: B) hA (fun c h => by
      have : c = 46 := by simpa using h.symm
      subst this
      decide)
    have hd : (A ++ 46 :: B).drop (A.length + 1) = B := by
      rw [← List.drop_drop, List.drop_left]
      rfl
    unfold parseN
    have g : (A ++ 46 :: B)[A.length]? = some 46 := by simp
    have g2 : (A ++ 46 :: B).length = A.length + 1 + B.length := by simp; omega
    rw [hc, hd, cntD_all hB, if_neg (by omega), if_neg (by omega), if_neg (by
      intro k
      rcases k with k | k | k | k
      · exact k g
      · omega
      · omega
      · exact k g2.symm)]
    rw [List.take_left]
theorem parseN_inv {l : List UInt8} {a m f n : Nat} (h : parseN l a m f = some n) : NumText l a m f n := by
  unfold parseN at h
  have hA := cntD_take l
  split at h
  · cases h
  rename_i g1
  split at h
  · rename_i g2
    injection h with h
    rw [g2, List.take_length] at hA
    exact ⟨l, [], by simp, hA, by omega, by omega, .inl ⟨rfl, h.symm⟩⟩
  rename_i g2
  split at h
  · cases h
  rename_i g3
  injection h with h
  have hle := cntD_le l
  have g4 : l[cntD l]? = some 46 := Classical.not_not.1 fun k => g3 (.inl k)
  have hB := cntD_take (l.drop (cntD l + 1))
  have e1 : cntD (l.drop (cntD l + 1)) = (l.drop (cntD l + 1)).length := by rw [List.length_drop]; omega
  rw [e1, List.take_length] at hB
  refine ⟨l.take (cntD l), l.drop (cntD l), (List.take_append_drop _ _).symm, hA, by rw [List.length_take]; omega, by rw [List.length_take]; omega, .inr ⟨l.drop (cntD l + 1), ?_, hB, by omega, by omega, by rw [← e1]; exact h.symm⟩⟩
  have hlt : cntD l < l.length := by omega
  rw [List.drop_eq_getElem_cons hlt]
  rw [List.getElem?_eq_getElem hlt] at g4
  injection g4 with g4
  rw [g4]

/-- A tail's form. -/
theorem tailB_text (r f : Nat) (hr : r < 10 ^ f) (hf : f ≤ 18) : tailB r f = [] ∧ r = 0 ∨ ∃ B, tailB r f = 46 :: B ∧ (∀ c ∈ B, isD c = true) ∧ 1 ≤ B.length ∧ B.length ≤ f ∧ valD B * 10 ^ (f - B.length) = r := by
  unfold tailB
  by_cases h0 : r = 0
  · rw [if_pos h0]; exact .inl ⟨rfl, h0⟩
  · rw [if_neg h0]
    obtain ⟨r', k, e1, e2, e3, e4⟩ := tail_form f r (by omega) hr hf
    have hr' : r' < 10 ^ (f - k) := by
      rw [e1, show f = (f - k) + k from by omega, Nat.pow_add] at hr
      exact Nat.lt_of_mul_lt_mul_right (a := 10 ^ k) hr
    have hm : r' ≤ 1000000000000000000 := by
      have h4 : (10 : Nat) ^ (f - k) ≤ 10 ^ 18 := Nat.pow_le_pow_right (by decide) (by omega)
      have e : (10 : Nat) ^ 18 = 1000000000000000000 := by decide
      omega
    have hl : (digL r' (f - k)).length = f - k := digL_eq hr' (by omega)
    refine .inr ⟨digL r' (f - k), e4, digL_isD _ _, by omega, by omega, ?_⟩
    rw [hl, digL_val hm, show f - (f - k) = k from by omega, e1]
theorem tailB_short (v j f : Nat) (h : v * 10 ^ j < 10 ^ f) (hf : f ≤ 18) (hj : j ≤ f) : (tailB (v * 10 ^ j) f).length ≤ 1 + (f - j) := by
  unfold tailB
  by_cases h0 : v * 10 ^ j = 0
  · rw [if_pos h0]; simp
  · rw [if_neg h0]
    obtain ⟨r', k, e1, e2, e3, e4⟩ := tail_form f _ (by omega) h hf
    have hk := tail_cut e1.symm e3
    have hr' : r' < 10 ^ (f - k) := by
      rw [e1, show f = (f - k) + k from by omega, Nat.pow_add] at h
      exact Nat.lt_of_mul_lt_mul_right (a := 10 ^ k) h
    rw [e4, List.length_cons, digL_eq hr' (by omega)]
    omega

/-- What is put is taken. -/
theorem pointL_text (n w m f : Nat) (hn : n < 10 ^ (m + f)) (hmf : m + f ≤ 18) (hw : 1 ≤ w) (hwm : w ≤ m) : NumText (pointL n w f) 1 m f n := by
  have hn2 : n ≤ 1000000000000000000 := by
    have h4 : (10 : Nat) ^ (m + f) ≤ 10 ^ 18 := Nat.pow_le_pow_right (by decide) (by omega)
    have e : (10 : Nat) ^ 18 = 1000000000000000000 := by decide
    omega
  have hq : n / 10 ^ f < 10 ^ m := by
    rw [Nat.pow_add] at hn
    exact Nat.div_lt_of_lt_mul (by rwa [Nat.mul_comm])
  have hq2 : n / 10 ^ f ≤ 1000000000000000000 := Nat.le_trans (Nat.div_le_self _ _) hn2
  have hr : n % 10 ^ f < 10 ^ f := Nat.mod_lt _ (Nat.pow_pos (by decide))
  have hdm : n / 10 ^ f * 10 ^ f + n % 10 ^ f = n := by rw [Nat.mul_comm]; exact Nat.div_add_mod n (10 ^ f)
  refine ⟨digL (n / 10 ^ f) w, tailB (n % 10 ^ f) f, rfl, digL_isD _ _, Nat.le_trans hw (digL_ge (by omega)), digL_le hq hwm, ?_⟩
  rw [digL_val hq2]
  rcases tailB_text (n % 10 ^ f) f hr (by omega) with ⟨h1, h2⟩ | ⟨B, h1, h2, h3, h4, h5⟩
  · exact .inl ⟨h1, by omega⟩
  · exact .inr ⟨B, h1, h2, h3, h4, by omega⟩

theorem bodyL_neg (l : List UInt8) : negL (45 :: l) = true ∧ bodyL (45 :: l) = l := ⟨rfl, rfl⟩
theorem bodyL_pos {l : List UInt8} {a m f n : Nat} (h : NumText l a m f n) (ha : 1 ≤ a) : negL l = false ∧ bodyL l = l ∧ l ≠ [] := by
  obtain ⟨A, T, rfl, hA, h1, -⟩ := h
  cases A with
  | nil => simp at h1; omega
  | cons c A =>
    have hc := of_decide_eq_true (hA c (by simp))
    have : negL (c :: A ++ T) = false := by
      show (some c == some 45) = false
      have : c ≠ 45 := by rintro rfl; exact absurd hc (by decide)
      simpa using this
    refine ⟨this, ?_, by simp⟩
    unfold bodyL
    rw [this]
    rfl
theorem right_mf {W M F L H : Int} (h : rightB W M F L H = true) : ∃ w m f : Nat, W = (w : Int) ∧ M = (m : Int) ∧ F = (f : Int) ∧ 1 ≤ w ∧ w ≤ m ∧ m ≤ 12 ∧ f ≤ 6 ∧ -tenI (m + f) < L ∧ H < tenI (m + f) := by
  have h := of_decide_eq_true h
  refine ⟨W.toNat, M.toNat, F.toNat, by omega, by omega, by omega, by omega, by omega, by omega, by omega, ?_⟩
  rw [show M.toNat + F.toNat = (M + F).toNat from by omega]
  exact ⟨h.2.2.2.2.2.2.1, h.2.2.2.2.2.2.2⟩

theorem put_take {b : Bool} {n W M F L H : Int} (h : (putN b n W M F L H).2 = 0) : takeN (putN b n W M F L H).1.data.toList W M F L H = (b, n, 0) := by
  unfold putN at h ⊢
  by_cases hr : rightB W M F L H = false
  · rw [if_pos hr] at h; exact absurd h (by decide)
  rw [if_neg hr] at h ⊢
  by_cases hf : fitsB b n L H = false
  · rw [if_pos hf] at h; exact absurd h (by decide)
  rw [if_neg hf] at h ⊢
  cases b with
  | false =>
    rw [if_pos rfl]
    have : n = 0 := by
      unfold fitsB at hf
      simpa using hf
    subst this
    unfold takeN
    rw [if_neg hr]
    rfl
  | true =>
    rw [if_neg (by decide)]
    have hfit : fitsB true n L H = true := by simpa using hf
    have hb := fitsB_true hfit
    obtain ⟨w, m, f, rfl, rfl, rfl, h1, h2, h3, h4, h5, h6⟩ := right_mf (by simpa using hr)
    have hx : n.natAbs < 10 ^ (m + f) := by
      rw [tenI_cast] at h5 h6
      omega
    by_cases hn : n < 0
    · rw [if_pos hn]
      have ht := pointL_text n.natAbs w m f hx (by omega) h1 h2
      have hp := parseN_of ht
      show takeN (toB (45 :: pointL (-n).toNat w f)).data.toList w m f L H = _
      rw [toList_B, show (-n).toNat = n.natAbs from by omega]
      unfold takeN
      rw [if_neg hr, if_neg (by simp), (bodyL_neg _).1, (bodyL_neg _).2, Int.toNat_natCast, Int.toNat_natCast, hp]
      simp only [if_true]
      rw [show -((n.natAbs : Nat) : Int) = n from by omega, hfit]
      rfl
    · rw [if_neg hn]
      have ht := pointL_text n.natAbs w m f hx (by omega) h1 h2
      have hp := parseN_of ht
      obtain ⟨k1, k2, k3⟩ := bodyL_pos ht (Nat.le_refl _)
      show takeN (toB (pointL n.toNat w f)).data.toList w m f L H = _
      rw [toList_B, show n.toNat = n.natAbs from by omega]
      unfold takeN
      rw [if_neg hr, if_neg k3, k1, k2, Int.toNat_natCast, Int.toNat_natCast, hp]
      simp only [Bool.false_eq_true, if_false]
      rw [show ((n.natAbs : Nat) : Int) = n from by omega, hfit]
      rfl

end Go.Proofs.YtpaejoikfnmdhaaDoor
