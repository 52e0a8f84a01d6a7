/- Layer 23: the program's Angle. -/
import Derived.Test.YteofmahbimkggaaDoorMc
import Derived.Deep.QuietTactic
namespace Go.Proofs.YteofmahbimkggaaDoor
set_option linter.unusedVariables false
open Go.RowKit

def farI (lat : Bool) : Int := if lat then 540000000 else 1080000000
def sidesB (lat : Bool) : ByteArray := if lat then ⟨#[78, 83]⟩ else ⟨#[69, 87]⟩
def sideB (lat neg : Bool) : ByteArray := if lat then (if neg then ⟨#[83]⟩ else ⟨#[78]⟩) else (if neg then ⟨#[87]⟩ else ⟨#[69]⟩)
def wideN (lat : Bool) : Nat := if lat then 2 else 3
/-- An angle's digits. -/
def angL (x : Nat) (lat : Bool) : List UInt8 := digL (x / 6000000) (wideN lat) ++ pointL (x % 6000000) 2 5
/-- An angle's texts. -/
def angN (b : Bool) (n : Int) (lat : Bool) : ByteArray × ByteArray × Int :=
  if fitsB b n (-farI lat) (farI lat) = false then (ByteArray.empty, ByteArray.empty, 5)
  else if b = false then (ByteArray.empty, ByteArray.empty, 0)
  else if n < 0 then (toB (angL (-n).toNat lat), sideB lat true, 0) else (toB (angL n.toNat lat), sideB lat false, 0)

theorem sideB_false (lat : Bool) : (sidesB lat).extract 0 1 = sideB lat false := by cases lat <;> rfl
theorem sideB_true (lat : Bool) : (sidesB lat).extract 1 2 = sideB lat true := by cases lat <;> rfl

theorem results3 {fn : Func} {t u v : Tmp} (h : fn.results = #[.tmp t, .tmp u, .tmp v]) (tmps : Array Value) (P : Program) (w : World) :
    (results fn tmps).run P w = .ok (.tuple #[tmps.getD t undef, tmps.getD u undef, tmps.getD v undef]) w := by
  simp [results, h]

end Go.Proofs.YteofmahbimkggaaDoor

/- Layer 23: the reference's Angle. -/
namespace Go.Proofs.YteofmahbimkggaaDoor
set_option linter.unusedVariables false
open Go.RowKit

end Go.Proofs.YteofmahbimkggaaDoor

/- Layer 23: the program's TakeAngle, case by case. -/
namespace Go.Proofs.YteofmahbimkggaaDoor
set_option linter.unusedVariables false
open Go.RowKit

def wide2 (lat : Bool) : Nat := if lat then 4 else 5

end Go.Proofs.YteofmahbimkggaaDoor

/- Layer 23: the reference's TakeAngle, case by case. -/
namespace Go.Proofs.YteofmahbimkggaaDoor
set_option linter.unusedVariables false
open Go.RowKit

end Go.Proofs.YteofmahbimkggaaDoor

/- Layer 23: TakeAngle, of the program and of the reference, over one plain law. -/
namespace Go.Proofs.YteofmahbimkggaaDoor
set_option linter.unusedVariables false
open Go.RowKit

theorem beq_textD (f g : ByteArray) : (f.toList == g.toList) = decide (f = g) := by
  rw [ByteArray.toList_eq, ByteArray.toList_eq]
  by_cases h : f = g
  · subst h; simp
  · rw [decide_eq_false h, beq_eq_false_iff_ne]
    intro k
    exact h (ByteArray.ext (by simpa using k))

/-- The angle of two texts. -/
def takeAng (l : List UInt8) (d : ByteArray) (lat : Bool) : Bool × Int × Int :=
  if l = [] ∧ d.data.toList = [] then (false, 0, 0)
  else match parseN l (wide2 lat) (wide2 lat) 5 with
  | none => (false, 0, 3)
  | some n => if d ≠ sideB lat false ∧ d ≠ sideB lat true then (false, 0, 3)
    else if 6000000 ≤ n % 10000000 ∨ farI lat < ((n / 10000000 * 6000000 + n % 10000000 : Nat) : Int) then (false, 0, 5)
    else (true, (if d = sideB lat true then -((n / 10000000 * 6000000 + n % 10000000 : Nat) : Int) else ((n / 10000000 * 6000000 + n % 10000000 : Nat) : Int)), 0)

theorem sideB_ne (lat : Bool) : sideB lat false ≠ sideB lat true := by cases lat <;> decide
theorem parseN_nil (k m f : Nat) (hk : 1 ≤ k) : parseN [] k m f = none := by
  unfold parseN
  rw [if_pos (.inl (by show 0 < k; omega))]

end Go.Proofs.YteofmahbimkggaaDoor

/- Layer 1 as layers 23 and 28 use it: Over, to the nearest; Degrees. -/
namespace Go.Proofs.YteofmahbimkggaaDoor
set_option linter.unusedVariables false
open Go.RowKit

/-- A quotient, to the nearest. -/
def overQ (x d : Nat) : Nat := if d ≤ 2 * (x % d) then x / d + 1 else x / d

/-- The degrees of an angle. -/
def degN (n : Int) : Int :=
  if max (-1080000000) (min n 1080000000) < 0 then -(overQ (5 * (max (-1080000000) (min n 1080000000))).natAbs 3 : Int) else (overQ (5 * (max (-1080000000) (min n 1080000000))).natAbs 3 : Int)

theorem below_draws {w : World} (k : Nat) : Below w.heap.size w (w.drewN k) := bdrewN (Below.refl _ _) k
end Go.Proofs.YteofmahbimkggaaDoor

/- Layer 23, plain: what is put is taken; what is taken, put, is not longer. -/
namespace Go.Proofs.YteofmahbimkggaaDoor
set_option linter.unusedVariables false
open Go.RowKit

theorem digF_isD (f : Nat) : ∀ n l, ∀ c ∈ digF f n l, isD c = true := by
  induction f with
  | zero => intro n l c h; simp [digF] at h
  | succ f ih =>
    intro n l c h
    unfold digF at h
    split at h
    · rcases List.mem_append.1 h with h | h
      · exact ih _ _ c h
      · have : c = UInt8.ofNat (48 + n % 10) := by simpa using h
        subst this
        refine decide_eq_true ?_
        simp
        omega
    · simp at h
theorem digF_val (f : Nat) : ∀ n l, n < 10 ^ f → valD (digF f n l) = n := by
  induction f with
  | zero => intro n l h; have : n < 1 := h; have : n = 0 := by omega
            subst this; rfl
  | succ f ih =>
    intro n l h
    unfold digF
    split
    · rw [valD_snoc, ih _ _ (by rw [Nat.pow_succ] at h; omega)]
      simp
      omega
    · have : n = 0 := by omega
      subst this; rfl
theorem digF_ge (f : Nat) : ∀ n l, l ≤ f → l ≤ (digF f n l).length := by
  induction f with
  | zero => intro n l h; omega
  | succ f ih =>
    intro n l h
    unfold digF
    split
    · have := ih (n / 10) (l - 1) (by omega)
      simp
      omega
    · simp; omega
theorem digF_le (f : Nat) : ∀ n l k, n < 10 ^ k → l ≤ k → (digF f n l).length ≤ k := by
  induction f with
  | zero => intro n l k _ _; simp [digF]
  | succ f ih =>
    intro n l k h1 h2
    unfold digF
    split
    · rename_i h
      cases k with
      | zero => have : n < 1 := h1; omega
      | succ k =>
        have := ih (n / 10) (l - 1) k (by rw [Nat.pow_succ] at h1; omega) (by omega)
        simp
        omega
    · simp
theorem big20 {n : Nat} (h : n ≤ 1000000000000000000) : n < 10 ^ 20 := by
  have : (10 : Nat) ^ 20 = 100000000000000000000 := by decide
  omega
theorem digL_isD (n l : Nat) : ∀ c ∈ digL n l, isD c = true := digF_isD 20 n l
theorem digL_val {n l : Nat} (h : n ≤ 1000000000000000000) : valD (digL n l) = n := digF_val 20 n l (big20 h)
theorem digL_ge {n l : Nat} (h : l ≤ 20) : l ≤ (digL n l).length := digF_ge 20 n l h
theorem digL_le {n l k : Nat} (h : n < 10 ^ k) (hl : l ≤ k) : (digL n l).length ≤ k := digF_le 20 n l k h hl
theorem digL_eq {n l : Nat} (h : n < 10 ^ l) (hl : l ≤ 20) : (digL n l).length = l := Nat.le_antisymm (digL_le h (Nat.le_refl _)) (digL_ge hl)

/-- What is behind the point: digits of which the last one is none of 0. -/
theorem tail_form (f : Nat) : ∀ r, 0 < r → r < 10 ^ f → f ≤ 18 → ∃ r' k, r = r' * 10 ^ k ∧ k < f ∧ r' % 10 ≠ 0 ∧ Lib.trimRightB (46 :: digL r f) 48 = 46 :: digL r' (f - k) := by
  induction f with
  | zero => intro r h1 h2 _; have : r < 1 := h2; omega
  | succ f ih =>
    intro r h1 h2 h3
    have hm : r ≤ 1000000000000000000 := by
      have h4 : (10 : Nat) ^ (f + 1) ≤ 10 ^ 18 := Nat.pow_le_pow_right (by decide) h3
      have e : (10 : Nat) ^ 18 = 1000000000000000000 := by decide
      omega
    by_cases h : r % 10 = 0
    · rw [trim_down r (f + 1) h1 h hm h3, Nat.add_sub_cancel]
      obtain ⟨r', k, e1, e2, e3, e4⟩ := ih (r / 10) (by omega) (by rw [Nat.pow_succ] at h2; omega) (by omega)
      refine ⟨r', k + 1, ?_, by omega, e3, ?_⟩
      · rw [Nat.pow_succ, ← Nat.mul_assoc, ← e1]; omega
      · rw [e4, show f + 1 - (k + 1) = f - k from by omega]
    · exact ⟨r, 0, by simp, by omega, h, trim_stay r (f + 1) h1 h hm h3⟩
theorem tail_cut {r' k v j : Nat} (h : r' * 10 ^ k = v * 10 ^ j) (hr : r' % 10 ≠ 0) : j ≤ k := by
  rcases Nat.lt_or_ge k j with h1 | h1
  · exfalso
    obtain ⟨d, rfl⟩ : ∃ d, j = k + (d + 1) := ⟨j - k - 1, by omega⟩
    have e1 : r' = v * 10 ^ (d + 1) := by
      have : r' * 10 ^ k = v * 10 ^ (d + 1) * 10 ^ k := by rw [h, Nat.pow_add, Nat.mul_assoc, Nat.mul_comm (10 ^ k)]
      exact Nat.eq_of_mul_eq_mul_right (Nat.pow_pos (by decide)) this
    rw [Nat.pow_succ, ← Nat.mul_assoc] at e1
    omega
  · exact h1

theorem cntD_parts {A T : List UInt8} (hA : ∀ c ∈ A, isD c = true) (hT : ∀ c, T.head? = some c → isD c = false) : cntD (A ++ T) = A.length := by
  unfold cntD
  rw [List.takeWhile_append_of_pos hA]
  have : T.takeWhile isD = [] := by
    cases T with
    | nil => rfl
    | cons c T => rw [List.takeWhile_cons_of_neg (by rw [hT c rfl]; decide)]
  rw [this, List.append_nil]
theorem cntD_all {B : List UInt8} (hB : ∀ c ∈ B, isD c = true) : cntD B = B.length := by
  have := cntD_parts (T := []) hB (fun c h => by simp at h)
  rwa [List.append_nil] at this

/-- A text of digits, and a point and digits. -/
def NumText (l : List UInt8) (a m f n : Nat) : Prop :=
  ∃ A T, l = A ++ T ∧ (∀ c ∈ A, isD c = true) ∧ a ≤ A.length ∧ A.length ≤ m ∧
    (T = [] ∧ n = valD A * 10 ^ f ∨ ∃ B, T = 46 :: B ∧ (∀ c ∈ B, isD c = true) ∧ 1 ≤ B.length ∧ B.length ≤ f ∧ n = valD A * 10 ^ f + valD B * 10 ^ (f - B.length))
theorem parseN_of {l : List UInt8} {a m f n : Nat} (h : NumText l a m f n) : parseN l a m f = some n := by
  obtain ⟨A, T, rfl, hA, h1, h2, h3⟩ := h
  rcases h3 with ⟨rfl, rfl⟩ | ⟨B, rfl, hB, h4, h5, rfl⟩
  · rw [List.append_nil]
    unfold parseN
    rw [cntD_all hA, if_neg (by omega), if_pos rfl]
  · have hc := cntD_parts (T := 46 :: B) hA (fun c h => by
      have : c = 46 := by simpa using h.symm
      subst this
      decide)
    have hd : (A ++ 46 :: B).drop (A.length + 1) = B := by
      rw [← List.drop_drop, List.drop_left]
      rfl
    unfold parseN
    have g : (A ++ 46 :: B)[A.length]? = some 46 := by simp
    have g2 : (A ++ 46 :: B).length = A.length + 1 + B.length := by simp; omega
    rw [hc, hd, cntD_all hB, if_neg (by omega), if_neg (by omega), if_neg (by
      intro k
      rcases k with k | k | k | k
      · exact k g
      · omega
      · omega
      · exact k g2.symm)]
    rw [List.take_left]
theorem parseN_inv {l : List UInt8} {a m f n : Nat} (h : parseN l a m f = some n) : NumText l a m f n := by
  unfold parseN at h
  have hA := cntD_take l
  split at h
  · cases h
  rename_i g1
  split at h
  · rename_i g2
    injection h with h
    rw [g2, List.take_length] at hA
    exact ⟨l, [], by simp, hA, by omega, by omega, .inl ⟨rfl, h.symm⟩⟩
  rename_i g2
  split at h
  · cases h
  rename_i g3
  injection h with h
  have hle := cntD_le l
  have g4 : l[cntD l]? = some 46 := Classical.not_not.1 fun k => g3 (.inl k)
  have hB := cntD_take (l.drop (cntD l + 1))
  have e1 : cntD (l.drop (cntD l + 1)) = (l.drop (cntD l + 1)).length := by rw [List.length_drop]; omega
  rw [e1, List.take_length] at hB
  refine ⟨l.take (cntD l), l.drop (cntD l), (List.take_append_drop _ _).symm, hA, by rw [List.length_take]; omega, by rw [List.length_take]; omega, .inr ⟨l.drop (cntD l + 1), ?_, hB, by omega, by omega, by rw [← e1]; exact h.symm⟩⟩
  have hlt : cntD l < l.length := by omega
  rw [List.drop_eq_getElem_cons hlt]
  rw [List.getElem?_eq_getElem hlt] at g4
  injection g4 with g4
  rw [g4]

/-- A tail's form. -/
theorem tailB_text (r f : Nat) (hr : r < 10 ^ f) (hf : f ≤ 18) : tailB r f = [] ∧ r = 0 ∨ ∃ B, tailB r f = 46 :: B ∧ (∀ c ∈ B, isD c = true) ∧ 1 ≤ B.length ∧ B.length ≤ f ∧ valD B * 10 ^ (f - B.length) = r := by
  unfold tailB
  by_cases h0 : r = 0
  · rw [if_pos h0]; exact .inl ⟨rfl, h0⟩
  · rw [if_neg h0]
    obtain ⟨r', k, e1, e2, e3, e4⟩ := tail_form f r (by omega) hr hf
    have hr' : r' < 10 ^ (f - k) := by
      rw [e1, show f = (f - k) + k from by omega, Nat.pow_add] at hr
      exact Nat.lt_of_mul_lt_mul_right (a := 10 ^ k) hr
    have hm : r' ≤ 1000000000000000000 := by
      have h4 : (10 : Nat) ^ (f - k) ≤ 10 ^ 18 := Nat.pow_le_pow_right (by decide) (by omega)
      have e : (10 : Nat) ^ 18 = 1000000000000000000 := by decide
      omega
    have hl : (digL r' (f - k)).length = f - k := digL_eq hr' (by omega)
    refine .inr ⟨digL r' (f - k), e4, digL_isD _ _, by omega, by omega, ?_⟩
    rw [hl, digL_val hm, show f - (f - k) = k from by omega, e1]
theorem tailB_short (v j f : Nat) (h : v * 10 ^ j < 10 ^ f) (hf : f ≤ 18) (hj : j ≤ f) : (tailB (v * 10 ^ j) f).length ≤ 1 + (f - j) := by
  unfold tailB
  by_cases h0 : v * 10 ^ j = 0
  · rw [if_pos h0]; simp
  · rw [if_neg h0]
    obtain ⟨r', k, e1, e2, e3, e4⟩ := tail_form f _ (by omega) h hf
    have hk := tail_cut e1.symm e3
    have hr' : r' < 10 ^ (f - k) := by
      rw [e1, show f = (f - k) + k from by omega, Nat.pow_add] at h
      exact Nat.lt_of_mul_lt_mul_right (a := 10 ^ k) h
    rw [e4, List.length_cons, digL_eq hr' (by omega)]
    omega

/-- What is put is taken. -/
theorem pointL_text (n w m f : Nat) (hn : n < 10 ^ (m + f)) (hmf : m + f ≤ 18) (hw : 1 ≤ w) (hwm : w ≤ m) : NumText (pointL n w f) 1 m f n := by
  have hn2 : n ≤ 1000000000000000000 := by
    have h4 : (10 : Nat) ^ (m + f) ≤ 10 ^ 18 := Nat.pow_le_pow_right (by decide) (by omega)
    have e : (10 : Nat) ^ 18 = 1000000000000000000 := by decide
    omega
  have hq : n / 10 ^ f < 10 ^ m := by
    rw [Nat.pow_add] at hn
    exact Nat.div_lt_of_lt_mul (by rwa [Nat.mul_comm])
  have hq2 : n / 10 ^ f ≤ 1000000000000000000 := Nat.le_trans (Nat.div_le_self _ _) hn2
  have hr : n % 10 ^ f < 10 ^ f := Nat.mod_lt _ (Nat.pow_pos (by decide))
  have hdm : n / 10 ^ f * 10 ^ f + n % 10 ^ f = n := by rw [Nat.mul_comm]; exact Nat.div_add_mod n (10 ^ f)
  refine ⟨digL (n / 10 ^ f) w, tailB (n % 10 ^ f) f, rfl, digL_isD _ _, Nat.le_trans hw (digL_ge (by omega)), digL_le hq hwm, ?_⟩
  rw [digL_val hq2]
  rcases tailB_text (n % 10 ^ f) f hr (by omega) with ⟨h1, h2⟩ | ⟨B, h1, h2, h3, h4, h5⟩
  · exact .inl ⟨h1, by omega⟩
  · exact .inr ⟨B, h1, h2, h3, h4, by omega⟩

theorem bodyL_neg (l : List UInt8) : negL (45 :: l) = true ∧ bodyL (45 :: l) = l := ⟨rfl, rfl⟩
theorem bodyL_pos {l : List UInt8} {a m f n : Nat} (h : NumText l a m f n) (ha : 1 ≤ a) : negL l = false ∧ bodyL l = l ∧ l ≠ [] := by
  obtain ⟨A, T, rfl, hA, h1, -⟩ := h
  cases A with
  | nil => simp at h1; omega
  | cons c A =>
    have hc := of_decide_eq_true (hA c (by simp))
    have : negL (c :: A ++ T) = false := by
      show (some c == some 45) = false
      have : c ≠ 45 := by rintro rfl; exact absurd hc (by decide)
      simpa using this
    refine ⟨this, ?_, by simp⟩
    unfold bodyL
    rw [this]
    rfl
theorem right_mf {W M F L H : Int} (h : rightB W M F L H = true) : ∃ w m f : Nat, W = (w : Int) ∧ M = (m : Int) ∧ F = (f : Int) ∧ 1 ≤ w ∧ w ≤ m ∧ m ≤ 12 ∧ f ≤ 6 ∧ -tenI (m + f) < L ∧ H < tenI (m + f) := by
  have h := of_decide_eq_true h
  refine ⟨W.toNat, M.toNat, F.toNat, by omega, by omega, by omega, by omega, by omega, by omega, by omega, ?_⟩
  rw [show M.toNat + F.toNat = (M + F).toNat from by omega]
  exact ⟨h.2.2.2.2.2.2.1, h.2.2.2.2.2.2.2⟩

theorem put_take {b : Bool} {n W M F L H : Int} (h : (putN b n W M F L H).2 = 0) : takeN (putN b n W M F L H).1.data.toList W M F L H = (b, n, 0) := by
  unfold putN at h ⊢
  by_cases hr : rightB W M F L H = false
  · rw [if_pos hr] at h; exact absurd h (by decide)
  rw [if_neg hr] at h ⊢
  by_cases hf : fitsB b n L H = false
  · rw [if_pos hf] at h; exact absurd h (by decide)
  rw [if_neg hf] at h ⊢
  cases b with
  | false =>
    rw [if_pos rfl]
    have : n = 0 := by
      unfold fitsB at hf
      simpa using hf
    subst this
    unfold takeN
    rw [if_neg hr]
    rfl
  | true =>
    rw [if_neg (by decide)]
    have hfit : fitsB true n L H = true := by simpa using hf
    have hb := fitsB_true hfit
    obtain ⟨w, m, f, rfl, rfl, rfl, h1, h2, h3, h4, h5, h6⟩ := right_mf (by simpa using hr)
    have hx : n.natAbs < 10 ^ (m + f) := by
      rw [tenI_cast] at h5 h6
      omega
    by_cases hn : n < 0
    · rw [if_pos hn]
      have ht := pointL_text n.natAbs w m f hx (by omega) h1 h2
      have hp := parseN_of ht
      show takeN (toB (45 :: pointL (-n).toNat w f)).data.toList w m f L H = _
      rw [toList_B, show (-n).toNat = n.natAbs from by omega]
      unfold takeN
      rw [if_neg hr, if_neg (by simp), (bodyL_neg _).1, (bodyL_neg _).2, Int.toNat_natCast, Int.toNat_natCast, hp]
      simp only [if_true]
      rw [show -((n.natAbs : Nat) : Int) = n from by omega, hfit]
      rfl
    · rw [if_neg hn]
      have ht := pointL_text n.natAbs w m f hx (by omega) h1 h2
      have hp := parseN_of ht
      obtain ⟨k1, k2, k3⟩ := bodyL_pos ht (Nat.le_refl _)
      show takeN (toB (pointL n.toNat w f)).data.toList w m f L H = _
      rw [toList_B, show n.toNat = n.natAbs from by omega]
      unfold takeN
      rw [if_neg hr, if_neg k3, k1, k2, Int.toNat_natCast, Int.toNat_natCast, hp]
      simp only [Bool.false_eq_true, if_false]
      rw [show ((n.natAbs : Nat) : Int) = n from by omega, hfit]
      rfl

end Go.Proofs.YteofmahbimkggaaDoor

/- Layer 23, plain: what is taken, put, is taken as that; angles. -/
namespace Go.Proofs.YteofmahbimkggaaDoor
set_option linter.unusedVariables false
open Go.RowKit

theorem foldl_val (l : List UInt8) : ∀ n, l.foldl (fun n c => 10 * n + (c.toNat - 48)) n = n * 10 ^ l.length + valD l := by
  induction l with
  | nil => intro n; simp [valD]
  | cons c l ih =>
    intro n
    have e1 : valD (c :: l) = (10 * 0 + (c.toNat - 48)) * 10 ^ l.length + valD l := ih (10 * 0 + (c.toNat - 48))
    rw [List.foldl_cons, ih, e1, List.length_cons, Nat.pow_succ, Nat.add_mul]
    rw [show n * (10 ^ l.length * 10) = 10 * n * 10 ^ l.length from by rw [← Nat.mul_assoc, Nat.mul_right_comm, Nat.mul_comm n 10]]
    simp only [Nat.mul_zero, Nat.zero_add]
    omega
theorem valD_append (a b : List UInt8) : valD (a ++ b) = valD a * 10 ^ b.length + valD b := by
  unfold valD
  rw [List.foldl_append]
  exact foldl_val b _

theorem pointL_short {l : List UInt8} {a m f n : Nat} (h : NumText l a m f n) (ha : 1 ≤ a) (hmf : m + f ≤ 18) : (pointL n 1 f).length ≤ l.length := by
  obtain ⟨A, T, rfl, hA, h1, h2, h3⟩ := h
  have hv := valD_lt A hA
  have hp : 0 < 10 ^ f := Nat.pow_pos (by decide)
  unfold pointL
  rw [List.length_append, List.length_append]
  rcases h3 with ⟨rfl, rfl⟩ | ⟨B, rfl, hB, h4, h5, rfl⟩
  · rw [Nat.mul_div_cancel _ hp, Nat.mul_mod_left]
    have := digL_le (l := 1) hv (by omega)
    show _ + ([] : List UInt8).length ≤ _
    simpa using this
  · have hvb := valD_lt B hB
    have hr : valD B * 10 ^ (f - B.length) < 10 ^ f := by
      have : valD B * 10 ^ (f - B.length) < 10 ^ B.length * 10 ^ (f - B.length) := Nat.mul_lt_mul_of_pos_right hvb (Nat.pow_pos (by decide))
      rwa [← Nat.pow_add, show B.length + (f - B.length) = f from by omega] at this
    have e1 : (valD A * 10 ^ f + valD B * 10 ^ (f - B.length)) / 10 ^ f = valD A := by
      rw [Nat.mul_comm, Nat.mul_add_div hp, Nat.div_eq_of_lt hr, Nat.add_zero]
    have e2 : (valD A * 10 ^ f + valD B * 10 ^ (f - B.length)) % 10 ^ f = valD B * 10 ^ (f - B.length) := by
      rw [Nat.mul_comm, Nat.mul_add_mod, Nat.mod_eq_of_lt hr]
    rw [e1, e2]
    have k1 := digL_le (l := 1) hv (by omega)
    have k2 := tailB_short (valD B) (f - B.length) f hr (by omega) (by omega)
    rw [List.length_cons]
    omega

theorem take_put {l : List UInt8} {b : Bool} {n W M F L H : Int} (h : takeN l W M F L H = (b, n, 0)) :
    ∃ t : ByteArray, putN b n W M F L H = (t, 0) ∧ (W = 1 → t.size ≤ l.length) := by
  unfold takeN at h
  by_cases hr : rightB W M F L H = false
  · rw [if_pos hr] at h; simp at h
  rw [if_neg hr] at h
  by_cases h0 : l = []
  · rw [if_pos h0] at h
    injection h with h1 h2
    injection h2 with h2 h3
    subst h1 h2
    refine ⟨ByteArray.empty, ?_, fun _ => by show 0 ≤ _; omega⟩
    unfold putN
    rw [if_neg hr, if_neg (by unfold fitsB; simp), if_pos rfl]
  rw [if_neg h0] at h
  obtain ⟨w, m, f, rfl, rfl, rfl, g1, g2, g3, g4, g5, g6⟩ := right_mf (by simpa using hr)
  rw [Int.toNat_natCast, Int.toNat_natCast] at h
  cases hq : parseN (bodyL l) 1 m f with
  | none => rw [hq] at h; simp at h
  | some k =>
    rw [hq] at h
    dsimp only at h
    by_cases hf : fitsB true (if negL l then -(k : Int) else (k : Int)) L H = true
    · rw [if_pos hf] at h
      injection h with h1 h2
      injection h2 with h2 h3
      subst h1
      rw [h2] at hf
      have ht := pointL_short (parseN_inv hq) (Nat.le_refl _) (by omega)
      have hab : n.natAbs = k := by split at h2 <;> omega
      unfold putN
      rw [if_neg hr, if_neg (by rw [hf]; decide), if_neg (by decide), Int.toNat_natCast, Int.toNat_natCast]
      by_cases hn : n < 0
      · rw [if_pos hn, show (-n).toNat = k from by omega]
        refine ⟨_, rfl, fun e => ?_⟩
        have hw : w = 1 := by omega
        subst hw
        have hneg : negL l = true := by
          cases hg : negL l with
          | true => rfl
          | false => rw [hg] at h2; simp at h2; omega
        unfold bodyL at ht
        rw [hneg, if_pos rfl, List.length_drop] at ht
        have : 0 < l.length := List.length_pos_iff.2 h0
        rw [size_B, List.length_cons]
        omega
      · rw [if_neg hn, show n.toNat = k from by omega]
        refine ⟨_, rfl, fun e => ?_⟩
        have hw : w = 1 := by omega
        subst hw
        rw [size_B]
        refine Nat.le_trans ht ?_
        unfold bodyL
        split
        · rw [List.length_drop]; omega
        · omega
    · rw [if_neg hf] at h; simp at h

theorem angL_text (x : Nat) (lat : Bool) (h : (x : Int) ≤ farI lat) : NumText (angL x lat) (wide2 lat) (wide2 lat) 5 (x / 6000000 * 10000000 + x % 6000000) := by
  have hx : x ≤ 1080000000 ∧ (lat = true → x ≤ 540000000) := by
    unfold farI at h
    cases lat
    · have : (x : Int) ≤ 1080000000 := by simpa using h
      exact ⟨by omega, fun k => by cases k⟩
    · have : (x : Int) ≤ 540000000 := by simpa using h
      exact ⟨by omega, fun _ => by omega⟩
  have e3 : (10 : Nat) ^ 3 = 1000 := by decide
  have e2 : (10 : Nat) ^ 2 = 100 := by decide
  have e5 : (10 : Nat) ^ 5 = 100000 := by decide
  have hd : x / 6000000 < 10 ^ wideN lat := by
    unfold wideN
    cases lat with
    | true => have := hx.2 rfl; simp; omega
    | false => simp; omega
  have hw : wideN lat ≤ 3 := by unfold wideN; split <;> omega
  have k1 := digL_eq hd (by omega)
  have k2 : (digL (x % 6000000 / 100000) 2).length = 2 := digL_eq (by omega) (by omega)
  have k3 := digL_val (n := x / 6000000) (l := wideN lat) (by omega)
  have k4 := digL_val (n := x % 6000000 / 100000) (l := 2) (by omega)
  have hA : wide2 lat = wideN lat + 2 := by unfold wide2 wideN; split <;> rfl
  have hv : valD (digL (x / 6000000) (wideN lat) ++ digL (x % 6000000 / 100000) 2) = x / 6000000 * 100 + x % 6000000 / 100000 := by rw [valD_append, k2, k3, k4, e2]
  refine ⟨digL (x / 6000000) (wideN lat) ++ digL (x % 6000000 / 100000) 2, tailB (x % 6000000 % 100000) 5, ?_, ?_, ?_, ?_, ?_⟩
  · unfold angL pointL
    rw [e5, List.append_assoc]
  · intro c hc
    rcases List.mem_append.1 hc with h | h
    · exact digL_isD _ _ c h
    · exact digL_isD _ _ c h
  · rw [List.length_append, k1, k2, hA]; exact Nat.le_refl _
  · rw [List.length_append, k1, k2, hA]; exact Nat.le_refl _
  · rw [hv, e5]
    rcases tailB_text (x % 6000000 % 100000) 5 (by omega) (by omega) with ⟨h1, h2⟩ | ⟨B, h1, h2, h3, h4, h5⟩
    · exact .inl ⟨h1, by omega⟩
    · exact .inr ⟨B, h1, h2, h3, h4, by rw [h5]; omega⟩
theorem angL_ne (x : Nat) (lat : Bool) (h : (x : Int) ≤ farI lat) : angL x lat ≠ [] :=
  (bodyL_pos (angL_text x lat h) (by unfold wide2; split <;> omega)).2.2

theorem ang_take {b : Bool} {n : Int} {lat : Bool} (h : (angN b n lat).2.2 = 0) : takeAng (angN b n lat).1.data.toList (angN b n lat).2.1 lat = (b, n, 0) := by
  unfold angN at h ⊢
  by_cases hf : fitsB b n (-farI lat) (farI lat) = false
  · rw [if_pos hf] at h; exact absurd h (by decide)
  rw [if_neg hf] at h ⊢
  cases b with
  | false =>
    rw [if_pos rfl]
    have : n = 0 := by unfold fitsB at hf; simpa using hf
    subst this
    unfold takeAng
    exact if_pos ⟨rfl, rfl⟩
  | true =>
    rw [if_neg (by decide)]
    have hb := fitsB_true (show fitsB true n (-farI lat) (farI lat) = true by simpa using hf)
    have hx : ((n.natAbs : Nat) : Int) ≤ farI lat := by omega
    have hp := parseN_of (angL_text n.natAbs lat hx)
    have hne := angL_ne n.natAbs lat hx
    have q1 : (n.natAbs / 6000000 * 10000000 + n.natAbs % 6000000) % 10000000 = n.natAbs % 6000000 := by omega
    have q2 : (n.natAbs / 6000000 * 10000000 + n.natAbs % 6000000) / 10000000 * 6000000 + (n.natAbs / 6000000 * 10000000 + n.natAbs % 6000000) % 10000000 = n.natAbs := by omega
    by_cases hn : n < 0
    · rw [if_pos hn]
      show takeAng (toB (angL (-n).toNat lat)).data.toList (sideB lat true) lat = _
      rw [toList_B, show (-n).toNat = n.natAbs from by omega]
      unfold takeAng
      rw [if_neg (fun k => hne k.1), hp]
      dsimp only
      rw [if_neg (fun k => k.2 rfl), q2, q1, if_neg (by omega), if_pos rfl, show -((n.natAbs : Nat) : Int) = n from by omega]
    · rw [if_neg hn]
      show takeAng (toB (angL n.toNat lat)).data.toList (sideB lat false) lat = _
      rw [toList_B, show n.toNat = n.natAbs from by omega]
      unfold takeAng
      rw [if_neg (fun k => hne k.1), hp]
      dsimp only
      rw [if_neg (fun k => k.1 rfl), q2, q1, if_neg (by omega), if_neg (sideB_ne lat), show ((n.natAbs : Nat) : Int) = n from by omega]

theorem sideB_size (lat neg : Bool) : (sideB lat neg).size = 1 := by cases lat <;> cases neg <;> rfl

theorem angL_short {l : List UInt8} {x N : Nat} {lat : Bool} (h : NumText l (wide2 lat) (wide2 lat) 5 N) (hm : N % 10000000 < 6000000) (hx : x = N / 10000000 * 6000000 + N % 10000000) (hf : (x : Int) ≤ farI lat) : (angL x lat).length ≤ l.length := by
  obtain ⟨A, T, rfl, hA, h1, h2, h3⟩ := h
  obtain ⟨A', T', e, hA', h1', h2', h3'⟩ := angL_text x lat hf
  have hN : x / 6000000 * 10000000 + x % 6000000 = N := by omega
  rw [hN] at h3'
  rw [e, List.length_append, List.length_append]
  have e5 : (10 : Nat) ^ 5 = 100000 := by decide
  have hT' : T' = tailB (N % 100000) 5 := by
    have k := angL_text x lat hf
    have : angL x lat = (digL (x / 6000000) (wideN lat) ++ digL (x % 6000000 / 100000) 2) ++ tailB (x % 6000000 % 100000) 5 := by
      unfold angL pointL
      rw [e5, List.append_assoc]
    rw [this] at e
    have hw : wideN lat ≤ 3 := by unfold wideN; split <;> omega
    have hxx : x ≤ 1080000000 := by unfold farI at hf; split at hf <;> omega
    have hd : x / 6000000 < 10 ^ wideN lat := by
      unfold farI at hf
      unfold wideN
      cases lat with
      | true => simp at hf ⊢; omega
      | false => simp at hf ⊢; omega
    have l1 : (digL (x / 6000000) (wideN lat) ++ digL (x % 6000000 / 100000) 2).length = A'.length := by
      rw [List.length_append, digL_eq hd (by omega), digL_eq (n := x % 6000000 / 100000) (l := 2) (by have : (10 : Nat) ^ 2 = 100 := by decide
                                                                                                      omega) (by omega)]
      have : wide2 lat = wideN lat + 2 := by unfold wide2 wideN; split <;> rfl
      omega
    have := (List.append_inj e l1).2
    rw [← this, show x % 6000000 % 100000 = N % 100000 from by omega]
  rw [hT']
  rcases h3 with ⟨rfl, h⟩ | ⟨B, rfl, hB, h4, h5, h⟩
  · have : N % 100000 = 0 := by rw [h, e5]; exact Nat.mul_mod_left _ _
    rw [this]
    show _ + ([] : List UInt8).length ≤ _ + ([] : List UInt8).length
    omega
  · have hvb := valD_lt B hB
    have hr : valD B * 10 ^ (5 - B.length) < 10 ^ 5 := by
      have : valD B * 10 ^ (5 - B.length) < 10 ^ B.length * 10 ^ (5 - B.length) := Nat.mul_lt_mul_of_pos_right hvb (Nat.pow_pos (by decide))
      rwa [← Nat.pow_add, show B.length + (5 - B.length) = 5 from by omega] at this
    have : N % 100000 = valD B * 10 ^ (5 - B.length) := by
      rw [← e5, h, Nat.mul_comm (valD A), Nat.mul_add_mod, Nat.mod_eq_of_lt hr]
    rw [this]
    have k2 := tailB_short (valD B) (5 - B.length) 5 hr (by omega) (by omega)
    rw [List.length_cons]
    omega

theorem takeAng_put {l : List UInt8} {d : ByteArray} {lat b : Bool} {n : Int} (h : takeAng l d lat = (b, n, 0)) :
    ∃ t p : ByteArray, angN b n lat = (t, p, 0) ∧ t.size ≤ l.length ∧ p.size ≤ d.size := by
  unfold takeAng at h
  by_cases h0 : l = [] ∧ d.data.toList = []
  · rw [if_pos h0] at h
    injection h with h1 h2
    injection h2 with h2 h3
    subst h1 h2
    refine ⟨ByteArray.empty, ByteArray.empty, ?_, Nat.zero_le _, Nat.zero_le _⟩
    unfold angN
    rw [if_neg (by unfold fitsB; simp), if_pos rfl]
  rw [if_neg h0] at h
  cases hq : parseN l (wide2 lat) (wide2 lat) 5 with
  | none => rw [hq] at h; simp at h
  | some N =>
    rw [hq] at h
    dsimp only at h
    by_cases hd : d ≠ sideB lat false ∧ d ≠ sideB lat true
    · rw [if_pos hd] at h; simp at h
    rw [if_neg hd] at h
    by_cases hg : 6000000 ≤ N % 10000000 ∨ farI lat < ((N / 10000000 * 6000000 + N % 10000000 : Nat) : Int)
    · rw [if_pos hg] at h; simp at h
    rw [if_neg hg] at h
    injection h with h1 h2
    injection h2 with h2 h3
    subst h1
    obtain ⟨x, hx⟩ : ∃ x, x = N / 10000000 * 6000000 + N % 10000000 := ⟨_, rfl⟩
    rw [← hx] at hg h2
    have hfar : (x : Int) ≤ farI lat := by omega
    have hs := angL_short (parseN_inv hq) (by omega) hx hfar
    have hab : n.natAbs = x := by split at h2 <;> omega
    have hd1 : d.size = 1 := by
      by_cases k : d = sideB lat false
      · rw [k]; exact sideB_size _ _
      · have : d = sideB lat true := Classical.not_not.1 fun k' => hd ⟨k, k'⟩
        rw [this]; exact sideB_size _ _
    have hfit : fitsB true n (-farI lat) (farI lat) = true := by
      unfold fitsB
      rw [if_pos rfl]
      exact decide_eq_true (by omega)
    unfold angN
    rw [if_neg (by rw [hfit]; decide), if_neg (by decide)]
    by_cases hn : n < 0
    · rw [if_pos hn, show (-n).toNat = x from by omega]
      exact ⟨_, _, rfl, by rw [size_B]; exact hs, by rw [sideB_size, hd1]; exact Nat.le_refl _⟩
    · rw [if_neg hn, show n.toNat = x from by omega]
      exact ⟨_, _, rfl, by rw [size_B]; exact hs, by rw [sideB_size, hd1]; exact Nat.le_refl _⟩
theorem takeAng_no {l : List UInt8} {d : ByteArray} {lat : Bool} (h : (takeAng l d lat).2.2 ≠ 0) : (takeAng l d lat).1 = false ∧ (takeAng l d lat).2.1 = 0 := by
  unfold takeAng at h ⊢
  by_cases h0 : l = [] ∧ d.data.toList = []
  · rw [if_pos h0]; exact ⟨rfl, rfl⟩
  rw [if_neg h0] at h ⊢
  cases hq : parseN l (wide2 lat) (wide2 lat) 5 with
  | none => exact ⟨rfl, rfl⟩
  | some N =>
    rw [hq] at h
    dsimp only at h ⊢
    by_cases hd : d ≠ sideB lat false ∧ d ≠ sideB lat true
    · rw [if_pos hd]; exact ⟨rfl, rfl⟩
    rw [if_neg hd] at h ⊢
    by_cases hg : 6000000 ≤ N % 10000000 ∨ farI lat < ((N / 10000000 * 6000000 + N % 10000000 : Nat) : Int)
    · rw [if_pos hg]; exact ⟨rfl, rfl⟩
    rw [if_neg hg] at h
    exact absurd rfl h
theorem takeN_no {l : List UInt8} {W M F L H : Int} (h : (takeN l W M F L H).2.2 ≠ 0) : (takeN l W M F L H).1 = false ∧ (takeN l W M F L H).2.1 = 0 := by
  unfold takeN at h ⊢
  by_cases hr : rightB W M F L H = false
  · rw [if_pos hr]; exact ⟨rfl, rfl⟩
  rw [if_neg hr] at h ⊢
  by_cases h0 : l = []
  · rw [if_pos h0]; exact ⟨rfl, rfl⟩
  rw [if_neg h0] at h ⊢
  cases hq : parseN (bodyL l) 1 M.toNat F.toNat with
  | none => exact ⟨rfl, rfl⟩
  | some k =>
    rw [hq] at h
    dsimp only at h ⊢
    by_cases hf : fitsB true (if negL l then -(k : Int) else (k : Int)) L H = true
    · rw [if_pos hf] at h; exact absurd rfl h
    · rw [if_neg hf]; exact ⟨rfl, rfl⟩

end Go.Proofs.YteofmahbimkggaaDoor
