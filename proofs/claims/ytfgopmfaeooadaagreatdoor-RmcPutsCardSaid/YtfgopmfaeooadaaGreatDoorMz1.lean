/- Times and dates in sentences, plain (layer 24). -/
import Derived.Test.YtfgopmfaeooadaaGreatDoorMa
namespace Go.Proofs.YtfgopmfaeooadaaGreatDoor
set_option linter.unusedVariables false

def digB (c : UInt8) : Bool := decide (48 ≤ c.toNat) && decide (c.toNat ≤ 57)
/-- Two digits of a number, and the number of two digits. -/
def twoL (n : Int) : List UInt8 := [UInt8.ofNat (48 + n / 10).toNat, UInt8.ofNat (48 + n % 10).toNat]
def numP (a b : UInt8) : Int := 10 * ((a.toNat : Int) - 48) + ((b.toNat : Int) - 48)
/-- The numbers of six digits; what stands behind a point. -/
def threeL : List UInt8 → Option (Int × Int × Int)
  | [a, b, c, d, e, f] => if digB a && digB b && digB c && digB d && digB e && digB f then some (numP a b, numP c d, numP e f) else none
  | _ => none
def behindL : List UInt8 → Option Int
  | [] => some 0
  | [p, a] => if p = 46 ∧ digB a = true then some (10 * ((a.toNat : Int) - 48)) else none
  | [p, a, b] => if p = 46 ∧ digB a = true ∧ digB b = true then some (numP a b) else none
  | _ => none

abbrev Clk := Bool × Int × Int × Int × Int
abbrev Dat := Bool × Int × Int × Int
def zC : Clk := (false, 0, 0, 0, 0)
def zD : Dat := (false, 0, 0, 0)
def clkB (c : Clk) : Bool := if c.1 = true then decide (0 ≤ c.2.1 ∧ c.2.1 ≤ 23 ∧ 0 ≤ c.2.2.1 ∧ c.2.2.1 ≤ 59 ∧ 0 ≤ c.2.2.2.1 ∧ c.2.2.2.1 ≤ 59 ∧ 0 ≤ c.2.2.2.2 ∧ c.2.2.2.2 ≤ 99) else decide (c.2.1 = 0 ∧ c.2.2.1 = 0 ∧ c.2.2.2.1 = 0 ∧ c.2.2.2.2 = 0)
def clkTail (n : Int) : List UInt8 := if n = 0 then [] else if n % 10 = 0 then [46, UInt8.ofNat (48 + n / 10).toNat] else 46 :: twoL n
/-- A time's text, a text's time. -/
def clkT (c : Clk) : ByteArray × Int :=
  if clkB c = false then (ByteArray.empty, 5) else if c.1 = false then (ByteArray.empty, 0) else (toB (twoL c.2.1 ++ twoL c.2.2.1 ++ twoL c.2.2.2.1 ++ clkTail c.2.2.2.2), 0)
def takeClk (l : List UInt8) : Clk × Int :=
  if l = [] then (zC, 0) else match threeL (l.take 6), behindL (l.drop 6) with
  | some (h, m, s), some c => if clkB (true, h, m, s, c) = true then ((true, h, m, s, c), 0) else (zC, 5)
  | _, _ => (zC, 3)

def leapI (y : Int) : Int := if y % 4 = 0 then 1 else 0
def daysI (m y : Int) : Int := if m < 1 ∨ 12 < m ∨ y < 2000 ∨ 2099 < y then 0 else if m = 2 then 28 + leapI y else if m = 4 ∨ m = 6 ∨ m = 9 ∨ m = 11 then 30 else 31
def tableI (m : Int) : Int := if m = 1 then 0 else if m = 2 then 31 else if m = 3 then 59 else if m = 4 then 90 else if m = 5 then 120 else if m = 6 then 151 else if m = 7 then 181 else if m = 8 then 212 else if m = 9 then 243 else if m = 10 then 273 else if m = 11 then 304 else if m = 12 then 334 else 365
def aheadI (m y : Int) : Int := tableI m + if 2 < m then leapI y else 0
def datB (d : Dat) : Bool := if d.1 = true then decide (1 ≤ d.2.1 ∧ d.2.1 ≤ daysI d.2.2.1 d.2.2.2) else decide (d.2.1 = 0 ∧ d.2.2.1 = 0 ∧ d.2.2.2 = 0)
/-- A date's text, a text's date. -/
def datT (d : Dat) : ByteArray × Int :=
  if datB d = false then (ByteArray.empty, 5) else if d.1 = false then (ByteArray.empty, 0) else (toB (twoL d.2.1 ++ twoL d.2.2.1 ++ twoL (d.2.2.2 - 2000)), 0)
def takeDat (l : List UInt8) : Dat × Int :=
  if l = [] then (zD, 0) else match threeL l with
  | some (a, b, c) => if datB (true, a, b, 2000 + c) = true then ((true, a, b, 2000 + c), 0) else (zD, 5)
  | none => (zD, 3)
/-- When it was. -/
def yearsI (n : Int) : Int := 365 * n + (n + 3) / 4
def cntI (d : Dat) (c : Clk) : Int × Bool :=
  if d.1 = true ∧ c.1 = true ∧ datB d = true ∧ clkB c = true then ((yearsI (d.2.2.2 - 2000) + aheadI d.2.2.1 d.2.2.2 + d.2.1 - 1) * 8640000 + c.2.1 * 360000 + c.2.2.1 * 6000 + c.2.2.2.1 * 100 + c.2.2.2.2, true) else (0, false)

theorem ahead_succ {m y : Int} (h1 : 1 ≤ m) (h2 : m ≤ 12) (h3 : 2000 ≤ y) (h4 : y ≤ 2099) : aheadI (m + 1) y = aheadI m y + daysI m y := by
  unfold aheadI daysI tableI
  rw [if_neg (by omega)]
  rcases (by omega : m = 1 ∨ m = 2 ∨ m = 3 ∨ m = 4 ∨ m = 5 ∨ m = 6 ∨ m = 7 ∨ m = 8 ∨ m = 9 ∨ m = 10 ∨ m = 11 ∨ m = 12) with rfl | rfl | rfl | rfl | rfl | rfl | rfl | rfl | rfl | rfl | rfl | rfl <;> simp <;> omega
theorem years_succ {y : Int} (h : 0 ≤ y) : yearsI (y + 1) = yearsI y + aheadI 13 y := by
  unfold yearsI aheadI tableI leapI
  simp
  split <;> omega
theorem leap_01 (y : Int) : leapI y = 0 ∨ leapI y = 1 := by unfold leapI; split <;> simp
theorem days_le (m y : Int) : 0 ≤ daysI m y ∧ daysI m y ≤ 31 := by
  have := leap_01 y
  unfold daysI
  split
  · omega
  · split
    · omega
    · split <;> omega
theorem days_pos {m y : Int} (h : 1 ≤ daysI m y) : 1 ≤ m ∧ m ≤ 12 ∧ 2000 ≤ y ∧ y ≤ 2099 := by
  unfold daysI at h
  by_cases q : m < 1 ∨ 12 < m ∨ y < 2000 ∨ 2099 < y
  · rw [if_pos q] at h; omega
  · omega

theorem u8_of {n : Int} (h0 : 0 ≤ n) (h1 : n ≤ 9) : (UInt8.ofNat (48 + n).toNat).toNat = 48 + n.toNat := by
  simp
  omega
theorem two_back {n : Int} (h0 : 0 ≤ n) (h1 : n ≤ 99) : digB (UInt8.ofNat (48 + n / 10).toNat) = true ∧ digB (UInt8.ofNat (48 + n % 10).toNat) = true ∧ numP (UInt8.ofNat (48 + n / 10).toNat) (UInt8.ofNat (48 + n % 10).toNat) = n := by
  have e1 := u8_of (n := n / 10) (by omega) (by omega)
  have e2 := u8_of (n := n % 10) (by omega) (by omega)
  unfold digB numP
  rw [e1, e2]
  refine ⟨by simp; omega, by simp; omega, by omega⟩
theorem numP_le {a b : UInt8} (ha : digB a = true) (hb : digB b = true) : 0 ≤ numP a b ∧ numP a b ≤ 99 := by
  unfold digB at ha hb
  simp only [Bool.and_eq_true, decide_eq_true_eq] at ha hb
  unfold numP
  omega
theorem threeL_two {a b c : Int} (a0 : 0 ≤ a) (a1 : a ≤ 99) (b0 : 0 ≤ b) (b1 : b ≤ 99) (c0 : 0 ≤ c) (c1 : c ≤ 99) : threeL (twoL a ++ twoL b ++ twoL c) = some (a, b, c) := by
  obtain ⟨x1, x2, x3⟩ := two_back a0 a1
  obtain ⟨y1, y2, y3⟩ := two_back b0 b1
  obtain ⟨z1, z2, z3⟩ := two_back c0 c1
  show (if _ then _ else _) = _
  rw [x1, x2, y1, y2, z1, z2, x3, y3, z3]
  rfl
theorem behindL_tail {n : Int} (h0 : 0 ≤ n) (h1 : n ≤ 99) : behindL (clkTail n) = some n := by
  unfold clkTail
  split
  · next q => rw [q]; rfl
  · split
    · next q =>
      obtain ⟨x1, -, -⟩ := two_back h0 h1
      have e1 := u8_of (n := n / 10) (by omega) (by omega)
      show (if _ then _ else _) = _
      rw [if_pos ⟨rfl, x1⟩, e1]
      congr 1
      omega
    · obtain ⟨x1, x2, x3⟩ := two_back h0 h1
      show (if _ then _ else _) = _
      rw [if_pos ⟨rfl, x1, x2⟩, x3]
theorem clkB_true {h m s c : Int} (q : clkB (true, h, m, s, c) = true) : 0 ≤ h ∧ h ≤ 23 ∧ 0 ≤ m ∧ m ≤ 59 ∧ 0 ≤ s ∧ s ≤ 59 ∧ 0 ≤ c ∧ c ≤ 99 := of_decide_eq_true q
theorem clkB_false {h m s c : Int} (q : clkB (false, h, m, s, c) = true) : h = 0 ∧ m = 0 ∧ s = 0 ∧ c = 0 := of_decide_eq_true q
theorem clk_put_take {c : Clk} (h : (clkT c).2 = 0) : takeClk (clkT c).1.data.toList = (c, 0) := by
  obtain ⟨b, h', m, s, e⟩ := c
  unfold clkT at h ⊢
  by_cases hb : clkB (b, h', m, s, e) = false
  · rw [if_pos hb] at h; exact absurd h (by decide)
  rw [if_neg hb] at h ⊢
  have hb : clkB (b, h', m, s, e) = true := by simpa using hb
  cases b with
  | false =>
    obtain ⟨rfl, rfl, rfl, rfl⟩ := clkB_false hb
    rfl
  | true =>
    obtain ⟨x1, x2, x3, x4, x5, x6, x7, x8⟩ := clkB_true hb
    have e1 := threeL_two x1 (show h' ≤ 99 by omega) x3 (show m ≤ 99 by omega) x5 (show s ≤ 99 by omega)
    have e2 := behindL_tail x7 x8
    show takeClk (twoL h' ++ twoL m ++ twoL s ++ clkTail e) = _
    unfold takeClk
    rw [if_neg (by simp [twoL])]
    have t1 : (twoL h' ++ twoL m ++ twoL s ++ clkTail e).take 6 = twoL h' ++ twoL m ++ twoL s := List.take_left' (by rfl)
    have t2 : (twoL h' ++ twoL m ++ twoL s ++ clkTail e).drop 6 = clkTail e := List.drop_left' (by rfl)
    rw [t1, t2, e1, e2]
    simp only
    rw [if_pos hb]
theorem behindL_le {l : List UInt8} {n : Int} (h : behindL l = some n) : 0 ≤ n ∧ n ≤ 99 ∧ (clkTail n).length ≤ l.length := by
  unfold behindL at h
  split at h
  · injection h with h; subst h; simp [clkTail]
  · next p a =>
    split at h
    · next q =>
      injection h with h
      have q2 := q.2
      unfold digB at q2
      simp only [Bool.and_eq_true, decide_eq_true_eq] at q2
      refine ⟨by omega, by omega, ?_⟩
      unfold clkTail
      split
      · simp
      · rw [if_pos (by omega)]; simp
    · cases h
  · next p a b =>
    split at h
    · next q =>
      injection h with h
      have := numP_le q.2.1 q.2.2
      refine ⟨by omega, by omega, ?_⟩
      unfold clkTail twoL
      split
      · simp
      · split <;> simp
    · cases h
  · cases h
theorem threeL_le {l : List UInt8} {a b c : Int} (h : threeL l = some (a, b, c)) : l.length = 6 ∧ 0 ≤ a ∧ a ≤ 99 ∧ 0 ≤ b ∧ b ≤ 99 ∧ 0 ≤ c ∧ c ≤ 99 := by
  unfold threeL at h
  split at h
  · split at h
    · next q =>
      simp only [Bool.and_eq_true] at q
      obtain ⟨⟨⟨⟨⟨q1, q2⟩, q3⟩, q4⟩, q5⟩, q6⟩ := q
      have h1 := numP_le q1 q2
      have h2 := numP_le q3 q4
      have h3 := numP_le q5 q6
      injection h with h
      injection h with e1 h
      injection h with e2 e3
      subst e1 e2 e3
      exact ⟨rfl, h1.1, h1.2, h2.1, h2.2, h3.1, h3.2⟩
    · cases h
  · cases h
theorem clk_take_put {l : List UInt8} (h : (takeClk l).2 = 0) : (clkT (takeClk l).1).2 = 0 ∧ (clkT (takeClk l).1).1.size ≤ l.length := by
  unfold takeClk at h ⊢
  by_cases hl : l = []
  · subst hl; exact ⟨rfl, by decide⟩
  rw [if_neg hl] at h ⊢
  cases h1 : threeL (l.take 6) with
  | none => rw [h1] at h; exact absurd h (by simp)
  | some x =>
    obtain ⟨a, b, c⟩ := x
    rw [h1] at h
    cases h2 : behindL (l.drop 6) with
    | none => rw [h2] at h; exact absurd h (by simp)
    | some n =>
      rw [h2] at h
      simp only at h ⊢
      by_cases hb : clkB (true, a, b, c, n) = true
      · rw [if_pos hb]
        have l1 := (threeL_le h1).1
        have l2 := (behindL_le h2).2.2
        unfold clkT
        rw [if_neg (by rw [hb]; decide), if_neg (by simp)]
        refine ⟨rfl, ?_⟩
        show (twoL a ++ twoL b ++ twoL c ++ clkTail n).toArray.size ≤ _
        rw [List.length_take] at l1
        rw [List.length_drop] at l2
        simp [twoL]
        omega
      · rw [if_neg hb] at h
        exact absurd h (by decide)
theorem dat_put_take {d : Dat} (h : (datT d).2 = 0) : takeDat (datT d).1.data.toList = (d, 0) := by
  obtain ⟨b, x, m, y⟩ := d
  unfold datT at h ⊢
  by_cases hb : datB (b, x, m, y) = false
  · rw [if_pos hb] at h; exact absurd h (by decide)
  rw [if_neg hb] at h ⊢
  have hb : datB (b, x, m, y) = true := by simpa using hb
  cases b with
  | false =>
    obtain ⟨rfl, rfl, rfl⟩ : x = 0 ∧ m = 0 ∧ y = 0 := of_decide_eq_true hb
    rfl
  | true =>
    obtain ⟨x1, x2⟩ : 1 ≤ x ∧ x ≤ daysI m y := of_decide_eq_true hb
    have d1 := days_le m y
    have d2 := days_pos (show 1 ≤ daysI m y by omega)
    have e1 := threeL_two (show 0 ≤ x by omega) (show x ≤ 99 by omega) (show 0 ≤ m by omega) (show m ≤ 99 by omega) (show 0 ≤ y - 2000 by omega) (show y - 2000 ≤ 99 by omega)
    show takeDat (twoL x ++ twoL m ++ twoL (y - 2000)) = _
    unfold takeDat
    rw [if_neg (by simp [twoL]), e1]
    simp only
    rw [show 2000 + (y - 2000) = y by omega, if_pos hb]
theorem dat_take_put {l : List UInt8} (h : (takeDat l).2 = 0) : (datT (takeDat l).1).2 = 0 ∧ (datT (takeDat l).1).1.size ≤ l.length := by
  unfold takeDat at h ⊢
  by_cases hl : l = []
  · subst hl; exact ⟨rfl, by decide⟩
  rw [if_neg hl] at h ⊢
  cases h1 : threeL l with
  | none => rw [h1] at h; exact absurd h (by decide)
  | some x =>
    obtain ⟨a, b, c⟩ := x
    rw [h1] at h
    simp only at h ⊢
    by_cases hb : datB (true, a, b, 2000 + c) = true
    · rw [if_pos hb]
      have l1 := (threeL_le h1).1
      unfold datT
      rw [if_neg (by rw [hb]; decide), if_neg (by simp)]
      refine ⟨rfl, ?_⟩
      show (twoL a ++ twoL b ++ twoL (2000 + c - 2000)).toArray.size ≤ _
      simp [twoL]
      omega
    · rw [if_neg hb] at h
      exact absurd h (by decide)
theorem takeClk_no {l : List UInt8} (h : (takeClk l).2 ≠ 0) : (takeClk l).1 = zC := by
  unfold takeClk at h ⊢
  split at h
  · exact absurd rfl h
  · next q =>
    rw [if_neg q]
    split
    · next x1 x2 =>
      rw [x1, x2] at h
      simp only at h
      split at h
      · exact absurd rfl h
      · next q2 => rw [if_neg q2]
    · rfl
theorem takeDat_no {l : List UInt8} (h : (takeDat l).2 ≠ 0) : (takeDat l).1 = zD := by
  unfold takeDat at h ⊢
  split at h
  · exact absurd rfl h
  · next q =>
    rw [if_neg q]
    split
    · next x1 =>
      rw [x1] at h
      simp only at h
      split at h
      · exact absurd rfl h
      · next q2 => rw [if_neg q2]
    · rfl
end Go.Proofs.YtfgopmfaeooadaaGreatDoor
