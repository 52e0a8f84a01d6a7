/- Layer 23: TakeAngle, of the program and of the reference, over one plain law. -/
import Derived.Test.YtpaejoikfnmdhaaDoorDec24
namespace Go.Proofs.YtpaejoikfnmdhaaDoor
set_option linter.unusedVariables false
open Go.RowKit

theorem beq_textD (f g : ByteArray) : (f.toList == g.toList) = decide (f = g) := by
  rw [ByteArray.toList_eq, ByteArray.toList_eq]
  by_cases h : f = g
  · subst h; simp
  · rw [decide_eq_false h, beq_eq_false_iff_ne]
    intro k
    exact h (ByteArray.ext (by simpa using k))

/-- The angle of two texts. -/
def takeAng (l : List UInt8) (d : ByteArray) (lat : Bool) : Bool × Int × Int :=
  if l = [] ∧ d.data.toList = [] then (false, 0, 0)
  else match parseN l (wide2 lat) (wide2 lat) 5 with
  | none => (false, 0, 3)
  | some n => if d ≠ sideB lat false ∧ d ≠ sideB lat true then (false, 0, 3)
    else if 6000000 ≤ n % 10000000 ∨ farI lat < ((n / 10000000 * 6000000 + n % 10000000 : Nat) : Int) then (false, 0, 5)
    else (true, (if d = sideB lat true then -((n / 10000000 * 6000000 + n % 10000000 : Nat) : Int) else ((n / 10000000 * 6000000 + n % 10000000 : Nat) : Int)), 0)

theorem sideB_ne (lat : Bool) : sideB lat false ≠ sideB lat true := by cases lat <;> decide
theorem parseN_nil (k m f : Nat) (hk : 1 ≤ k) : parseN [] k m f = none := by
  unfold parseN
  rw [if_pos (.inl (by show 0 < k; omega))]

theorem TakeAngle23_any (s d : ByteArray) (lat : Bool) (w : World) (hs : s.size ≤ 1000000) :
    Calls Tryd.prog 17 #[.string s, .string d, .bool lat] w fun e w' => e = .returned (.tuple #[numV (takeAng s.data.toList d lat).1 (takeAng s.data.toList d lat).2.1, .int .i64 (takeAng s.data.toList d lat).2.2]) ∧ Below w.heap.size w w' := by
  unfold takeAng
  have hw : 1 ≤ wide2 lat ∧ wide2 lat ≤ 5 := by unfold wide2; split <;> omega
  by_cases h0 : s.data.toList = [] ∧ d.data.toList = []
  · rw [if_pos h0]
    exact TakeAngle_empty s d lat w (size_nil h0.1) (size_nil h0.2)
  rw [if_neg h0]
  have HP := fun W' => Lib.hid (parse_any s (wide2 lat) (wide2 lat) 5 W' hs (by omega) (by omega))
  by_cases hn : s.data.toList = []
  · have hd : d.data.toList ≠ [] := fun k => h0 ⟨hn, k⟩
    rw [hn, parseN_nil _ _ _ hw.1] at HP
    rw [hn, parseN_nil _ _ _ hw.1]
    exact TakeAngle_forme s d lat 0 w (size_nil hn) (size_pos hd) HP
  have hp := size_pos hn
  cases hq : parseN s.data.toList (wide2 lat) (wide2 lat) 5 with
  | none =>
    simp only [hq] at HP
    exact TakeAngle_form s d lat 0 w hp HP
  | some n =>
    simp only [hq] at HP
    have hle := parseN_le hq (by omega)
    have k1 := beq_textD d ((sidesB lat).extract 0 1)
    have k2 := beq_textD d ((sidesB lat).extract 1 2)
    rw [sideB_false] at k1
    rw [sideB_true] at k2
    rw [← sideB_false] at k1
    rw [← sideB_true] at k2
    have hx : ((n / 10000000 * 6000000 + n % 10000000 : Nat) : Int) = (n : Int) / 10000000 * 6000000 + (n : Int) % 10000000 := by omega
    have hm : ((n % 10000000 : Nat) : Int) = (n : Int) % 10000000 := by omega
    dsimp only
    by_cases hN : d = sideB lat false
    · have hS : d ≠ sideB lat true := fun k => sideB_ne lat (hN.symm.trans k)
      rw [if_neg (fun k => k.1 hN)]
      rw [decide_eq_true (by rw [sideB_false]; exact hN)] at k1
      rw [decide_eq_false (by rw [sideB_true]; exact hS)] at k2
      by_cases g : 6000000 ≤ n % 10000000
      · rw [if_pos (.inl g)]
        exact TakeAngle_m_N s d lat n w hp HP k1 k2 (by omega) (by omega) (by omega)
      by_cases g2 : farI lat < ((n / 10000000 * 6000000 + n % 10000000 : Nat) : Int)
      · rw [if_pos (.inr g2)]
        exact TakeAngle_x_N s d lat n w hp HP k1 k2 (by omega) (by omega) (by omega) (by omega)
      rw [if_neg (by omega), if_neg hS, hx]
      exact TakeAngle_ok_N s d lat n w hp HP k1 k2 (by omega) (by omega) (by omega) (by omega)
    rw [decide_eq_false (by rw [sideB_false]; exact hN)] at k1
    by_cases hS : d = sideB lat true
    · rw [if_neg (fun k => k.2 hS)]
      rw [decide_eq_true (by rw [sideB_true]; exact hS)] at k2
      by_cases g : 6000000 ≤ n % 10000000
      · rw [if_pos (.inl g)]
        exact TakeAngle_m_S s d lat n w hp HP k1 k2 (by omega) (by omega) (by omega)
      by_cases g2 : farI lat < ((n / 10000000 * 6000000 + n % 10000000 : Nat) : Int)
      · rw [if_pos (.inr g2)]
        exact TakeAngle_x_S s d lat n w hp HP k1 k2 (by omega) (by omega) (by omega) (by omega)
      rw [if_neg (by omega), if_pos hS, hx]
      exact TakeAngle_ok_S s d lat n w hp HP k1 k2 (by omega) (by omega) (by omega) (by omega)
    · rw [if_pos ⟨hN, hS⟩]
      rw [decide_eq_false (by rw [sideB_true]; exact hS)] at k2
      exact TakeAngle_side s d lat n w hp HP k1 k2 (by omega) (by omega)

theorem r23TakeAngle_any (s d : ByteArray) (lat : Bool) (w : World) (hs : s.size ≤ 1000000) :
    Calls Tryd.prog 19 #[.string s, .string d, .bool lat] w fun e w' => e = .returned (.tuple #[numV (takeAng s.data.toList d lat).1 (takeAng s.data.toList d lat).2.1, .int .i64 (takeAng s.data.toList d lat).2.2]) ∧ Below w.heap.size w w' := by
  unfold takeAng
  have hw : 1 ≤ wide2 lat ∧ wide2 lat ≤ 5 := by unfold wide2; split <;> omega
  by_cases h0 : s.data.toList = [] ∧ d.data.toList = []
  · rw [if_pos h0]
    exact r23TakeAngle_empty s d lat w (size_nil h0.1) (size_nil h0.2)
  rw [if_neg h0]
  have HP := fun W' => Lib.hid (r23parse_any s (wide2 lat) (wide2 lat) 5 W' hs (by omega))
  by_cases hn : s.data.toList = []
  · have hd : d.data.toList ≠ [] := fun k => h0 ⟨hn, k⟩
    rw [hn, parseN_nil _ _ _ hw.1] at HP
    rw [hn, parseN_nil _ _ _ hw.1]
    exact r23TakeAngle_forme s d lat 0 w (size_nil hn) (size_pos hd) HP
  have hp := size_pos hn
  cases hq : parseN s.data.toList (wide2 lat) (wide2 lat) 5 with
  | none =>
    simp only [hq] at HP
    exact r23TakeAngle_form s d lat 0 w hp HP
  | some n =>
    simp only [hq] at HP
    have hle := parseN_le hq (by omega)
    have k1 := beq_textD d ((sidesB lat).extract 0 1)
    have k2 := beq_textD d ((sidesB lat).extract 1 2)
    rw [sideB_false] at k1
    rw [sideB_true] at k2
    rw [← sideB_false] at k1
    rw [← sideB_true] at k2
    have hx : ((n / 10000000 * 6000000 + n % 10000000 : Nat) : Int) = (n : Int) / 10000000 * 6000000 + (n : Int) % 10000000 := by omega
    have hm : ((n % 10000000 : Nat) : Int) = (n : Int) % 10000000 := by omega
    dsimp only
    by_cases hN : d = sideB lat false
    · have hS : d ≠ sideB lat true := fun k => sideB_ne lat (hN.symm.trans k)
      rw [if_neg (fun k => k.1 hN)]
      rw [decide_eq_true (by rw [sideB_false]; exact hN)] at k1
      rw [decide_eq_false (by rw [sideB_true]; exact hS)] at k2
      by_cases g : 6000000 ≤ n % 10000000
      · rw [if_pos (.inl g)]
        exact r23TakeAngle_m_N s d lat n w hp HP k1 k2 (by omega) (by omega) (by omega)
      by_cases g2 : farI lat < ((n / 10000000 * 6000000 + n % 10000000 : Nat) : Int)
      · rw [if_pos (.inr g2)]
        exact r23TakeAngle_x_N s d lat n w hp HP k1 k2 (by omega) (by omega) (by omega) (by omega)
      rw [if_neg (by omega), if_neg hS, hx]
      exact r23TakeAngle_ok_N s d lat n w hp HP k1 k2 (by omega) (by omega) (by omega) (by omega)
    rw [decide_eq_false (by rw [sideB_false]; exact hN)] at k1
    by_cases hS : d = sideB lat true
    · rw [if_neg (fun k => k.2 hS)]
      rw [decide_eq_true (by rw [sideB_true]; exact hS)] at k2
      by_cases g : 6000000 ≤ n % 10000000
      · rw [if_pos (.inl g)]
        exact r23TakeAngle_m_S s d lat n w hp HP k1 k2 (by omega) (by omega) (by omega)
      by_cases g2 : farI lat < ((n / 10000000 * 6000000 + n % 10000000 : Nat) : Int)
      · rw [if_pos (.inr g2)]
        exact r23TakeAngle_x_S s d lat n w hp HP k1 k2 (by omega) (by omega) (by omega) (by omega)
      rw [if_neg (by omega), if_pos hS, hx]
      exact r23TakeAngle_ok_S s d lat n w hp HP k1 k2 (by omega) (by omega) (by omega) (by omega)
    · rw [if_pos ⟨hN, hS⟩]
      rw [decide_eq_false (by rw [sideB_true]; exact hS)] at k2
      exact r23TakeAngle_side s d lat n w hp HP k1 k2 (by omega) (by omega)

end Go.Proofs.YtpaejoikfnmdhaaDoor
