/- Layer 23: the reference's count and value. -/
import Derived.Test.YtpaejoikfnmdhaaDoorDec8
namespace Go.Proofs.YtpaejoikfnmdhaaDoor
set_option linter.unusedVariables false
open Go.RowKit

/-- Is a byte a digit? -/
def isD (c : UInt8) : Bool := decide (48 ≤ c.toNat ∧ c.toNat ≤ 57)
/-- How many digits stand ahead. -/
def cntD (l : List UInt8) : Nat := (l.takeWhile isD).length
theorem cntD_is : ∀ (l : List UInt8) (k : Nat), (∀ j (h : j < l.length), j < k → isD l[j] = true) → k ≤ l.length → (∀ h : k < l.length, isD l[k] = false) → cntD l = k := by
  intro l
  induction l with
  | nil => intro k _ h _; simp at h; subst h; rfl
  | cons c l ih =>
    intro k h1 h2 h3
    cases k with
    | zero =>
      have := h3 (by simp)
      unfold cntD
      rw [List.takeWhile_cons, if_neg (by simpa using this)]
      rfl
    | succ k =>
      have hc := h1 0 (by simp) (by omega)
      unfold cntD
      rw [List.takeWhile_cons, if_pos (by simpa using hc), List.length_cons]
      have := ih k (fun j hj hk => h1 (j + 1) (by simpa using hj) (by omega)) (by simpa using h2) (fun hk => h3 (by simpa using hk))
      unfold cntD at this
      rw [this]

set_option maxHeartbeats 1000000 in
theorem r23count_any (s : ByteArray) (a : Nat) (w : World) (hs : s.size ≤ 1000000) (ha : a ≤ s.size) :
    Calls Tryd.prog 62 #[.string s, .int .i64 (a : Int)] w fun e w' => e = .returned (.int .i64 ((cntD (s.data.toList.drop a) : Nat) : Int)) ∧ w = w' := by
  have hlen : (s.data.toList.drop a).length = s.size - a := by rw [List.length_drop]; simp
  have hget : ∀ j (h : a + j < s.size) (h2 : j < (s.data.toList.drop a).length), (s.data.toList.drop a)[j] = s[a + j] := fun j h h2 => by rw [List.getElem_drop]; rfl
  have HL := Lib.hid hlen
  have HG := Lib.hid hget
  clear hlen hget
  have fin : ∀ k, a + k ≤ s.size → (∀ j, j < k → ∃ h : a + j < s.size, isD s[a + j] = true) → (∀ h : a + k < s.size, isD s[a + k] = false) → cntD (s.data.toList.drop a) = k := fun k h1 h2 h3 =>
    cntD_is _ k (fun j hj hk => by obtain ⟨h, e⟩ := h2 j hk; rw [HG.out j h hj]; exact e) (by rw [HL.out]; omega) (fun h => (HG.out k (by have := HL.out; omega) h).symm ▸ h3 (by have := HL.out; omega))
  have FIN := Lib.hid fin
  clear fin HL HG
  go_enter Tryd.func62, Tryd.ntmps62
  go_wp2
  go_loop [5] (fun v => ∃ k : Nat, v = .int .i64 (k : Int) ∧ a + k ≤ s.size ∧ Hid (∀ j, j < k → ∃ h : a + j < s.size, isD s[a + j] = true)) (fun v => s.size - a - (intOf v).toNat)
  case atStart => exact ⟨0, rfl, ha, fun j h => absurd h (Nat.not_lt_zero _)⟩
  case round =>
    obtain ⟨k, rfl, hk, hall⟩ := hrel
    by_cases hlt : a + k < s.size
    · have i7 : ((a : Int) + (k : Int)).toNat = a + k := by omega
      have i1 : (a : Int) + (k : Int) < (s.size : Int) := by omega
      have i2 : (0 : Int) ≤ (a : Int) + (k : Int) := by omega
      by_cases hd : isD s[a + k] = true
      · have hd2 := of_decide_eq_true hd
        have h48 : (48 : Int) ≤ ((s[a + k]'hlt).toNat : Int) := by omega
        have h57 : ((s[a + k]'hlt).toNat : Int) ≤ 57 := by omega
        have hall2 : Hid (∀ j, j < k + 1 → ∃ h : a + j < s.size, isD s[a + j] = true) := fun j hj => by
          by_cases e : j = k
          · subst e; exact ⟨hlt, hd⟩
          · exact hall.out j (by omega)
        clear hd hd2 hall
        go_wp2
        go_round
        case rel => exact ⟨k + 1, by go_num, by omega, hall2⟩
        case measure => simp [intOf]; omega
      · have hres : Hid (cntD (s.data.toList.drop a) = k) := FIN.out k hk hall.out (fun _ => by cases e : isD s[a + k] with | true => exact absurd e hd | false => rfl)
        by_cases h48 : (48 : Int) ≤ ((s[a + k]'hlt).toNat : Int)
        · have h57 : (57 : Int) < ((s[a + k]'hlt).toNat : Int) := by
            by_cases h : (57 : Int) < ((s[a + k]'hlt).toNat : Int)
            · exact h
            · exact absurd (decide_eq_true (by omega)) hd
          clear hd hall
          go_wp2
          go_ret
          exact ⟨by rw [hres.out]; rfl, rfl⟩
        · clear hd hall
          go_wp2
          go_ret
          exact ⟨by rw [hres.out]; rfl, rfl⟩
    · have hres : Hid (cntD (s.data.toList.drop a) = k) := FIN.out k hk hall.out (fun h => absurd h hlt)
      go_wp2
      go_ret
      exact ⟨by rw [hres.out]; rfl, rfl⟩

end Go.Proofs.YtpaejoikfnmdhaaDoor
