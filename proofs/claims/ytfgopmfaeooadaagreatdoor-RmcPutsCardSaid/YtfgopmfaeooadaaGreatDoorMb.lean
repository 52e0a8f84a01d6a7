/- Layer 23: the reference's count and value. -/
import Derived.Test.YtfgopmfaeooadaaGreatDoorMa
import Derived.IntWalk
import Derived.Deep.RegionHeld3
namespace Go.Proofs.YtfgopmfaeooadaaGreatDoor
set_option linter.unusedVariables false
open Go.RowKit

/-- Is a byte a digit? -/
def isD (c : UInt8) : Bool := decide (48 ≤ c.toNat ∧ c.toNat ≤ 57)
/-- How many digits stand ahead. -/
def cntD (l : List UInt8) : Nat := (l.takeWhile isD).length
theorem cntD_is : ∀ (l : List UInt8) (k : Nat), (∀ j (h : j < l.length), j < k → isD l[j] = true) → k ≤ l.length → (∀ h : k < l.length, isD l[k] = false) → cntD l = k := by
  intro l
  induction l with
  | nil => intro k _ h _; simp at h; subst h; rfl
  | cons c l ih =>
    intro k h1 h2 h3
    cases k with
    | zero =>
      have := h3 (by simp)
      unfold cntD
      rw [List.takeWhile_cons, if_neg (by simpa using this)]
      rfl
    | succ k =>
      have hc := h1 0 (by simp) (by omega)
      unfold cntD
      rw [List.takeWhile_cons, if_pos (by simpa using hc), List.length_cons]
      have := ih k (fun j hj hk => h1 (j + 1) (by simpa using hj) (by omega)) (by simpa using h2) (fun hk => h3 (by simpa using hk))
      unfold cntD at this
      rw [this]

set_option maxHeartbeats 1000000 in
theorem r23count_any (s : ByteArray) (a : Nat) (w : World) (hs : s.size ≤ 1000000) (ha : a ≤ s.size) :
    Calls Tryz.prog 121 #[.string s, .int .i64 (a : Int)] w fun e w' => e = .returned (.int .i64 ((cntD (s.data.toList.drop a) : Nat) : Int)) ∧ w = w' := by
  have hlen : (s.data.toList.drop a).length = s.size - a := by rw [List.length_drop]; simp
  have hget : ∀ j (h : a + j < s.size) (h2 : j < (s.data.toList.drop a).length), (s.data.toList.drop a)[j] = s[a + j] := fun j h h2 => by rw [List.getElem_drop]; rfl
  have HL := Lib.hid hlen
  have HG := Lib.hid hget
  clear hlen hget
  have fin : ∀ k, a + k ≤ s.size → (∀ j, j < k → ∃ h : a + j < s.size, isD s[a + j] = true) → (∀ h : a + k < s.size, isD s[a + k] = false) → cntD (s.data.toList.drop a) = k := fun k h1 h2 h3 =>
    cntD_is _ k (fun j hj hk => by obtain ⟨h, e⟩ := h2 j hk; rw [HG.out j h hj]; exact e) (by rw [HL.out]; omega) (fun h => (HG.out k (by have := HL.out; omega) h).symm ▸ h3 (by have := HL.out; omega))
  have FIN := Lib.hid fin
  clear fin HL HG
  go_enter Tryz.func121, Tryz.ntmps121
  go_wp2
  go_loop [5] (fun v => ∃ k : Nat, v = .int .i64 (k : Int) ∧ a + k ≤ s.size ∧ Hid (∀ j, j < k → ∃ h : a + j < s.size, isD s[a + j] = true)) (fun v => s.size - a - (intOf v).toNat)
  case atStart => exact ⟨0, rfl, ha, fun j h => absurd h (Nat.not_lt_zero _)⟩
  case round =>
    obtain ⟨k, rfl, hk, hall⟩ := hrel
    by_cases hlt : a + k < s.size
    · have i7 : ((a : Int) + (k : Int)).toNat = a + k := by omega
      have i1 : (a : Int) + (k : Int) < (s.size : Int) := by omega
      have i2 : (0 : Int) ≤ (a : Int) + (k : Int) := by omega
      by_cases hd : isD s[a + k] = true
      · have hd2 := of_decide_eq_true hd
        have h48 : (48 : Int) ≤ ((s[a + k]'hlt).toNat : Int) := by omega
        have h57 : ((s[a + k]'hlt).toNat : Int) ≤ 57 := by omega
        have hall2 : Hid (∀ j, j < k + 1 → ∃ h : a + j < s.size, isD s[a + j] = true) := fun j hj => by
          by_cases e : j = k
          · subst e; exact ⟨hlt, hd⟩
          · exact hall.out j (by omega)
        clear hd hd2 hall
        go_wp2
        go_round
        case rel => exact ⟨k + 1, by go_num, by omega, hall2⟩
        case measure => simp [intOf]; omega
      · have hres : Hid (cntD (s.data.toList.drop a) = k) := FIN.out k hk hall.out (fun _ => by cases e : isD s[a + k] with | true => exact absurd e hd | false => rfl)
        by_cases h48 : (48 : Int) ≤ ((s[a + k]'hlt).toNat : Int)
        · have h57 : (57 : Int) < ((s[a + k]'hlt).toNat : Int) := by
            by_cases h : (57 : Int) < ((s[a + k]'hlt).toNat : Int)
            · exact h
            · exact absurd (decide_eq_true (by omega)) hd
          clear hd hall
          go_wp2
          go_ret
          exact ⟨by rw [hres.out]; rfl, rfl⟩
        · clear hd hall
          go_wp2
          go_ret
          exact ⟨by rw [hres.out]; rfl, rfl⟩
    · have hres : Hid (cntD (s.data.toList.drop a) = k) := FIN.out k hk hall.out (fun h => absurd h hlt)
      go_wp2
      go_ret
      exact ⟨by rw [hres.out]; rfl, rfl⟩

end Go.Proofs.YtfgopmfaeooadaaGreatDoor

/- Layer 23: the reference's value. -/
namespace Go.Proofs.YtfgopmfaeooadaaGreatDoor
set_option linter.unusedVariables false
open Go.RowKit

/-- The number of digits. -/
def valD (l : List UInt8) : Nat := l.foldl (fun n c => 10 * n + (c.toNat - 48)) 0
theorem valD_snoc (l : List UInt8) (c : UInt8) : valD (l ++ [c]) = 10 * valD l + (c.toNat - 48) := by simp [valD]
theorem valD_lt (l : List UInt8) (h : ∀ c ∈ l, isD c = true) : valD l < 10 ^ l.length := by
  have key : ∀ r : List UInt8, (∀ c ∈ r, isD c = true) → valD r.reverse < 10 ^ r.length := by
    intro r
    induction r with
    | nil => intro _; decide
    | cons c r ih =>
      intro hr
      have h1 := ih (fun x hx => hr x (by simp [hx]))
      have h2 := of_decide_eq_true (hr c (by simp))
      rw [List.reverse_cons, valD_snoc, List.length_cons, Nat.pow_succ]
      omega
  have := key l.reverse (fun c hc => h c (by simpa using hc))
  rw [List.reverse_reverse, List.length_reverse] at this
  exact this

set_option maxHeartbeats 1000000 in
theorem r23value_any (s : ByteArray) (z : Nat) (w : World) (hs : s.size + z ≤ 18) (hd : ∀ c ∈ s.data.toList, isD c = true) :
    Calls Tryz.prog 122 #[.string s, .int .i64 (z : Int)] w fun e w' => e = .returned (.int .i64 ((valD s.data.toList : Int) * tenI z)) ∧ w = w' := by
  have hT := fun W => Lib.hid (r23Ten_any z W (by omega))
  have hstep : ∀ k (h : k < s.size), valD (s.data.toList.take (k + 1)) = 10 * valD (s.data.toList.take k) + ((s[k]).toNat - 48) ∧ 48 ≤ (s[k]).toNat ∧ (s[k]).toNat ≤ 57 := fun k h => by
    rw [take_snoc s k h, valD_snoc]
    have := of_decide_eq_true (hd s[k] (by show s.data[k] ∈ _; simp))
    exact ⟨rfl, this.1, this.2⟩
  have hlt : ∀ k, k ≤ s.size → valD (s.data.toList.take k) < 10 ^ k := fun k h => by
    have := valD_lt (s.data.toList.take k) (fun c hc => hd c (List.mem_of_mem_take hc))
    rw [List.length_take, Nat.min_eq_left (by simpa using h)] at this
    exact this
  have hmul : ∀ k, k ≤ 17 → (10 : Nat) ^ k ≤ 100000000000000000 := fun k h => by
    have : (10 : Nat) ^ k ≤ 10 ^ 17 := Nat.pow_le_pow_right (by decide) h
    have e : (10 : Nat) ^ 17 = 100000000000000000 := by decide
    omega
  have hfin : (valD s.data.toList : Int) * tenI z < 1000000000000000000 ∧ 0 ≤ (valD s.data.toList : Int) * tenI z := by
    have h1 := hlt s.size (Nat.le_refl _)
    rw [List.take_of_length_le (by simp)] at h1
    have h2 : valD s.data.toList * 10 ^ z < 10 ^ s.size * 10 ^ z := Nat.mul_lt_mul_of_pos_right h1 (Nat.pow_pos (by decide))
    rw [← Nat.pow_add] at h2
    have h3 : (10 : Nat) ^ (s.size + z) ≤ 10 ^ 18 := Nat.pow_le_pow_right (by decide) hs
    have e : (10 : Nat) ^ 18 = 1000000000000000000 := by decide
    unfold tenI
    rw [← Int.natCast_mul]
    omega
  have HS := Lib.hid hstep
  have HL := Lib.hid hlt
  have HM := Lib.hid hmul
  have HF := Lib.hid hfin
  clear hstep hlt hmul hfin hd
  go_enter Tryz.func122, Tryz.ntmps122
  go_wp2
  go_loop [5, 6] (fun v i => ∃ k : Nat, k ≤ s.size ∧ i = .int .i64 (k : Int) ∧ v = .int .i64 (valD (s.data.toList.take k) : Int)) (fun _ i => s.size - (intOf i).toNat)
  case atStart => exact ⟨0, Nat.zero_le _, rfl, rfl⟩
  case round =>
    obtain ⟨k, hk, rfl, rfl⟩ := hrel
    by_cases hlt : k < s.size
    · obtain ⟨e1, e2, e3⟩ := HS.out k hlt
      have h1 := HL.out k hk
      have h2 := HM.out k (by omega)
      have h3 : valD (s.data.toList.take k) ≤ 100000000000000000 := by omega
      have E1 := Lib.hid e1
      clear e1 h1 h2
      generalize valD (s.data.toList.take k) = V at *
      have g1 : (48 : Int) ≤ ((s[k]'hlt).toNat : Int) := by omega
      have g2 : ((s[k]'hlt).toNat : Int) ≤ 57 := by omega
      go_wp2
      go_round
      case rel => exact ⟨k + 1, by omega, by go_num, by rw [E1.out]; go_num⟩
      case measure => simp [intOf]; omega
    · have e : s.data.toList.take k = s.data.toList := List.take_of_length_le (by simp; omega)
      rw [e]
      obtain ⟨f1, f2⟩ := HF.out
      have t1 := tenI_pos z
      generalize q1 : tenI z = T at *
      generalize q2 : valD s.data.toList = V at *
      have Q1 := Lib.hid q1
      have Q2 := Lib.hid q2
      clear q1 q2
      go_wp2_with fail
      refine (hT _).out.mono ?_
      rintro e w' ⟨rfl, rfl⟩
      go_wp2_with fail
      go_ret
      exact ⟨by rw [Q1.out, Q2.out]; rfl, rfl⟩

end Go.Proofs.YtfgopmfaeooadaaGreatDoor

/- Layer 23: parse, the plain law; the reference's parse. -/
namespace Go.Proofs.YtfgopmfaeooadaaGreatDoor
set_option linter.unusedVariables false
open Go.RowKit

/-- The number of a text: from least to most digits ahead of the point, from 1 to frac behind it. -/
def parseN (l : List UInt8) (least most frac : Nat) : Option Nat :=
  if cntD l < least ∨ most < cntD l then none
  else if cntD l = l.length then some (valD l * 10 ^ frac)
  else if l[cntD l]? ≠ some 46 ∨ cntD (l.drop (cntD l + 1)) < 1 ∨ frac < cntD (l.drop (cntD l + 1)) ∨ cntD l + 1 + cntD (l.drop (cntD l + 1)) ≠ l.length then none
  else some (valD (l.take (cntD l)) * 10 ^ frac + valD (l.drop (cntD l + 1)) * 10 ^ (frac - cntD (l.drop (cntD l + 1))))
theorem cntD_le (l : List UInt8) : cntD l ≤ l.length := by
  unfold cntD
  exact (List.takeWhile_prefix isD).length_le
theorem while_all : ∀ l : List UInt8, ∀ c ∈ l.takeWhile isD, isD c = true := by
  intro l
  induction l with
  | nil => intro c h; simp at h
  | cons x l ih =>
    intro c h
    rw [List.takeWhile_cons] at h
    split at h
    · rename_i hx
      rcases List.mem_cons.1 h with rfl | h
      · exact hx
      · exact ih c h
    · simp at h
theorem cntD_take (l : List UInt8) : ∀ c ∈ l.take (cntD l), isD c = true := by
  intro c hc
  have : l.take (cntD l) = l.takeWhile isD := by
    unfold cntD
    exact (List.prefix_iff_eq_take.1 (List.takeWhile_prefix isD)).symm
  rw [this] at hc
  exact while_all l c hc

end Go.Proofs.YtfgopmfaeooadaaGreatDoor

/- Layer 23: the reference's parse. -/
namespace Go.Proofs.YtfgopmfaeooadaaGreatDoor
set_option linter.unusedVariables false
open Go.RowKit

theorem r23count0 (s : ByteArray) (w : World) (hs : s.size ≤ 1000000) :
    Calls Tryz.prog 121 #[.string s, .int .i64 0] w fun e w' => e = .returned (.int .i64 ((cntD s.data.toList : Nat) : Int)) ∧ w = w' := by
  have h := r23count_any s 0 w hs (Nat.zero_le _)
  rw [List.drop_zero] at h
  exact h

set_option maxHeartbeats 1000000 in
theorem r23parse_out (s : ByteArray) (l m f : Nat) (w : World) (hs : s.size ≤ 1000000) (h : cntD s.data.toList < l ∨ l ≤ cntD s.data.toList ∧ m < cntD s.data.toList) :
    Calls Tryz.prog 107 #[.string s, .int .i64 (l : Int), .int .i64 (m : Int), .int .i64 (f : Int)] w fun e w' => e = .returned (.tuple #[.int .i64 0, .bool false]) ∧ w = w' := by
  have HC := fun W => Lib.hid (r23count0 s W hs)
  have hle := cntD_le s.data.toList
  have hz : s.data.toList.length = s.size := by simp
  rw [hz] at hle
  clear hz
  generalize cntD s.data.toList = a at *
  rcases h with h | ⟨h, h2⟩
  all_goals
    go_enter Tryz.func107, Tryz.ntmps107
    go_wp2_with fail
    refine (HC _).out.mono ?_
    rintro e w' ⟨rfl, rfl⟩
    go_wp2_with fail
    go_ret2
    exact ⟨rfl, rfl⟩

set_option maxHeartbeats 1000000 in
theorem r23parse_whole (s : ByteArray) (l m f : Nat) (w : World) (hs : s.size ≤ 1000000) (h1 : l ≤ cntD s.data.toList) (h2 : cntD s.data.toList ≤ m) (hmf : m + f ≤ 18) (hw : cntD s.data.toList = s.data.toList.length) :
    Calls Tryz.prog 107 #[.string s, .int .i64 (l : Int), .int .i64 (m : Int), .int .i64 (f : Int)] w fun e w' => e = .returned (.tuple #[.int .i64 ((valD s.data.toList : Int) * tenI f), .bool true]) ∧ w = w' := by
  have HC := fun W => Lib.hid (r23count0 s W hs)
  have hz : s.data.toList.length = s.size := by simp
  have hall := cntD_take s.data.toList
  rw [hw, List.take_length] at hall
  have HV := fun W => Lib.hid (r23value_any (s.extract 0 s.size) f W (by rw [ByteArray.size_extract]; omega) (by rw [Lib.extract_upto]; show ∀ c ∈ (s.data.toList.take s.size), _; rw [← hz, List.take_length]; exact hall))
  have hx : s.extract 0 s.size = s := by
    rw [Lib.extract_upto, ← hz, List.take_length]
  have HX := Lib.hid hx
  rw [hw, hz] at HC h1 h2
  rw [hx] at HV
  generalize (valD s.data.toList : Int) * tenI f = V at *
  clear hw hall hz hx
  go_enter Tryz.func107, Tryz.ntmps107
  go_wp2_with fail
  refine (HC _).out.mono ?_
  rintro e w' ⟨rfl, rfl⟩
  go_wp2_with fail
  refine (HV _).out.mono ?_
  rintro e w' ⟨rfl, rfl⟩
  go_wp2_with fail
  go_ret2
  exact ⟨rfl, rfl⟩

end Go.Proofs.YtfgopmfaeooadaaGreatDoor

/- Layer 23: the reference's parse, with a byte behind the first digits. -/
namespace Go.Proofs.YtfgopmfaeooadaaGreatDoor
set_option linter.unusedVariables false
open Go.RowKit

set_option maxHeartbeats 2000000 in
theorem r23parse_bad (s : ByteArray) (a b l m f : Nat) (V : Int) (w : World) (hs : s.size ≤ 1000000) (hlt : a < s.size) (h1 : l ≤ a) (h2 : a ≤ m) (hmf : m + f ≤ 18) (hb : b ≤ s.size)
    (HC : ∀ W, Hid (Calls Tryz.prog 121 #[.string s, .int .i64 0] W fun e w' => e = .returned (.int .i64 (a : Int)) ∧ W = w'))
    (HV : ∀ W, Hid (Calls Tryz.prog 122 #[.string (s.extract 0 a), .int .i64 (f : Int)] W fun e w' => e = .returned (.int .i64 V) ∧ W = w'))
    (HD : ∀ W, Hid (Calls Tryz.prog 121 #[.string s, .int .i64 ((a : Int) + 1)] W fun e w' => e = .returned (.int .i64 (b : Int)) ∧ W = w'))
    (h : (((s[a]'hlt).toNat : Int) != 46) = true ∨ (((s[a]'hlt).toNat : Int) != 46) = false ∧ (b : Int) < 1 ∨ (((s[a]'hlt).toNat : Int) != 46) = false ∧ (1 : Int) ≤ (b : Int) ∧ f < b ∨ (((s[a]'hlt).toNat : Int) != 46) = false ∧ (1 : Int) ≤ (b : Int) ∧ b ≤ f ∧ ((a : Int) + 1 + (b : Int) != (s.size : Int)) = true) :
    Calls Tryz.prog 107 #[.string s, .int .i64 (l : Int), .int .i64 (m : Int), .int .i64 (f : Int)] w fun e w' => e = .returned (.tuple #[.int .i64 0, .bool false]) ∧ w = w' := by
  have i1 : ((a : Int) == (s.size : Int)) = false := by rw [beq_eq_false_iff_ne]; omega
  have i2 : (0 : Int) ≤ (a : Int) := Int.natCast_nonneg _
  have i3 : (a : Int) < (s.size : Int) := by omega
  have i4 : (a : Int) ≤ (s.size : Int) := by omega
  rcases h with h | ⟨h, h'⟩ | ⟨h, h', h''⟩ | ⟨h, h', h'', h'''⟩
  all_goals
    go_enter Tryz.func107, Tryz.ntmps107
    go_wp2_with fail
    refine (HC _).out.mono ?_
    rintro e w' ⟨rfl, rfl⟩
    go_wp2_with fail
    refine (HV _).out.mono ?_
    rintro e w' ⟨rfl, rfl⟩
    go_wp2_with fail
    refine (HD _).out.mono ?_
    rintro e w' ⟨rfl, rfl⟩
    go_wp2_with fail
    go_ret2
    exact ⟨rfl, rfl⟩

end Go.Proofs.YtfgopmfaeooadaaGreatDoor

/- Layer 23: the reference's parse, whole. -/
namespace Go.Proofs.YtfgopmfaeooadaaGreatDoor
set_option linter.unusedVariables false
open Go.RowKit

set_option maxHeartbeats 2000000 in
theorem r23parse_good (s : ByteArray) (a b l m f : Nat) (V U : Int) (w : World) (hs : s.size ≤ 1000000) (hlt : a < s.size) (h1 : l ≤ a) (h2 : a ≤ m) (hmf : m + f ≤ 18) (hbf : b ≤ f) (hb1 : (1 : Int) ≤ (b : Int)) (hsz : (a : Int) + 1 + (b : Int) = (s.size : Int))
    (hV0 : 0 ≤ V) (hV : V ≤ 1000000000000000000) (hU0 : 0 ≤ U) (hU : U ≤ 1000000000000000000)
    (HC : ∀ W, Hid (Calls Tryz.prog 121 #[.string s, .int .i64 0] W fun e w' => e = .returned (.int .i64 (a : Int)) ∧ W = w'))
    (HV : ∀ W, Hid (Calls Tryz.prog 122 #[.string (s.extract 0 a), .int .i64 (f : Int)] W fun e w' => e = .returned (.int .i64 V) ∧ W = w'))
    (HD : ∀ W, Hid (Calls Tryz.prog 121 #[.string s, .int .i64 ((a : Int) + 1)] W fun e w' => e = .returned (.int .i64 (b : Int)) ∧ W = w'))
    (HU : ∀ W, Hid (Calls Tryz.prog 122 #[.string (s.extract (a + 1) s.size), .int .i64 ((f : Int) - (b : Int))] W fun e w' => e = .returned (.int .i64 U) ∧ W = w'))
    (h : (((s[a]'hlt).toNat : Int) != 46) = false) :
    Calls Tryz.prog 107 #[.string s, .int .i64 (l : Int), .int .i64 (m : Int), .int .i64 (f : Int)] w fun e w' => e = .returned (.tuple #[.int .i64 (V + U), .bool true]) ∧ w = w' := by
  have i1 : ((a : Int) == (s.size : Int)) = false := by rw [beq_eq_false_iff_ne]; omega
  have i2 : (0 : Int) ≤ (a : Int) := Int.natCast_nonneg _
  have i3 : (a : Int) < (s.size : Int) := by omega
  have i4 : (a : Int) ≤ (s.size : Int) := by omega
  have i5 : ((a : Int) + 1 + (b : Int) != (s.size : Int)) = false := by rw [bne_eq_false_iff_eq]; exact hsz
  have i6 : (a : Int) + 1 ≤ (s.size : Int) := by omega
  have i7 : ((a : Int) + 1).toNat = a + 1 := by omega
  have hb2 : (b : Int) ≤ (f : Int) := by omega
  clear hsz
  go_enter Tryz.func107, Tryz.ntmps107
  go_wp2_with fail
  refine (HC _).out.mono ?_
  rintro e w' ⟨rfl, rfl⟩
  go_wp2_with fail
  refine (HV _).out.mono ?_
  rintro e w' ⟨rfl, rfl⟩
  go_wp2_with fail
  refine (HD _).out.mono ?_
  rintro e w' ⟨rfl, rfl⟩
  go_wp2_with fail
  refine (HU _).out.mono ?_
  rintro e w' ⟨rfl, rfl⟩
  go_wp2_with fail
  go_ret2
  exact ⟨rfl, rfl⟩

theorem tenI_cast (k : Nat) : tenI k = ((10 ^ k : Nat) : Int) := rfl
theorem val_le {l : List UInt8} {n : Nat} (h : ∀ c ∈ l, isD c = true) (hn : l.length + n ≤ 18) : (valD l : Int) * tenI n ≤ 1000000000000000000 ∧ 0 ≤ (valD l : Int) * tenI n := by
  have h1 := valD_lt l h
  have h2 : valD l * 10 ^ n < 10 ^ l.length * 10 ^ n := Nat.mul_lt_mul_of_pos_right h1 (Nat.pow_pos (by decide))
  rw [← Nat.pow_add] at h2
  have h3 : (10 : Nat) ^ (l.length + n) ≤ 10 ^ 18 := Nat.pow_le_pow_right (by decide) hn
  have e : (10 : Nat) ^ 18 = 1000000000000000000 := by decide
  rw [tenI_cast, ← Int.natCast_mul]
  omega

/-- parse of the reference. -/
theorem r23parse_any (s : ByteArray) (l m f : Nat) (w : World) (hs : s.size ≤ 1000000) (hmf : m + f ≤ 18) :
    Calls Tryz.prog 107 #[.string s, .int .i64 (l : Int), .int .i64 (m : Int), .int .i64 (f : Int)] w fun e w' => e = .returned (.tuple #[.int .i64 (((parseN s.data.toList l m f).getD 0 : Nat) : Int), .bool (parseN s.data.toList l m f).isSome]) ∧ w = w' := by
  have hz : s.data.toList.length = s.size := by simp
  unfold parseN
  by_cases g1 : cntD s.data.toList < l ∨ m < cntD s.data.toList
  · rw [if_pos g1]
    exact r23parse_out s l m f w hs (by omega)
  rw [if_neg g1]
  by_cases g2 : cntD s.data.toList = s.data.toList.length
  · rw [if_pos g2]
    have h := r23parse_whole s l m f w hs (by omega) (by omega) hmf g2
    rw [tenI_cast, ← Int.natCast_mul] at h
    exact h
  rw [if_neg g2]
  have hle := cntD_le s.data.toList
  have hA := cntD_take s.data.toList
  have HC := fun W => Lib.hid (r23count0 s W hs)
  have hx : (s.extract 0 (cntD s.data.toList)).data.toList = s.data.toList.take (cntD s.data.toList) := by rw [Lib.extract_upto]
  obtain ⟨a, ha⟩ : ∃ a, cntD s.data.toList = a := ⟨_, rfl⟩
  rw [ha] at g1 g2 hle hA HC hx ⊢
  have hlt : a < s.size := by omega
  have HV := fun W => Lib.hid (r23value_any (s.extract 0 a) f W (by rw [ByteArray.size_extract]; omega) (by rw [hx]; exact hA))
  rw [hx] at HV
  have HD := fun W => Lib.hid (r23count_any s (a + 1) W hs (by omega))
  have hb := cntD_le (s.data.toList.drop (a + 1))
  have hB := cntD_take (s.data.toList.drop (a + 1))
  rw [List.length_drop, hz] at hb
  obtain ⟨b, hbe⟩ : ∃ b, cntD (s.data.toList.drop (a + 1)) = b := ⟨_, rfl⟩
  rw [hbe] at hb hB HD ⊢
  have h46 : s.data.toList[a]? = some 46 ↔ ((s[a]'hlt).toNat : Int) = 46 := by
    rw [List.getElem?_eq_getElem (by omega)]
    constructor
    · intro k; injection k with k
      have k2 : s[a] = 46 := k
      rw [k2]; rfl
    · intro k
      have k2 : s[a] = 46 := UInt8.toNat_inj.1 (by have e : (46 : UInt8).toNat = 46 := rfl; omega)
      exact congrArg some k2
  have hl2 : (s.data.toList.take a).length = a := by rw [List.length_take]; omega
  by_cases g3 : s.data.toList[a]? ≠ some 46 ∨ b < 1 ∨ f < b ∨ a + 1 + b ≠ s.data.toList.length
  · rw [if_pos g3]
    refine r23parse_bad s a b l m f _ w hs hlt (by omega) (by omega) hmf (by omega) HC HV HD ?_
    by_cases k46 : ((s[a]'hlt).toNat : Int) = 46
    · have e46 : (((s[a]'hlt).toNat : Int) != 46) = false := by rw [bne_eq_false_iff_eq]; exact k46
      by_cases kb : (b : Int) < 1
      · exact .inr (.inl ⟨e46, kb⟩)
      · by_cases kf : f < b
        · exact .inr (.inr (.inl ⟨e46, by omega, kf⟩))
        · refine .inr (.inr (.inr ⟨e46, by omega, by omega, ?_⟩))
          rw [bne_iff_ne]
          rcases g3 with g | g | g | g
          · exact absurd (h46.2 k46) g
          · omega
          · omega
          · omega
    · exact .inl (by rw [bne_iff_ne]; exact k46)
  · rw [if_neg g3]
    have g4 : s.data.toList[a]? = some 46 := Classical.not_not.1 fun k => g3 (.inl k)
    have g5 : 1 ≤ b ∧ b ≤ f ∧ a + 1 + b = s.size := by omega
    have hB2 : ∀ c ∈ s.data.toList.drop (a + 1), isD c = true := by
      rw [List.take_of_length_le (by rw [List.length_drop]; omega)] at hB
      exact hB
    have hx2 : (s.extract (a + 1) s.size).data.toList = s.data.toList.drop (a + 1) := by rw [Lib.extract_from]
    have HU := fun W => Lib.hid (r23value_any (s.extract (a + 1) s.size) (f - b) W (by rw [ByteArray.size_extract]; omega) (by rw [hx2]; exact hB2))
    rw [hx2, show ((f - b : Nat) : Int) = (f : Int) - (b : Int) from by omega] at HU
    have v1 := val_le hA (n := f) (by omega)
    have v2 := val_le hB2 (n := f - b) (by rw [List.length_drop]; omega)
    have h := r23parse_good s a b l m f _ _ w hs hlt (by omega) (by omega) hmf g5.2.1 (by omega) (by omega) v1.2 v1.1 v2.2 v2.1 HC HV HD HU (by rw [bne_eq_false_iff_eq]; exact h46.1 g4)
    rw [tenI_cast, tenI_cast, ← Int.natCast_mul, ← Int.natCast_mul, ← Int.natCast_add] at h
    exact h

end Go.Proofs.YtfgopmfaeooadaaGreatDoor

/- Layer 23: the closure of the program's parse. -/
namespace Go.Proofs.YtfgopmfaeooadaaGreatDoor
set_option linter.unusedVariables false
open Go.RowKit

/-- What the three variables hold. -/
def NextSt (W : World) (gs gn ga : Nat) (s : ByteArray) (nv : Int) (a : Nat) : Prop :=
  W.cell? ⟨gs, 0, none⟩ = some (.string s) ∧ W.cell? ⟨gn, 0, none⟩ = some (.int .i64 nv) ∧ W.cell? ⟨ga, 0, none⟩ = some (.int .i64 (a : Int)) ∧ W.frozen? ⟨gn, 0, none⟩ = false ∧ W.frozen? ⟨ga, 0, none⟩ = false
/-- The sum behind k digits more. -/
def sumV (s : ByteArray) (a : Nat) (nv : Int) (k : Nat) : Int := nv * tenI k + (valD ((s.data.toList.drop a).take k) : Int)
theorem sumV_zero (s : ByteArray) (a : Nat) (nv : Int) : sumV s a nv 0 = nv := by
  unfold sumV
  rw [tenI_zero, List.take_zero]
  show nv * 1 + 0 = nv
  omega
theorem sumV_succ (s : ByteArray) (a : Nat) (nv : Int) (k : Nat) (h : a + k < s.size) (hd : isD s[a + k] = true) : sumV s a nv (k + 1) = 10 * sumV s a nv k + ((s[a + k].toNat : Int) - 48) := by
  unfold sumV
  have hl : k < (s.data.toList.drop a).length := by rw [List.length_drop]; have : s.data.toList.length = s.size := by simp
                                                    omega
  have he : (s.data.toList.drop a)[k] = s[a + k] := by rw [List.getElem_drop]; rfl
  have h2 := of_decide_eq_true hd
  rw [List.take_succ_eq_append_getElem hl, valD_snoc, he, tenI_succ, ← Int.mul_assoc]
  omega

def NextPost (s : ByteArray) (a most : Nat) (nv : Int) (gs gn ga B : Nat) (W : World) (e : Ending) (w' : World) : Prop :=
  ∃ (K : Nat) (nv2 : Int), K = min (cntD (s.data.toList.drop a)) (most + 1) ∧ e = .returned (.int .i64 (K : Int)) ∧ NextSt w' gs gn ga s nv2 (a + K) ∧ Below B W w' ∧ w'.heap.size = W.heap.size ∧ (K ≤ most → nv2 = sumV s a nv K)

/-- What the loop of the closure keeps. -/
def NextRel (s : ByteArray) (a most : Nat) (nv : Int) (gs gn ga B : Nat) (W : World) (v : Value) (wr : World) : Prop :=
  ∃ (k : Nat) (nv2 : Int), v = .int .i64 (k : Int) ∧ k ≤ most + 1 ∧ a + k ≤ s.size ∧ Hid (∀ j, j < k → ∃ h : a + j < s.size, isD s[a + j] = true) ∧ Hid (NextSt wr gs gn ga s nv2 (a + k)) ∧ Hid (Below B W wr) ∧ Hid (wr.heap.size = W.heap.size) ∧ Hid (k ≤ most → nv2 = sumV s a nv k)

theorem next_round {s : ByteArray} {a most : Nat} {nv : Int} {gs gn ga B : Nat} {W wr : World} {k : Nat} {nv2 : Int}
    (hm : most ≤ 12) (hd1 : gs ≠ gn) (hd2 : gs ≠ ga) (hd3 : gn ≠ ga) (hB1 : B ≤ gn) (hB2 : B ≤ ga)
    (HB : ∀ k, k ≤ most → 0 ≤ sumV s a nv k ∧ sumV s a nv k ≤ 9000000000000000000)
    (hkm : k ≤ most) (hlt : a + k < s.size) (hd : isD s[a + k] = true) (hall : ∀ j, j < k → ∃ h : a + j < s.size, isD s[a + j] = true)
    (hst : NextSt wr gs gn ga s nv2 (a + k)) (hb : Below B W wr) (hz : wr.heap.size = W.heap.size) (hex : k ≤ most → nv2 = sumV s a nv k) :
    NextRel s a most nv gs gn ga B W (.int .i64 ((k : Int) + 1)) ((wr.setCell ⟨gn, 0, none⟩ (.int .i64 (wrap64 (wrap64 (10 * nv2) + (((s[a + k]'hlt).toNat : Int) - 48))))).setCell ⟨ga, 0, none⟩ (.int .i64 (((a + k : Nat) : Int) + 1))).drew := by
  obtain ⟨c1, c2, c3, z1, z2⟩ := hst
  refine ⟨k + 1, wrap64 (wrap64 (10 * nv2) + (((s[a + k]'hlt).toNat : Int) - 48)), by rw [Int.natCast_add]; rfl, by omega, by omega, Lib.hid ?_, Lib.hid ⟨?_, ?_, ?_, ?_, ?_⟩, Lib.hid ?_, Lib.hid ?_, Lib.hid ?_⟩
  · intro j hj
    rcases Nat.lt_or_ge j k with h | h
    · exact hall j h
    · obtain rfl : j = k := by omega
      exact ⟨hlt, hd⟩
  · show ((wr.setCell _ _).setCell _ _).cell? _ = _
    rw [World.cell?_setCell_other _ _ _ _ (fun e => by injection e with e; exact hd2 e.symm), World.cell?_setCell_other _ _ _ _ (fun e => by injection e with e; exact hd1 e.symm)]
    exact c1
  · show ((wr.setCell _ _).setCell _ _).cell? _ = _
    rw [World.cell?_setCell_other _ _ _ _ (fun e => by injection e with e; exact hd3 e.symm), World.cell?_setCell_same _ _ _ c2]
  · show ((wr.setCell _ _).setCell _ _).cell? _ = _
    have h0 : (wr.setCell ⟨gn, 0, none⟩ (.int .i64 (wrap64 (wrap64 (10 * nv2) + (((s[a + k]'hlt).toNat : Int) - 48))))).cell? ⟨ga, 0, none⟩ = _ := (World.cell?_setCell_other _ _ _ _ (fun e => by injection e with e; exact hd3 e)).trans c3
    rw [World.cell?_setCell_same _ _ _ h0]
    rw [show ((a + (k + 1) : Nat) : Int) = ((a + k : Nat) : Int) + 1 from by omega]
  · show ((wr.setCell _ _).setCell _ _).frozen? _ = _
    simpa using z1
  · show ((wr.setCell _ _).setCell _ _).frozen? _ = _
    simpa using z2
  · exact bdrew ((hb.setCell hB1 _).setCell hB2 _)
  · show ((wr.setCell _ _).setCell _ _).heap.size = _
    simpa using hz
  · intro hk1
    have e1 := hex (by omega)
    have b1 := HB k (by omega)
    have b2 := HB (k + 1) hk1
    have e2 := sumV_succ s a nv k hlt hd
    have e3 := of_decide_eq_true hd
    subst e1
    rw [e2] at b2 ⊢
    have q1 : wrap64 (10 * sumV s a nv k) = 10 * sumV s a nv k := IntWalk.wrap64_in _ (by omega)
    rw [q1, IntWalk.wrap64_in _ (by omega)]

theorem cntD_ge : ∀ (l : List UInt8) (k : Nat), (∀ j (h : j < l.length), j < k → isD l[j] = true) → k ≤ l.length → k ≤ cntD l := by
  intro l
  induction l with
  | nil => intro k _ h; exact Nat.le_trans h (Nat.zero_le _)
  | cons c l ih =>
    intro k h1 h2
    cases k with
    | zero => exact Nat.zero_le _
    | succ k =>
      have h0 : isD c = true := h1 0 (by simp) (by omega)
      have h3 := ih k (fun j hj hk => h1 (j + 1) (by simpa using hj) (by omega)) (by simpa using h2)
      unfold cntD at h3 ⊢
      rw [List.takeWhile_cons_of_pos h0, List.length_cons]
      omega

theorem next_out {s : ByteArray} {a most : Nat} {nv : Int} {gs gn ga B : Nat} {W wr : World} {k : Nat} {nv2 : Int}
    (hak : a + k ≤ s.size) (hstop : k = most + 1 ∨ ¬ a + k < s.size ∨ ∃ h : a + k < s.size, isD s[a + k] = false) (hk : k ≤ most + 1) (hall : ∀ j, j < k → ∃ h : a + j < s.size, isD s[a + j] = true)
    (hst : NextSt wr gs gn ga s nv2 (a + k)) (hb : Below B W wr) (hz : wr.heap.size = W.heap.size) (hex : k ≤ most → nv2 = sumV s a nv k) :
    NextPost s a most nv gs gn ga B W (.returned (.int .i64 (k : Int))) wr := by
  refine ⟨k, nv2, ?_, rfl, hst, hb, hz, hex⟩
  have hsz : s.data.toList.length = s.size := by simp
  have hlen : (s.data.toList.drop a).length = s.size - a := by rw [List.length_drop, hsz]
  have hg : ∀ j (h : j < (s.data.toList.drop a).length) (h2 : a + j < s.size), (s.data.toList.drop a)[j] = s[a + j] := fun j h h2 => by rw [List.getElem_drop]; rfl
  have hle : k ≤ cntD (s.data.toList.drop a) := cntD_ge _ _ (fun j hj hk => by
    obtain ⟨h, e⟩ := hall j hk
    rw [hg j hj h]
    exact e) (by omega)
  rcases hstop with h | h | ⟨h, e⟩
  · omega
  · have := cntD_le (s.data.toList.drop a)
    omega
  · have : cntD (s.data.toList.drop a) = k := cntD_is _ k (fun j hj hk => by
      obtain ⟨h, e⟩ := hall j hk
      rw [hg j hj h]
      exact e) (by omega) (fun h' => by rw [hg k h' h]; exact e)
    omega

set_option maxHeartbeats 2000000 in
theorem next_any (s : ByteArray) (a most : Nat) (nv : Int) (gs gn ga B : Nat) (W : World) (hs : s.size ≤ 1000000) (ha : a ≤ s.size) (hm : most ≤ 12)
    (hst : NextSt W gs gn ga s nv a) (hd1 : gs ≠ gn) (hd2 : gs ≠ ga) (hd3 : gn ≠ ga) (hB1 : B ≤ gn) (hB2 : B ≤ ga)
    (HB : Hid (∀ k, k ≤ most → 0 ≤ sumV s a nv k ∧ sumV s a nv k ≤ 9000000000000000000)) :
    Calls Tryz.prog 119 #[.int .i64 (most : Int), .pointer (some ⟨ga, 0, none⟩), .pointer (some ⟨gs, 0, none⟩), .pointer (some ⟨gn, 0, none⟩)] W (NextPost s a most nv gs gn ga B W) := by
  have HST := Lib.hid hst
  clear hst
  go_enter Tryz.func119, Tryz.ntmps119
  go_wp2
  go_loopw [6] (fun v wr => NextRel s a most nv gs gn ga B W v wr) (fun v _ => most + 1 - (intOf v).toNat)
  case atStart => exact ⟨0, nv, rfl, Nat.zero_le _, ha, fun j h => absurd h (Nat.not_lt_zero _), HST, Lib.hid (Below.refl _ _), rfl, fun _ => (sumV_zero s a nv).symm⟩
  case round =>
    obtain ⟨k, nv2, rfl, hk, hak, hall, hst, hb, hz, hex⟩ := hrel
    obtain ⟨c1, c2, c3, z1, z2⟩ := hst.out
    by_cases hlt : a + k < s.size
    · have i1 : ((a + k : Nat) : Int) < (s.size : Int) := by omega
      have i2 : (0 : Int) ≤ ((a + k : Nat) : Int) := Int.natCast_nonneg _
      have i3 : ((a + k : Nat) : Int).toNat = a + k := by omega
      by_cases hd : isD s[a + k] = true
      · have hdd := of_decide_eq_true hd
        have h48 : (48 : Int) ≤ ((s[a + k]'hlt).toNat : Int) := by omega
        have h57 : ((s[a + k]'hlt).toNat : Int) ≤ 57 := by omega
        by_cases hkm : k ≤ most
        · have HN := Lib.hid (next_round hm hd1 hd2 hd3 hB1 hB2 HB.out hkm hlt hd hall.out hst.out hb.out hz.out hex.out)
          clear hall hst hb hz hex
          generalize hA : a + k = A at *
          go_wp2
          go_region_with (fail)
          all_goals go_wp2
          all_goals go_roundw
          all_goals first | exact HN.out | (show most + 1 - ((k : Int) + 1).toNat < most + 1 - (k : Int).toNat; omega)
        · have HO := Lib.hid (next_out hak (.inl (by omega)) hk hall.out hst.out hb.out hz.out hex.out)
          have hkm2 : (most : Int) < (k : Int) := by omega
          clear hall hst hb hz hex hkm
          generalize hA : a + k = A at *
          go_wp2
          go_ret
          exact HO.out
      · have HO := Lib.hid (next_out hak (.inr (.inr ⟨hlt, by simpa using hd⟩)) hk hall.out hst.out hb.out hz.out hex.out)
        have hdd : ¬ (48 ≤ (s[a + k]'hlt).toNat ∧ (s[a + k]'hlt).toNat ≤ 57) := fun h => hd (decide_eq_true h)
        clear hall hst hb hz hex hd
        by_cases h1 : 48 ≤ (s[a + k]'hlt).toNat
        · have h48 : (48 : Int) ≤ ((s[a + k]'hlt).toNat : Int) := by omega
          have h57 : (57 : Int) < ((s[a + k]'hlt).toNat : Int) := by omega
          generalize hA : a + k = A at *
          go_wp2
          go_ret
          exact HO.out
        · have h48 : ((s[a + k]'hlt).toNat : Int) < (48 : Int) := by omega
          generalize hA : a + k = A at *
          go_wp2
          go_ret
          exact HO.out
    · have HO := Lib.hid (next_out hak (.inr (.inl hlt)) hk hall.out hst.out hb.out hz.out hex.out)
      have i1 : (s.size : Int) ≤ ((a + k : Nat) : Int) := by omega
      clear hall hst hb hz hex
      generalize hA : a + k = A at *
      go_wp2
      go_ret
      exact HO.out

end Go.Proofs.YtfgopmfaeooadaaGreatDoor
