/- Layer 28: Kmh, Agrees; Few of layer 25. -/
import Derived.Test.YtcoohlopafjnmaaDoorMvd
import Derived.Deep.RegionHeld3
namespace Go.Proofs.YtcoohlopafjnmaaDoor
set_option linter.unusedVariables false
open Go.RowKit

def kmhN (n : Int) : Int := ((overQ (1852 * (max 0 (min n 999999))).toNat 1000 : Nat) : Int)
theorem kmhN_range (n : Int) : 0 ≤ kmhN n ∧ kmhN n ≤ 2000000 := by
  unfold kmhN
  have h : (1852 * (max 0 (min n 999999))).toNat ≤ 1851998148 := by omega
  generalize (1852 * (max 0 (min n 999999))).toNat = x at *
  unfold overQ
  split <;> omega
set_option maxHeartbeats 2000000 in
theorem vtgKmh_any (n : Int) (w : World) : Calls Tryd.prog 20 #[.int .i64 n] w fun e w' => e = .returned (.int .i64 (kmhN n)) ∧ Below w.heap.size w w' := by
  have HR : Hid (kmhN n = ((overQ (1852 * (max 0 (min n 999999))).toNat 1000 : Nat) : Int)) := show _ = _ from rfl
  by_cases g1 : n ≤ 0
  · rw [show max 0 (min n 999999) = 0 from by omega] at HR
    have HO : ∀ W', Hid (Calls Tryd.prog 58 #[.int .i64 0, .int .i64 1000] W' fun e w' => e = .returned (.int .i64 (kmhN n)) ∧ ∃ k, w' = W'.drewN k) := fun W' => Lib.hid (by rw [HR.out]; exact Over_pos 0 1000 W' (by omega) (by omega) (by omega))
    generalize kmhN n = R at *
    clear HR
    go_enter Tryd.func20, Tryd.ntmps20
    go_wp2_with fail
    refine ((HO _).out).mono ?_
    rintro e w' ⟨rfl, k, rfl⟩
    go_wp2_with fail
    go_ret
    exact ⟨rfl, below_draws _⟩
  by_cases g2 : 999999 < n
  · rw [show max 0 (min n 999999) = 999999 from by omega] at HR
    have HO : ∀ W', Hid (Calls Tryd.prog 58 #[.int .i64 1851998148, .int .i64 1000] W' fun e w' => e = .returned (.int .i64 (kmhN n)) ∧ ∃ k, w' = W'.drewN k) := fun W' => Lib.hid (by rw [HR.out]; exact Over_pos 1851998148 1000 W' (by omega) (by omega) (by omega))
    generalize kmhN n = R at *
    clear HR
    go_enter Tryd.func20, Tryd.ntmps20
    go_wp2_with fail
    refine ((HO _).out).mono ?_
    rintro e w' ⟨rfl, k, rfl⟩
    go_wp2_with fail
    go_ret
    exact ⟨rfl, below_draws _⟩
  · rw [show max 0 (min n 999999) = n from by omega] at HR
    have HO : ∀ W', Hid (Calls Tryd.prog 58 #[.int .i64 (1852 * n), .int .i64 1000] W' fun e w' => e = .returned (.int .i64 (kmhN n)) ∧ ∃ k, w' = W'.drewN k) := fun W' => Lib.hid (by
      have := Over_pos (1852 * n).toNat 1000 W' (by omega) (by omega) (by omega)
      rw [show (((1852 * n).toNat : Nat) : Int) = 1852 * n from by omega] at this
      rw [HR.out]
      exact this)
    generalize kmhN n = R at *
    clear HR
    have g3 : 0 < n := by omega
    have g4 : n ≤ 999999 := by omega
    clear g1 g2
    go_enter Tryd.func20, Tryd.ntmps20
    go_wp2_with fail
    refine ((HO _).out).mono ?_
    rintro e w' ⟨rfl, k, rfl⟩
    go_wp2_with fail
    go_ret
    exact ⟨rfl, below_draws _⟩
set_option maxHeartbeats 2000000 in
theorem r28Kmh_any (n : Int) (w : World) : Calls Tryd.prog 21 #[.int .i64 n] w fun e w' => e = .returned (.int .i64 (kmhN n)) ∧ Below w.heap.size w w' := by
  have HR : Hid (kmhN n = ((overQ (1852 * (max 0 (min n 999999))).toNat 1000 : Nat) : Int)) := show _ = _ from rfl
  by_cases g1 : n ≤ 0
  · rw [show max 0 (min n 999999) = 0 from by omega] at HR
    have HO : ∀ W', Hid (Calls Tryd.prog 59 #[.int .i64 0, .int .i64 1000] W' fun e w' => e = .returned (.int .i64 (kmhN n)) ∧ W' = w') := fun W' => Lib.hid (by rw [HR.out]; exact r01Over_pos 0 1000 W' (by omega) (by omega) (by omega))
    generalize kmhN n = R at *
    clear HR
    go_enter Tryd.func21, Tryd.ntmps21
    go_wp2_with fail
    refine ((HO _).out).mono ?_
    rintro e w' ⟨rfl, rfl⟩
    go_wp2_with fail
    go_ret
    exact ⟨rfl, Below.refl _ _⟩
  by_cases g2 : 999999 < n
  · rw [show max 0 (min n 999999) = 999999 from by omega] at HR
    have HO : ∀ W', Hid (Calls Tryd.prog 59 #[.int .i64 1851998148, .int .i64 1000] W' fun e w' => e = .returned (.int .i64 (kmhN n)) ∧ W' = w') := fun W' => Lib.hid (by rw [HR.out]; exact r01Over_pos 1851998148 1000 W' (by omega) (by omega) (by omega))
    generalize kmhN n = R at *
    clear HR
    go_enter Tryd.func21, Tryd.ntmps21
    go_wp2_with fail
    refine ((HO _).out).mono ?_
    rintro e w' ⟨rfl, rfl⟩
    go_wp2_with fail
    go_ret
    exact ⟨rfl, Below.refl _ _⟩
  · rw [show max 0 (min n 999999) = n from by omega] at HR
    have HO : ∀ W', Hid (Calls Tryd.prog 59 #[.int .i64 (1852 * n), .int .i64 1000] W' fun e w' => e = .returned (.int .i64 (kmhN n)) ∧ W' = w') := fun W' => Lib.hid (by
      have := r01Over_pos (1852 * n).toNat 1000 W' (by omega) (by omega) (by omega)
      rw [show (((1852 * n).toNat : Nat) : Int) = 1852 * n from by omega] at this
      rw [HR.out]
      exact this)
    generalize kmhN n = R at *
    clear HR
    have g3 : 0 < n := by omega
    have g4 : n ≤ 999999 := by omega
    clear g1 g2
    go_enter Tryd.func21, Tryd.ntmps21
    go_wp2_with fail
    refine ((HO _).out).mono ?_
    rintro e w' ⟨rfl, rfl⟩
    go_wp2_with fail
    go_ret
    exact ⟨rfl, Below.refl _ _⟩

/-- Do both speeds agree? -/
def agreeB (b2 : Bool) (n2 : Int) (b3 : Bool) (n3 : Int) : Bool := !b2 || !b3 || (decide (kmhN n2 - 2 ≤ n3) && decide (n3 ≤ kmhN n2 + 2))
theorem agree_ways (b2 : Bool) (n2 : Int) (b3 : Bool) (n3 : Int) : (b2 = false ∧ agreeB b2 n2 b3 n3 = true) ∨ (b2 = true ∧ b3 = false ∧ agreeB b2 n2 b3 n3 = true) ∨ (b2 = true ∧ b3 = true ∧ (n3 < kmhN n2 - 2 ∧ agreeB b2 n2 b3 n3 = false ∨ kmhN n2 + 2 < n3 ∧ agreeB b2 n2 b3 n3 = false ∨ kmhN n2 - 2 ≤ n3 ∧ n3 ≤ kmhN n2 + 2 ∧ agreeB b2 n2 b3 n3 = true)) := by
  unfold agreeB
  cases b2 with
  | false => exact .inl ⟨rfl, rfl⟩
  | true =>
    cases b3 with
    | false => exact .inr (.inl ⟨rfl, rfl, rfl⟩)
    | true =>
      refine .inr (.inr ⟨rfl, rfl, ?_⟩)
      by_cases h1 : n3 < kmhN n2 - 2
      · exact .inl ⟨h1, by simp; omega⟩
      · by_cases h2 : kmhN n2 + 2 < n3
        · exact .inr (.inl ⟨h2, by simp; omega⟩)
        · exact .inr (.inr ⟨by omega, by omega, by simp; omega⟩)
set_option maxHeartbeats 4000000 in
theorem vtgAgrees_any (b0 : Bool) (n0 : Int) (b1 : Bool) (n1 : Int) (b2 : Bool) (n2 : Int) (b3 : Bool) (n3 : Int) (w : World) :
    Calls Tryd.prog 18 #[vtgV b0 n0 b1 n1 b2 n2 b3 n3] w fun e w' => e = .returned (.bool (agreeB b2 n2 b3 n3)) ∧ Below w.heap.size w w' := by
  have HK := fun W' => Lib.hid (vtgKmh_any n2 W')
  obtain ⟨hr1, hr2⟩ := kmhN_range n2
  have hw := agree_ways b2 n2 b3 n3
  generalize agreeB b2 n2 b3 n3 = X at *
  generalize kmhN n2 = K at *
  have HC : Hid (∀ o, (w.alloc (.cells (vtgC b0 n0 b1 n1 b2 n2 b3 n3) 25)).cell? ⟨w.heap.size, o, none⟩ = (vtgC b0 n0 b1 n1 b2 n2 b3 n3)[o]?) := fun o => World.cell?_alloc_at _ _ _ _ rfl
  rcases hw with ⟨rfl, rfl⟩ | ⟨rfl, rfl, rfl⟩ | ⟨rfl, rfl, ⟨h1, rfl⟩ | ⟨h1, rfl⟩ | ⟨h1, h2, rfl⟩⟩
  all_goals
    go_enter Tryd.func18, Tryd.ntmps18
    go_wp2_with fail
    refine ((HK _).out).mono ?_
    rintro e w1 ⟨rfl, hb1⟩
    have c4 := ((bcell hb1).1 w.heap.size 4 (by simp)).trans (HC.out 4)
    have c6 := ((bcell hb1).1 w.heap.size 6 (by simp)).trans (HC.out 6)
    have c7 := ((bcell hb1).1 w.heap.size 7 (by simp)).trans (HC.out 7)
    have HB := Lib.hid (bthen (below_new w _) hb1)
    clear hb1 HC
    go_wp2_with fail
    go_ret
    exact ⟨by first | rfl | (simp; done) | (simp; omega), HB.out⟩
set_option maxHeartbeats 4000000 in
theorem r28Agrees_any (b0 : Bool) (n0 : Int) (b1 : Bool) (n1 : Int) (b2 : Bool) (n2 : Int) (b3 : Bool) (n3 : Int) (w : World) :
    Calls Tryd.prog 19 #[vtgV b0 n0 b1 n1 b2 n2 b3 n3] w fun e w' => e = .returned (.bool (agreeB b2 n2 b3 n3)) ∧ Below w.heap.size w w' := by
  have HK := fun W' => Lib.hid (r28Kmh_any n2 W')
  obtain ⟨hr1, hr2⟩ := kmhN_range n2
  have hw := agree_ways b2 n2 b3 n3
  generalize agreeB b2 n2 b3 n3 = X at *
  generalize kmhN n2 = K at *
  have HC : Hid (∀ o, (w.alloc (.cells (vtgC b0 n0 b1 n1 b2 n2 b3 n3) 25)).cell? ⟨w.heap.size, o, none⟩ = (vtgC b0 n0 b1 n1 b2 n2 b3 n3)[o]?) := fun o => World.cell?_alloc_at _ _ _ _ rfl
  have hw2 : (b2 = false ∨ b2 = true ∧ b3 = false) ∧ X = true ∨ b2 = true ∧ b3 = true ∧ (n3 < K - 2 ∧ X = false ∨ K + 2 < n3 ∧ X = false ∨ K - 2 ≤ n3 ∧ n3 ≤ K + 2 ∧ X = true) := by
    rcases hw with ⟨h, h2⟩ | ⟨h, h2, h3⟩ | h
    · exact .inl ⟨.inl h, h2⟩
    · exact .inl ⟨.inr ⟨h, h2⟩, h3⟩
    · exact .inr h
  clear hw
  rcases hw2 with ⟨rfl | ⟨rfl, rfl⟩, rfl⟩ | ⟨rfl, rfl, h⟩
  · go_enter Tryd.func19, Tryd.ntmps19
    go_wp2
    go_ret
    exact ⟨rfl, below_new _ _⟩
  · go_enter Tryd.func19, Tryd.ntmps19
    go_wp2
    go_ret
    exact ⟨rfl, below_new _ _⟩
  rcases h with ⟨h1, rfl⟩ | ⟨h1, rfl⟩ | ⟨h1, h2, rfl⟩
  all_goals
    go_enter Tryd.func19, Tryd.ntmps19
    go_wp2_with fail
    refine ((HK _).out).mono ?_
    rintro e w1 ⟨rfl, hb1⟩
    have c4 := ((bcell hb1).1 w.heap.size 4 (by simp)).trans (HC.out 4)
    have c6 := ((bcell hb1).1 w.heap.size 6 (by simp)).trans (HC.out 6)
    have c7 := ((bcell hb1).1 w.heap.size 7 (by simp)).trans (HC.out 7)
    have HB := Lib.hid (bthen (below_new w _) hb1)
    clear hb1 HC
    go_wp2_with fail
    go_ret
    exact ⟨by first | rfl | (simp; done) | (simp; omega), HB.out⟩

/-- Are fields few, and short? -/
def fewL (fs : List ByteArray) : Bool := decide (fs.length ≤ 40) && fs.all fun f => decide (f.size ≤ 100)
theorem fewL_iff (fs : List ByteArray) : fewL fs = true ↔ fs.length ≤ 40 ∧ ∀ f ∈ fs, f.size ≤ 100 := by simp [fewL]
set_option maxHeartbeats 2000000 in
theorem r25Few_main (A : Option Addr) (n c : Nat) (fs : List ByteArray) (w : World) (hl : Hid (fs.length = n)) (hs : Hid (Strs w w.heap.size A fs)) (hz : Hid (∀ f ∈ fs, f.size ≤ maxLen)) (hn : n ≤ 40) :
    Calls Tryd.prog 36 #[.slice A n c] w fun e w' => e = .returned (.bool (fewL fs)) ∧ w' = w := by
  have i0 : (n : Int) ≤ 40 := by omega
  go_enter Tryd.func36, Tryd.ntmps36
  go_wp2
  go_loop [3] (fun v => ∃ k : Nat, v = .int .i64 (k : Int) ∧ k ≤ n ∧ Hid (∀ (j : Nat) (h : j < fs.length), j < k → fs[j].size ≤ 100)) (fun v => n - (intOf v).toNat)
  case atStart => exact ⟨0, rfl, Nat.zero_le _, fun j _ h => absurd h (Nat.not_lt_zero _)⟩
  case round =>
    obtain ⟨k, rfl, hk, hall⟩ := hrel
    by_cases hlt : k < n
    · have hkl : k < fs.length := by rw [hl.out]; exact hlt
      obtain ⟨b, off, hAb, hb, hc⟩ := hs.out k hkl
      subst hAb
      have hz1 : fs[k].size ≤ maxLen := hz.out _ (List.getElem_mem _)
      have i3 : (k : Int) < (n : Int) := by omega
      have i4 : (0 : Int) ≤ (k : Int) := by omega
      by_cases hbig : fs[k].size ≤ 100
      · have HN : Hid (∀ (j : Nat) (h : j < fs.length), j < k + 1 → fs[j].size ≤ 100) := fun j h hj => by
          rcases Nat.lt_or_ge j k with q | q
          · exact hall.out j h q
          · obtain rfl : j = k := by omega
            exact hbig
        have i5 : (fs[k].size : Int) ≤ 100 := by omega
        generalize fs[k] = f at hc hbig i5 hz1
        clear hall
        go_wp2_with fail
        go_round
        case rel => exact ⟨k + 1, by go_num, by omega, HN⟩
        case measure => simp [intOf]; omega
      · have i5 : (100 : Int) < (fs[k].size : Int) := by omega
        have HF : Hid (fewL fs = false) := by
          show _ = _
          cases hq : fewL fs with
          | false => rfl
          | true => exact absurd (((fewL_iff fs).1 hq).2 _ (List.getElem_mem _)) hbig
        unfold maxLen at hz1
        generalize fs[k] = f at hc hbig i5 hz1
        clear hall
        go_wp2_with fail
        go_ret
        exact ⟨by rw [HF.out]; rfl, rfl⟩
    · have HF : Hid (fewL fs = true) := (fewL_iff fs).2 ⟨by rw [hl.out]; exact hn, fun f hf => by
        obtain ⟨j, hj, rfl⟩ := List.mem_iff_getElem.1 hf
        exact hall.out j hj (by rw [hl.out] at hj; omega)⟩
      have i3 : (n : Int) ≤ (k : Int) := by omega
      clear hall
      go_wp2_with fail
      go_ret
      exact ⟨by rw [HF.out]; rfl, rfl⟩
theorem r25Few_any (A : Option Addr) (n c : Nat) (fs : List ByteArray) (w : World) (hl : fs.length = n) (hs : Strs w w.heap.size A fs) (hz : ∀ f ∈ fs, f.size ≤ maxLen) (hm : n ≤ maxLen) :
    Calls Tryd.prog 36 #[.slice A n c] w fun e w' => e = .returned (.bool (fewL fs)) ∧ w' = w := by
  by_cases h : n ≤ 40
  · exact r25Few_main A n c fs w hl hs hz h
  · have HF : Hid (fewL fs = false) := by
      show _ = _
      cases hq : fewL fs with
      | false => rfl
      | true => exact absurd ((fewL_iff fs).1 hq).1 (by omega)
    unfold maxLen at hm
    have i0 : (40 : Int) < (n : Int) := by omega
    clear hs hz
    go_enter Tryd.func36, Tryd.ntmps36
    go_wp2
    go_ret
    exact ⟨by rw [HF.out]; rfl, rfl⟩
end Go.Proofs.YtcoohlopafjnmaaDoor
