/- Layer 28: Kmh, Agrees; Few of layer 25. -/
import Derived.Test.YtcoohlopafjnmaaDoorMvd
import Derived.Deep.RegionHeld3
import Derived.Test.YtcoohlopafjnmaaDoorMvc
namespace Go.Proofs.YtcoohlopafjnmaaDoor
set_option linter.unusedVariables false
open Go.RowKit

def kmhN (n : Int) : Int := ((overQ (1852 * (max 0 (min n 999999))).toNat 1000 : Nat) : Int)
theorem kmhN_range (n : Int) : 0 ≤ kmhN n ∧ kmhN n ≤ 2000000 := by
  unfold kmhN
  have h : (1852 * (max 0 (min n 999999))).toNat ≤ 1851998148 := by omega
  generalize (1852 * (max 0 (min n 999999))).toNat = x at *
  unfold overQ
  split <;> omega
set_option maxHeartbeats 2000000 in
theorem vtgKmh_any (n : Int) (w : World) : Calls Tryd.prog 20 #[.int .i64 n] w fun e w' => e = .returned (.int .i64 (kmhN n)) ∧ Below w.heap.size w w' := by
  have HR : Hid (kmhN n = ((overQ (1852 * (max 0 (min n 999999))).toNat 1000 : Nat) : Int)) := show _ = _ from rfl
  by_cases g1 : n ≤ 0
  · rw [show max 0 (min n 999999) = 0 from by omega] at HR
    have HO : ∀ W', Hid (Calls Tryd.prog 58 #[.int .i64 0, .int .i64 1000] W' fun e w' => e = .returned (.int .i64 (kmhN n)) ∧ ∃ k, w' = W'.drewN k) := fun W' => Lib.hid (by rw [HR.out]; exact Over_pos 0 1000 W' (by omega) (by omega) (by omega))
    generalize kmhN n = R at *
    clear HR
    go_enter Tryd.func20, Tryd.ntmps20
    go_wp2_with fail
    refine ((HO _).out).mono ?_
    rintro e w' ⟨rfl, k, rfl⟩
    go_wp2_with fail
    go_ret
    exact ⟨rfl, below_draws _⟩
  by_cases g2 : 999999 < n
  · rw [show max 0 (min n 999999) = 999999 from by omega] at HR
    have HO : ∀ W', Hid (Calls Tryd.prog 58 #[.int .i64 1851998148, .int .i64 1000] W' fun e w' => e = .returned (.int .i64 (kmhN n)) ∧ ∃ k, w' = W'.drewN k) := fun W' => Lib.hid (by rw [HR.out]; exact Over_pos 1851998148 1000 W' (by omega) (by omega) (by omega))
    generalize kmhN n = R at *
    clear HR
    go_enter Tryd.func20, Tryd.ntmps20
    go_wp2_with fail
    refine ((HO _).out).mono ?_
    rintro e w' ⟨rfl, k, rfl⟩
    go_wp2_with fail
    go_ret
    exact ⟨rfl, below_draws _⟩
  · rw [show max 0 (min n 999999) = n from by omega] at HR
    have HO : ∀ W', Hid (Calls Tryd.prog 58 #[.int .i64 (1852 * n), .int .i64 1000] W' fun e w' => e = .returned (.int .i64 (kmhN n)) ∧ ∃ k, w' = W'.drewN k) := fun W' => Lib.hid (by
      have := Over_pos (1852 * n).toNat 1000 W' (by omega) (by omega) (by omega)
      rw [show (((1852 * n).toNat : Nat) : Int) = 1852 * n from by omega] at this
      rw [HR.out]
      exact this)
    generalize kmhN n = R at *
    clear HR
    have g3 : 0 < n := by omega
    have g4 : n ≤ 999999 := by omega
    clear g1 g2
    go_enter Tryd.func20, Tryd.ntmps20
    go_wp2_with fail
    refine ((HO _).out).mono ?_
    rintro e w' ⟨rfl, k, rfl⟩
    go_wp2_with fail
    go_ret
    exact ⟨rfl, below_draws _⟩
set_option maxHeartbeats 2000000 in
theorem r28Kmh_any (n : Int) (w : World) : Calls Tryd.prog 21 #[.int .i64 n] w fun e w' => e = .returned (.int .i64 (kmhN n)) ∧ Below w.heap.size w w' := by
  have HR : Hid (kmhN n = ((overQ (1852 * (max 0 (min n 999999))).toNat 1000 : Nat) : Int)) := show _ = _ from rfl
  by_cases g1 : n ≤ 0
  · rw [show max 0 (min n 999999) = 0 from by omega] at HR
    have HO : ∀ W', Hid (Calls Tryd.prog 59 #[.int .i64 0, .int .i64 1000] W' fun e w' => e = .returned (.int .i64 (kmhN n)) ∧ W' = w') := fun W' => Lib.hid (by rw [HR.out]; exact r01Over_pos 0 1000 W' (by omega) (by omega) (by omega))
    generalize kmhN n = R at *
    clear HR
    go_enter Tryd.func21, Tryd.ntmps21
    go_wp2_with fail
    refine ((HO _).out).mono ?_
    rintro e w' ⟨rfl, rfl⟩
    go_wp2_with fail
    go_ret
    exact ⟨rfl, Below.refl _ _⟩
  by_cases g2 : 999999 < n
  · rw [show max 0 (min n 999999) = 999999 from by omega] at HR
    have HO : ∀ W', Hid (Calls Tryd.prog 59 #[.int .i64 1851998148, .int .i64 1000] W' fun e w' => e = .returned (.int .i64 (kmhN n)) ∧ W' = w') := fun W' => Lib.hid (by rw [HR.out]; exact r01Over_pos 1851998148 1000 W' (by omega) (by omega) (by omega))
    generalize kmhN n = R at *
    clear HR
    go_enter Tryd.func21, Tryd.ntmps21
    go_wp2_with fail
    refine ((HO _).out).mono ?_
    rintro e w' ⟨rfl, rfl⟩
    go_wp2_with fail
    go_ret
    exact ⟨rfl, Below.refl _ _⟩
  · rw [show max 0 (min n 999999) = n from by omega] at HR
    have HO : ∀ W', Hid (Calls Tryd.prog 59 #[.int .i64 (1852 * n), .int .i64 1000] W' fun e w' => e = .returned (.int .i64 (kmhN n)) ∧ W' = w') := fun W' => Lib.hid (by
      have := r01Over_pos (1852 * n).toNat 1000 W' (by omega) (by omega) (by omega)
      rw [show (((1852 * n).toNat : Nat) : Int) = 1852 * n from by omega] at this
      rw [HR.out]
      exact this)
    generalize kmhN n = R at *
    clear HR
    have g3 : 0 < n := by omega
    have g4 : n ≤ 999999 := by omega
    clear g1 g2
    go_enter Tryd.func21, Tryd.ntmps21
    go_wp2_with fail
    refine ((HO _).out).mono ?_
    rintro e w' ⟨rfl, rfl⟩
    go_wp2_with fail
    go_ret
    exact ⟨rfl, Below.refl _ _⟩

/-- Do both speeds agree? -/
def agreeB (b2 : Bool) (n2 : Int) (b3 : Bool) (n3 : Int) : Bool := !b2 || !b3 || (decide (kmhN n2 - 2 ≤ n3) && decide (n3 ≤ kmhN n2 + 2))
theorem agree_ways (b2 : Bool) (n2 : Int) (b3 : Bool) (n3 : Int) : (b2 = false ∧ agreeB b2 n2 b3 n3 = true) ∨ (b2 = true ∧ b3 = false ∧ agreeB b2 n2 b3 n3 = true) ∨ (b2 = true ∧ b3 = true ∧ (n3 < kmhN n2 - 2 ∧ agreeB b2 n2 b3 n3 = false ∨ kmhN n2 + 2 < n3 ∧ agreeB b2 n2 b3 n3 = false ∨ kmhN n2 - 2 ≤ n3 ∧ n3 ≤ kmhN n2 + 2 ∧ agreeB b2 n2 b3 n3 = true)) := by
  unfold agreeB
  cases b2 with
  | false => exact .inl ⟨rfl, rfl⟩
  | true =>
    cases b3 with
    | false => exact .inr (.inl ⟨rfl, rfl, rfl⟩)
    | true =>
      refine .inr (.inr ⟨rfl, rfl, ?_⟩)
      by_cases h1 : n3 < kmhN n2 - 2
      · exact .inl ⟨h1, by simp; omega⟩
      · by_cases h2 : kmhN n2 + 2 < n3
        · exact .inr (.inl ⟨h2, by simp; omega⟩)
        · exact .inr (.inr ⟨by omega, by omega, by simp; omega⟩)
set_option maxHeartbeats 4000000 in
theorem vtgAgrees_any (b0 : Bool) (n0 : Int) (b1 : Bool) (n1 : Int) (b2 : Bool) (n2 : Int) (b3 : Bool) (n3 : Int) (w : World) :
    Calls Tryd.prog 18 #[vtgV b0 n0 b1 n1 b2 n2 b3 n3] w fun e w' => e = .returned (.bool (agreeB b2 n2 b3 n3)) ∧ Below w.heap.size w w' := by
  have HK := fun W' => Lib.hid (vtgKmh_any n2 W')
  obtain ⟨hr1, hr2⟩ := kmhN_range n2
  have hw := agree_ways b2 n2 b3 n3
  generalize agreeB b2 n2 b3 n3 = X at *
  generalize kmhN n2 = K at *
  have HC : Hid (∀ o, (w.alloc (.cells (vtgC b0 n0 b1 n1 b2 n2 b3 n3) 25)).cell? ⟨w.heap.size, o, none⟩ = (vtgC b0 n0 b1 n1 b2 n2 b3 n3)[o]?) := fun o => World.cell?_alloc_at _ _ _ _ rfl
  rcases hw with ⟨rfl, rfl⟩ | ⟨rfl, rfl, rfl⟩ | ⟨rfl, rfl, ⟨h1, rfl⟩ | ⟨h1, rfl⟩ | ⟨h1, h2, rfl⟩⟩
  all_goals
    go_enter Tryd.func18, Tryd.ntmps18
    go_wp2_with fail
    refine ((HK _).out).mono ?_
    rintro e w1 ⟨rfl, hb1⟩
    have c4 := ((bcell hb1).1 w.heap.size 4 (by simp)).trans (HC.out 4)
    have c6 := ((bcell hb1).1 w.heap.size 6 (by simp)).trans (HC.out 6)
    have c7 := ((bcell hb1).1 w.heap.size 7 (by simp)).trans (HC.out 7)
    have HB := Lib.hid (bthen (below_new w _) hb1)
    clear hb1 HC
    go_wp2_with fail
    go_ret
    exact ⟨by first | rfl | (simp; done) | (simp; omega), HB.out⟩
set_option maxHeartbeats 4000000 in
theorem r28Agrees_any (b0 : Bool) (n0 : Int) (b1 : Bool) (n1 : Int) (b2 : Bool) (n2 : Int) (b3 : Bool) (n3 : Int) (w : World) :
    Calls Tryd.prog 19 #[vtgV b0 n0 b1 n1 b2 n2 b3 n3] w fun e w' => e = .returned (.bool (agreeB b2 n2 b3 n3)) ∧ Below w.heap.size w w' := by
  have HK := fun W' => Lib.hid (r28Kmh_any n2 W')
  obtain ⟨hr1, hr2⟩ := kmhN_range n2
  have hw := agree_ways b2 n2 b3 n3
  generalize agreeB b2 n2 b3 n3 = X at *
  generalize kmhN n2 = K at *
  have HC : Hid (∀ o, (w.alloc (.cells (vtgC b0 n0 b1 n1 b2 n2 b3 n3) 25)).cell? ⟨w.heap.size, o, none⟩ = (vtgC b0 n0 b1 n1 b2 n2 b3 n3)[o]?) := fun o => World.cell?_alloc_at _ _ _ _ rfl
  have hw2 : (b2 = false ∨ b2 = true ∧ b3 = false) ∧ X = true ∨ b2 = true ∧ b3 = true ∧ (n3 < K - 2 ∧ X = false ∨ K + 2 < n3 ∧ X = false ∨ K - 2 ≤ n3 ∧ n3 ≤ K + 2 ∧ X = true) := by
    rcases hw with ⟨h, h2⟩ | ⟨h, h2, h3⟩ | h
    · exact .inl ⟨.inl h, h2⟩
    · exact .inl ⟨.inr ⟨h, h2⟩, h3⟩
    · exact .inr h
  clear hw
  rcases hw2 with ⟨rfl | ⟨rfl, rfl⟩, rfl⟩ | ⟨rfl, rfl, h⟩
  · go_enter Tryd.func19, Tryd.ntmps19
    go_wp2
    go_ret
    exact ⟨rfl, below_new _ _⟩
  · go_enter Tryd.func19, Tryd.ntmps19
    go_wp2
    go_ret
    exact ⟨rfl, below_new _ _⟩
  rcases h with ⟨h1, rfl⟩ | ⟨h1, rfl⟩ | ⟨h1, h2, rfl⟩
  all_goals
    go_enter Tryd.func19, Tryd.ntmps19
    go_wp2_with fail
    refine ((HK _).out).mono ?_
    rintro e w1 ⟨rfl, hb1⟩
    have c4 := ((bcell hb1).1 w.heap.size 4 (by simp)).trans (HC.out 4)
    have c6 := ((bcell hb1).1 w.heap.size 6 (by simp)).trans (HC.out 6)
    have c7 := ((bcell hb1).1 w.heap.size 7 (by simp)).trans (HC.out 7)
    have HB := Lib.hid (bthen (below_new w _) hb1)
    clear hb1 HC
    go_wp2_with fail
    go_ret
    exact ⟨by first | rfl | (simp; done) | (simp; omega), HB.out⟩

/-- Are fields few, and short? -/
def fewL (fs : List ByteArray) : Bool := decide (fs.length ≤ 40) && fs.all fun f => decide (f.size ≤ 100)
theorem fewL_iff (fs : List ByteArray) : fewL fs = true ↔ fs.length ≤ 40 ∧ ∀ f ∈ fs, f.size ≤ 100 := by simp [fewL]
set_option maxHeartbeats 2000000 in
theorem r25Few_main (A : Option Addr) (n c : Nat) (fs : List ByteArray) (w : World) (hl : Hid (fs.length = n)) (hs : Hid (Strs w w.heap.size A fs)) (hz : Hid (∀ f ∈ fs, f.size ≤ maxLen)) (hn : n ≤ 40) :
    Calls Tryd.prog 36 #[.slice A n c] w fun e w' => e = .returned (.bool (fewL fs)) ∧ w' = w := by
  have i0 : (n : Int) ≤ 40 := by omega
  go_enter Tryd.func36, Tryd.ntmps36
  go_wp2
  go_loop [3] (fun v => ∃ k : Nat, v = .int .i64 (k : Int) ∧ k ≤ n ∧ Hid (∀ (j : Nat) (h : j < fs.length), j < k → fs[j].size ≤ 100)) (fun v => n - (intOf v).toNat)
  case atStart => exact ⟨0, rfl, Nat.zero_le _, fun j _ h => absurd h (Nat.not_lt_zero _)⟩
  case round =>
    obtain ⟨k, rfl, hk, hall⟩ := hrel
    by_cases hlt : k < n
    · have hkl : k < fs.length := by rw [hl.out]; exact hlt
      obtain ⟨b, off, hAb, hb, hc⟩ := hs.out k hkl
      subst hAb
      have hz1 : fs[k].size ≤ maxLen := hz.out _ (List.getElem_mem _)
      have i3 : (k : Int) < (n : Int) := by omega
      have i4 : (0 : Int) ≤ (k : Int) := by omega
      by_cases hbig : fs[k].size ≤ 100
      · have HN : Hid (∀ (j : Nat) (h : j < fs.length), j < k + 1 → fs[j].size ≤ 100) := fun j h hj => by
          rcases Nat.lt_or_ge j k with q | q
          · exact hall.out j h q
          · obtain rfl : j = k := by omega
            exact hbig
        have i5 : (fs[k].size : Int) ≤ 100 := by omega
        generalize fs[k] = f at hc hbig i5 hz1
        clear hall
        go_wp2_with fail
        go_round
        case rel => exact ⟨k + 1, by go_num, by omega, HN⟩
        case measure => simp [intOf]; omega
      · have i5 : (100 : Int) < (fs[k].size : Int) := by omega
        have HF : Hid (fewL fs = false) := by
          show _ = _
          cases hq : fewL fs with
          | false => rfl
          | true => exact absurd (((fewL_iff fs).1 hq).2 _ (List.getElem_mem _)) hbig
        unfold maxLen at hz1
        generalize fs[k] = f at hc hbig i5 hz1
        clear hall
        go_wp2_with fail
        go_ret
        exact ⟨by rw [HF.out]; rfl, rfl⟩
    · have HF : Hid (fewL fs = true) := (fewL_iff fs).2 ⟨by rw [hl.out]; exact hn, fun f hf => by
        obtain ⟨j, hj, rfl⟩ := List.mem_iff_getElem.1 hf
        exact hall.out j hj (by rw [hl.out] at hj; omega)⟩
      have i3 : (n : Int) ≤ (k : Int) := by omega
      clear hall
      go_wp2_with fail
      go_ret
      exact ⟨by rw [HF.out]; rfl, rfl⟩
theorem r25Few_any (A : Option Addr) (n c : Nat) (fs : List ByteArray) (w : World) (hl : fs.length = n) (hs : Strs w w.heap.size A fs) (hz : ∀ f ∈ fs, f.size ≤ maxLen) (hm : n ≤ maxLen) :
    Calls Tryd.prog 36 #[.slice A n c] w fun e w' => e = .returned (.bool (fewL fs)) ∧ w' = w := by
  by_cases h : n ≤ 40
  · exact r25Few_main A n c fs w hl hs hz h
  · have HF : Hid (fewL fs = false) := by
      show _ = _
      cases hq : fewL fs with
      | false => rfl
      | true => exact absurd ((fewL_iff fs).1 hq).1 (by omega)
    unfold maxLen at hm
    have i0 : (40 : Int) < (n : Int) := by omega
    clear hs hz
    go_enter Tryd.func36, Tryd.ntmps36
    go_wp2
    go_ret
    exact ⟨by rw [HF.out]; rfl, rfl⟩
end Go.Proofs.YtcoohlopafjnmaaDoor

/- Layer 28: num, knows; the laws VtgPuts and VtgTakes, walked. Printed by genvtg9.py. -/
namespace Go.Proofs.YtcoohlopafjnmaaDoor
set_option linter.unusedVariables false
open Go.RowKit

theorem num28_any (n : Int) (w : World) : Calls Tryd.prog 17 #[.int .i64 n] w fun e w' => e = .returned (.int .i64 n) ∧ w = w' := by
  go_enter Tryd.func17, Tryd.ntmps17
  go_wp2
  go_ret
  exact ⟨rfl, rfl⟩
theorem knows28_put : putVtg [(false, 0), (false, 0), (false, 0), (true, 0)] = ([ByteArray.empty, ByteArray.empty, ByteArray.empty, ByteArray.empty, ByteArray.empty, ByteArray.empty, ⟨#[48]⟩, ⟨#[75]⟩], 0) := by decide +kernel
theorem knows28_kmh : kmhN 100 = 185 := by decide +kernel
theorem knows28_putc (w : World) : Calls Tryd.prog 14 #[vtgV false 0 false 0 false 0 true 0] w fun e w' => ∃ b off c, e = .returned (.tuple #[.slice (some ⟨b, off, none⟩) 8 c, .int .i64 0]) ∧ w'.cell? ⟨b, off + 1, none⟩ = some (.string ByteArray.empty) ∧ w'.cell? ⟨b, off + 7, none⟩ = some (.string ⟨#[75]⟩) ∧ b < w'.heap.size ∧ Below w.heap.size w w' := by
  refine (vtgPut_any false 0 false 0 false 0 true 0 w).mono ?_
  rw [knows28_put]
  rintro e w' ⟨v, rfl, A, c, rfl, -, h3, -, h5⟩
  obtain ⟨b, off, rfl, hb, h1⟩ := h3 1 (by decide)
  obtain ⟨b', off', e2, -, h7⟩ := h3 7 (by decide)
  injection e2 with e2
  injection e2 with e2 e3
  subst e2 e3
  exact ⟨b, off, c, rfl, h1, h7, hb, h5⟩
set_option maxRecDepth 8000 in
set_option maxHeartbeats 2000000 in
theorem knows28_any (w : World) : Calls Tryd.prog 22 #[] w fun e w' => e = .returned (.bool true) ∧ Below w.heap.size w w' := by
  have HP := fun W => Lib.hid (knows28_putc W)
  have HK := fun W => Lib.hid (vtgKmh_any 100 W)
  rw [knows28_kmh] at HK
  have HA := fun W => Lib.hid (vtgAgrees_any false 0 false 0 false 0 false 0 W)
  have hag : agreeB false 0 false 0 = true := rfl
  rw [hag] at HA
  go_enter Tryd.func22, Tryd.ntmps22
  go_wp2_with fail
  refine ((HP _).out).mono ?_
  rintro e w1 ⟨b, off, c, rfl, h1, h7, hb, hb1⟩
  have HB1 := Lib.hid hb1
  clear hb1
  go_wp2_with fail
  refine ((HK _).out).mono ?_
  rintro e w2 ⟨rfl, hb2⟩
  have k1 := ((bcell hb2).1 b (off + 1) hb).trans h1
  have k7 := ((bcell hb2).1 b (off + 7) hb).trans h7
  have HB2 := Lib.hid (bthen HB1.out hb2)
  clear hb2 h1 h7 HB1
  go_wp2_with fail
  refine (num28_any _ _).mono ?_
  rintro e w' ⟨rfl, rfl⟩
  go_wp2_with fail
  refine ((HA _).out).mono ?_
  rintro e w3 ⟨rfl, hb3⟩
  have HB3 := Lib.hid (bthen HB2.out hb3)
  clear hb3
  go_wp2_with fail
  go_ret
  exact ⟨rfl, HB3.out⟩

theorem vtgS_below {w W W' : World} {b0 : Bool} {n0 : Int} {b1 : Bool} {n1 : Int} {b2 : Bool} {n2 : Int} {b3 : Bool} {n3 : Int} {A B : Option Addr} {fs : List ByteArray} (hb : Below W.heap.size W W') (h : W.cell? ⟨w.heap.size, 0, none⟩ = some (.bool b0) ∧ W.cell? ⟨w.heap.size, 1, none⟩ = some (.int .i64 n0) ∧ W.cell? ⟨w.heap.size, 2, none⟩ = some (.bool b1) ∧ W.cell? ⟨w.heap.size, 3, none⟩ = some (.int .i64 n1) ∧ W.cell? ⟨w.heap.size, 4, none⟩ = some (.bool b2) ∧ W.cell? ⟨w.heap.size, 5, none⟩ = some (.int .i64 n2) ∧ W.cell? ⟨w.heap.size, 6, none⟩ = some (.bool b3) ∧ W.cell? ⟨w.heap.size, 7, none⟩ = some (.int .i64 n3) ∧ Hid (Below w.heap.size w W) ∧ Hid (w.heap.size < W.heap.size) ∧ Hid (Strs W W.heap.size A fs) ∧ Hid (Strs W W.heap.size B fs)) : W'.cell? ⟨w.heap.size, 0, none⟩ = some (.bool b0) ∧ W'.cell? ⟨w.heap.size, 1, none⟩ = some (.int .i64 n0) ∧ W'.cell? ⟨w.heap.size, 2, none⟩ = some (.bool b1) ∧ W'.cell? ⟨w.heap.size, 3, none⟩ = some (.int .i64 n1) ∧ W'.cell? ⟨w.heap.size, 4, none⟩ = some (.bool b2) ∧ W'.cell? ⟨w.heap.size, 5, none⟩ = some (.int .i64 n2) ∧ W'.cell? ⟨w.heap.size, 6, none⟩ = some (.bool b3) ∧ W'.cell? ⟨w.heap.size, 7, none⟩ = some (.int .i64 n3) ∧ Hid (Below w.heap.size w W') ∧ Hid (w.heap.size < W'.heap.size) ∧ Hid (Strs W' W'.heap.size A fs) ∧ Hid (Strs W' W'.heap.size B fs) := by
  obtain ⟨h0, h1, h2, h3, h4, h5, h6, h7, h8, h9, h10, h11⟩ := h
  obtain ⟨c, -⟩ := bcell hb
  exact ⟨(c _ 0 h9.out).trans h0, (c _ 1 h9.out).trans h1, (c _ 2 h9.out).trans h2, (c _ 3 h9.out).trans h3, (c _ 4 h9.out).trans h4, (c _ 5 h9.out).trans h5, (c _ 6 h9.out).trans h6, (c _ 7 h9.out).trans h7, Lib.hid (bthen h8.out hb), Lib.hid (Nat.lt_of_lt_of_le h9.out hb.size), Lib.hid ((h10.out.below hb (Nat.le_refl _)).more hb.size), Lib.hid ((h11.out.below hb (Nat.le_refl _)).more hb.size)⟩

set_option maxRecDepth 8000 in
set_option maxHeartbeats 8000000 in
theorem vtgPuts_any (b0 : Bool) (n0 : Int) (b1 : Bool) (n1 : Int) (b2 : Bool) (n2 : Int) (b3 : Bool) (n3 : Int) (w : World) : Calls Tryd.prog 3 #[vtgV b0 n0 b1 n1 b2 n2 b3 n3] w fun e w' => e = .returned (.bool true) ∧ Below w.heap.size w w' := by
  have HK := fun W => Lib.hid (knows28_any W)
  have HP := fun W => Lib.hid (vtgPut_any b0 n0 b1 n1 b2 n2 b3 n3 W)
  have HQ := fun W => Lib.hid (r28Put_any b0 n0 b1 n1 b2 n2 b3 n3 W)
  have HA := fun W => Lib.hid (vtgAgrees_any b0 n0 b1 n1 b2 n2 b3 n3 W)
  have HA2 := fun W => Lib.hid (r28Agrees_any b0 n0 b1 n1 b2 n2 b3 n3 W)
  have HM := fun W => Lib.hid (vtgKmh_any n2 W)
  have HM2 := fun W => Lib.hid (r28Kmh_any n2 W)
  have hlen : (putVtg [(b0, n0), (b1, n1), (b2, n2), (b3, n3)]).1.length ≤ maxLen := by
    unfold putVtg wrDone maxLen
    simp only
    have : (wrCols vtgK [(b0, n0), (b1, n1), (b2, n2), (b3, n3)] (0, [])).2.length = 8 := by
      show (wrCol _ _ (wrCol _ _ (wrCol _ _ (wrCol _ _ _)))).2.length = _
      rw [wrCol_len, wrCol_len, wrCol_len, wrCol_len]; rfl
    split
    · omega
    · simp
  generalize putVtg [(b0, n0), (b1, n1), (b2, n2), (b3, n3)] = Y at *
  obtain ⟨fs, E⟩ := Y
  generalize agreeB b2 n2 b3 n3 = G at *
  generalize kmhN n2 = K at *
  have hw0 : ∀ o, (w.alloc (.cells (vtgC b0 n0 b1 n1 b2 n2 b3 n3) 25)).cell? ⟨w.heap.size, o, none⟩ = (vtgC b0 n0 b1 n1 b2 n2 b3 n3)[o]? := fun o => World.cell?_alloc_at _ _ _ _ rfl
  have HW0 := Lib.hid hw0
  clear hw0
  go_enter Tryd.func3, Tryd.ntmps3
  go_wp2_with fail
  refine ((HP _).out).mono ?_
  rintro e w1 ⟨v, rfl, A, c, rfl, hA, hsA, hfA, hb1⟩
  have HC1 : Hid (∀ o, w1.cell? ⟨w.heap.size, o, none⟩ = (vtgC b0 n0 b1 n1 b2 n2 b3 n3)[o]?) := fun o => ((bcell hb1).1 _ o (by simp)).trans (HW0.out o)
  have m0 := HC1.out 0
  have m1 := HC1.out 1
  have m2 := HC1.out 2
  have m3 := HC1.out 3
  have m4 := HC1.out 4
  have m5 := HC1.out 5
  have m6 := HC1.out 6
  have m7 := HC1.out 7
  have hz1 : w.heap.size < w1.heap.size := by have := hb1.size; simp at this; omega
  have HZ1 := Lib.hid hz1
  have HB1 := Lib.hid (bthen (below_new w _) hb1)
  have HS1 := Lib.hid hsA
  clear hA hsA hfA hb1 hz1
  go_wp2_with fail
  refine ((HQ _).out).mono ?_
  rintro e w2 ⟨v, rfl, B, d, rfl, hA, hsB, hfA, hb2⟩
  have hsA := (HS1.out.below hb2 (Nat.le_refl _)).more hb2.size
  have HC2 : Hid (∀ o, w2.cell? ⟨w.heap.size, o, none⟩ = (vtgC b0 n0 b1 n1 b2 n2 b3 n3)[o]?) := fun o => ((bcell hb2).1 _ o HZ1.out).trans (HC1.out o)
  have HS0 : Hid (w2.drew.cell? ⟨w.heap.size, 0, none⟩ = some (.bool b0) ∧ w2.drew.cell? ⟨w.heap.size, 1, none⟩ = some (.int .i64 n0) ∧ w2.drew.cell? ⟨w.heap.size, 2, none⟩ = some (.bool b1) ∧ w2.drew.cell? ⟨w.heap.size, 3, none⟩ = some (.int .i64 n1) ∧ w2.drew.cell? ⟨w.heap.size, 4, none⟩ = some (.bool b2) ∧ w2.drew.cell? ⟨w.heap.size, 5, none⟩ = some (.int .i64 n2) ∧ w2.drew.cell? ⟨w.heap.size, 6, none⟩ = some (.bool b3) ∧ w2.drew.cell? ⟨w.heap.size, 7, none⟩ = some (.int .i64 n3) ∧ Hid (Below w.heap.size w w2.drew) ∧ Hid (w.heap.size < w2.drew.heap.size) ∧ Hid (Strs w2.drew w2.drew.heap.size A fs) ∧ Hid (Strs w2.drew w2.drew.heap.size B fs)) := ⟨HC2.out 0, HC2.out 1, HC2.out 2, HC2.out 3, HC2.out 4, HC2.out 5, HC2.out 6, HC2.out 7, Lib.hid (bdrew (bthen HB1.out hb2)), Lib.hid (Nat.lt_of_lt_of_le HZ1.out hb2.size), Lib.hid hsA, Lib.hid hsB⟩
  have HTX : ∀ W, Hid (Strs W W.heap.size A fs) → Hid (Strs W W.heap.size B fs) → Hid (Calls Tryd.prog 16 #[.slice A fs.length c, .slice B fs.length d] W fun e w' => e = .returned (.bool true) ∧ Below W.heap.size W w') := fun W h1 h2 => by
    have := r22Texts_any A B fs fs c d W hlen h1.out h2.out
    rw [decide_eq_true rfl] at this
    exact this
  clear m0 m1 m2 m3 m4 m5 m6 m7 hA hsA hsB hfA hb2 HS1 HC1 HC2 HZ1 HB1 HW0 HP HQ hlen
  go_wp2_with fail
  go_region_held3 (fun w' => w'.cell? ⟨w.heap.size, 0, none⟩ = some (.bool b0) ∧ w'.cell? ⟨w.heap.size, 1, none⟩ = some (.int .i64 n0) ∧ w'.cell? ⟨w.heap.size, 2, none⟩ = some (.bool b1) ∧ w'.cell? ⟨w.heap.size, 3, none⟩ = some (.int .i64 n1) ∧ w'.cell? ⟨w.heap.size, 4, none⟩ = some (.bool b2) ∧ w'.cell? ⟨w.heap.size, 5, none⟩ = some (.int .i64 n2) ∧ w'.cell? ⟨w.heap.size, 6, none⟩ = some (.bool b3) ∧ w'.cell? ⟨w.heap.size, 7, none⟩ = some (.int .i64 n3) ∧ Hid (Below w.heap.size w w') ∧ Hid (w.heap.size < w'.heap.size) ∧ Hid (Strs w' w'.heap.size A fs) ∧ Hid (Strs w' w'.heap.size B fs)) (first | exact HS0.out | assumption | (refine vtgS_below (by assumption) ?_; assumption) | (go_split_ands; refine ⟨?_, ?_, ?_, ?_, ?_, ?_, ?_, ?_, ?_, ?_, ?_, ?_⟩ <;> assumption) | (go_split_ands; refine vtgS_below (by assumption) ⟨?_, ?_, ?_, ?_, ?_, ?_, ?_, ?_, ?_, ?_, ?_, ?_⟩ <;> assumption)) (first | (go_at_call 17; refine (num28_any _ _).mono ?_; rintro e w' ⟨rfl, rfl⟩) | (go_at_call 16; refine (HTX _ (by go_split_ands; assumption) (by go_split_ands; assumption)).out.mono ?_; rintro e w9 ⟨rfl, hb9⟩) | (go_at_call 18; refine (HA _).out.mono ?_; rintro e w9 ⟨rfl, hb9⟩) | (go_at_call 19; refine (HA2 _).out.mono ?_; rintro e w9 ⟨rfl, hb9⟩) | (go_at_call 20; refine (HM _).out.mono ?_; rintro e w9 ⟨rfl, hb9⟩) | (go_at_call 21; refine (HM2 _).out.mono ?_; rintro e w9 ⟨rfl, hb9⟩) | (go_at_call 22; refine (HK _).out.mono ?_; rintro e w9 ⟨rfl, hb9⟩))
  all_goals
    go_wp2_with fail
    go_ret
    go_split_ands
    exact ⟨rfl, Hid.out (by assumption)⟩

end Go.Proofs.YtcoohlopafjnmaaDoor
