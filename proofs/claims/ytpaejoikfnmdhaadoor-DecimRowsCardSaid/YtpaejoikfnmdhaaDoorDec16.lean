/- Layer 23: the program's parse. -/
import Derived.Test.YtpaejoikfnmdhaaDoorDec15
import Derived.Deep.QuietTactic
namespace Go.Proofs.YtpaejoikfnmdhaaDoor
set_option linter.unusedVariables false
open Go.RowKit

theorem valD_any (l : List UInt8) : valD l + 29 ≤ 29 * 10 ^ l.length := by
  have key : ∀ r : List UInt8, valD r.reverse + 29 ≤ 29 * 10 ^ r.length := by
    intro r
    induction r with
    | nil => decide
    | cons c r ih =>
      have h2 := c.toNat_lt
      rw [List.reverse_cons, valD_snoc, List.length_cons, Nat.pow_succ]
      omega
  have := key l.reverse
  rw [List.reverse_reverse, List.length_reverse] at this
  exact this
theorem sumV_bound (s : ByteArray) (a : Nat) (nv : Int) (most n : Nat) (h0 : 0 ≤ nv) (h1 : nv < tenI n) (h2 : n + most ≤ 18) (h3 : most ≤ 12) : ∀ k, k ≤ most → 0 ≤ sumV s a nv k ∧ sumV s a nv k ≤ 9000000000000000000 := by
  intro k hk
  unfold sumV
  have e1 := tenI_pos k
  have e2 : nv * tenI k ≤ tenI n * tenI k := Int.mul_le_mul_of_nonneg_right (by omega) (by omega)
  have e3 : tenI n * tenI k ≤ 1000000000000000000 := by
    rw [tenI_cast, tenI_cast, ← Int.natCast_mul, ← Nat.pow_add]
    have : (10 : Nat) ^ (n + k) ≤ 10 ^ 18 := Nat.pow_le_pow_right (by decide) (by omega)
    have e : (10 : Nat) ^ 18 = 1000000000000000000 := by decide
    omega
  have e4 : 0 ≤ nv * tenI k := Int.mul_nonneg h0 (by omega)
  have e5 := valD_any ((s.data.toList.drop a).take k)
  have e6 : (10 : Nat) ^ ((s.data.toList.drop a).take k).length ≤ 10 ^ 12 := Nat.pow_le_pow_right (by decide) (by rw [List.length_take]; omega)
  have e : (10 : Nat) ^ 12 = 1000000000000 := by decide
  omega

theorem quiet_eq {P : Program} {f : FuncId} {args : Array Value} {w : World} {n : Nat} {v : Value}
    (h : Calls P f args (w.drewN n) fun e w' => e = .returned v ∧ w.drewN n = w') : Calls P f args (w.drewN n) fun e w'' => e = .returned v ∧ ∃ m, w'' = w.drewN m :=
  h.mono fun _ _ ⟨he, hm⟩ => ⟨he, n, hm.symm⟩
theorem frozen_past (w : World) (n o : Nat) (h : w.heap.size ≤ n) : w.frozen? ⟨n, o, none⟩ = false := by
  unfold World.frozen?
  rw [Array.getElem?_eq_none h]
theorem next_start (s : ByteArray) (w : World) : NextSt (((w.alloc (.cells #[.string s] 9)).alloc (.cells #[.int .i64 0] 2)).alloc (.cells #[.int .i64 0] 3)) w.heap.size (w.heap.size + 1) (w.heap.size + 1 + 1) s 0 0 := by
  have n1 : (w.alloc (.cells #[.string s] 9)).heap.size = w.heap.size + 1 := by simp
  have n2 : ((w.alloc (.cells #[.string s] 9)).alloc (.cells #[.int .i64 0] 2)).heap.size = w.heap.size + 1 + 1 := by simp
  refine ⟨?_, ?_, ?_, ?_, ?_⟩
  · rw [World.cell?_alloc_past _ _ _ (by omega), World.cell?_alloc_past _ _ _ (by omega), World.cell?_alloc_at _ _ _ _ rfl]; rfl
  · rw [World.cell?_alloc_past _ _ _ (by omega), World.cell?_alloc_at _ _ _ _ n1.symm]; rfl
  · rw [World.cell?_alloc_at _ _ _ _ n2.symm]; rfl
  · rw [frozen?_alloc_cells, frozen?_alloc_cells, frozen?_alloc_cells]; exact frozen_past _ _ _ (by omega)
  · rw [frozen?_alloc_cells, frozen?_alloc_cells, frozen?_alloc_cells]; exact frozen_past _ _ _ (by omega)

set_option maxHeartbeats 2000000 in
/-- The first digits were no good. -/
theorem parse_head (s : ByteArray) (l m f : Nat) (w : World) (hs : s.size ≤ 1000000) (hm : m ≤ 12) (hf : f ≤ 6) (g : cntD s.data.toList < l ∨ m < cntD s.data.toList) :
    Calls Tryd.prog 48 #[.string s, .int .i64 (l : Int), .int .i64 (m : Int), .int .i64 (f : Int)] w fun e w' => e = .returned (.tuple #[.int .i64 0, .bool false]) ∧ Below w.heap.size w w' := by
  have HB : Hid (∀ k, k ≤ m → 0 ≤ sumV s 0 0 k ∧ sumV s 0 0 k ≤ 9000000000000000000) := sumV_bound s 0 0 m 0 (by decide) (by decide) (by omega) hm
  have HX := fun W gs gn ga B h1 h2 h3 h4 h5 h6 => next_any s 0 m 0 gs gn ga B W hs (Nat.zero_le _) hm h1 h2 h3 h4 h5 h6 HB
  go_enter Tryd.func48, Tryd.ntmps48
  go_wp2_with fail
  refine (HX _ w.heap.size (w.heap.size + 1) (w.heap.size + 1 + 1) w.heap.size (next_start s w) (by omega) (by omega) (by omega) (by omega) (by omega)).mono ?_
  rintro e w1 ⟨K, nv2, hK, rfl, hst, hb, hz, hex⟩
  have b1 := Lib.hid (((((Below.refl w.heap.size w).alloc (Nat.le_refl _) _).alloc (by simp) _).alloc (by simp; omega) _).trans hb)
  rw [List.drop_zero] at hK
  clear hst hb hz hex HX HB
  by_cases h : (K : Int) < (l : Int)
  · go_wp2_with fail
    go_ret2
    exact ⟨rfl, b1.out⟩
  · have h2 : (m : Int) < (K : Int) := by omega
    have h1 : (l : Int) ≤ (K : Int) := by omega
    clear hK g h
    go_wp2_with fail
    go_ret2
    exact ⟨rfl, b1.out⟩

set_option maxRecDepth 8000 in
set_option maxHeartbeats 2000000 in
/-- All are digits. -/
theorem parse_all (s : ByteArray) (l m f : Nat) (w : World) (hs : s.size ≤ 1000000) (hm : m ≤ 12) (hf : f ≤ 6) (g : ¬ (cntD s.data.toList < l ∨ m < cntD s.data.toList)) (g2 : cntD s.data.toList = s.data.toList.length) :
    Calls Tryd.prog 48 #[.string s, .int .i64 (l : Int), .int .i64 (m : Int), .int .i64 (f : Int)] w fun e w' => e = .returned (.tuple #[.int .i64 ((valD s.data.toList : Int) * tenI f), .bool true]) ∧ Below w.heap.size w w' := by
  have HB : Hid (∀ k, k ≤ m → 0 ≤ sumV s 0 0 k ∧ sumV s 0 0 k ≤ 9000000000000000000) := sumV_bound s 0 0 m 0 (by decide) (by decide) (by omega) hm
  have HX := fun W gs gn ga B h1 h2 h3 h4 h5 h6 => next_any s 0 m 0 gs gn ga B W hs (Nat.zero_le _) hm h1 h2 h3 h4 h5 h6 HB
  have hA := cntD_take s.data.toList
  rw [g2, List.take_length] at hA
  have hz : s.data.toList.length = s.size := by simp
  have HT := fun W => Lib.hid (ten_any f W (by omega))
  have hv := val_le hA (n := f) (by omega)
  have hv0 : (0 : Int) ≤ (valD s.data.toList : Int) := by omega
  have hv1 : (valD s.data.toList : Int) < tenI 12 := by
    have h1 := valD_lt s.data.toList hA
    have h2 : (10 : Nat) ^ s.data.toList.length ≤ 10 ^ 12 := Nat.pow_le_pow_right (by decide) (by omega)
    rw [tenI_cast]
    omega
  rw [show tenI 12 = 1000000000000 from by decide] at hv1
  have hsum : sumV s 0 0 s.size = (valD s.data.toList : Int) := by
    unfold sumV
    rw [List.drop_zero, ← hz, List.take_length]
    omega
  obtain ⟨V, hVe⟩ : ∃ V, (valD s.data.toList : Int) = V := ⟨_, rfl⟩
  have t1 := tenI_pos f
  obtain ⟨T, hTe⟩ : ∃ T, tenI f = T := ⟨_, rfl⟩
  rw [hVe] at hv0 hv1 hsum
  rw [hVe, hTe] at hv
  rw [hTe] at t1
  simp only [hTe] at HT
  rw [hVe, hTe]
  clear hVe hTe
  go_enter Tryd.func48, Tryd.ntmps48
  go_wp2_with fail
  refine (HX _ w.heap.size (w.heap.size + 1) (w.heap.size + 1 + 1) w.heap.size (next_start s w) (by omega) (by omega) (by omega) (by omega) (by omega)).mono ?_
  rintro e w1 ⟨K, nv2, hK, rfl, hst, hb, hz1, hex⟩
  have b1 := Lib.hid (((((Below.refl w.heap.size w).alloc (Nat.le_refl _) _).alloc (by simp) _).alloc (by simp; omega) _).trans hb)
  rw [List.drop_zero] at hK
  obtain rfl : K = s.size := by omega
  obtain rfl : V = nv2 := by rw [hex (by omega), hsum]
  obtain ⟨c1, c2, c3, -, -⟩ := hst
  have h1 : (l : Int) ≤ (s.size : Int) := by omega
  have h2 : (s.size : Int) ≤ (m : Int) := by omega
  rw [Nat.zero_add] at c3
  clear hK hex hsum HX HB hA g g2 hz hb hz1
  have hw : IntKind.i64.wrap (V * T) = V * T := IntWalk.i64_in _ (by omega)
  have hw2 : wrap64 (V * T) = V * T := IntWalk.wrap64_in _ (by omega)
  have hf0 : (0 : Int) ≤ (f : Int) := by omega
  have hf6 : (f : Int) ≤ 6 := by omega
  have hw3 : IntKind.i64.wrap ((f : Int) - 0) = (f : Int) := by rw [IntWalk.i64_in _ (by omega)]; omega
  have hw4 : IntKind.i64.wrap (f : Int) = (f : Int) := by rw [IntWalk.i64_in _ (by omega)]
  go_wp2_with fail
  go_quiet ((go_at_call 50; exact quiet_eq (HT _).out))
  go_wp2_with fail
  go_ret2
  exact ⟨rfl, bdrewN b1.out _⟩
set_option maxRecDepth 8000 in
set_option maxHeartbeats 2000000 in
/-- No point behind the digits. -/
theorem parse_point (s : ByteArray) (a l m f : Nat) (w : World) (hs : s.size ≤ 1000000) (hm : m ≤ 12) (hf : f ≤ 6) (ha : cntD s.data.toList = a) (h1 : (l : Int) ≤ (a : Int)) (h2 : (a : Int) ≤ (m : Int)) (hlt : a < s.size) (hc : (((s[a]'hlt).toNat : Int) != 46) = true) :
    Calls Tryd.prog 48 #[.string s, .int .i64 (l : Int), .int .i64 (m : Int), .int .i64 (f : Int)] w fun e w' => e = .returned (.tuple #[.int .i64 0, .bool false]) ∧ Below w.heap.size w w' := by
  have HB : Hid (∀ k, k ≤ m → 0 ≤ sumV s 0 0 k ∧ sumV s 0 0 k ≤ 9000000000000000000) := sumV_bound s 0 0 m 0 (by decide) (by decide) (by omega) hm
  have HX := fun W gs gn ga B h1 h2 h3 h4 h5 h6 => next_any s 0 m 0 gs gn ga B W hs (Nat.zero_le _) hm h1 h2 h3 h4 h5 h6 HB
  go_enter Tryd.func48, Tryd.ntmps48
  go_wp2_with fail
  refine (HX _ w.heap.size (w.heap.size + 1) (w.heap.size + 1 + 1) w.heap.size (next_start s w) (by omega) (by omega) (by omega) (by omega) (by omega)).mono ?_
  rintro e w1 ⟨K, nv2, hK, rfl, hst, hb, hz1, hex⟩
  have b1 := Lib.hid (((((Below.refl w.heap.size w).alloc (Nat.le_refl _) _).alloc (by simp) _).alloc (by simp; omega) _).trans hb)
  rw [List.drop_zero, ha] at hK
  obtain rfl : K = a := by omega
  obtain ⟨c1, c2, c3, -, -⟩ := hst
  rw [Nat.zero_add] at c3
  have i1 : (K : Int) < (s.size : Int) := by omega
  have i2 : (0 : Int) ≤ (K : Int) := Int.natCast_nonneg _
  have i3 : (K : Int).toNat = K := by omega
  clear hK hex HX HB ha hb hz1
  go_wp2_with fail
  go_ret2
  exact ⟨rfl, b1.out⟩

/-- The second call's start. -/
theorem next_again {s : ByteArray} {gs gn ga : Nat} {w1 : World} {nv : Int} {a : Nat} (h : NextSt w1 gs gn ga s nv a) (hd2 : gs ≠ ga) (hd3 : gn ≠ ga) : NextSt (w1.setCell ⟨ga, 0, none⟩ (.int .i64 ((a : Int) + 1))) gs gn ga s nv (a + 1) := by
  obtain ⟨c1, c2, c3, z1, z2⟩ := h
  refine ⟨?_, ?_, ?_, ?_, ?_⟩
  · rw [World.cell?_setCell_other _ _ _ _ (fun e => by injection e with e; exact hd2 e.symm)]; exact c1
  · rw [World.cell?_setCell_other _ _ _ _ (fun e => by injection e with e; exact hd3 e.symm)]; exact c2
  · rw [World.cell?_setCell_same _ _ _ c3]
    rw [show ((a + 1 : Nat) : Int) = (a : Int) + 1 from by omega]
  · simpa using z1
  · simpa using z2

set_option maxRecDepth 8000 in
set_option maxHeartbeats 2000000 in
/-- What stands behind the point is no good. -/
theorem parse_behind (s : ByteArray) (a b l m f : Nat) (w : World) (hs : s.size ≤ 1000000) (hm : m ≤ 12) (hf : f ≤ 6) (ha : cntD s.data.toList = a) (h1 : (l : Int) ≤ (a : Int)) (h2 : (a : Int) ≤ (m : Int)) (hlt : a < s.size) (hc : (((s[a]'hlt).toNat : Int) != 46) = false) (hbe : cntD (s.data.toList.drop (a + 1)) = b)
    (g : b < 1 ∨ f < b ∨ a + 1 + b ≠ s.size) :
    Calls Tryd.prog 48 #[.string s, .int .i64 (l : Int), .int .i64 (m : Int), .int .i64 (f : Int)] w fun e w' => e = .returned (.tuple #[.int .i64 0, .bool false]) ∧ Below w.heap.size w w' := by
  have HB : Hid (∀ k, k ≤ m → 0 ≤ sumV s 0 0 k ∧ sumV s 0 0 k ≤ 9000000000000000000) := sumV_bound s 0 0 m 0 (by decide) (by decide) (by omega) hm
  have HX := fun W gs gn ga B h1 h2 h3 h4 h5 h6 => next_any s 0 m 0 gs gn ga B W hs (Nat.zero_le _) hm h1 h2 h3 h4 h5 h6 HB
  have hA := cntD_take s.data.toList
  rw [ha] at hA
  have hV : sumV s 0 0 a = (valD (s.data.toList.take a) : Int) := by
    unfold sumV
    rw [List.drop_zero]
    omega
  have hV0 : 0 ≤ sumV s 0 0 a := by rw [hV]; omega
  have hV1 : sumV s 0 0 a < tenI 12 := by
    have e1 := valD_lt _ hA
    have e2 : (10 : Nat) ^ (s.data.toList.take a).length ≤ 10 ^ 12 := Nat.pow_le_pow_right (by decide) (by rw [List.length_take]; omega)
    rw [hV, tenI_cast]
    omega
  have HB2 : Hid (∀ k, k ≤ f → 0 ≤ sumV s (a + 1) (sumV s 0 0 a) k ∧ sumV s (a + 1) (sumV s 0 0 a) k ≤ 9000000000000000000) := sumV_bound s (a + 1) _ f 12 hV0 hV1 (by omega) (by omega)
  have hblen := cntD_le (s.data.toList.drop (a + 1))
  rw [hbe, List.length_drop, show s.data.toList.length = s.size from by simp] at hblen
  obtain ⟨V, hVe⟩ : ∃ V, sumV s 0 0 a = V := ⟨_, rfl⟩
  rw [hVe] at HB2
  have HVE := Lib.hid hVe
  clear hV hV0 hV1 hA hVe
  have HX2 := fun W gs gn ga B h1 h2 h3 h4 h5 h6 => next_any s (a + 1) f V gs gn ga B W hs (by omega) (by omega) h1 h2 h3 h4 h5 h6 HB2
  go_enter Tryd.func48, Tryd.ntmps48
  go_wp2_with fail
  refine (HX _ w.heap.size (w.heap.size + 1) (w.heap.size + 1 + 1) w.heap.size (next_start s w) (by omega) (by omega) (by omega) (by omega) (by omega)).mono ?_
  rintro e w1 ⟨K, nv2, hK, rfl, hst, hb, hz1, hex⟩
  have b1 := Lib.hid (((((Below.refl w.heap.size w).alloc (Nat.le_refl _) _).alloc (by simp) _).alloc (by simp; omega) _).trans hb)
  rw [List.drop_zero, ha] at hK
  obtain rfl : K = a := by omega
  obtain rfl : nv2 = V := (hex (by omega)).trans HVE.out
  rw [Nat.zero_add] at hst
  have hst2 := Lib.hid (next_again hst (by omega) (by omega))
  obtain ⟨c1, c2, c3, -, z3⟩ := hst
  have i1 : (K : Int) < (s.size : Int) := by omega
  have i2 : (0 : Int) ≤ (K : Int) := Int.natCast_nonneg _
  have i3 : (K : Int).toNat = K := by omega
  clear hK hex HX HB ha hb hz1
  go_wp2_with fail
  refine (HX2 _ w.heap.size (w.heap.size + 1) (w.heap.size + 1 + 1) w.heap.size hst2.out (by omega) (by omega) (by omega) (by omega) (by omega)).mono ?_
  rintro e w2 ⟨K2, nv3, hK2, rfl, hst3, hb2, hz2, hex2⟩
  have b2 := Lib.hid ((b1.out.setCell (show w.heap.size ≤ w.heap.size + 1 + 1 by omega) _).trans hb2)
  obtain ⟨d1, d2, d3, -, -⟩ := hst3
  rw [hbe] at hK2
  clear hex2 HX2 HB2 hb2 hz2 hst2 hbe c1 c2 c3 z3
  by_cases k1 : (K2 : Int) < 1
  · go_wp2_with fail
    go_ret2
    exact ⟨rfl, b2.out⟩
  · by_cases k2 : (f : Int) < (K2 : Int)
    · have k3 : (1 : Int) ≤ (K2 : Int) := by omega
      clear hK2 g k1
      go_wp2_with fail
      go_ret2
      exact ⟨rfl, b2.out⟩
    · have k3 : (1 : Int) ≤ (K2 : Int) := by omega
      have k4 : (K2 : Int) ≤ (f : Int) := by omega
      have k5 : ((K + 1 + K2 : Nat) : Int) < (s.size : Int) := by omega
      clear hK2 g k1 k2
      generalize K + 1 + K2 = Z at *
      go_wp2_with fail
      go_ret2
      exact ⟨rfl, b2.out⟩

set_option maxRecDepth 8000 in
set_option maxHeartbeats 2000000 in
/-- A good number with a point. -/
theorem parse_good (s : ByteArray) (a b l m f : Nat) (w : World) (hs : s.size ≤ 1000000) (hm : m ≤ 12) (hf : f ≤ 6) (ha : cntD s.data.toList = a) (h1 : (l : Int) ≤ (a : Int)) (h2 : (a : Int) ≤ (m : Int)) (hlt : a < s.size) (hc : (((s[a]'hlt).toNat : Int) != 46) = false) (hbe : cntD (s.data.toList.drop (a + 1)) = b)
    (g1 : (1 : Int) ≤ (b : Int)) (g2 : b ≤ f) (g3 : a + 1 + b = s.size) :
    Calls Tryd.prog 48 #[.string s, .int .i64 (l : Int), .int .i64 (m : Int), .int .i64 (f : Int)] w fun e w' => e = .returned (.tuple #[.int .i64 ((valD (s.data.toList.take a) : Int) * tenI f + (valD (s.data.toList.drop (a + 1)) : Int) * tenI (f - b)), .bool true]) ∧ Below w.heap.size w w' := by
  have HB : Hid (∀ k, k ≤ m → 0 ≤ sumV s 0 0 k ∧ sumV s 0 0 k ≤ 9000000000000000000) := sumV_bound s 0 0 m 0 (by decide) (by decide) (by omega) hm
  have HX := fun W gs gn ga B h1 h2 h3 h4 h5 h6 => next_any s 0 m 0 gs gn ga B W hs (Nat.zero_le _) hm h1 h2 h3 h4 h5 h6 HB
  have HT := fun W => Lib.hid (ten_any (f - b) W (by omega))
  have hA := cntD_take s.data.toList
  rw [ha] at hA
  have hV : sumV s 0 0 a = (valD (s.data.toList.take a) : Int) := by
    unfold sumV
    rw [List.drop_zero]
    omega
  have hV0 : 0 ≤ sumV s 0 0 a := by rw [hV]; omega
  have hV1 : sumV s 0 0 a < tenI 12 := by
    have e1 := valD_lt _ hA
    have e2 : (10 : Nat) ^ (s.data.toList.take a).length ≤ 10 ^ 12 := Nat.pow_le_pow_right (by decide) (by rw [List.length_take]; omega)
    rw [hV, tenI_cast]
    omega
  have HB2 : Hid (∀ k, k ≤ f → 0 ≤ sumV s (a + 1) (sumV s 0 0 a) k ∧ sumV s (a + 1) (sumV s 0 0 a) k ≤ 9000000000000000000) := sumV_bound s (a + 1) _ f 12 hV0 hV1 (by omega) (by omega)
  have hB := cntD_take (s.data.toList.drop (a + 1))
  have hlen : (s.data.toList.drop (a + 1)).length = b := by rw [List.length_drop, show s.data.toList.length = s.size from by simp]; omega
  rw [hbe, ← hlen, List.take_length] at hB
  have hsum : sumV s (a + 1) (sumV s 0 0 a) b * tenI (f - b) = (valD (s.data.toList.take a) : Int) * tenI f + (valD (s.data.toList.drop (a + 1)) : Int) * tenI (f - b) := by
    rw [show sumV s (a + 1) (sumV s 0 0 a) b = sumV s 0 0 a * tenI b + (valD (s.data.toList.drop (a + 1)) : Int) from by
      unfold sumV
      rw [show (s.data.toList.drop (a + 1)).take b = s.data.toList.drop (a + 1) from by rw [← hlen, List.take_length]], hV, Int.add_mul, Int.mul_assoc]
    rw [show tenI b * tenI (f - b) = tenI f from by
      rw [tenI_cast, tenI_cast, tenI_cast, ← Int.natCast_mul, ← Nat.pow_add, show b + (f - b) = f from by omega]]
  have v1 := val_le hA (n := f) (by rw [List.length_take]; omega)
  have v2 := val_le hB (n := f - b) (by omega)
  have hR : 0 ≤ sumV s (a + 1) (sumV s 0 0 a) b * tenI (f - b) ∧ sumV s (a + 1) (sumV s 0 0 a) b * tenI (f - b) ≤ 2000000000000000000 := by rw [hsum]; omega
  rw [← hsum]
  have hS0 := (HB2.out b g2)
  obtain ⟨S, hSe⟩ : ∃ S, sumV s (a + 1) (sumV s 0 0 a) b = S := ⟨_, rfl⟩
  rw [hSe] at hR hS0 ⊢
  have HSE := Lib.hid hSe
  obtain ⟨V, hVe⟩ : ∃ V, sumV s 0 0 a = V := ⟨_, rfl⟩
  rw [hVe] at HB2 HSE
  have HVE := Lib.hid hVe
  obtain ⟨T, hTe⟩ : ∃ T, tenI (f - b) = T := ⟨_, rfl⟩
  have t1 := tenI_pos (f - b)
  simp only [hTe, show ((f - b : Nat) : Int) = (f : Int) - (b : Int) from by omega] at HT
  rw [hTe] at hR t1 ⊢
  clear hV hV0 hV1 hA hVe hSe hTe v1 v2 hsum hB hlen
  have HX2 := fun W gs gn ga B h1 h2 h3 h4 h5 h6 => next_any s (a + 1) f V gs gn ga B W hs (by omega) (by omega) h1 h2 h3 h4 h5 h6 HB2
  go_enter Tryd.func48, Tryd.ntmps48
  go_wp2_with fail
  refine (HX _ w.heap.size (w.heap.size + 1) (w.heap.size + 1 + 1) w.heap.size (next_start s w) (by omega) (by omega) (by omega) (by omega) (by omega)).mono ?_
  rintro e w1 ⟨K, nv2, hK, rfl, hst, hb, hz1, hex⟩
  have b1 := Lib.hid (((((Below.refl w.heap.size w).alloc (Nat.le_refl _) _).alloc (by simp) _).alloc (by simp; omega) _).trans hb)
  rw [List.drop_zero, ha] at hK
  obtain rfl : a = K := by omega
  obtain rfl : V = nv2 := ((hex (by omega)).trans HVE.out).symm
  rw [Nat.zero_add] at hst
  have hst2 := Lib.hid (next_again hst (by omega) (by omega))
  obtain ⟨c1, c2, c3, -, z3⟩ := hst
  have i1 : (a : Int) < (s.size : Int) := by omega
  have i2 : (0 : Int) ≤ (a : Int) := Int.natCast_nonneg _
  have i3 : (a : Int).toNat = a := by omega
  clear hK hex HX HB ha hb hz1
  go_wp2_with fail
  refine (HX2 _ w.heap.size (w.heap.size + 1) (w.heap.size + 1 + 1) w.heap.size hst2.out (by omega) (by omega) (by omega) (by omega) (by omega)).mono ?_
  rintro e w2 ⟨K2, nv3, hK2, rfl, hst3, hb2, hz2, hex2⟩
  have b2 := Lib.hid ((b1.out.setCell (show w.heap.size ≤ w.heap.size + 1 + 1 by omega) _).trans hb2)
  rw [hbe] at hK2
  obtain rfl : b = K2 := by omega
  obtain rfl : S = nv3 := ((hex2 (by omega)).trans HSE.out).symm
  obtain ⟨d1, d2, d3, -, -⟩ := hst3
  have k4 : (b : Int) ≤ (f : Int) := by omega
  rw [g3] at d3
  clear hex2 HX2 HB2 hb2 hz2 hst2 hbe c1 c2 c3 z3 hK2 HSE HVE
  have hf6 : (f : Int) ≤ 6 := by omega
  have hw : IntKind.i64.wrap (S * T) = S * T := IntWalk.i64_in _ (by omega)
  have hw2 : wrap64 (S * T) = S * T := IntWalk.wrap64_in _ (by omega)
  have hw3 : IntKind.i64.wrap ((f : Int) - (b : Int)) = (f : Int) - (b : Int) := IntWalk.i64_in _ (by omega)
  go_wp2_with fail
  go_quiet ((go_at_call 50; exact quiet_eq (HT _).out))
  go_wp2_with fail
  go_ret2
  exact ⟨rfl, bdrewN b2.out _⟩

/-- parse of the program. -/
theorem parse_any (s : ByteArray) (l m f : Nat) (w : World) (hs : s.size ≤ 1000000) (hm : m ≤ 12) (hf : f ≤ 6) :
    Calls Tryd.prog 48 #[.string s, .int .i64 (l : Int), .int .i64 (m : Int), .int .i64 (f : Int)] w fun e w' => e = .returned (.tuple #[.int .i64 (((parseN s.data.toList l m f).getD 0 : Nat) : Int), .bool (parseN s.data.toList l m f).isSome]) ∧ Below w.heap.size w w' := by
  have hz : s.data.toList.length = s.size := by simp
  unfold parseN
  by_cases g1 : cntD s.data.toList < l ∨ m < cntD s.data.toList
  · rw [if_pos g1]
    exact parse_head s l m f w hs hm hf g1
  rw [if_neg g1]
  by_cases g2 : cntD s.data.toList = s.data.toList.length
  · rw [if_pos g2]
    have h := parse_all s l m f w hs hm hf g1 g2
    rw [tenI_cast, ← Int.natCast_mul] at h
    exact h
  rw [if_neg g2]
  have hle := cntD_le s.data.toList
  obtain ⟨a, ha⟩ : ∃ a, cntD s.data.toList = a := ⟨_, rfl⟩
  rw [ha] at g1 g2 hle ⊢
  have hlt : a < s.size := by omega
  obtain ⟨b, hbe⟩ : ∃ b, cntD (s.data.toList.drop (a + 1)) = b := ⟨_, rfl⟩
  rw [hbe]
  have h46 : s.data.toList[a]? = some 46 ↔ ((s[a]'hlt).toNat : Int) = 46 := by
    rw [List.getElem?_eq_getElem (by omega)]
    constructor
    · intro k; injection k with k
      have k2 : s[a] = 46 := k
      rw [k2]; rfl
    · intro k
      have k2 : s[a] = 46 := UInt8.toNat_inj.1 (by have e : (46 : UInt8).toNat = 46 := rfl; omega)
      exact congrArg some k2
  by_cases g3 : s.data.toList[a]? ≠ some 46 ∨ b < 1 ∨ f < b ∨ a + 1 + b ≠ s.data.toList.length
  · rw [if_pos g3]
    by_cases k46 : ((s[a]'hlt).toNat : Int) = 46
    · refine parse_behind s a b l m f w hs hm hf ha (by omega) (by omega) hlt (by rw [bne_eq_false_iff_eq]; exact k46) hbe ?_
      rcases g3 with g | g | g | g
      · exact absurd (h46.2 k46) g
      · exact .inl g
      · exact .inr (.inl g)
      · exact .inr (.inr (by omega))
    · exact parse_point s a l m f w hs hm hf ha (by omega) (by omega) hlt (by rw [bne_iff_ne]; exact k46)
  · rw [if_neg g3]
    have g4 : s.data.toList[a]? = some 46 := Classical.not_not.1 fun k => g3 (.inl k)
    have h := parse_good s a b l m f w hs hm hf ha (by omega) (by omega) hlt (by rw [bne_eq_false_iff_eq]; exact h46.1 g4) hbe (by omega) (by omega) (by omega)
    rw [tenI_cast, tenI_cast, ← Int.natCast_mul, ← Int.natCast_mul, ← Int.natCast_add] at h
    exact h

end Go.Proofs.YtpaejoikfnmdhaaDoor
