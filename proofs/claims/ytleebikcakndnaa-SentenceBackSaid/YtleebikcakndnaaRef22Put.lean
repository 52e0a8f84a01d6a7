/- The contract of the reference's Put of layer 22; Letters, Signs. -/
import Derived.Test.YtleebikcakndnaaSenPut
import Derived.Test.YtleebikcakndnaaRef07b
namespace Go.Proofs.Ytleebikcakndnaa
set_option linter.unusedVariables false
open Go.RowKit

set_option maxHeartbeats 1000000 in
theorem r22Letters_any (s : ByteArray) (w : World) (hm : s.size ≤ 1000000) :
    Calls Try.prog 22 #[.string s] w fun e w' => e = .returned (.bool (allB fieldP s)) ∧ w = w' := by
  go_enter Try.func22, Try.ntmps22
  go_wp2
  go_loop [3] (fun i => ∃ k : Nat, k ≤ s.size ∧ i = .int .i64 k ∧ Hid (∀ j (hj : j < s.size), j < k → fieldP ((s[j]'hj).toNat : Int) = true)) (fun i => s.size - (intOf i).toNat)
  case atStart => exact ⟨0, Nat.zero_le _, rfl, fun j _ h => absurd h (Nat.not_lt_zero _)⟩
  case round =>
    obtain ⟨k, hk, rfl, hall⟩ := hrel
    by_cases hlt : k < s.size
    · cases hc : letterP (s[k].toNat : Int) with
      | false =>
        have HN := Lib.hid (allB_no (p := fieldP) hlt (by simp [fieldP, hc]))
        have HC := Lib.hid hc
        clear hc
        go_wp2_with fail
        refine (r22letter_any _ _).mono ?_
        rintro e w' ⟨rfl, rfl⟩
        rw [HC.out]
        go_wp2_with fail
        go_ret
        exact ⟨by rw [HN.out]; rfl, rfl⟩
      | true =>
        by_cases h44 : (s[k].toNat : Int) = 44
        · have HN := Lib.hid (allB_no (p := fieldP) hlt (by simp [fieldP, h44]))
          have HC := Lib.hid hc
          have hb : ((s[k].toNat : Int) == 44) = true := by rw [beq_iff_eq]; exact h44
          clear hc h44
          go_wp2_with fail
          refine (r22letter_any _ _).mono ?_
          rintro e w' ⟨rfl, rfl⟩
          rw [HC.out]
          go_wp2_with fail
          go_ret
          exact ⟨by rw [HN.out]; rfl, rfl⟩
        · have HY : Hid (fieldP (s[k].toNat : Int) = true) := by
            show fieldP (s[k].toNat : Int) = true
            unfold fieldP
            rw [hc]
            simpa using h44
          have HC := Lib.hid hc
          have hb : ((s[k].toNat : Int) == 44) = false := by rw [beq_eq_false_iff_ne]; exact h44
          clear hc h44
          go_wp2_with fail
          refine (r22letter_any _ _).mono ?_
          rintro e w' ⟨rfl, rfl⟩
          rw [HC.out]
          go_wp2_with fail
          go_round
          case rel =>
            refine ⟨k + 1, by omega, by go_num, fun j hj hjk => ?_⟩
            rcases Nat.lt_or_ge j k with h | h
            · exact hall.out j hj h
            · obtain rfl : j = k := by omega
              exact HY.out
          case measure => simp [intOf]; omega
    · have HY := Lib.hid (allB_yes (p := fieldP) (s := s) (fun j hj => hall.out j hj (by omega)))
      go_wp2_with fail
      go_ret
      exact ⟨by rw [HY.out]; rfl, rfl⟩

set_option maxHeartbeats 1000000 in
theorem r22Signs_any (s : ByteArray) (n : Nat) (w : World) (hm : s.size ≤ 1000000) :
    Calls Try.prog 21 #[.string s, .int .i64 (n : Int)] w fun e w' => e = .returned (.bool (signsP s n)) ∧ w = w' := by
  go_enter Try.func21, Try.ntmps21
  go_wp2
  go_loop [5] (fun i => ∃ k : Nat, k ≤ s.size ∧ i = .int .i64 k ∧ Hid (∀ j (hj : j < s.size), j < k → signP ((s[j]'hj).toNat : Int) = true)) (fun i => s.size - (intOf i).toNat)
  case atStart => exact ⟨0, Nat.zero_le _, rfl, fun j _ h => absurd h (Nat.not_lt_zero _)⟩
  case round =>
    obtain ⟨k, hk, rfl, hall⟩ := hrel
    by_cases hlt : k < s.size
    · cases hc : signP (s[k].toNat : Int) with
      | false =>
        have HN : Hid (signsP s n = false) := by
          show signsP s n = false
          unfold signsP
          rw [allB_no (p := signP) hlt hc]
          simp
        have h' : (s[k].toNat : Int) < 48 ∨ 57 < (s[k].toNat : Int) ∧ (s[k].toNat : Int) < 65 ∨ 90 < (s[k].toNat : Int) := by
          have : ¬ (65 ≤ (s[k].toNat : Int) ∧ (s[k].toNat : Int) ≤ 90 ∨ 48 ≤ (s[k].toNat : Int) ∧ (s[k].toNat : Int) ≤ 57) := by
            intro h
            have : signP (s[k].toNat : Int) = true := by unfold signP; exact decide_eq_true h
            rw [hc] at this
            cases this
          omega
        clear hc
        rcases h' with h | ⟨h, h1⟩ | h
        · go_wp2_with fail
          go_ret
          exact ⟨by rw [HN.out]; rfl, rfl⟩
        · have d1 : decide ((s[k].toNat : Int) ≤ 57) = false := by simp; omega
          go_wp2_with fail
          go_ret
          exact ⟨by rw [HN.out]; rfl, rfl⟩
        · have d1 : decide ((s[k].toNat : Int) ≤ 57) = false := by simp; omega
          have d2 : decide ((s[k].toNat : Int) ≤ 90) = false := by simp; omega
          go_wp2_with fail
          go_ret
          exact ⟨by rw [HN.out]; rfl, rfl⟩
      | true =>
        have HY := Lib.hid hc
        have h' : 65 ≤ (s[k].toNat : Int) ∧ (s[k].toNat : Int) ≤ 90 ∨ 48 ≤ (s[k].toNat : Int) ∧ (s[k].toNat : Int) ≤ 57 := by
          unfold signP at hc
          exact of_decide_eq_true hc
        clear hc
        rcases h' with ⟨h0, h1⟩ | ⟨h0, h1⟩
        all_goals
          go_wp2_with fail
          go_round
          case rel =>
            refine ⟨k + 1, by omega, by go_num, fun j hj hjk => ?_⟩
            rcases Nat.lt_or_ge j k with h | h
            · exact hall.out j hj h
            · obtain rfl : j = k := by omega
              exact HY.out
          case measure => simp [intOf]; omega
    · have hY := allB_yes (p := signP) (s := s) (fun j hj => hall.out j hj (by omega))
      by_cases hn : s.size = n
      · have HY : Hid (signsP s n = true) := by show signsP s n = true; simp [signsP, hn, hY]
        have hb : ((s.size : Int) == (n : Int)) = true := by rw [beq_iff_eq]; omega
        clear hn hY
        go_wp2_with fail
        go_ret
        exact ⟨by rw [HY.out]; rfl, rfl⟩
      · have HY : Hid (signsP s n = false) := by show signsP s n = false; simp [signsP, hn]
        have hb : ((s.size : Int) == (n : Int)) = false := by rw [beq_eq_false_iff_ne]; omega
        clear hn hY
        go_wp2_with fail
        go_ret
        exact ⟨by rw [HY.out]; rfl, rfl⟩


/-- How the reference goes on with a field: how long the text is (up to 1000), and the text, as long as that is short. -/
def stepR (p : Nat × List UInt8) (f : ByteArray) : Nat × List UInt8 :=
  if min (p.1 + 1 + min f.size 100) 1000 ≤ 100 then (min (p.1 + 1 + min f.size 100) 1000, p.2 ++ (44 :: f.data.toList)) else (min (p.1 + 1 + min f.size 100) 1000, p.2)
def stR (t y : ByteArray) (fs : List ByteArray) : Nat × List UInt8 := fs.foldl stepR (10, t.data.toList ++ y.data.toList)
theorem stR_snoc (t y : ByteArray) (fs : List ByteArray) (f : ByteArray) : stR t y (fs ++ [f]) = stepR (stR t y fs) f := by simp [stR]
theorem stR_inv (t y : ByteArray) (h5 : t.size + y.size = 5) (fs : List ByteArray) :
    ((stR t y fs).1 ≤ 100 ∧ (stR t y fs).2 = bodyL t y fs ∧ (stR t y fs).1 = (bodyL t y fs).length + 5 ∨ 100 < (stR t y fs).1 ∧ 95 < (bodyL t y fs).length) ∧ (stR t y fs).1 ≤ 1000 ∧ (stR t y fs).2.length ≤ 95 := by
  obtain ⟨gs, hg⟩ : ∃ gs, fs = gs.reverse := ⟨fs.reverse, by simp⟩
  subst hg
  induction gs with
  | nil =>
    have : (bodyL t y []).length = 5 := by simp [bodyL]; omega
    have h2 : t.data.toList.length = t.size := by simp
    have h3 : y.data.toList.length = y.size := by simp
    refine ⟨.inl ⟨by simp [stR], by simp [stR, bodyL], by simp [stR]; omega⟩, by simp [stR], ?_⟩
    show (t.data.toList ++ y.data.toList).length ≤ 95
    rw [List.length_append]
    omega
  | cons f gs ih =>
    rw [List.reverse_cons, stR_snoc, bodyL_snoc, List.length_append, List.length_cons]
    have hf : f.data.toList.length = f.size := by simp
    rw [hf]
    obtain ⟨h1, h2, h3⟩ := ih
    obtain ⟨L, hL⟩ : ∃ L, L = (stR t y gs.reverse).1 := ⟨_, rfl⟩
    obtain ⟨B, hB⟩ : ∃ B, B = (stR t y gs.reverse).2 := ⟨_, rfl⟩
    rw [← hL, ← hB] at h1
    rw [← hL] at h2
    rw [← hB] at h3
    unfold stepR
    rw [← hL, ← hB]
    by_cases hc : min (L + 1 + min f.size 100) 1000 ≤ 100
    · rw [if_pos hc]
      rcases h1 with ⟨a, b, c⟩ | ⟨a, b⟩
      · refine ⟨.inl ⟨hc, by rw [b], ?_⟩, by show min _ _ ≤ 1000; omega, ?_⟩
        · show min (L + 1 + min f.size 100) 1000 = _
          omega
        · show (B ++ (44 :: f.data.toList)).length ≤ 95
          rw [List.length_append, List.length_cons, hf, b]
          omega
      · omega
    · rw [if_neg hc]
      refine ⟨.inr ⟨by show 100 < min _ _; omega, ?_⟩, by show min _ _ ≤ 1000; omega, h3⟩
      rcases h1 with ⟨a, b, c⟩ | ⟨a, b⟩
      · omega
      · omega

theorem stR_end (t y : ByteArray) (fs : List ByteArray) (h5 : t.size + y.size = 5) :
    (82 < (textS t y fs).size ↔ 81 < (stR t y fs).1 ∨ 76 < (stR t y fs).2.length) ∧ (¬ 82 < (textS t y fs).size → (stR t y fs).2 = bodyL t y fs) := by
  have hz := textS_size t y fs
  obtain ⟨h1, h2, h3⟩ := stR_inv t y h5 fs
  rw [hz]
  rcases h1 with ⟨a, b, c⟩ | ⟨a, b⟩
  · rw [b]
    exact ⟨by omega, fun _ => rfl⟩
  · exact ⟨by omega, fun h => by omega⟩

theorem min_if (L z : Nat) : (if (1000 : Int) < (L : Int) + 1 + (if (100 : Int) < (z : Int) then 100 else (z : Int)) then 1000 else (L : Int) + 1 + (if (100 : Int) < (z : Int) then 100 else (z : Int))) = ((min (L + 1 + min z 100) 1000 : Nat) : Int) := by
  split <;> split <;> omega
theorem sealB_len (S : ByteArray) : (sealB S).size = S.size + 3 := by
  unfold sealB
  simp only [ByteArray.size_append]
  rfl

set_option maxHeartbeats 1000000 in
theorem r22Put_t (t y : ByteArray) (A : Option Addr) (n c : Nat) (w : World) (ht : t.size ≤ 1000000) (h : Hid (signsP t 2 = false)) :
    Calls Try.prog 10 #[.agg #[.string t, .string y, .slice A n c]] w fun e w' => e = .returned (.tuple #[.string ByteArray.empty, .int .i64 1]) ∧ Below w.heap.size w w' := by
  go_enter Try.func10, Try.ntmps10
  go_wp2_with fail
  refine (r22Signs_any t 2 _ ht).mono ?_
  rintro e w1 ⟨rfl, rfl⟩
  rw [h.out]
  go_wp2_with fail
  go_ret2
  exact ⟨rfl, below_new _ _⟩

set_option maxHeartbeats 1000000 in
theorem r22Put_y (t y : ByteArray) (A : Option Addr) (n c : Nat) (w : World) (ht : t.size ≤ 1000000) (hy : y.size ≤ 1000000) (h : Hid (signsP t 2 = true)) (h2 : Hid (signsP y 3 = false)) :
    Calls Try.prog 10 #[.agg #[.string t, .string y, .slice A n c]] w fun e w' => e = .returned (.tuple #[.string ByteArray.empty, .int .i64 1]) ∧ Below w.heap.size w w' := by
  go_enter Try.func10, Try.ntmps10
  go_wp2_with fail
  refine (r22Signs_any t 2 _ ht).mono ?_
  rintro e w1 ⟨rfl, rfl⟩
  rw [h.out]
  go_wp2_with fail
  refine (r22Signs_any y 3 _ hy).mono ?_
  rintro e w1 ⟨rfl, rfl⟩
  rw [h2.out]
  go_wp2_with fail
  go_ret2
  exact ⟨rfl, below_new _ _⟩

set_option maxHeartbeats 2000000 in
theorem r22Put_loop (t y : ByteArray) (fs : List ByteArray) (A : Option Addr) (n c : Nat) (w : World) (hn : Hid (n = fs.length)) (hn1 : n ≤ 1000) (hfsz : Hid (∀ f ∈ fs, f.size ≤ 100000))
    (hs : Hid (Strs w w.heap.size A fs)) (h : Hid (signsP t 2 = true)) (h2 : Hid (signsP y 3 = true)) (ht : t.size ≤ 2) (hy : y.size ≤ 3) (h5 : Hid (t.size + y.size = 5)) :
    Calls Try.prog 10 #[.agg #[.string t, .string y, .slice A n c]] w (PutPost t y fs w) := by
  go_enter Try.func10, Try.ntmps10
  go_wp2_with fail
  refine (r22Signs_any t 2 _ (by omega)).mono ?_
  rintro e w1 ⟨rfl, rfl⟩
  rw [h.out]
  go_wp2_with fail
  refine (r22Signs_any y 3 _ (by omega)).mono ?_
  rintro e w1 ⟨rfl, rfl⟩
  rw [h2.out]
  have hst0 : Hid (stR t y (fs.take 0) = (10, t.data.toList ++ y.data.toList)) := rfl
  go_wp2_with fail
  go_loop [4, 5, 6] (fun body long i => ∃ k : Nat, k ≤ n ∧ i = .int .i64 k ∧ long = .int .i64 ((stR t y (fs.take k)).1 : Int) ∧ body = .string ⟨(stR t y (fs.take k)).2.toArray⟩ ∧
      Hid (∀ j (hj : j < fs.length), j < k → allB fieldP (fs[j]'hj) = true)) (fun _ _ i => n - (intOf i).toNat)
  case atStart =>
    refine ⟨0, Nat.zero_le _, rfl, by rw [hst0.out]; rfl, ?_, fun j _ h => absurd h (Nat.not_lt_zero _)⟩
    rw [hst0.out]
    obtain ⟨⟨lt⟩⟩ := t
    obtain ⟨⟨ly⟩⟩ := y
    exact congrArg Value.string (ByteArray.mk_append_mk lt ly)
  case round =>
    obtain ⟨k, hk, rfl, rfl, rfl, hall⟩ := hrel
    obtain ⟨hi1, hi2, hi3⟩ := stR_inv t y h5.out (fs.take k)
    have HI := Lib.hid hi1
    clear hi1
    by_cases hlt : k < n
    · have hkf : k < fs.length := by rw [← hn.out]; exact hlt
      obtain ⟨ab, ao, hA, hab, hc⟩ := hs.out k hkf
      subst hA
      have hfz := hfsz.out fs[k] (List.getElem_mem hkf)
      have HS : Hid (stR t y (fs.take (k + 1)) = stepR (stR t y (fs.take k)) fs[k]) := by show _ = _; rw [List.take_succ_eq_append_getElem hkf, stR_snoc]
      obtain ⟨f, hf⟩ : ∃ f, f = fs[k] := ⟨_, rfl⟩
      rw [← hf] at hc hfz HS
      obtain ⟨L, hL⟩ : ∃ L, L = (stR t y (fs.take k)).1 := ⟨_, rfl⟩
      obtain ⟨B, hB⟩ : ∃ B, B = (stR t y (fs.take k)).2 := ⟨_, rfl⟩
      have HS2 : Hid (stR t y (fs.take (k + 1)) = stepR (L, B) f) := by rw [hL, hB]; exact HS.out
      rw [← hL] at hi2 ⊢
      rw [← hB] at hi3 ⊢
      clear hL hB HS HI
      cases hfp : allB fieldP f with
      | false =>
        have HN := Lib.hid (putS_f (t := t) (y := y) k hkf (by rw [← hf]; exact hfp))
        have HF := Lib.hid hfp
        clear hfp hf
        go_wp2_with fail
        refine (r22Letters_any f _ (by omega)).mono ?_
        rintro e w4 ⟨rfl, rfl⟩
        rw [HF.out]
        go_wp2_with fail
        go_ret2
        exact ⟨by rw [HN.out]; rfl, below_new _ _⟩
      | true =>
        have HF := Lib.hid hfp
        have HFK := Lib.hid hf
        clear hfp hf
        have hall' : Hid (∀ j (hj : j < fs.length), j < k + 1 → allB fieldP (fs[j]'hj) = true) := by
          intro j hj hjk
          rcases Nat.lt_or_ge j k with h | h
          · exact hall.out j hj h
          · obtain rfl : j = k := by omega
            rw [← HFK.out]
            exact HF.out
        obtain ⟨M, hM⟩ : ∃ M, M = min (L + 1 + min f.size 100) 1000 := ⟨_, rfl⟩
        have eM := min_if L f.size
        rw [← hM] at eM
        have HM := Lib.hid hM
        clear hM
        by_cases hM1 : M ≤ 100
        · have HS3 : Hid (stR t y (fs.take (k + 1)) = (M, B ++ (44 :: f.data.toList))) := by
            show _ = _
            rw [HS2.out]
            unfold stepR
            rw [← HM.out, if_pos hM1]
          go_wp2_with fail
          refine (r22Letters_any f _ (by omega)).mono ?_
          rintro e w4 ⟨rfl, rfl⟩
          rw [HF.out]
          go_wp2_with fail
          go_round
          case rel =>
            refine ⟨k + 1, by omega, by go_num, ?_, ?_, hall'⟩
            · rw [HS3.out]
              have hm := HM.out
              exact congrArg (Value.int IntKind.i64) (by show _ = ((M : Nat) : Int); omega)
            rw [HS3.out]
            obtain ⟨⟨lf⟩⟩ := f
            refine congrArg Value.string ?_
            apply ByteArray.ext
            simp [ByteArray.data_append]
          case measure => simp [intOf]; omega
        · have HS3 : Hid (stR t y (fs.take (k + 1)) = (M, B)) := by
            show _ = _
            rw [HS2.out]
            unfold stepR
            rw [← HM.out, if_neg hM1]
          go_wp2_with fail
          refine (r22Letters_any f _ (by omega)).mono ?_
          rintro e w4 ⟨rfl, rfl⟩
          rw [HF.out]
          go_wp2_with fail
          go_round
          case rel => exact ⟨k + 1, by omega, by go_num, by rw [HS3.out], by rw [HS3.out], hall'⟩
          case measure => simp [intOf]; omega
    · have hkn : k = fs.length := by have := hn.out; omega
      have hall' : ∀ j (hj : j < fs.length), allB fieldP (fs[j]'hj) = true := fun j hj => hall.out j hj (by omega)
      have HP := Lib.hid (putS_ok h.out h2.out hall')
      have e1 : fs.take k = fs := List.take_of_length_le (by omega)
      obtain ⟨hE1, hE2⟩ := stR_end t y fs h5.out
      rw [e1] at hi2 hi3 ⊢
      clear hkn hall' hall e1 HI
      have HE2 := Lib.hid hE2
      clear hE2
      obtain ⟨L, hL⟩ : ∃ L, L = (stR t y fs).1 := ⟨_, rfl⟩
      obtain ⟨B, hB⟩ : ∃ B, B = (stR t y fs).2 := ⟨_, rfl⟩
      rw [← hL] at hi2 hE1 ⊢
      have hE3 : Hid (¬ 82 < (textS t y fs).size → B = bodyL t y fs) := by rw [hB]; exact HE2.out
      rw [← hB] at hi3 hE1 ⊢
      clear hL hB HE2
      have HE1 := Lib.hid hE1
      clear hE1
      by_cases hL1 : 81 < L
      · have HP2 : Hid (putS t y fs = (ByteArray.empty, 7)) := by rw [HP.out, if_pos (HE1.out.2 (.inl hL1))]; exact rfl
        go_wp2_with fail
        go_ret2
        exact ⟨by rw [HP2.out]; rfl, below_new _ _⟩
      · by_cases hB1 : 76 < B.length
        · have HP2 : Hid (putS t y fs = (ByteArray.empty, 7)) := by rw [HP.out, if_pos (HE1.out.2 (.inr hB1))]; exact rfl
          go_wp2_with fail
          go_ret2
          exact ⟨by rw [HP2.out]; rfl, below_new _ _⟩
        · have hno : ¬ 82 < (textS t y fs).size := fun h => (HE1.out.1 h).elim hL1 hB1
          have HP2 : Hid (putS t y fs = (textS t y fs, 0)) := by rw [HP.out, if_neg hno]; exact rfl
          have HB := Lib.hid (hE3.out hno)
          clear hno hE3
          obtain ⟨S, hS⟩ : ∃ S : ByteArray, S = ⟨B.toArray⟩ := ⟨_, rfl⟩
          have hSz : S.size ≤ 100 := by rw [hS]; show B.toArray.size ≤ _; simp; omega
          have HSS := Lib.hid hS
          have hT : Hid (textS t y fs = ⟨#[36]⟩ ++ sealB S ++ ⟨#[13, 10]⟩) := by unfold textS; rw [hS, HB.out]; exact rfl
          have hszT := sealB_len S
          clear hS
          go_wp2_with fail
          rw [← HSS.out]
          refine (r07Seal_any S _ (by omega)).mono ?_
          rintro e w5 ⟨rfl, hb5⟩
          obtain ⟨Q, hQ⟩ : ∃ Q, Q = sealB S := ⟨_, rfl⟩
          rw [← hQ] at hszT hT ⊢
          clear hQ
          have hq0 : Q.size ≤ S.size + 3 := by omega
          clear hszT
          go_wp2_with fail
          go_ret2
          exact ⟨by rw [HP2.out, hT.out]; rfl, bthen (below_new _ _) hb5⟩

/-- The reference's Put: as the program's. -/
theorem r22Put_any (t y : ByteArray) (fs : List ByteArray) (A : Option Addr) (c : Nat) (w : World) (hn1 : fs.length ≤ 1000) (hfsz : ∀ f ∈ fs, f.size ≤ 100000) (ht : t.size ≤ 1000000) (hy : y.size ≤ 1000000)
    (hs : Strs w w.heap.size A fs) : Calls Try.prog 10 #[.agg #[.string t, .string y, .slice A fs.length c]] w (PutPost t y fs w) := by
  cases h1 : signsP t 2 with
  | false =>
    unfold PutPost
    rw [putS_t h1]
    exact r22Put_t t y A _ c w ht h1
  | true =>
    cases h2 : signsP y 3 with
    | false =>
      unfold PutPost
      rw [putS_y h2]
      exact r22Put_y t y A _ c w ht hy h1 h2
    | true =>
      have ht' := signsP_size h1
      have hy' := signsP_size h2
      exact r22Put_loop t y fs A _ c w rfl hn1 hfsz hs h1 h2 (by omega) (by omega) (by show _ = _; omega)

end Go.Proofs.Ytleebikcakndnaa
