/- Few, num, knows of layer 22; the law SentencePuts, walked. -/
import Derived.Test.YtleebikcakndnaaRef22Put
namespace Go.Proofs.Ytleebikcakndnaa
set_option linter.unusedVariables false
open Go.RowKit

theorem num22_any (n : Int) (w : World) : Calls Try.prog 11 #[.int .i64 n] w fun e w' => e = .returned (.int .i64 n) ∧ w = w' := by
  go_enter Try.func11, Try.ntmps11
  go_wp2
  go_ret
  exact ⟨rfl, rfl⟩

def sumF (fs : List ByteArray) : Nat := (fs.map fun f => min f.size 1000).sum
theorem sumF_snoc (fs : List ByteArray) (f : ByteArray) : sumF (fs ++ [f]) = sumF fs + min f.size 1000 := by simp [sumF]
theorem sumF_le (fs : List ByteArray) : sumF fs ≤ 1000 * fs.length := by
  induction fs with
  | nil => simp [sumF]
  | cons f fs ih =>
    have : sumF (f :: fs) = min f.size 1000 + sumF fs := by simp [sumF]
    rw [this, List.length_cons]
    omega
def fewB (t y : ByteArray) (fs : List ByteArray) : Bool := decide (fs.length ≤ 100 ∧ t.size ≤ 100 ∧ y.size ≤ 100 ∧ sumF fs ≤ 500)

set_option maxHeartbeats 1000000 in
theorem Few_long (t y : ByteArray) (A : Option Addr) (n c : Nat) (w : World) (hn : n ≤ maxLen) (ht : t.size ≤ maxLen) (hy : y.size ≤ maxLen) (h : (100 : Int) < (n : Int) ∨ (100 : Int) < (t.size : Int) ∨ (100 : Int) < (y.size : Int)) :
    Calls Try.prog 7 #[.agg #[.string t, .string y, .slice A n c]] w fun e w' => e = .returned (.bool false) ∧ Below w.heap.size w w' := by
  unfold maxLen at hn ht hy
  by_cases h1 : (100 : Int) < (n : Int)
  · go_enter Try.func7, Try.ntmps7
    go_wp2
    go_ret
    exact ⟨rfl, below_new _ _⟩
  · by_cases h2 : (100 : Int) < (t.size : Int)
    · go_enter Try.func7, Try.ntmps7
      go_wp2
      go_ret
      exact ⟨rfl, below_new _ _⟩
    · have h3 : (100 : Int) < (y.size : Int) := by omega
      go_enter Try.func7, Try.ntmps7
      go_wp2
      go_ret
      exact ⟨rfl, below_new _ _⟩

theorem min_if2 (z : Nat) : (if (1000 : Int) < (z : Int) then (1000 : Int) else (z : Int)) = ((min z 1000 : Nat) : Int) := by split <;> omega

set_option maxHeartbeats 1000000 in
theorem Few_loop (t y : ByteArray) (fs : List ByteArray) (A : Option Addr) (n c : Nat) (w : World) (hn : Hid (n = fs.length)) (hn1 : n ≤ 100) (ht : t.size ≤ 100) (hy : y.size ≤ 100) (hs : Hid (Strs w w.heap.size A fs)) (hfz : Hid (∀ f ∈ fs, f.size ≤ maxLen)) :
    Calls Try.prog 7 #[.agg #[.string t, .string y, .slice A n c]] w fun e w' => e = .returned (.bool (decide ((sumF fs : Int) ≤ 500))) ∧ Below w.heap.size w w' := by
  go_enter Try.func7, Try.ntmps7
  go_wp2
  go_loop [3, 4] (fun s i => ∃ k : Nat, k ≤ n ∧ i = .int .i64 k ∧ s = .int .i64 (sumF (fs.take k) : Int)) (fun _ i => n - (intOf i).toNat)
  case atStart => exact ⟨0, Nat.zero_le _, rfl, rfl⟩
  case round =>
    obtain ⟨k, hk, rfl, rfl⟩ := hrel
    have hle := sumF_le (fs.take k)
    have hkl : (fs.take k).length ≤ k := List.length_take_le _ _
    by_cases hlt : k < n
    · have hkf : k < fs.length := by rw [← hn.out]; exact hlt
      obtain ⟨ab, ao, hA, hab, hc⟩ := hs.out k hkf
      subst hA
      have hz := hfz.out fs[k] (List.getElem_mem hkf)
      unfold maxLen at hz
      have HS : Hid (sumF (fs.take (k + 1)) = sumF (fs.take k) + min fs[k].size 1000) := by show _ = _; rw [List.take_succ_eq_append_getElem hkf, sumF_snoc]
      obtain ⟨f, hf⟩ : ∃ f, f = fs[k] := ⟨_, rfl⟩
      rw [← hf] at hc hz HS
      clear hf
      obtain ⟨M, hM⟩ : ∃ M, M = min f.size 1000 := ⟨_, rfl⟩
      have eM := min_if2 f.size
      rw [← hM] at eM HS
      have hM1 : M ≤ 1000 := by omega
      have HM := Lib.hid hM
      clear hM
      obtain ⟨T, hT⟩ : ∃ T, T = sumF (fs.take k) := ⟨_, rfl⟩
      rw [← hT] at hle HS ⊢
      clear hT
      go_wp2
      go_round
      case rel => exact ⟨k + 1, by omega, by go_num, by rw [HS.out]; rfl⟩
      case measure => simp [intOf]; omega
    · have hkn : k = fs.length := by have := hn.out; omega
      have e1 : fs.take k = fs := List.take_of_length_le (by omega)
      rw [e1]
      rw [e1] at hle hkl
      clear hkn e1
      obtain ⟨T, hT⟩ : ∃ T, T = sumF fs := ⟨_, rfl⟩
      rw [← hT] at hle ⊢
      have HT := Lib.hid hT
      clear hT
      go_wp2
      go_ret
      exact ⟨by rw [← HT.out]; rfl, below_new _ _⟩

theorem Few_any (t y : ByteArray) (fs : List ByteArray) (A : Option Addr) (c : Nat) (w : World) (hn : fs.length ≤ maxLen) (ht : t.size ≤ maxLen) (hy : y.size ≤ maxLen) (hs : Strs w w.heap.size A fs) (hfz : ∀ f ∈ fs, f.size ≤ maxLen) :
    Calls Try.prog 7 #[.agg #[.string t, .string y, .slice A fs.length c]] w fun e w' => e = .returned (.bool (fewB t y fs)) ∧ Below w.heap.size w w' := by
  by_cases h : fs.length ≤ 100 ∧ t.size ≤ 100 ∧ y.size ≤ 100
  · obtain ⟨h1, h2, h3⟩ := h
    refine (Few_loop t y fs A _ c w rfl h1 h2 h3 hs hfz).mono fun e w' ⟨he, hb⟩ => ⟨?_, hb⟩
    rw [he]
    refine ret_bool ?_
    unfold fewB
    rw [Bool.eq_iff_iff, decide_eq_true_eq, decide_eq_true_eq]
    constructor
    · intro h; exact ⟨h1, h2, h3, by omega⟩
    · intro h; have := h.2.2.2; omega
  · have hf : fewB t y fs = false := by
      unfold fewB
      rw [decide_eq_false_iff_not]
      exact fun h' => h ⟨h'.1, h'.2.1, h'.2.2.1⟩
    rw [hf]
    exact Few_long t y A _ c w hn ht hy (by omega)

theorem fewB_of {t y : ByteArray} {fs : List ByteArray} (h : fewB t y fs = true) : fs.length ≤ 100 ∧ t.size ≤ 100 ∧ y.size ≤ 100 ∧ (∀ f ∈ fs, f.size ≤ 500) ∧ (bodyL t y fs).length ≤ 800 := by
  unfold fewB at h
  obtain ⟨h1, h2, h3, h4⟩ := of_decide_eq_true h
  have key : ∀ gs : List ByteArray, sumF gs ≤ 500 → (∀ f ∈ gs, f.size ≤ 500) ∧ (gs.flatMap fun f => 44 :: f.data.toList).length ≤ sumF gs + gs.length := by
    intro gs
    induction gs with
    | nil => intro _; simp
    | cons g gs ih =>
      intro hg
      have e : sumF (g :: gs) = min g.size 1000 + sumF gs := by simp [sumF]
      rw [e] at hg ⊢
      obtain ⟨i1, i2⟩ := ih (by omega)
      refine ⟨?_, ?_⟩
      · intro f hf
        rcases List.mem_cons.1 hf with rfl | hf
        · omega
        · exact i1 f hf
      · rw [List.flatMap_cons, List.length_append, List.length_cons, List.length_cons]
        have : g.data.toList.length = g.size := by simp
        omega
  obtain ⟨k1, k2⟩ := key fs h4
  refine ⟨h1, h2, h3, k1, ?_⟩
  unfold bodyL
  rw [List.length_append, List.length_append]
  have e1 : t.data.toList.length = t.size := by simp
  have e2 : y.data.toList.length = y.size := by simp
  omega

theorem put_gpgll : putS ⟨#[71, 80]⟩ ⟨#[71, 76, 76]⟩ [] = (⟨#[36, 71, 80, 71, 76, 76, 42, 53, 48, 13, 10]⟩, 0) := by decide +kernel
theorem knows22_put (w : World) : Calls Try.prog 9 #[.agg #[.string ⟨#[71, 80]⟩, .string ⟨#[71, 76, 76]⟩, .slice none 0 0]] w fun e w' => e = .returned (.tuple #[.string ⟨#[36, 71, 80, 71, 76, 76, 42, 53, 48, 13, 10]⟩, .int .i64 0]) ∧ Below w.heap.size w w' := by
  refine (Put_any ⟨#[71, 80]⟩ ⟨#[71, 76, 76]⟩ [] none 0 w (by simp) (by decide) (fun k hk => absurd hk (by simp))).mono ?_
  intro e w' h
  unfold PutPost at h
  rw [put_gpgll] at h
  exact h

set_option maxHeartbeats 1000000 in
theorem knows22_any (w : World) : Calls Try.prog 8 #[] w fun e w' => e = .returned (.bool true) ∧ Below w.heap.size w w' := by
  go_enter Try.func8, Try.ntmps8
  go_wp2_with fail
  refine (knows22_put _).mono ?_
  rintro e w1 ⟨rfl, hb1⟩
  go_wp2_with fail
  refine (num22_any _ _).mono ?_
  rintro e w' ⟨rfl, rfl⟩
  go_wp2_with fail
  go_ret
  exact ⟨rfl, hb1⟩

set_option maxHeartbeats 1000000 in
theorem sentencePuts_walk (t y : ByteArray) (fs : List ByteArray) (A : Option Addr) (c : Nat) (w : World) (hn : fs.length ≤ maxLen) (ht : t.size ≤ maxLen) (hy : y.size ≤ maxLen) (hs : Strs w w.heap.size A fs) (hfz : ∀ f ∈ fs, f.size ≤ maxLen) :
    Calls Try.prog 3 #[.agg #[.string t, .string y, .slice A fs.length c]] w fun e w' => e = .returned (.bool true) ∧ Below w.heap.size w w' := by
  have hs1 : ∀ W, Below (w.heap.size + 1) (w.alloc (.cells #[.string t, .string y, .slice A fs.length c] 24)) W → Strs W W.heap.size A fs := fun W hb =>
    (((hs.below (below_new w _) (Nat.le_refl _)).below hb (by omega))).more (by have := hb.size; simp at this; omega)
  have HS := Lib.hid hs1
  clear hs1
  have HZ := Lib.hid hfz
  clear hfz hs
  have HN := Lib.hid hn
  clear hn
  have HF := fun W hb => Lib.hid (Few_any t y fs A c W HN.out ht hy (HS.out W hb) HZ.out)
  cases hfew : fewB t y fs with
  | false =>
    rw [hfew] at HF
    go_enter Try.func3, Try.ntmps3
    go_wp2_with fail
    refine (HF _ (by exact Below.refl _ _)).out.mono ?_
    rintro e w1 ⟨rfl, hb1⟩
    go_wp2_with fail
    refine (knows22_any _).mono ?_
    rintro e w2 ⟨rfl, hb2⟩
    go_wp2_with fail
    go_ret
    exact ⟨rfl, bthen (bthen (below_new _ _) hb1) hb2⟩
  | true =>
    rw [hfew] at HF
    obtain ⟨f1, f2, f3, f4, f5⟩ := fewB_of hfew
    have HPut := fun W hb => Lib.hid (Put_any t y fs A c W (by omega) (by omega) (HS.out W hb))
    have HRef := fun W hb => Lib.hid (r22Put_any t y fs A c W (by omega) (fun f hf => by have := f4 f hf; omega) (by omega) (by omega) (HS.out W hb))
    clear f4 hfew HN HZ f5
    generalize fs.length = n at *
    unfold PutPost at HPut HRef
    generalize putS t y fs = R at *
    clear HS
    obtain ⟨T, E⟩ := R
    go_enter Try.func3, Try.ntmps3
    go_wp2_with fail
    refine (HF _ (by exact Below.refl _ _)).out.mono ?_
    rintro e w1 ⟨rfl, hb1⟩
    go_wp2_with fail
    refine (knows22_any _).mono ?_
    rintro e w2 ⟨rfl, hb2⟩
    have hb12 := bthen hb1 hb2
    obtain ⟨c2, _⟩ := bcell hb12
    go_wp2_with fail
    refine (HPut _ (by simpa using hb12)).out.mono ?_
    rintro e w3 ⟨rfl, hb3⟩
    clear c2
    have hb13 := bthen hb12 hb3
    obtain ⟨c3, _⟩ := bcell hb13
    go_wp2_with fail
    refine (HRef _ (by simpa using hb13)).out.mono ?_
    rintro e w4 ⟨rfl, hb4⟩
    go_wp2_with fail
    refine (num22_any _ _).mono ?_
    rintro e w' ⟨rfl, rfl⟩
    go_wp2_with fail
    refine (num22_any _ _).mono ?_
    rintro e w' ⟨rfl, rfl⟩
    go_wp2_with fail
    go_ret
    exact ⟨rfl, bthen (below_new _ _) (bthen hb13 hb4)⟩

end Go.Proofs.Ytleebikcakndnaa
