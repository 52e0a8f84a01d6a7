/- The laws VtgTakes and VtgBack, walked. -/
import Derived.Test.YtcoohlopafjnmaaDoorMve
import Derived.Test.YtcoohlopafjnmaaDoorMh
namespace Go.Proofs.YtcoohlopafjnmaaDoor
set_option linter.unusedVariables false
open Go.RowKit

theorem vtg_bad {R : List ByteArray} (h : R.length ≠ 8 ∧ R.length ≠ 9) : takeVtg R = (zeros4, 3) := by unfold takeVtg; rw [if_pos h]
theorem vtgTake_any (A : Option Addr) (R : List ByteArray) (c : Nat) (w : World) (hA : A = none → c = 0) (hs : Strs w w.heap.size A R) (hn : R.length ≤ 1000000) (hz : ∀ t ∈ R, t.size ≤ 1000000) :
    Calls Tryd.prog 39 #[.slice A R.length c] w (VtgPost (takeVtg R) w) := by
  by_cases h : R.length ≠ 8 ∧ R.length ≠ 9
  · rw [vtg_bad h]
    exact vtgTake_bad A R.length c w (by rw [bne_iff_ne]; omega) (by rw [bne_iff_ne]; omega)
  · refine vtgTake_ok A R.length c R w rfl hA hs hn hz ?_ h
    rcases (by omega : R.length = 8 ∨ R.length = 9) with q | q
    · exact .inl (by rw [q]; rfl)
    · exact .inr ⟨by rw [q]; rfl, by rw [q]; rfl⟩
theorem r28Take_any (A : Option Addr) (R : List ByteArray) (c : Nat) (w : World) (hs : Strs w w.heap.size A R) (hn : R.length ≤ 1000000) (hz : ∀ t ∈ R, t.size ≤ 1000000) :
    Calls Tryd.prog 40 #[.slice A R.length c] w (VtgPost (takeVtg R) w) := by
  by_cases h : R.length ≠ 8 ∧ R.length ≠ 9
  · rw [vtg_bad h]
    exact r28Take_bad A R.length c w (by rw [bne_iff_ne]; omega) (by rw [bne_iff_ne]; omega)
  · exact r28Take_ok A R.length c R w rfl hs hn hz (by omega) h
theorem four_of {N : List (Bool × Int)} (h : N.length = 4) : ∃ b0 n0 b1 n1 b2 n2 b3 n3, N = [(b0, n0), (b1, n1), (b2, n2), (b3, n3)] := by
  match N, h with
  | [(a, b), (c, d), (e, f), (g, i)], _ => exact ⟨a, b, c, d, e, f, g, i, rfl⟩

set_option maxRecDepth 8000 in
theorem vtgTakes_many (A : Option Addr) (c : Nat) (fs : List ByteArray) (w : World) (HF : ∀ W, Below w.heap.size w W → Hid (Calls Tryd.prog 36 #[.slice A fs.length c] W fun e w' => e = .returned (.bool false) ∧ w' = W)) :
    Calls Tryd.prog 10 #[.slice A fs.length c] w fun e w' => e = .returned (.bool true) ∧ Below w.heap.size w w' := by
  have HK := fun W => Lib.hid (knows28_any W)
  generalize fs.length = n at *
  go_enter Tryd.func10, Tryd.ntmps10
  go_wp2_with fail
  refine ((HF _ (Below.refl _ _)).out).mono ?_
  rintro e w' ⟨rfl, rfl⟩
  go_wp2_with fail
  refine ((HK _).out).mono ?_
  rintro e w1 ⟨rfl, hb1⟩
  go_wp2_with fail
  go_ret
  exact ⟨rfl, hb1⟩
set_option maxRecDepth 8000 in
set_option maxHeartbeats 4000000 in
theorem vtgTakes_few (A : Option Addr) (n c : Nat) (w : World) (b0 : Bool) (n0 : Int) (b1 : Bool) (n1 : Int) (b2 : Bool) (n2 : Int) (b3 : Bool) (n3 E : Int) (HF : Hid (Calls Tryd.prog 36 #[.slice A n c] w fun e w' => e = .returned (.bool true) ∧ w' = w))
    (HT : ∀ W, Below w.heap.size w W → Hid (Calls Tryd.prog 39 #[.slice A n c] W fun r w' => r = .returned (.tuple #[vtgV b0 n0 b1 n1 b2 n2 b3 n3, .int .i64 E]) ∧ Below W.heap.size W w'))
    (HR : ∀ W, Below w.heap.size w W → Hid (Calls Tryd.prog 40 #[.slice A n c] W fun r w' => r = .returned (.tuple #[vtgV b0 n0 b1 n1 b2 n2 b3 n3, .int .i64 E]) ∧ Below W.heap.size W w')) :
    Calls Tryd.prog 10 #[.slice A n c] w fun e w' => e = .returned (.bool true) ∧ Below w.heap.size w w' := by
  have HK := fun W => Lib.hid (knows28_any W)
  go_enter Tryd.func10, Tryd.ntmps10
  go_wp2_with fail
  refine (HF.out).mono ?_
  rintro e w' ⟨rfl, rfl⟩
  go_wp2_with fail
  refine ((HK _).out).mono ?_
  rintro e w1 ⟨rfl, hb1⟩
  have HB1 := Lib.hid hb1
  clear hb1
  go_wp2_with fail
  refine ((HT w1 HB1.out).out).mono ?_
  rintro e w2 ⟨rfl, hb2⟩
  have HB2 := Lib.hid (bthen (bthen HB1.out hb2) (below_new w2 (.cells (vtgC b0 n0 b1 n1 b2 n2 b3 n3) 25)))
  have HC2 : Hid (∀ o, (w2.alloc (.cells (vtgC b0 n0 b1 n1 b2 n2 b3 n3) 25)).cell? ⟨w2.heap.size, o, none⟩ = (vtgC b0 n0 b1 n1 b2 n2 b3 n3)[o]?) := fun o => World.cell?_alloc_at _ _ _ _ rfl
  clear hb2
  go_wp2_with fail
  refine ((HR _ HB2.out).out).mono ?_
  rintro e w3 ⟨rfl, hb3⟩
  have hz3 : w2.heap.size < w3.heap.size := by have := hb3.size; simp at this; omega
  have HC3 : Hid (∀ o, (w3.alloc (.cells (vtgC b0 n0 b1 n1 b2 n2 b3 n3) 25)).cell? ⟨w2.heap.size, o, none⟩ = (vtgC b0 n0 b1 n1 b2 n2 b3 n3)[o]?) := fun o => (World.cell?_alloc_past _ _ _ hz3).trans (((bcell hb3).1 _ o (by simp)).trans (HC2.out o))
  have m0 := HC3.out 0
  have m1 := HC3.out 1
  have m2 := HC3.out 2
  have m3 := HC3.out 3
  have m4 := HC3.out 4
  have m5 := HC3.out 5
  have m6 := HC3.out 6
  have m7 := HC3.out 7
  have HB3 := Lib.hid (bthen (bthen HB2.out hb3) (below_new w3 (.cells (vtgC b0 n0 b1 n1 b2 n2 b3 n3) 25)))
  clear hb3 hz3 HC2
  go_wp2_with fail
  refine (num28_any _ _).mono ?_
  rintro e w' ⟨rfl, rfl⟩
  go_wp2_with fail
  refine (num28_any _ _).mono ?_
  rintro e w' ⟨rfl, rfl⟩
  go_wp2_with fail
  go_ret
  exact ⟨by rfl, HB3.out⟩
theorem vtgTakes_any (A : Option Addr) (c : Nat) (fs : List ByteArray) (w : World) (hA : A = none → c = 0) (hn : fs.length ≤ maxLen) (hs : Strs w w.heap.size A fs) (hz : ∀ f ∈ fs, f.size ≤ maxLen) :
    Calls Tryd.prog 10 #[.slice A fs.length c] w fun e w' => e = .returned (.bool true) ∧ Below w.heap.size w w' := by
  have hst : ∀ W, Below w.heap.size w W → Strs W W.heap.size A fs := fun W hb => (hs.below hb (Nat.le_refl _)).more hb.size
  have hf : ∀ W, Below w.heap.size w W → Calls Tryd.prog 36 #[.slice A fs.length c] W fun e w' => e = .returned (.bool (fewL fs)) ∧ w' = W := fun W hb => r25Few_any A fs.length c fs W rfl (hst W hb) hz hn
  cases hfew : fewL fs with
  | false =>
    rw [hfew] at hf
    exact vtgTakes_many A c fs w hf
  | true =>
    rw [hfew] at hf
    obtain ⟨h40, h100⟩ := (fewL_iff fs).1 hfew
    obtain ⟨b0, n0, b1, n1, b2, n2, b3, n3, hN⟩ := four_of (takeVtg_len fs)
    refine vtgTakes_few A fs.length c w b0 n0 b1 n1 b2 n2 b3 n3 (takeVtg fs).2 (hf w (Below.refl _ _)) (fun W hb => ?_) (fun W hb => ?_)
    · have := vtgTake_any A fs c W hA (hst W hb) (by omega) (fun t ht => Nat.le_trans (h100 t ht) (by omega))
      unfold VtgPost at this
      rw [hN] at this
      exact this
    · have := r28Take_any A fs c W (hst W hb) (by omega) (fun t ht => Nat.le_trans (h100 t ht) (by omega))
      unfold VtgPost at this
      rw [hN] at this
      exact this
end Go.Proofs.YtcoohlopafjnmaaDoor

/- How long the texts are that are written. -/
namespace Go.Proofs.YtcoohlopafjnmaaDoor
set_option linter.unusedVariables false
open Go.RowKit

theorem putN_size (b : Bool) (n W M F L H : Int) : (putN b n W M F L H).1.size ≤ 42 := by
  unfold putN
  split
  · exact Nat.zero_le _
  split
  · exact Nat.zero_le _
  split
  · exact Nat.zero_le _
  split
  · show (toB _).size ≤ 42
    have := pointL_len (-n).toNat W.toNat F.toNat
    rw [size_B, List.length_cons]
    omega
  · show (toB _).size ≤ 42
    have := pointL_len n.toNat W.toNat F.toNat
    rw [size_B]
    omega
/-- All texts are short. -/
def Small (l : List ByteArray) : Prop := ∀ t ∈ l, t.size ≤ 100
theorem Small.nil : Small [] := fun t h => by cases h
theorem Small.snoc {l : List ByteArray} {t : ByteArray} (h : Small l) (ht : t.size ≤ 100) : Small (l ++ [t]) := fun u hu => by
  rcases List.mem_append.1 hu with q | q
  · exact h u q
  · rw [List.mem_singleton.1 q]; exact ht
theorem wrNum_small {W M F L H : Int} {n : Bool × Int} {s : Rd} (h : Small s.2) : Small (wrNum W M F L H n s).2 := h.snoc (Nat.le_trans (putN_size _ _ _ _ _ _ _) (by omega))
theorem wrText_small {t : ByteArray} {E : Int} {s : Rd} (h : Small s.2) (ht : t.size ≤ 100) : Small (wrText t E s).2 := h.snoc ht
theorem wrCol_small {k : Cl} {n : Bool × Int} {s : Rd} (h : Small s.2) (hc : k.c.size ≤ 100) : Small (wrCol k n s).2 := by
  unfold wrCol
  refine wrText_small (wrNum_small h) ?_
  unfold unitT
  split
  · exact hc
  · simp
theorem wrDone_small {s : Rd} (h : Small s.2) : Small (wrDone s).1 := by
  unfold wrDone
  simp only
  split
  · exact h
  · exact Small.nil
theorem wrCols_small : ∀ (K : List Cl) (N : List (Bool × Int)) (s : Rd), (∀ k ∈ K, k.c.size ≤ 100) → Small s.2 → Small (wrCols K N s).2
  | [], _, _, _, h => h
  | _ :: _, [], _, _, h => h
  | k :: K, n :: N, s, hK, h => wrCols_small K N (wrCol k n s) (fun j hj => hK j (List.mem_cons_of_mem _ hj)) (wrCol_small h (hK k (List.mem_cons_self ..)))
theorem putVtg_small (N : List (Bool × Int)) : Small (putVtg N).1 := wrDone_small (wrCols_small _ _ _ (by decide) Small.nil)
theorem wrDone_none {s : Rd} (h : (wrDone s).2 ≠ 0) : (wrDone s).1 = [] := if_neg h
end Go.Proofs.YtcoohlopafjnmaaDoor

/- The law VtgBack, walked. Printed by genvtgb.py. -/
namespace Go.Proofs.YtcoohlopafjnmaaDoor
set_option linter.unusedVariables false
open Go.RowKit

set_option maxRecDepth 8000 in
theorem vtgBack_many (mb0 : Bool) (mn0 : Int) (mb1 : Bool) (mn1 : Int) (mb2 : Bool) (mn2 : Int) (mb3 : Bool) (mn3 : Int) (A : Option Addr) (c : Nat) (fs : List ByteArray) (w : World) (HF : ∀ W, Below w.heap.size w W → Hid (Calls Tryd.prog 36 #[.slice A fs.length c] W fun e w' => e = .returned (.bool false) ∧ w' = W)) :
    Calls Tryd.prog 11 #[vtgV mb0 mn0 mb1 mn1 mb2 mn2 mb3 mn3, .slice A fs.length c] w fun e w' => e = .returned (.bool true) ∧ Below w.heap.size w w' := by
  have HK := fun W => Lib.hid (knows28_any W)
  generalize fs.length = n at *
  have HF1 := HF _ (below_new w (.cells (vtgC mb0 mn0 mb1 mn1 mb2 mn2 mb3 mn3) 25))
  go_enter Tryd.func11, Tryd.ntmps11
  go_wp2_with fail
  refine (HF1.out).mono ?_
  rintro e w' ⟨rfl, rfl⟩
  go_wp2_with fail
  refine ((HK _).out).mono ?_
  rintro e w1 ⟨rfl, hb1⟩
  go_wp2_with fail
  go_ret
  exact ⟨rfl, bthen (below_new _ _) hb1⟩
/-- The loop at the end: no text is longer. -/
def Longer (T U : List ByteArray) : Prop := ¬ NoLonger T U
set_option maxRecDepth 8000 in
set_option maxHeartbeats 8000000 in
theorem vtgBack_few (mb0 : Bool) (mn0 : Int) (mb1 : Bool) (mn1 : Int) (mb2 : Bool) (mn2 : Int) (mb3 : Bool) (mn3 : Int) (xb0 : Bool) (xn0 : Int) (xb1 : Bool) (xn1 : Int) (xb2 : Bool) (xn2 : Int) (xb3 : Bool) (xn3 : Int) (F : Int) (A : Option Addr) (n c : Nat) (R fa fb : List ByteArray) (E : Int) (w : World) (hn : Hid (R.length = n)) (hs : Hid (Strs w w.heap.size A R)) (hRz : Hid (∀ f ∈ R, f.size ≤ 100)) (hn40 : n ≤ 40)
    (HF : ∀ W, Below w.heap.size w W → Hid (Calls Tryd.prog 36 #[.slice A n c] W fun e w' => e = .returned (.bool true) ∧ w' = W))
    (HP : ∀ W, Hid (Calls Tryd.prog 14 #[vtgV mb0 mn0 mb1 mn1 mb2 mn2 mb3 mn3] W (PutPost (fa, E) W)))
    (HE0 : Hid (E ≠ 0 → fa.length = 0))
    (HT1 : Hid (E = 0 → ∀ B d W, (B = none → d = 0) → Strs W W.heap.size B fa → Calls Tryd.prog 39 #[.slice B fa.length d] W fun r w' => r = .returned (.tuple #[vtgV mb0 mn0 mb1 mn1 mb2 mn2 mb3 mn3, .int .i64 0]) ∧ Below W.heap.size W w'))
    (HT2 : ∀ W, Below w.heap.size w W → Hid (Calls Tryd.prog 39 #[.slice A n c] W fun r w' => r = .returned (.tuple #[vtgV xb0 xn0 xb1 xn1 xb2 xn2 xb3 xn3, .int .i64 F]) ∧ Below W.heap.size W w'))
    (HX0 : Hid (F ≠ 0 → vtgV xb0 xn0 xb1 xn1 xb2 xn2 xb3 xn3 = vtgV false 0 false 0 false 0 false 0))
    (HX1 : Hid (F = 0 → (∀ W, Calls Tryd.prog 14 #[vtgV xb0 xn0 xb1 xn1 xb2 xn2 xb3 xn3] W (PutPost (fb, 0) W)) ∧ (∀ B d W, (B = none → d = 0) → Strs W W.heap.size B fb → Calls Tryd.prog 39 #[.slice B fb.length d] W fun r w' => r = .returned (.tuple #[vtgV xb0 xn0 xb1 xn1 xb2 xn2 xb3 xn3, .int .i64 0]) ∧ Below W.heap.size W w') ∧ fb.length = 8 ∧ 8 ≤ n ∧ Small fb ∧ NoLonger fb R)) :
    Calls Tryd.prog 11 #[vtgV mb0 mn0 mb1 mn1 mb2 mn2 mb3 mn3, .slice A n c] w fun e w' => e = .returned (.bool true) ∧ Below w.heap.size w w' := by
  have HK := fun W => Lib.hid (knows28_any W)
  have HB0 := Lib.hid (below_new w (.cells (vtgC mb0 mn0 mb1 mn1 mb2 mn2 mb3 mn3) 25))
  have HC0 : Hid (∀ o, (w.alloc (.cells (vtgC mb0 mn0 mb1 mn1 mb2 mn2 mb3 mn3) 25)).cell? ⟨w.heap.size, o, none⟩ = (vtgC mb0 mn0 mb1 mn1 mb2 mn2 mb3 mn3)[o]?) := fun o => World.cell?_alloc_at _ _ _ _ rfl
  go_enter Tryd.func11, Tryd.ntmps11
  go_wp2_with fail
  refine ((HF _ HB0.out).out).mono ?_
  rintro e w' ⟨rfl, rfl⟩
  go_wp2_with fail
  refine ((HK _).out).mono ?_
  rintro e w1 ⟨rfl, hb1⟩
  have HB1 := Lib.hid (bthen HB0.out hb1)
  have HC1 : Hid (∀ o, w1.cell? ⟨w.heap.size, o, none⟩ = (vtgC mb0 mn0 mb1 mn1 mb2 mn2 mb3 mn3)[o]?) := fun o => ((bcell hb1).1 _ o (by simp)).trans (HC0.out o)
  have HZ1 : Hid (w.heap.size < w1.heap.size) := by show _ < _; have := hb1.size; simp at this; omega
  clear hb1 HB0 HC0
  have m0 := HC1.out 0
  have m1 := HC1.out 1
  have m2 := HC1.out 2
  have m3 := HC1.out 3
  have m4 := HC1.out 4
  have m5 := HC1.out 5
  have m6 := HC1.out 6
  have m7 := HC1.out 7
  go_wp2_with fail
  refine ((HP _).out).mono ?_
  rintro e w2 ⟨v, rfl, A2, c2, rfl, hA2, hs2, -, hb2⟩
  have HB2 := Lib.hid (bthen HB1.out hb2)
  have HC2 : Hid (∀ o, w2.cell? ⟨w.heap.size, o, none⟩ = (vtgC mb0 mn0 mb1 mn1 mb2 mn2 mb3 mn3)[o]?) := fun o => ((bcell hb2).1 _ o HZ1.out).trans (HC1.out o)
  have HZ2 : Hid (w.heap.size < w2.heap.size) := Nat.lt_of_lt_of_le HZ1.out hb2.size
  have HS2 := Lib.hid hs2
  have HA2 := Lib.hid hA2
  clear hb2 hs2 hA2 HB1 HC1 HZ1 HP HF m0 m1 m2 m3 m4 m5 m6 m7
  try dsimp only
  repeat (fail_if_success (show Code.wp _ (Code.seq (Code.region 4 _ _) _) _ _ _)
          first | go_values | go_skip | go_guarded | go_step | go_upon | go_back | (simp only [Int.not_lt, Int.not_le] at *; go_simp) | (go_ite <;> go_prune <;> (try go_simp)))
  go_cut [] (fun wx => Hid (Below w.heap.size w wx))
  case first =>
    go_wp2_with fail
    refine (num28_any _ _).mono ?_
    rintro e w' ⟨rfl, rfl⟩
    by_cases hE : E = 0
    · subst hE
      have HT := Lib.hid (HT1.out rfl A2 c2 w2 HA2.out HS2.out)
      clear HT1 HX1 HX0 HE0 HT2
      go_wp2_with fail
      refine (HT.out).mono ?_
      rintro e w3 ⟨rfl, hb3⟩
      have HC3 : Hid (∀ o, (w3.alloc (.cells (vtgC mb0 mn0 mb1 mn1 mb2 mn2 mb3 mn3) 25)).cell? ⟨w3.heap.size, o, none⟩ = (vtgC mb0 mn0 mb1 mn1 mb2 mn2 mb3 mn3)[o]?) := fun o => World.cell?_alloc_at _ _ _ _ rfl
      have HM3 : Hid (∀ o, (w3.alloc (.cells (vtgC mb0 mn0 mb1 mn1 mb2 mn2 mb3 mn3) 25)).cell? ⟨w.heap.size, o, none⟩ = (vtgC mb0 mn0 mb1 mn1 mb2 mn2 mb3 mn3)[o]?) := fun o => (World.cell?_alloc_past _ _ _ (Nat.lt_of_lt_of_le HZ2.out hb3.size)).trans (((bcell hb3).1 _ o HZ2.out).trans (HC2.out o))
      have m0 := HM3.out 0
      have m1 := HM3.out 1
      have m2 := HM3.out 2
      have m3 := HM3.out 3
      have m4 := HM3.out 4
      have m5 := HM3.out 5
      have m6 := HM3.out 6
      have m7 := HM3.out 7
      have x0 := HC3.out 0
      have x1 := HC3.out 1
      have x2 := HC3.out 2
      have x3 := HC3.out 3
      have x4 := HC3.out 4
      have x5 := HC3.out 5
      have x6 := HC3.out 6
      have x7 := HC3.out 7
      have HB3 := Lib.hid (bthen (bthen HB2.out hb3) (below_new w3 (.cells (vtgC mb0 mn0 mb1 mn1 mb2 mn2 mb3 mn3) 25)))
      clear hb3 HC3 HM3 HC2
      go_wp2_with fail
      refine (num28_any _ _).mono ?_
      rintro e w' ⟨rfl, rfl⟩
      go_wp2_with fail
      go_meet
      exact HB3
    · have hne : (E == 0) = false := by rw [beq_eq_false_iff_ne]; exact hE
      go_wp2_with fail
      go_meet
      exact HB2
  case rest =>
  have HB3 := hcut
  clear HT1 HC2 HZ2 HS2 HA2 HB2
  go_wp2_with fail
  refine ((HT2 _ HB3.out).out).mono ?_
  rintro e w4 ⟨rfl, hb4⟩
  have HB4 := Lib.hid (bthen (bthen HB3.out hb4) (below_new w4 (.cells (vtgC xb0 xn0 xb1 xn1 xb2 xn2 xb3 xn3) 25)))
  have HC4 : Hid (∀ o, (w4.alloc (.cells (vtgC xb0 xn0 xb1 xn1 xb2 xn2 xb3 xn3) 25)).cell? ⟨w4.heap.size, o, none⟩ = (vtgC xb0 xn0 xb1 xn1 xb2 xn2 xb3 xn3)[o]?) := fun o => World.cell?_alloc_at _ _ _ _ rfl
  clear hb4 HB3 hcut HT2
  go_wp2_with fail
  refine (num28_any _ _).mono ?_
  rintro e w' ⟨rfl, rfl⟩
  by_cases hF : F = 0
  · subst hF
    obtain ⟨hp, ht, h8, hn8, hsm, hnl⟩ := HX1.out rfl
    have HP5 := fun W => Lib.hid (hp W)
    have HT5 := Lib.hid ht
    have HSM := Lib.hid hsm
    have HNL := Lib.hid hnl
    have HN8 := Lib.hid h8
    rw [h8] at HT5
    clear hp ht hsm hnl h8 HX1 HX0 HE0
    have x0 := HC4.out 0
    have x1 := HC4.out 1
    have x2 := HC4.out 2
    have x3 := HC4.out 3
    have x4 := HC4.out 4
    have x5 := HC4.out 5
    have x6 := HC4.out 6
    have x7 := HC4.out 7
    generalize hW4 : w4.alloc (.cells (vtgC xb0 xn0 xb1 xn1 xb2 xn2 xb3 xn3) 25) = W4 at *
    have hz4 : w4.heap.size < W4.heap.size := by rw [← hW4]; simp
    have HZ4 := Lib.hid hz4
    clear hW4 hz4
    go_wp2_with fail
    refine ((HP5 _).out).mono ?_
    rintro e w5 ⟨v, rfl, A5, c5, rfl, hA5, hs5, -, hb5⟩
    have HB5 := Lib.hid (bthen HB4.out hb5)
    have HC5 : Hid (∀ o, w5.cell? ⟨w4.heap.size, o, none⟩ = (vtgC xb0 xn0 xb1 xn1 xb2 xn2 xb3 xn3)[o]?) := fun o => ((bcell hb5).1 _ o HZ4.out).trans (HC4.out o)
    have HZ5 : Hid (w4.heap.size < w5.heap.size) := Nat.lt_of_lt_of_le HZ4.out hb5.size
    have HS5 := Lib.hid hs5
    have HT6 := Lib.hid (HT5.out A5 c5 w5 hA5 hs5)
    rw [HN8.out]
    clear hs5 hA5 hb5 HT5 HP5 HC4 HZ4 HB4 x0 x1 x2 x3 x4 x5 x6 x7
    go_wp2_with fail
    refine (HT6.out).mono ?_
    rintro e w6 ⟨rfl, hb6⟩
    have HC6 : Hid (∀ o, (w6.alloc (.cells (vtgC xb0 xn0 xb1 xn1 xb2 xn2 xb3 xn3) 25)).cell? ⟨w6.heap.size, o, none⟩ = (vtgC xb0 xn0 xb1 xn1 xb2 xn2 xb3 xn3)[o]?) := fun o => World.cell?_alloc_at _ _ _ _ rfl
    have HM6 : Hid (∀ o, (w6.alloc (.cells (vtgC xb0 xn0 xb1 xn1 xb2 xn2 xb3 xn3) 25)).cell? ⟨w4.heap.size, o, none⟩ = (vtgC xb0 xn0 xb1 xn1 xb2 xn2 xb3 xn3)[o]?) := fun o => (World.cell?_alloc_past _ _ _ (Nat.lt_of_lt_of_le HZ5.out hb6.size)).trans (((bcell hb6).1 _ o HZ5.out).trans (HC5.out o))
    have m0 := HM6.out 0
    have m1 := HM6.out 1
    have m2 := HM6.out 2
    have m3 := HM6.out 3
    have m4 := HM6.out 4
    have m5 := HM6.out 5
    have m6 := HM6.out 6
    have m7 := HM6.out 7
    have x0 := HC6.out 0
    have x1 := HC6.out 1
    have x2 := HC6.out 2
    have x3 := HC6.out 3
    have x4 := HC6.out 4
    have x5 := HC6.out 5
    have x6 := HC6.out 6
    have x7 := HC6.out 7
    have h57 : Below w5.heap.size w5 (w6.alloc (.cells (vtgC xb0 xn0 xb1 xn1 xb2 xn2 xb3 xn3) 25)) := bthen hb6 (below_new _ _)
    have HB7 := Lib.hid (bthen HB5.out h57)
    have HS7 : Hid (Strs (w6.alloc (.cells (vtgC xb0 xn0 xb1 xn1 xb2 xn2 xb3 xn3) 25)) (w6.alloc (.cells (vtgC xb0 xn0 xb1 xn1 xb2 xn2 xb3 xn3) 25)).heap.size A5 fb) := (HS5.out.below h57 (Nat.le_refl _)).more h57.size
    have HR7 : Hid (Strs (w6.alloc (.cells (vtgC xb0 xn0 xb1 xn1 xb2 xn2 xb3 xn3) 25)) (w6.alloc (.cells (vtgC xb0 xn0 xb1 xn1 xb2 xn2 xb3 xn3) 25)).heap.size A R) := (hs.out.below HB7.out (Nat.le_refl _)).more HB7.out.size
    clear h57 hb6 HC6 HM6 HC5 HZ5 HS5 HB5
    go_wp2_with fail
    refine (num28_any _ _).mono ?_
    rintro e w' ⟨rfl, rfl⟩
    go_wp2_with fail
    refine (num28_any _ _).mono ?_
    rintro e w' ⟨rfl, rfl⟩
    go_wp2_with fail
    generalize w6.alloc (.cells (vtgC xb0 xn0 xb1 xn1 xb2 xn2 xb3 xn3) 25) = W7 at *
    go_loopw [15] (fun i wr => ∃ k nq : Nat, k ≤ 8 ∧ i = .int .i64 k ∧ wr = W7.drewN nq) (fun i _ => 8 - (intOf i).toNat)
    case atStart => exact ⟨0, 0, Nat.zero_le _, rfl, rfl⟩
    case round =>
      obtain ⟨k, nq, hk, rfl, rfl⟩ := hrel
      by_cases hlt : k < 8
      · have hkb : k < fb.length := by rw [HN8.out]; exact hlt
        have hkr : k < R.length := by rw [hn.out]; omega
        obtain ⟨a1, o1, hA1, hb1, hc1⟩ := HS7.out k hkb
        obtain ⟨a2, o2, hA2, hb2, hc2⟩ := HR7.out k hkr
        subst hA1 hA2
        have i1 : (0 : Int) ≤ (k : Int) := Int.natCast_nonneg _
        have i2 : (k : Int) < 8 := by omega
        have i3 : (k : Int) < (n : Int) := by omega
        have hle : (fb[k].size : Int) ≤ (R[k].size : Int) := by
          have := HNL.out k fb[k] R[k] (List.getElem?_eq_getElem hkb) (List.getElem?_eq_getElem hkr)
          omega
        have z1 : fb[k].size ≤ 100 := HSM.out _ (List.getElem_mem _)
        have z2 : R[k].size ≤ 100 := hRz.out _ (List.getElem_mem _)
        generalize fb[k] = f at *
        generalize R[k] = g at *
        clear hkb hkr
        go_wp2_with fail
        go_quiet (fail)
        go_wp2_with fail
        go_roundw
        case rel => exact ⟨k + 1, _, by omega, by go_num, rfl⟩
        case measure => simp [intOf]; omega
      · obtain rfl : k = 8 := by omega
        go_wp2_with fail
        go_ret
        exact ⟨rfl, bdrewN HB7.out _⟩
  · have hne : (F != 0) = true := by rw [bne_iff_ne]; exact hF
    have hz := HX0.out hF
    have HE2 := HE0
    simp only [vtgV, vtgC, Value.agg.injEq, Array.mk.injEq, List.cons.injEq, Value.bool.injEq, Value.int.injEq, true_and, and_true] at hz
    obtain ⟨rfl, rfl, rfl, rfl, rfl, rfl, rfl, rfl⟩ := hz
    have x0 := HC4.out 0
    have x1 := HC4.out 1
    have x2 := HC4.out 2
    have x3 := HC4.out 3
    have x4 := HC4.out 4
    have x5 := HC4.out 5
    have x6 := HC4.out 6
    have x7 := HC4.out 7
    clear HX1 HX0 HC4
    obtain ⟨q, hq⟩ : ∃ q, fa.length = q := ⟨_, rfl⟩
    rw [hq] at HE2 ⊢
    clear hq HE0
    by_cases hE : E = 0
    · subst hE
      go_wp2_with fail
      refine (num28_any _ _).mono ?_
      rintro e w' ⟨rfl, rfl⟩
      go_wp2_with fail
      go_ret
      exact ⟨by rfl, HB4.out⟩
    · have hne2 : (E == 0) = false := by rw [beq_eq_false_iff_ne]; exact hE
      have hq0 := HE2.out hE
      subst hq0
      go_wp2_with fail
      refine (num28_any _ _).mono ?_
      rintro e w' ⟨rfl, rfl⟩
      go_wp2_with fail
      go_ret
      exact ⟨by rfl, HB4.out⟩

end Go.Proofs.YtcoohlopafjnmaaDoor

/- The law VtgBack: the walk and the plain law, joined. -/
namespace Go.Proofs.YtcoohlopafjnmaaDoor
set_option linter.unusedVariables false
open Go.RowKit

theorem vtgPutN_any {N : List (Bool × Int)} {b0 : Bool} {n0 : Int} {b1 : Bool} {n1 : Int} {b2 : Bool} {n2 : Int} {b3 : Bool} {n3 : Int} (hN : N = [(b0, n0), (b1, n1), (b2, n2), (b3, n3)]) (w : World) : Calls Tryd.prog 14 #[vtgV b0 n0 b1 n1 b2 n2 b3 n3] w (PutPost ((putVtg N).1, (putVtg N).2) w) := by
  subst hN
  exact vtgPut_any b0 n0 b1 n1 b2 n2 b3 n3 w
theorem vtgTaken_any {R : List ByteArray} {N : List (Bool × Int)} {E : Int} {b0 : Bool} {n0 : Int} {b1 : Bool} {n1 : Int} {b2 : Bool} {n2 : Int} {b3 : Bool} {n3 : Int} (ht : takeVtg R = (N, E)) (hN : N = [(b0, n0), (b1, n1), (b2, n2), (b3, n3)]) (hn : R.length ≤ 1000) (hz : Small R) (B : Option Addr) (d : Nat) (W : World) (hB : B = none → d = 0) (hs : Strs W W.heap.size B R) :
    Calls Tryd.prog 39 #[.slice B R.length d] W fun r w' => r = .returned (.tuple #[vtgV b0 n0 b1 n1 b2 n2 b3 n3, .int .i64 E]) ∧ Below W.heap.size W w' := by
  have := vtgTake_any B R d W hB hs (by omega) (fun t h => Nat.le_trans (hz t h) (by omega))
  rw [ht, hN] at this
  exact this
theorem vtgBack_any (b0 : Bool) (n0 : Int) (b1 : Bool) (n1 : Int) (b2 : Bool) (n2 : Int) (b3 : Bool) (n3 : Int) (A : Option Addr) (c : Nat) (fs : List ByteArray) (w : World) (hA : A = none → c = 0) (hn : fs.length ≤ maxLen) (hs : Strs w w.heap.size A fs) (hz : ∀ f ∈ fs, f.size ≤ maxLen) :
    Calls Tryd.prog 11 #[vtgV b0 n0 b1 n1 b2 n2 b3 n3, .slice A fs.length c] w fun e w' => e = .returned (.bool true) ∧ Below w.heap.size w w' := by
  have hst : ∀ W, Below w.heap.size w W → Strs W W.heap.size A fs := fun W hb => (hs.below hb (Nat.le_refl _)).more hb.size
  have hf : ∀ W, Below w.heap.size w W → Calls Tryd.prog 36 #[.slice A fs.length c] W fun e w' => e = .returned (.bool (fewL fs)) ∧ w' = W := fun W hb => r25Few_any A fs.length c fs W rfl (hst W hb) hz hn
  cases hfew : fewL fs with
  | false =>
    rw [hfew] at hf
    exact vtgBack_many b0 n0 b1 n1 b2 n2 b3 n3 A c fs w hf
  | true =>
    rw [hfew] at hf
    obtain ⟨h40, h100⟩ := (fewL_iff fs).1 hfew
    obtain ⟨x0, y0, x1, y1, x2, y2, x3, y3, hN⟩ := four_of (takeVtg_len fs)
    have hM : ([(b0, n0), (b1, n1), (b2, n2), (b3, n3)] : List (Bool × Int)).length = 4 := rfl
    refine vtgBack_few b0 n0 b1 n1 b2 n2 b3 n3 x0 y0 x1 y1 x2 y2 x3 y3 (takeVtg fs).2 A fs.length c fs (putVtg [(b0, n0), (b1, n1), (b2, n2), (b3, n3)]).1 (putVtg (takeVtg fs).1).1 (putVtg [(b0, n0), (b1, n1), (b2, n2), (b3, n3)]).2 w rfl hs h100 h40 hf
      (fun W => vtgPutN_any rfl W) (fun h => ?_) (fun h => ?_) (fun W hb => ?_) (fun h => ?_) (fun h => ?_)
    · have : (putVtg [(b0, n0), (b1, n1), (b2, n2), (b3, n3)]).1 = [] := wrDone_none h
      rw [this]; rfl
    · obtain ⟨h1, h2⟩ := vtg_put_take hM h
      exact fun B d W hB hS => vtgTaken_any h1 rfl (by omega) (putVtg_small _) B d W hB hS
    · exact vtgTaken_any (Prod.ext rfl rfl) hN (by omega) h100 A c W hA (hst W hb)
    · have h1 := takeVtg_no h
      rw [hN] at h1
      simp only [zeros4, List.cons.injEq, Prod.mk.injEq, and_true] at h1
      obtain ⟨⟨rfl, rfl⟩, ⟨rfl, rfl⟩, ⟨rfl, rfl⟩, ⟨rfl, rfl⟩⟩ := h1
      rfl
    · obtain ⟨h1, h2, h3⟩ := vtg_take_put h
      obtain ⟨h4, h5⟩ := vtg_put_take h1 h2
      refine ⟨fun W => ?_, fun B d W hB hS => vtgTaken_any h4 hN (by omega) (putVtg_small _) B d W hB hS, h5, ?_, putVtg_small _, h3⟩
      · have := vtgPutN_any hN W
        rw [h2] at this
        exact this
      · have h6 : ¬(fs.length ≠ 8 ∧ fs.length ≠ 9) := fun q => by rw [vtg_bad q] at h; exact absurd h (by decide)
        omega
end Go.Proofs.YtcoohlopafjnmaaDoor
