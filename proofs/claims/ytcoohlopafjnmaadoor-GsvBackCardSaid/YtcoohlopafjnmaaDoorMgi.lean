/- Layer 29: Same; the law GsvTakes, walked. -/
import Derived.Test.YtcoohlopafjnmaaDoorMgh
import Derived.Test.YtcoohlopafjnmaaDoorMgd
import Derived.Test.YtcoohlopafjnmaaDoorMv8
namespace Go.Proofs.YtcoohlopafjnmaaDoor
set_option linter.unusedVariables false
open Go.RowKit

set_option maxRecDepth 8000 in
set_option maxHeartbeats 4000000 in
theorem r29Views_same (A B : Option Addr) (n c d : Nat) (L : List V4) (w : World) (hn : Hid (L.length = n)) (hA : Hid (Vws w w.heap.size A L)) (hB : Hid (Vws w w.heap.size B L)) (h0 : n ≤ 1000000) :
    Calls Tryd.prog 31 #[.slice A n c, .slice B n d] w fun e w' => e = .returned (.bool true) ∧ Below w.heap.size w w' := by
  have hb : ((n : Int) != (n : Int)) = false := by rw [bne_eq_false_iff_eq]
  go_enter Tryd.func31, Tryd.ntmps31
  go_wp2
  go_loopw [5] (fun i wr => ∃ k nq : Nat, k ≤ n ∧ i = .int .i64 k ∧ wr = w.drewN nq) (fun i _ => n - (intOf i).toNat)
  case atStart => exact ⟨0, 0, Nat.zero_le _, rfl, rfl⟩
  case round =>
    obtain ⟨k, nq, hk, rfl, rfl⟩ := hrel
    by_cases hlt : k < n
    · have hkl : k < L.length := by rw [hn.out]; exact hlt
      obtain ⟨b1, o1, hA1, hb1, hc1⟩ := hA.out k hkl
      obtain ⟨b2, o2, hA2, hb2, hc2⟩ := hB.out k hkl
      subst hA1 hA2
      generalize L[k] = v at *
      obtain ⟨⟨vb0, vn0⟩, ⟨vb1, vn1⟩, ⟨vb2, vn2⟩, ⟨vb3, vn3⟩⟩ := v
      have e1 : ∀ (j : Nat) u, (viewC ((vb0, vn0), (vb1, vn1), (vb2, vn2), (vb3, vn3)))[j]? = some u → w.cell? ⟨b1, o1 + k * 8 + j, none⟩ = some u := fun j u hu => by
        rw [show o1 + k * 8 + j = o1 + 8 * k + j from by omega]; exact hc1 j u hu
      have e2 : ∀ (j : Nat) u, (viewC ((vb0, vn0), (vb1, vn1), (vb2, vn2), (vb3, vn3)))[j]? = some u → w.cell? ⟨b2, o2 + k * 8 + j, none⟩ = some u := fun j u hu => by
        rw [show o2 + k * 8 + j = o2 + 8 * k + j from by omega]; exact hc2 j u hu
      have x0 : w.cell? ⟨b1, o1 + k * 8, none⟩ = some (.bool vb0) := e1 0 _ rfl
      have x1 := e1 1 _ rfl
      have x2 := e1 2 _ rfl
      have x3 := e1 3 _ rfl
      have x4 := e1 4 _ rfl
      have x5 := e1 5 _ rfl
      have x6 := e1 6 _ rfl
      have x7 := e1 7 _ rfl
      have y0 : w.cell? ⟨b2, o2 + k * 8, none⟩ = some (.bool vb0) := e2 0 _ rfl
      have y1 := e2 1 _ rfl
      have y2 := e2 2 _ rfl
      have y3 := e2 3 _ rfl
      have y4 := e2 4 _ rfl
      have y5 := e2 5 _ rfl
      have y6 := e2 6 _ rfl
      have y7 := e2 7 _ rfl
      have i1 : (0 : Int) ≤ (k : Int) := Int.natCast_nonneg _
      have i2 : (k : Int) < (n : Int) := by omega
      clear hc1 hc2 e1 e2 hkl
      go_wp2_with fail
      go_quiet (fail)
      go_wp2_with fail
      go_roundw
      case rel => exact ⟨k + 1, _, by omega, by go_num, rfl⟩
      case measure => simp [intOf]; omega
    · go_wp2_with fail
      go_ret
      exact ⟨by rfl, bdrewN (Below.refl _ _) _⟩
set_option maxRecDepth 8000 in
set_option maxHeartbeats 4000000 in
theorem r29Same_same (T N S : Int) (A B : Option Addr) (n c d : Nat) (L : List V4) (w : World) (hn : Hid (L.length = n)) (hA : Hid (Vws w w.heap.size A L)) (hB : Hid (Vws w w.heap.size B L)) (h0 : n ≤ 1000000) :
    Calls Tryd.prog 43 #[gsvV T N S A n c, gsvV T N S B n d] w fun e w' => e = .returned (.bool true) ∧ Below w.heap.size w w' := by
  have hbb : ∀ o1 o2, Below w.heap.size w ((w.alloc o1).alloc o2) := fun o1 o2 => bthen (below_new _ _) (below_new _ _)
  have HV : ∀ o1 o2, Hid (Calls Tryd.prog 31 #[.slice A n c, .slice B n d] ((w.alloc o1).alloc o2) fun e w' => e = .returned (.bool true) ∧ Below ((w.alloc o1).alloc o2).heap.size ((w.alloc o1).alloc o2) w') := fun o1 o2 =>
    r29Views_same A B n c d L _ hn ((hA.out.below (hbb o1 o2) (Nat.le_refl _)).more (hbb o1 o2).size) ((hB.out.below (hbb o1 o2) (Nat.le_refl _)).more (hbb o1 o2).size) h0
  have HB := fun o1 o2 => Lib.hid (hbb o1 o2)
  clear hA hB hbb
  go_enter Tryd.func43, Tryd.ntmps43
  go_wp2_with fail
  refine (HV _ _).out.mono ?_
  rintro r w1 ⟨rfl, hb1⟩
  go_wp2_with fail
  go_ret
  exact ⟨by rfl, bthen (HB _ _).out hb1⟩
theorem gsvTake_any (A : Option Addr) (R : List ByteArray) (c : Nat) (w : World) (hA : A = none → c = 0) (hs : Strs w w.heap.size A R) (hn : R.length ≤ 1000000) (hz : ∀ t ∈ R, t.size ≤ 1000000) : Calls Tryd.prog 41 #[.slice A R.length c] w (GsvPost (takeGsv R) w) := by
  by_cases h : badG R.length
  · have : takeGsv R = (zeroG, 3) := by unfold takeGsv; rw [if_pos h]
    rw [this]
    exact gsvTake_bad A R.length c w h hn
  · unfold badG at h
    exact gsvTake_ok A R.length c ((R.length - 3) / 4) R w rfl hA hs hz (Lib.hid (by omega)) (by omega)
theorem r29Take_any (A : Option Addr) (R : List ByteArray) (c : Nat) (w : World) (hA : A = none → c = 0) (hs : Strs w w.heap.size A R) (hn : R.length ≤ 1000000) (hz : ∀ t ∈ R, t.size ≤ 1000000) : Calls Tryd.prog 42 #[.slice A R.length c] w (GsvPost (takeGsv R) w) := by
  by_cases h : badG R.length
  · have : takeGsv R = (zeroG, 3) := by unfold takeGsv; rw [if_pos h]
    rw [this]
    exact r29Take_bad A R.length c w h hn
  · unfold badG at h
    exact r29Take_ok A R.length c ((R.length - 3) / 4) R w rfl hA hs hz (Lib.hid (by omega)) (by omega)
set_option maxRecDepth 8000 in
theorem gsvTakes_many (A : Option Addr) (n c : Nat) (w : World) (HF : Hid (Calls Tryd.prog 36 #[.slice A n c] w fun e w' => e = .returned (.bool false) ∧ w' = w)) :
    Calls Tryd.prog 12 #[.slice A n c] w fun e w' => e = .returned (.bool true) ∧ Below w.heap.size w w' := by
  have HK := fun W => Lib.hid (knows29_any W)
  go_enter Tryd.func12, Tryd.ntmps12
  go_wp2_with fail
  refine (HF.out).mono ?_
  rintro e w' ⟨rfl, rfl⟩
  go_wp2_with fail
  refine ((HK _).out).mono ?_
  rintro e w1 ⟨rfl, hb1⟩
  go_wp2_with fail
  go_ret
  exact ⟨rfl, hb1⟩
set_option maxRecDepth 8000 in
set_option maxHeartbeats 4000000 in
theorem gsvTakes_few (A : Option Addr) (n c : Nat) (w : World) (T N S E : Int) (L : List V4) (hL : L.length ≤ 1000000) (HF : Hid (Calls Tryd.prog 36 #[.slice A n c] w fun e w' => e = .returned (.bool true) ∧ w' = w))
    (HT : ∀ W, Below w.heap.size w W → Hid (Calls Tryd.prog 41 #[.slice A n c] W (GsvPost (⟨T, N, S, L⟩, E) W)))
    (HR : ∀ W, Below w.heap.size w W → Hid (Calls Tryd.prog 42 #[.slice A n c] W (GsvPost (⟨T, N, S, L⟩, E) W))) :
    Calls Tryd.prog 12 #[.slice A n c] w fun e w' => e = .returned (.bool true) ∧ Below w.heap.size w w' := by
  have HK := fun W => Lib.hid (knows29_any W)
  obtain ⟨m, hm⟩ : ∃ m, L.length = m := ⟨_, rfl⟩
  have HMM := Lib.hid hm
  rw [hm] at hL
  clear hm
  go_enter Tryd.func12, Tryd.ntmps12
  go_wp2_with fail
  refine (HF.out).mono ?_
  rintro e w' ⟨rfl, rfl⟩
  go_wp2_with fail
  refine ((HK _).out).mono ?_
  rintro e w1 ⟨rfl, hb1⟩
  have HB1 := Lib.hid hb1
  clear hb1
  go_wp2_with fail
  refine ((HT w1 HB1.out).out).mono ?_
  rintro e w2 ⟨A2, c2, rfl, hv2, hb2⟩
  simp only at hv2
  rw [HMM.out]
  have hbn2 := below_new w2 (.cells (gsvC T N S A2 m c2) 37)
  have HB2 := Lib.hid (bthen (bthen HB1.out hb2) hbn2)
  have HC2 : Hid (∀ o, (w2.alloc (.cells (gsvC T N S A2 m c2) 37)).cell? ⟨w2.heap.size, o, none⟩ = (gsvC T N S A2 m c2)[o]?) := fun o => World.cell?_alloc_at _ _ _ _ rfl
  have HV2 := Lib.hid ((hv2.below hbn2 (Nat.le_refl _)).more hbn2.size)
  clear hb2 hbn2 hv2
  go_wp2_with fail
  refine ((HR _ HB2.out).out).mono ?_
  rintro e w3 ⟨A3, c3, rfl, hv3, hb3⟩
  simp only at hv3
  rw [HMM.out]
  have hz3 : w2.heap.size < w3.heap.size := by have := hb3.size; simp at this; omega
  have hbn3 := below_new w3 (.cells (gsvC T N S A3 m c3) 37)
  have HC3 : Hid (∀ o, (w3.alloc (.cells (gsvC T N S A3 m c3) 37)).cell? ⟨w2.heap.size, o, none⟩ = (gsvC T N S A2 m c2)[o]?) := fun o => (World.cell?_alloc_past _ _ _ hz3).trans (((bcell hb3).1 _ o (by simp)).trans (HC2.out o))
  have m0 := HC3.out 0
  have m1 := HC3.out 1
  have m2 := HC3.out 2
  have m3 := HC3.out 3
  have HB3 := Lib.hid (bthen (bthen HB2.out hb3) hbn3)
  have HSM := Lib.hid (r29Same_same T N S A2 A3 m c2 c3 L (w3.alloc (.cells (gsvC T N S A3 m c3) 37)) HMM ((HV2.out.below (bthen hb3 hbn3) (Nat.le_refl _)).more (bthen hb3 hbn3).size) ((hv3.below hbn3 (Nat.le_refl _)).more hbn3.size) hL)
  clear hb3 hbn3 hz3 hv3 HC2 HV2
  go_wp2_with fail
  refine (HSM.out).mono ?_
  rintro e w4 ⟨rfl, hb4⟩
  have HB4 := Lib.hid (bthen HB3.out hb4)
  clear hb4
  go_wp2_with fail
  refine (num29_any _ _).mono ?_
  rintro e w' ⟨rfl, rfl⟩
  go_wp2_with fail
  refine (num29_any _ _).mono ?_
  rintro e w' ⟨rfl, rfl⟩
  go_wp2_with fail
  go_ret
  exact ⟨by rfl, HB4.out⟩
theorem takeGsv_len (R : List ByteArray) : (takeGsv R).1.L.length ≤ 4 := by
  by_cases h : (takeGsv R).2 = 0
  · exact (gsv_take_put h).1
  · rw [takeGsv_no h]; exact Nat.zero_le _
theorem gsvTakes_any (A : Option Addr) (c : Nat) (fs : List ByteArray) (w : World) (hA : A = none → c = 0) (hn : fs.length ≤ maxLen) (hs : Strs w w.heap.size A fs) (hz : ∀ f ∈ fs, f.size ≤ maxLen) :
    Calls Tryd.prog 12 #[.slice A fs.length c] w fun e w' => e = .returned (.bool true) ∧ Below w.heap.size w w' := by
  have hst : ∀ W, Below w.heap.size w W → Strs W W.heap.size A fs := fun W hb => (hs.below hb (Nat.le_refl _)).more hb.size
  have hf : ∀ W, Below w.heap.size w W → Calls Tryd.prog 36 #[.slice A fs.length c] W fun e w' => e = .returned (.bool (fewL fs)) ∧ w' = W := fun W hb => r25Few_any A fs.length c fs W rfl (hst W hb) hz hn
  cases hfew : fewL fs with
  | false =>
    rw [hfew] at hf
    exact gsvTakes_many A fs.length c w (hf w (Below.refl _ _))
  | true =>
    rw [hfew] at hf
    obtain ⟨h40, h100⟩ := (fewL_iff fs).1 hfew
    exact gsvTakes_few A fs.length c w (takeGsv fs).1.T (takeGsv fs).1.N (takeGsv fs).1.S (takeGsv fs).2 (takeGsv fs).1.L (Nat.le_trans (takeGsv_len fs) (by omega)) (hf w (Below.refl _ _))
      (fun W hb => gsvTake_any A fs c W hA (hst W hb) (by omega) (fun t ht => Nat.le_trans (h100 t ht) (by omega)))
      (fun W hb => r29Take_any A fs c W hA (hst W hb) (by omega) (fun t ht => Nat.le_trans (h100 t ht) (by omega)))
end Go.Proofs.YtcoohlopafjnmaaDoor

/- The law GsvBack, walked and joined. Printed by gengsvd.py. -/
namespace Go.Proofs.YtcoohlopafjnmaaDoor
set_option linter.unusedVariables false
open Go.RowKit

set_option maxRecDepth 8000 in
theorem gsvBack_big (T N S : Int) (A : Option Addr) (n c : Nat) (B : Option Addr) (m d : Nat) (w : World) (h : (20 : Int) < (n : Int)) (hm : n ≤ maxLen) : Calls Tryd.prog 13 #[gsvV T N S A n c, .slice B m d] w fun e w' => e = .returned (.bool true) ∧ Below w.heap.size w w' := by
  unfold maxLen at hm
  have HK := fun W => Lib.hid (knows29_any W)
  go_enter Tryd.func13, Tryd.ntmps13
  go_wp2_with fail
  refine ((HK _).out).mono ?_
  rintro e w1 ⟨rfl, hb1⟩
  go_wp2_with fail
  go_ret
  exact ⟨rfl, bthen (below_new _ _) hb1⟩
set_option maxRecDepth 8000 in
theorem gsvBack_many (T N S : Int) (A : Option Addr) (n c : Nat) (B : Option Addr) (m d : Nat) (w : World) (h : (n : Int) ≤ 20) (HF : ∀ W, Below w.heap.size w W → Hid (Calls Tryd.prog 36 #[.slice B m d] W fun e w' => e = .returned (.bool false) ∧ w' = W)) : Calls Tryd.prog 13 #[gsvV T N S A n c, .slice B m d] w fun e w' => e = .returned (.bool true) ∧ Below w.heap.size w w' := by
  have HK := fun W => Lib.hid (knows29_any W)
  have HF1 := HF _ (below_new w (.cells (gsvC T N S A n c) 37))
  go_enter Tryd.func13, Tryd.ntmps13
  go_wp2_with fail
  refine (HF1.out).mono ?_
  rintro e w' ⟨rfl, rfl⟩
  go_wp2_with fail
  refine ((HK _).out).mono ?_
  rintro e w1 ⟨rfl, hb1⟩
  go_wp2_with fail
  go_ret
  exact ⟨rfl, bthen (below_new _ _) hb1⟩
set_option maxRecDepth 8000 in
set_option maxHeartbeats 8000000 in
theorem gsvBack_few (T N S : Int) (A : Option Addr) (n c : Nat) (L : List V4) (xT xN xS F : Int) (xL : List V4) (A' : Option Addr) (n' c' : Nat) (R fa fb : List ByteArray) (E : Int) (w : World) (hn20 : (n : Int) ≤ 20) (hL : Hid (L.length = n)) (hv : Hid (Vws w w.heap.size A L)) (hxl : Hid (xL.length ≤ 4))
    (hn : Hid (R.length = n')) (hs : Hid (Strs w w.heap.size A' R)) (hRz : Hid (∀ f ∈ R, f.size ≤ 100)) (hn40 : n' ≤ 40)
    (HF : ∀ W, Below w.heap.size w W → Hid (Calls Tryd.prog 36 #[.slice A' n' c'] W fun e w' => e = .returned (.bool true) ∧ w' = W))
    (HP : ∀ W, Below w.heap.size w W → Hid (Calls Tryd.prog 24 #[gsvV T N S A n c] W (PutPost (fa, E) W)))
    (HE0 : Hid (E ≠ 0 → fa.length = 0))
    (HT1 : Hid (E = 0 → ∀ B d W, (B = none → d = 0) → Strs W W.heap.size B fa → Calls Tryd.prog 41 #[.slice B fa.length d] W (GsvPost (⟨T, N, S, L⟩, 0) W)))
    (HT2 : ∀ W, Below w.heap.size w W → Hid (Calls Tryd.prog 41 #[.slice A' n' c'] W (GsvPost (⟨xT, xN, xS, xL⟩, F) W)))
    (HX0 : Hid (F ≠ 0 → xT = 0 ∧ xN = 0 ∧ xS = 0 ∧ xL = []))
    (HX1 : Hid (F = 0 → (∀ A2 c2 W, Vws W W.heap.size A2 xL → Calls Tryd.prog 24 #[gsvV xT xN xS A2 xL.length c2] W (PutPost (fb, 0) W)) ∧ (∀ B d W, (B = none → d = 0) → Strs W W.heap.size B fb → Calls Tryd.prog 41 #[.slice B fb.length d] W (GsvPost (⟨xT, xN, xS, xL⟩, 0) W)) ∧ fb.length = n' ∧ Small fb ∧ NoLonger fb R)) :
    Calls Tryd.prog 13 #[gsvV T N S A n c, .slice A' n' c'] w fun e w' => e = .returned (.bool true) ∧ Below w.heap.size w w' := by
  have HK := fun W => Lib.hid (knows29_any W)
  have HB0 := Lib.hid (below_new w (.cells (gsvC T N S A n c) 37))
  have HC0 : Hid (∀ o, (w.alloc (.cells (gsvC T N S A n c) 37)).cell? ⟨w.heap.size, o, none⟩ = (gsvC T N S A n c)[o]?) := fun o => World.cell?_alloc_at _ _ _ _ rfl
  obtain ⟨xm, hxm⟩ : ∃ xm, xL.length = xm := ⟨_, rfl⟩
  have HXM := Lib.hid hxm
  have i4 : xm ≤ 4 := by rw [← hxm]; exact hxl.out
  rw [hxm] at HX1
  clear hxm
  go_enter Tryd.func13, Tryd.ntmps13
  go_wp2_with fail
  refine ((HF _ HB0.out).out).mono ?_
  rintro e w' ⟨rfl, rfl⟩
  go_wp2_with fail
  refine ((HK _).out).mono ?_
  rintro e w1 ⟨rfl, hb1⟩
  have HB1 := Lib.hid (bthen HB0.out hb1)
  have HC1 : Hid (∀ o, w1.cell? ⟨w.heap.size, o, none⟩ = (gsvC T N S A n c)[o]?) := fun o => ((bcell hb1).1 _ o (by simp)).trans (HC0.out o)
  have HZ1 : Hid (w.heap.size < w1.heap.size) := by show _ < _; have := hb1.size; simp at this; omega
  clear hb1 HB0 HC0
  have m0 := HC1.out 0
  have m1 := HC1.out 1
  have m2 := HC1.out 2
  have m3 := HC1.out 3
  go_wp2_with fail
  refine ((HP _ HB1.out).out).mono ?_
  rintro e w2 ⟨v, rfl, A2, c2, rfl, hA2, hs2, -, hb2⟩
  have HB2 := Lib.hid (bthen HB1.out hb2)
  have HC2 : Hid (∀ o, w2.cell? ⟨w.heap.size, o, none⟩ = (gsvC T N S A n c)[o]?) := fun o => ((bcell hb2).1 _ o HZ1.out).trans (HC1.out o)
  have HZ2 : Hid (w.heap.size < w2.heap.size) := Nat.lt_of_lt_of_le HZ1.out hb2.size
  have HS2 := Lib.hid hs2
  have HA2 := Lib.hid hA2
  clear hb2 hs2 hA2 HB1 HC1 HZ1 HP HF m0 m1 m2 m3
  try dsimp only
  repeat (fail_if_success (show Code.wp _ (Code.seq (Code.region 4 _ _) _) _ _ _)
          first | go_values | go_skip | go_guarded | go_step | go_upon | go_back | (simp only [Int.not_lt, Int.not_le] at *; go_simp) | (go_ite <;> go_prune <;> (try go_simp)))
  go_cut [] (fun wx => Hid (Below w.heap.size w wx))
  case first =>
    go_wp2_with fail
    refine (num29_any _ _).mono ?_
    rintro e w' ⟨rfl, rfl⟩
    by_cases hE : E = 0
    · subst hE
      have HT := Lib.hid (HT1.out rfl A2 c2 w2 HA2.out HS2.out)
      clear HT1 HX1 HX0 HE0 HT2
      go_wp2_with fail
      refine (HT.out).mono ?_
      rintro e w3 ⟨A3, c3, rfl, hv3, hb3⟩
      simp only at hv3
      rw [hL.out]
      have hbn := below_new w3 (.cells (gsvC T N S A3 n c3) 37)
      have hb33 := bthen hb3 hbn
      have HC3 : Hid (∀ o, (w3.alloc (.cells (gsvC T N S A3 n c3) 37)).cell? ⟨w3.heap.size, o, none⟩ = (gsvC T N S A3 n c3)[o]?) := fun o => World.cell?_alloc_at _ _ _ _ rfl
      have HM3 : Hid (∀ o, (w3.alloc (.cells (gsvC T N S A3 n c3) 37)).cell? ⟨w.heap.size, o, none⟩ = (gsvC T N S A n c)[o]?) := fun o => (World.cell?_alloc_past _ _ _ (Nat.lt_of_lt_of_le HZ2.out hb3.size)).trans (((bcell hb3).1 _ o HZ2.out).trans (HC2.out o))
      have m0 := HM3.out 0
      have m1 := HM3.out 1
      have m2 := HM3.out 2
      have m3 := HM3.out 3
      have x0 := HC3.out 0
      have x1 := HC3.out 1
      have x2 := HC3.out 2
      have x3 := HC3.out 3
      have HB3 := Lib.hid (bthen HB2.out hb33)
      have HSM := Lib.hid (r29Same_same T N S A3 A n c3 c L (w3.alloc (.cells (gsvC T N S A3 n c3) 37)) hL ((hv3.below hbn (Nat.le_refl _)).more hbn.size) ((hv.out.below HB3.out (Nat.le_refl _)).more HB3.out.size) (by omega))
      clear hb3 hb33 hbn hv3 HC3 HM3 HC2
      go_wp2_with fail
      refine (HSM.out).mono ?_
      rintro e w4 ⟨rfl, hb4⟩
      have HB4 := Lib.hid (bthen HB3.out hb4)
      clear hb4
      go_wp2_with fail
      refine (num29_any _ _).mono ?_
      rintro e w' ⟨rfl, rfl⟩
      go_wp2_with fail
      go_meet
      exact HB4
    · have hne : (E == 0) = false := by rw [beq_eq_false_iff_ne]; exact hE
      go_wp2_with fail
      go_meet
      exact HB2
  case rest =>
  have HB3 := hcut
  clear HT1 HC2 HZ2 HS2 HA2 HB2
  go_wp2_with fail
  refine ((HT2 _ HB3.out).out).mono ?_
  rintro e w4 ⟨A4, c4, rfl, hv4, hb4⟩
  simp only at hv4
  rw [HXM.out]
  have hbn4 := below_new w4 (.cells (gsvC xT xN xS A4 xm c4) 37)
  have HB4 := Lib.hid (bthen (bthen HB3.out hb4) hbn4)
  have HV4 := Lib.hid ((hv4.below hbn4 (Nat.le_refl _)).more hbn4.size)
  have HC4 : Hid (∀ o, (w4.alloc (.cells (gsvC xT xN xS A4 xm c4) 37)).cell? ⟨w4.heap.size, o, none⟩ = (gsvC xT xN xS A4 xm c4)[o]?) := fun o => World.cell?_alloc_at _ _ _ _ rfl
  have HZ4 : Hid (w4.heap.size < (w4.alloc (.cells (gsvC xT xN xS A4 xm c4) 37)).heap.size) := by show _ < _; simp
  clear hb4 hbn4 hv4 HB3 hcut HT2
  go_wp2_with fail
  refine (num29_any _ _).mono ?_
  rintro e w' ⟨rfl, rfl⟩
  generalize w4.alloc (.cells (gsvC xT xN xS A4 xm c4) 37) = W4 at *
  by_cases hF : F = 0
  · subst hF
    obtain ⟨hp, ht, h8, hsm, hnl⟩ := HX1.out rfl
    have HP5 := Lib.hid (hp A4 c4 W4 HV4.out)
    have HT5 := Lib.hid ht
    have HSM := Lib.hid hsm
    have HNL := Lib.hid hnl
    have HN8 := Lib.hid h8
    rw [h8] at HT5
    clear hp ht hsm hnl h8 HX1 HX0 HE0
    have x0 := HC4.out 0
    have x1 := HC4.out 1
    have x2 := HC4.out 2
    have x3 := HC4.out 3
    go_wp2_with fail
    refine (HP5.out).mono ?_
    rintro e w5 ⟨v, rfl, A5, c5, rfl, hA5, hs5, -, hb5⟩
    have HB5 := Lib.hid (bthen HB4.out hb5)
    have HC5 : Hid (∀ o, w5.cell? ⟨w4.heap.size, o, none⟩ = (gsvC xT xN xS A4 xm c4)[o]?) := fun o => ((bcell hb5).1 _ o HZ4.out).trans (HC4.out o)
    have HV5 := Lib.hid ((HV4.out.below hb5 (Nat.le_refl _)).more hb5.size)
    have HZ5 : Hid (w4.heap.size < w5.heap.size) := Nat.lt_of_lt_of_le HZ4.out hb5.size
    have HS5 := Lib.hid hs5
    have HT6 := Lib.hid (HT5.out A5 c5 w5 hA5 hs5)
    rw [HN8.out]
    clear hs5 hA5 hb5 HT5 HP5 HC4 HZ4 HB4 HV4 x0 x1 x2 x3
    go_wp2_with fail
    refine (HT6.out).mono ?_
    rintro e w6 ⟨A6, c6, rfl, hv6, hb6⟩
    simp only at hv6
    rw [HXM.out]
    have hbn6 := below_new w6 (.cells (gsvC xT xN xS A6 xm c6) 37)
    have HC6 : Hid (∀ o, (w6.alloc (.cells (gsvC xT xN xS A6 xm c6) 37)).cell? ⟨w6.heap.size, o, none⟩ = (gsvC xT xN xS A6 xm c6)[o]?) := fun o => World.cell?_alloc_at _ _ _ _ rfl
    have HM6 : Hid (∀ o, (w6.alloc (.cells (gsvC xT xN xS A6 xm c6) 37)).cell? ⟨w4.heap.size, o, none⟩ = (gsvC xT xN xS A4 xm c4)[o]?) := fun o => (World.cell?_alloc_past _ _ _ (Nat.lt_of_lt_of_le HZ5.out hb6.size)).trans (((bcell hb6).1 _ o HZ5.out).trans (HC5.out o))
    have m0 := HM6.out 0
    have m1 := HM6.out 1
    have m2 := HM6.out 2
    have m3 := HM6.out 3
    have x0 := HC6.out 0
    have x1 := HC6.out 1
    have x2 := HC6.out 2
    have x3 := HC6.out 3
    have h57 : Below w5.heap.size w5 (w6.alloc (.cells (gsvC xT xN xS A6 xm c6) 37)) := bthen hb6 hbn6
    have HB7 := Lib.hid (bthen HB5.out h57)
    have HS7 : Hid (Strs (w6.alloc (.cells (gsvC xT xN xS A6 xm c6) 37)) (w6.alloc (.cells (gsvC xT xN xS A6 xm c6) 37)).heap.size A5 fb) := (HS5.out.below h57 (Nat.le_refl _)).more h57.size
    have HR7 : Hid (Strs (w6.alloc (.cells (gsvC xT xN xS A6 xm c6) 37)) (w6.alloc (.cells (gsvC xT xN xS A6 xm c6) 37)).heap.size A' R) := (hs.out.below HB7.out (Nat.le_refl _)).more HB7.out.size
    have HSM7 := Lib.hid (r29Same_same xT xN xS A4 A6 xm c4 c6 xL (w6.alloc (.cells (gsvC xT xN xS A6 xm c6) 37)) HXM ((HV5.out.below h57 (Nat.le_refl _)).more h57.size) ((hv6.below hbn6 (Nat.le_refl _)).more hbn6.size) (by omega))
    clear h57 hb6 hbn6 hv6 HC6 HM6 HC5 HZ5 HS5 HB5 HV5
    go_wp2_with fail
    refine (num29_any _ _).mono ?_
    rintro e w' ⟨rfl, rfl⟩
    go_wp2_with fail
    refine (num29_any _ _).mono ?_
    rintro e w' ⟨rfl, rfl⟩
    go_wp2_with fail
    refine (HSM7.out).mono ?_
    rintro e w8 ⟨rfl, hb8⟩
    have HB8 := Lib.hid (bthen HB7.out hb8)
    have HS8 := Lib.hid ((HS7.out.below hb8 (Nat.le_refl _)).more hb8.size)
    have HR8 := Lib.hid ((HR7.out.below hb8 (Nat.le_refl _)).more hb8.size)
    clear hb8 HB7 HS7 HR7 HSM7 m0 m1 m2 m3 x0 x1 x2 x3
    go_wp2_with fail
    go_loopw [15] (fun i wr => ∃ k nq : Nat, k ≤ n' ∧ i = .int .i64 k ∧ wr = w8.drewN nq) (fun i _ => n' - (intOf i).toNat)
    case atStart => exact ⟨0, 0, Nat.zero_le _, rfl, rfl⟩
    case round =>
      obtain ⟨k, nq, hk, rfl, rfl⟩ := hrel
      by_cases hlt : k < n'
      · have hkb : k < fb.length := by rw [HN8.out]; exact hlt
        have hkr : k < R.length := by rw [hn.out]; exact hlt
        obtain ⟨a1, o1, hA1, hb1, hc1⟩ := HS8.out k hkb
        obtain ⟨a2, o2, hA2, hb2, hc2⟩ := HR8.out k hkr
        subst hA1 hA2
        have i1 : (0 : Int) ≤ (k : Int) := Int.natCast_nonneg _
        have i3 : (k : Int) < (n' : Int) := by omega
        have hle : (fb[k].size : Int) ≤ (R[k].size : Int) := by
          have := HNL.out k fb[k] R[k] (List.getElem?_eq_getElem hkb) (List.getElem?_eq_getElem hkr)
          omega
        have z1 : fb[k].size ≤ 100 := HSM.out _ (List.getElem_mem _)
        have z2 : R[k].size ≤ 100 := hRz.out _ (List.getElem_mem _)
        generalize fb[k] = f at *
        generalize R[k] = g at *
        clear hkb hkr
        go_wp2_with fail
        go_quiet (fail)
        go_wp2_with fail
        go_roundw
        case rel => exact ⟨k + 1, _, by omega, by go_num, rfl⟩
        case measure => simp [intOf]; omega
      · obtain rfl : k = n' := by omega
        go_wp2_with fail
        go_ret
        exact ⟨rfl, bdrewN HB8.out _⟩
  · have hne : (F != 0) = true := by rw [bne_iff_ne]; exact hF
    obtain ⟨rfl, rfl, rfl, hx0⟩ := HX0.out hF
    have hxm0 : xm = 0 := by rw [← HXM.out, hx0]; rfl
    subst hx0 hxm0
    have HSM0 := Lib.hid (r29Same_same 0 0 0 A4 none 0 c4 0 [] W4 HXM HV4.out (fun k hk => absurd hk (Nat.not_lt_zero _)) (by omega))
    have HE2 := HE0
    have x0 := HC4.out 0
    have x1 := HC4.out 1
    have x2 := HC4.out 2
    have x3 := HC4.out 3
    clear HX1 HX0 HC4 HV4
    obtain ⟨q, hq⟩ : ∃ q, fa.length = q := ⟨_, rfl⟩
    rw [hq] at HE2 ⊢
    clear hq HE0
    go_wp2_with fail
    refine (HSM0.out).mono ?_
    rintro e w5 ⟨rfl, hb5⟩
    have HB5 := Lib.hid (bthen HB4.out hb5)
    clear hb5 HSM0
    by_cases hE : E = 0
    · subst hE
      go_wp2_with fail
      refine (num29_any _ _).mono ?_
      rintro e w' ⟨rfl, rfl⟩
      go_wp2_with fail
      go_ret
      exact ⟨by rfl, HB5.out⟩
    · have hne2 : (E == 0) = false := by rw [beq_eq_false_iff_ne]; exact hE
      have hq0 := HE2.out hE
      subst hq0
      go_wp2_with fail
      refine (num29_any _ _).mono ?_
      rintro e w' ⟨rfl, rfl⟩
      go_wp2_with fail
      go_ret
      exact ⟨by rfl, HB5.out⟩
theorem putGsv_none {m : GsvD} (h : (putGsv m).2 ≠ 0) : (putGsv m).1 = [] := by
  unfold putGsv at h ⊢
  split at h
  · rename_i q; rw [if_pos q]
  · rename_i q; rw [if_neg q]; exact wrDone_none h
theorem gsvBack_any (T N S : Int) (A : Option Addr) (c : Nat) (L : List V4) (A' : Option Addr) (c' : Nat) (fs : List ByteArray) (w : World) (hL : L.length ≤ maxLen) (hv : Vws w w.heap.size A L) (hA : A' = none → c' = 0) (hn : fs.length ≤ maxLen) (hs : Strs w w.heap.size A' fs) (hz : ∀ f ∈ fs, f.size ≤ maxLen) :
    Calls Tryd.prog 13 #[gsvV T N S A L.length c, .slice A' fs.length c'] w fun e w' => e = .returned (.bool true) ∧ Below w.heap.size w w' := by
  have hst : ∀ W, Below w.heap.size w W → Strs W W.heap.size A' fs := fun W hb => (hs.below hb (Nat.le_refl _)).more hb.size
  have hvt : ∀ W, Below w.heap.size w W → Vws W W.heap.size A L := fun W hb => (hv.below hb (Nat.le_refl _)).more hb.size
  have hf : ∀ W, Below w.heap.size w W → Calls Tryd.prog 36 #[.slice A' fs.length c'] W fun e w' => e = .returned (.bool (fewL fs)) ∧ w' = W := fun W hb => r25Few_any A' fs.length c' fs W rfl (hst W hb) hz hn
  by_cases h20 : L.length ≤ 20
  · cases hfew : fewL fs with
    | false =>
      rw [hfew] at hf
      exact gsvBack_many T N S A L.length c A' fs.length c' w (by omega) hf
    | true =>
      rw [hfew] at hf
      obtain ⟨h40, h100⟩ := (fewL_iff fs).1 hfew
      have hlen : (putGsv ⟨T, N, S, L⟩).1.length ≤ 83 := by
        have := putGsv_len ⟨T, N, S, L⟩
        simp only at this
        omega
      refine gsvBack_few T N S A L.length c L (takeGsv fs).1.T (takeGsv fs).1.N (takeGsv fs).1.S (takeGsv fs).2 (takeGsv fs).1.L A' fs.length c' fs (putGsv ⟨T, N, S, L⟩).1 (putGsv (takeGsv fs).1).1 (putGsv ⟨T, N, S, L⟩).2 w (by omega) rfl hv (takeGsv_len fs) rfl hs h100 h40 hf
        (fun W hb => gsvPut_any T N S A c L W (hvt W hb) (by omega)) (fun h => ?_) (fun h => ?_) (fun W hb => gsvTake_any A' fs c' W hA (hst W hb) (by omega) (fun t ht => Nat.le_trans (h100 t ht) (by omega))) (fun h => ?_) (fun h => ?_)
      · rw [putGsv_none h]; rfl
      · obtain ⟨h1, -⟩ := gsv_put_take h
        intro B d W hB hS
        have := gsvTake_any B (putGsv ⟨T, N, S, L⟩).1 d W hB hS (by omega) (fun t ht => Nat.le_trans (putGsv_small _ t ht) (by omega))
        rw [h1] at this
        exact this
      · have := takeGsv_no h
        rw [this]
        exact ⟨rfl, rfl, rfl, rfl⟩
      · obtain ⟨h1, h2, h3, h4⟩ := gsv_take_put h
        obtain ⟨h5, -⟩ := gsv_put_take h2
        refine ⟨fun A2 c2 W hV => ?_, fun B d W hB hS => ?_, h3, putGsv_small _, h4⟩
        · have := gsvPut_any (takeGsv fs).1.T (takeGsv fs).1.N (takeGsv fs).1.S A2 c2 (takeGsv fs).1.L W hV (by omega)
          have e : putGsv ⟨(takeGsv fs).1.T, (takeGsv fs).1.N, (takeGsv fs).1.S, (takeGsv fs).1.L⟩ = ((putGsv (takeGsv fs).1).1, 0) := Prod.ext rfl h2
          rw [e] at this
          exact this
        · have := gsvTake_any B (putGsv (takeGsv fs).1).1 d W hB hS (by omega) (fun t ht => Nat.le_trans (putGsv_small _ t ht) (by omega))
          rw [h5] at this
          exact this
  · exact gsvBack_big T N S A L.length c A' fs.length c' w (by omega) hL
end Go.Proofs.YtcoohlopafjnmaaDoor
