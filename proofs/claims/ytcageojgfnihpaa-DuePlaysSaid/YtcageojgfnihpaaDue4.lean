/- Layer 43: container/heap.down over a row of timers. -/
import Derived.Test.YtcageojgfnihpaaDue3
import Derived.Deep.DeepCutAuto
import Derived.Deep.CutBlock
namespace Go.Proofs.Ytcageojgfnihpaa
set_option linter.unusedVariables false
open Go.RowKit

def DnR (S : Nat → Prop) (q B c n m i0 : Nat) (f : Nat → Tm) (w : World) (i : Nat) (f' : Nat → Tm) (wr : World) : Prop :=
  RowI S q B c n f' wr ∧ DnI f' m i0 i ∧ SameS f f' m ∧ (∀ k, m ≤ k → f' k = f k) ∧ KeptS S w wr
def DnP (S : Nat → Prop) (q B c n m i0 : Nat) (f : Nat → Tm) (w : World) (r : Bool) (w' : World) : Prop :=
  ∃ f', RowI S q B c n f' w' ∧ SameS f f' m ∧ (∀ k, m ≤ k → f' k = f k) ∧ KeptS S w w' ∧ (r = true → HeapF f' m) ∧ (r = false → UpI f' m i0)
theorem DnR.drewN {S : Nat → Prop} {q B c n m i0 i : Nat} {f f' : Nat → Tm} {w wr : World} (h : DnR S q B c n m i0 f w i f' wr) (k : Nat) : DnR S q B c n m i0 f w i f' (wr.drewN k) :=
  ⟨h.1.drewN k, h.2.1, h.2.2.1, h.2.2.2.1, h.2.2.2.2.drewN k⟩
theorem DnR.stop {S : Nat → Prop} {q B c n m i0 i : Nat} {f f' : Nat → Tm} {w wr : World} (h : DnR S q B c n m i0 f w i f' wr) (hc : ∀ k, k < m → 0 < k → par k = i → edge f' k) (r : Bool) (hr : r = decide (i0 < i)) : DnP S q B c n m i0 f w r wr := by
  have hs := h.2.1.stop hc
  refine ⟨f', h.1, h.2.2.1, h.2.2.2.1, h.2.2.2.2, fun e => hs.2 ?_, fun e => hs.1 ?_⟩
  · rw [e] at hr; have := of_decide_eq_true hr.symm; omega
  · rw [e] at hr; have := of_decide_eq_false hr.symm; have := h.2.1.1; omega
theorem kids {k i : Nat} (h0 : 0 < k) (h : par k = i) : k = 2 * i + 1 ∨ k = 2 * i + 2 := by have : (k - 1) / 2 = i := h; omega
set_option maxRecDepth 8000 in
set_option maxHeartbeats 2000000 in
theorem down_any {S : Nat → Prop} {q B c n m i0 : Nat} {f : Nat → Tm} {w : World} (h : RowI S q B c n f w) (hi0 : i0 < m) (hm : m ≤ n) (hn : n ≤ 1000000) (hd : DnI f m i0 i0) :
    Calls Try.prog 30 #[heapV q, .int .i64 (i0 : Int), .int .i64 (m : Int)] w fun e w' => ∃ r, e = .returned (.bool r) ∧ DnP S q B c n m i0 f w r w' := by
  have H0 : Hid (DnR S q B c n m i0 f w i0 f w) := ⟨h, hd, SameS.refl f m, fun _ _ => rfl, KeptS.refl S w⟩
  have hm2 : m ≤ 1000000 := Nat.le_trans hm hn
  clear h hd
  go_enter Try.func30, Try.ntmps30
  go_wp2_with fail
  go_loopw [7] (fun iv wr => ∃ (i : Nat) (f' : Nat → Tm), iv = .int .i64 (i : Int) ∧ i < m ∧ Hid (DnR S q B c n m i0 f w i f' wr)) (fun iv _ => m - (intOf iv).toNat)
  case atStart => exact ⟨i0, f, rfl, hi0, H0⟩
  case round =>
    obtain ⟨i, f', rfl, hi, HR⟩ := hrel
    obtain ⟨j1, hj1⟩ : ∃ j, 2 * i + 1 = j := ⟨_, rfl⟩
    have w1 : IntKind.i64.wrap (2 * (i : Int)) = 2 * (i : Int) := IntWalk.i64_in _ (by omega)
    have w2 : IntKind.i64.wrap (2 * (i : Int) + 1) = (j1 : Int) := by rw [IntWalk.i64_in _ (by omega)]; omega
    have w3 : 2 * (i : Int) + 1 = (j1 : Int) := by omega
    have HJ1 := Lib.hid hj1
    have hi0i : i0 ≤ i := HR.out.2.1.1
    have HEND : Hid ((∀ k, k < m → 0 < k → par k = i → edge f' k) → ∀ k, DnP S q B c n m i0 f w (decide (i0 < i)) (wr.drewN k)) := fun hc k => (HR.out.drewN k).stop hc _ rfl
    have z1 : (0 : Int) ≤ (j1 : Int) := by omega
    clear hj1
    by_cases h1 : m ≤ j1
    · have HE : Hid (DnP S q B c n m i0 f w (decide (i0 < i)) wr) := HEND.out (fun k hk hk0 hkp => by have := kids hk0 hkp; have := HJ1.out; omega) 0
      have HII := Lib.hid hi0i
      by_cases hii : i = i0
      · subst hii
        rw [decide_eq_false (by omega)] at HE
        clear hi0i HII
        go_wp2_with fail
        go_ret
        exact ⟨false, rfl, HE.out⟩
      · have hgt : i0 < i := by omega
        rw [decide_eq_true hgt] at HE
        clear hi0i
        go_wp2_with fail
        go_ret
        exact ⟨true, rfl, HE.out⟩
    · have h1' : j1 < m := by omega
      obtain ⟨j2, hj2⟩ : ∃ j, j1 + 1 = j := ⟨_, rfl⟩
      have w5 : IntKind.i64.wrap ((j1 : Int) + 1) = (j2 : Int) := by rw [IntWalk.i64_in _ (by omega)]; omega
      have w6 : (j1 : Int) + 1 = (j2 : Int) := by omega
      have HJ2 := Lib.hid hj2
      have ti := HR.out.1.tim i (by omega)
      have t1 := HR.out.1.tim j1 (by omega)
      have HL1 : Hid (∀ h2 : j2 < m, Calls Try.prog 65 #[.slice (some ⟨B, 0, none⟩) n c, .int .i64 (j2 : Int), .int .i64 (j1 : Int)] wr fun e w' => e = .returned (.bool (befT (f' j2) (f' j1))) ∧ ∃ k, w' = wr.drewN k) := fun h2 => by
        have t2 := HR.out.1.tim j2 (by omega)
        exact less_any B n c j2 j1 (f' j2) (f' j1) wr (by omega) (by omega) hn t2.row t1.row t2.id t2.t t1.id t1.t
      -- which one is the least
      obtain ⟨j, hjm, hjp, hji, hmin, hcut⟩ : ∃ j, j < m ∧ par j = i ∧ i < j ∧ (∀ k, k < m → 0 < k → par k = i → befT (f' k) (f' j) = false) ∧
          ((j2 < m ∧ befT (f' j2) (f' j1) = true ∧ j = j2) ∨ (j2 < m ∧ befT (f' j2) (f' j1) = false ∧ j = j1) ∨ (¬ j2 < m ∧ j = j1)) := by
        have hj1' := HJ1.out
        have hrr : ∀ x : Tm, befT x x = false := fun x => by rw [befT_no]; omega
        have p1 : par j1 = i := by show (j1 - 1) / 2 = i; omega
        have p2 : par j2 = i := by show (j2 - 1) / 2 = i; omega
        by_cases h2 : j2 < m
        · cases hb : befT (f' j2) (f' j1) with
          | true =>
            refine ⟨j2, h2, p2, by omega, fun k hk hk0 hkp => ?_, .inl ⟨h2, rfl, rfl⟩⟩
            rcases kids hk0 hkp with e | e
            · rw [show k = j1 by omega]; exact befT_asymm hb
            · rw [show k = j2 by omega]; exact hrr _
          | false =>
            refine ⟨j1, h1', p1, by omega, fun k hk hk0 hkp => ?_, .inr (.inl ⟨h2, rfl, rfl⟩)⟩
            rcases kids hk0 hkp with e | e
            · rw [show k = j1 by omega]; exact hrr _
            · rw [show k = j2 by omega]; exact hb
        · refine ⟨j1, h1', p1, by omega, fun k hk hk0 hkp => ?_, .inr (.inr ⟨h2, rfl⟩)⟩
          rcases kids hk0 hkp with e | e
          · rw [show k = j1 by omega]; exact hrr _
          · omega
      have tj := HR.out.1.tim j (by omega)
      have HL2 := fun k => Lib.hid (less_any B n c j i (f' j) (f' i) (wr.drewN k) (by omega) (by omega) hn tj.row ti.row tj.id tj.t ti.id ti.t)
      have hm1 := mth_less HR.out.1.sl
      have hm2' := fun k => mth_less (HR.out.1.drewN k).sl
      have HMIN := Lib.hid hmin
      have HJP := Lib.hid hjp
      have HCUT := Lib.hid hcut
      clear ti t1 tj hmin hjp hcut hj2
      try dsimp only
      repeat (fail_if_success (show Code.wp _ (Code.seq (Code.region 6 _ _) _) _ _ _)
              first | go_values | go_skip | go_guarded | go_step | go_upon | go_back | (simp only [Int.not_lt, Int.not_le] at *; go_simp) | (go_ite <;> go_prune <;> (try go_simp)))
      go_cut [9] (fun v wx => v = .int .i64 (j : Int) ∧ ∃ k, wx = wr.drewN k)
      case first =>
        rcases HCUT.out with ⟨h2, hb, rfl⟩ | ⟨h2, hb, rfl⟩ | ⟨h2, rfl⟩
        · have HL := Lib.hid (HL1.out h2)
          rw [hb] at HL
          clear hb HL1 hm2' HL2
          go_wp2_with fail
          refine HL.out.mono ?_
          rintro e w1 ⟨rfl, k, rfl⟩
          go_wp2_with fail
          go_meet
          exact ⟨rfl, k, rfl⟩
        · have HL := Lib.hid (HL1.out h2)
          rw [hb] at HL
          clear hb HL1 hm2' HL2
          go_wp2_with fail
          refine HL.out.mono ?_
          rintro e w1 ⟨rfl, k, rfl⟩
          go_wp2_with fail
          go_meet
          exact ⟨rfl, k, rfl⟩
        · have h2' : m ≤ j2 := by omega
          clear HL1 hm2' HL2
          go_wp2_with fail
          go_meet
          exact ⟨rfl, 0, rfl⟩
      case rest =>
      obtain ⟨rfl, k, rfl⟩ := hcut
      have hm3 := hm2' k
      have HL := HL2 k
      clear hm1 hm2' HL1 HL2 HCUT
      cases hb : befT (f' j) (f' i) with
      | false =>
        rw [hb] at HL
        have HE : Hid (∀ k, DnP S q B c n m i0 f w (decide (i0 < i)) (wr.drewN k)) := HEND.out (fun x hx hx0 hxp => by
          show befT (f' x) (f' (par x)) = false
          rw [hxp]
          exact not_trans (HMIN.out x hx hx0 hxp) hb)
        clear hb HEND
        have HII := Lib.hid hi0i
        by_cases hii : i = i0
        · subst hii
          rw [decide_eq_false (by omega)] at HE
          clear hi0i HII
          go_wp2_with fail
          refine HL.out.mono ?_
          rintro e w1 ⟨rfl, k2, rfl⟩
          go_wp2_with fail
          go_ret
          exact ⟨false, rfl, by simpa using HE.out (k + k2)⟩
        · have hgt : i0 < i := by omega
          rw [decide_eq_true hgt] at HE
          clear hi0i
          go_wp2_with fail
          refine HL.out.mono ?_
          rintro e w1 ⟨rfl, k2, rfl⟩
          go_wp2_with fail
          go_ret
          exact ⟨true, rfl, by simpa using HE.out (k + k2)⟩
      | true =>
        rw [hb] at HL
        have HS := fun k => Lib.hid (swap_any (HR.out.1.drewN k) (i := i) (j := j) (by omega) (by omega) (by omega) hn)
        have hm5 := fun k => mth_swap (HR.out.1.drewN k).sl
        have HE : Hid (∀ k w', RowI S q B c n (swapF f' i j) w' → KeptS S (wr.drewN k) w' → DnR S q B c n m i0 f w j (swapF f' i j) w') := fun k w' g1 g2 => by
          refine ⟨g1, HR.out.2.1.step hjm HJP.out (by omega) HMIN.out hb, HR.out.2.2.1.trans (SameS.swap f' hi hjm), fun x hx => ?_, (HR.out.2.2.2.2.drewN k).trans g2⟩
          rw [swapF_o f' i j (by omega) (by omega)]
          exact HR.out.2.2.2.1 x hx
        clear hb HEND HMIN HJP
        go_wp2_with fail
        refine HL.out.mono ?_
        rintro e w1 ⟨rfl, k2, rfl⟩
        have hm6 := hm5 (k + k2)
        clear hm3 hm5 HL
        go_wp2_with fail
        refine (HS _).out.mono ?_
        rintro e w2 ⟨rfl, g1, g2⟩
        have HG := Lib.hid (HE.out _ w2 g1 g2)
        clear g1 g2 HE HS
        go_wp2_with fail
        go_roundw
        case rel => exact ⟨j, swapF f' i j, rfl, hjm, HG⟩
        case measure => simp [intOf]; omega
end Go.Proofs.Ytcageojgfnihpaa
