/- Layer 43: container/heap.Push, Fix, Remove over a row of timers. -/
import Derived.Test.YtcageojgfnihpaaDue6
namespace Go.Proofs.Ytcageojgfnihpaa
set_option linter.unusedVariables false
open Go.RowKit

theorem RowI.withq {S : Nat → Prop} {q B c n : Nat} {f : Nat → Tm} {w : World} (h : RowI S q B c n f w) : RowI (fun k => S k ∨ k = q) q B c n f w :=
  ⟨h.sl, fun i hi => { h.tim i hi with out := fun e => e.elim (h.tim i hi).out (h.tim i hi).neq }, h.inj, h.neq, fun e => e.elim h.out h.neq, h.le, h.blk⟩
theorem RowI.without {S T : Nat → Prop} {q B c n : Nat} {f : Nat → Tm} {w : World} (h : RowI S q B c n f w) (hT : ∀ k, T k → S k) : RowI T q B c n f w :=
  ⟨h.sl, fun i hi => { h.tim i hi with out := fun e => (h.tim i hi).out (hT _ e) }, h.inj, h.neq, fun e => h.out (hT _ e), h.le, h.blk⟩
set_option maxRecDepth 8000 in
set_option maxHeartbeats 1000000 in
theorem heapPush_any {S : Nat → Prop} {q n : Nat} {f : Nat → Tm} {v : Value} {x : Tm} {w : World} (h : RowV S q n f v w) (hx : NewT S q n f v x w) (hS : ∀ k, S k → k < w.heap.size) (hSq : ¬ S q) (hqf : w.frozen? ⟨q, 0, none⟩ = false) (hn : n ≤ 1000) (hh : HeapF f n) :
    Calls Try.prog 20 #[heapV q, .iface 56 (.pointer (some ⟨x.b, 0, none⟩))] w fun e w' => e = .returned (.tuple #[]) ∧ ∃ B c f', RowI S q B c (n + 1) f' w' ∧ HeapF f' (n + 1) ∧ SameS (pushF f n x) f' (n + 1) ∧ KeptS S w w' ∧ QKeep q w w' := by
  have HP := Lib.hid (rowPush_any h hx hS hSq hqf hn)
  have HU := Lib.hid (hh.push (g := pushF f n x) (fun k hk => pushF_lt f x hk))
  have hmp := fun W => mth_push q W
  have w1 : IntKind.i64.wrap (((n + 1 : Nat) : Int) - 1) = (n : Int) := by rw [IntWalk.i64_in _ (by omega)]; omega
  have w2 : IntKind.i64.wrap ((n : Int) + 1 - 1) = (n : Int) := by rw [IntWalk.i64_in _ (by omega)]; omega
  clear h hx hS hSq hqf hh
  go_enter Try.func20, Try.ntmps20
  go_wp2_with fail
  refine HP.out.mono ?_
  rintro e w1 ⟨rfl, B, c, hr, hk, hq⟩
  have hml := mth_len hr.sl
  have HR := Lib.hid hr
  have HK := Lib.hid hk
  have HQ := Lib.hid hq
  have HUP := Lib.hid (up_any hr.withq (j := n) (m := n + 1) (by omega) (Nat.le_refl _) (by omega) HU.out)
  clear hr hk hq HP hmp
  go_wp2_with fail
  refine (rowLen_any _ _ _ _).mono ?_
  rintro e w' ⟨rfl, rfl⟩
  go_wp2_with fail
  refine HUP.out.mono ?_
  rintro e w2 ⟨rfl, f', g1, g2, g3, g4, g5⟩
  have HG : Hid (∃ B c f', RowI S q B c (n + 1) f' w2 ∧ HeapF f' (n + 1) ∧ SameS (pushF f n x) f' (n + 1) ∧ KeptS S w w2 ∧ QKeep q w w2) :=
    ⟨B, c, f', g1.without (fun _ h => .inl h), g2, g3, HK.out.trans (g5.less (fun _ h => .inl h)), HQ.out.trans (QKeep.of g5 (.inr rfl))⟩
  clear g1 g2 g3 g4 g5
  go_wp2_with fail
  go_end0
  exact ⟨rfl, HG.out⟩
set_option maxRecDepth 8000 in
set_option maxHeartbeats 1000000 in
theorem heapFix_any {S : Nat → Prop} {q B c n : Nat} {f : Nat → Tm} {w : World} (h : RowI S q B c n f w) (h0 : 0 < n) (hn : n ≤ 1000) (hd : DnI f n 0 0) :
    Calls Try.prog 21 #[heapV q, .int .i64 0] w fun e w' => e = .returned (.tuple #[]) ∧ ∃ f', RowI S q B c n f' w' ∧ HeapF f' n ∧ SameS f f' n ∧ KeptS (fun k => S k ∨ k = q) w w' := by
  have HD := Lib.hid (down_any h.withq h0 (Nat.le_refl _) (by omega) hd)
  have hml := mth_len h.sl
  clear h hd
  go_enter Try.func21, Try.ntmps21
  go_wp2_with fail
  refine (rowLen_any _ _ _ _).mono ?_
  rintro e w' ⟨rfl, rfl⟩
  go_wp2_with fail
  refine HD.out.mono ?_
  rintro e w1 ⟨r, rfl, f1, g1, g2, g3, g4, g5, g6⟩
  cases r with
  | true =>
    have HG : Hid (∃ f', RowI S q B c n f' w1 ∧ HeapF f' n ∧ SameS f f' n ∧ KeptS (fun k => S k ∨ k = q) w w1) := ⟨f1, g1.without (fun _ h => .inl h), g5 rfl, g2, g4⟩
    clear g1 g2 g3 g4 g5 g6 HD
    go_wp2_with fail
    go_end0
    exact ⟨rfl, HG.out⟩
  | false =>
    have HUP := Lib.hid (up_any g1 (j := 0) (m := n) h0 (Nat.le_refl _) (by omega) (g6 rfl))
    have HS2 := Lib.hid g2
    have HK4 := Lib.hid g4
    clear g1 g2 g3 g4 g5 g6 HD
    go_wp2_with fail
    refine HUP.out.mono ?_
    rintro e w2 ⟨rfl, f', k1, k2, k3, k4, k5⟩
    have HG : Hid (∃ f', RowI S q B c n f' w2 ∧ HeapF f' n ∧ SameS f f' n ∧ KeptS (fun k => S k ∨ k = q) w w2) := ⟨f', k1.without (fun _ h => .inl h), k2, HS2.out.trans k3, HK4.out.trans k5⟩
    clear k1 k2 k3 k4 k5
    go_wp2_with fail
    go_end0
    exact ⟨rfl, HG.out⟩
/-- What is left where one was taken away. -/
def LessS (f f' : Nat → Tm) (n i : Nat) : Prop := (∀ k, k < n → ∃ j, j < n + 1 ∧ j ≠ i ∧ f' k = f j) ∧ (∀ j, j < n + 1 → j ≠ i → ∃ k, k < n ∧ f' k = f j)
theorem LessS.swap {f f' : Nat → Tm} {n i : Nat} (hi : i ≤ n) (h : SameS (swapF f i n) f' n) : LessS f f' n i := by
  refine ⟨fun k hk => ?_, fun j hj hne => ?_⟩
  · obtain ⟨j, hj, e⟩ := h.1 k hk
    by_cases e1 : j = i
    · exact ⟨n, by omega, by omega, by rw [e, e1, swapF_l]⟩
    · exact ⟨j, by omega, e1, by rw [e, swapF_o f i n e1 (by omega)]⟩
  · by_cases e1 : j = n
    · obtain ⟨k, hk, e⟩ := h.2 i (by omega)
      exact ⟨k, hk, by rw [e, swapF_l, e1]⟩
    · obtain ⟨k, hk, e⟩ := h.2 j (by omega)
      exact ⟨k, hk, by rw [e, swapF_o f i n hne e1]⟩
theorem LessS.last (f : Nat → Tm) (n : Nat) : LessS f f n n := ⟨fun k hk => ⟨k, by omega, by omega, rfl⟩, fun j hj hne => ⟨j, by omega, rfl⟩⟩
/-- What Remove leaves. -/
def RemP (S : Nat → Prop) (q B c n i : Nat) (f : Nat → Tm) (w w' : World) : Prop :=
  ∃ f', RowI S q B c n f' w' ∧ HeapF f' n ∧ LessS f f' n i ∧ KeptS S w w' ∧ QKeep q w w' ∧ w'.cell? ⟨(f i).b, 0, none⟩ = some (.int .i64 (f i).id)
set_option maxRecDepth 8000 in
set_option maxHeartbeats 2000000 in
theorem heapRemove_any {S : Nat → Prop} {q B c n i : Nat} {f : Nat → Tm} {w : World} (h : RowI S q B c (n + 1) f w) (hi : i ≤ n) (hSq : ¬ S q) (hqf : w.frozen? ⟨q, 0, none⟩ = false) (hn : n ≤ 1000) (hh : HeapF f (n + 1)) :
    Calls Try.prog 23 #[heapV q, .int .i64 (i : Int)] w fun e w' => (∃ u, e = .returned u) ∧ RemP S q B c n i f w w' := by
  have hml := mth_len h.sl
  have hms := mth_swap h.sl
  have hmp := fun W => mth_pop q W
  have w1 : IntKind.i64.wrap (((n + 1 : Nat) : Int) - 1) = (n : Int) := by rw [IntWalk.i64_in _ (by omega)]; omega
  have w2 : IntKind.i64.wrap ((n : Int) + 1 - 1) = (n : Int) := by rw [IntWalk.i64_in _ (by omega)]; omega
  have HPOP : Hid (∀ f2 W, RowI S q B c (n + 1) f2 W → W.frozen? ⟨q, 0, none⟩ = false → Calls Try.prog 67 #[.pointer (some ⟨q, 0, none⟩)] W fun e w' => e = .returned (.iface 56 (.pointer (some ⟨(f2 n).b, 0, none⟩))) ∧ RowI S q B c n f2 w' ∧ KeptS (fun k => k ≠ q) W w' ∧ QKeep q W w') := fun f2 W g1 g2 => rowPop_any g1 hSq g2 hn
  have HFIN : Hid (∀ f2 W W', RowI S q B c (n + 1) f2 W → HeapF f2 n → LessS f f2 n i → KeptS (fun k => S k ∨ k = q) w W → f2 n = f i → RowI S q B c n f2 W' → KeptS (fun k => k ≠ q) W W' → QKeep q W W' → RemP S q B c n i f w W') := fun f2 W W' g1 g2 g3 g4 g5 g6 g7 g8 => by
    have tn := g1.tim n (by omega)
    rw [g5] at tn
    exact ⟨f2, g6, g2, g3, (g4.less (fun _ h => .inl h)).trans (g7.less (fun k hk e => hSq (by rw [← e]; exact hk))), (QKeep.of g4 (.inr rfl)).trans g8, (g7.cell tn.neq).trans tn.id⟩
  have HQF := Lib.hid hqf
  have HH := Lib.hid hh
  have HR := Lib.hid h
  clear h hh hqf hSq
  by_cases hin : i = n
  · subst hin
    have HP := Lib.hid (HPOP.out f w HR.out HQF.out)
    have HE : Hid (∀ W', RowI S q B c i f W' → KeptS (fun k => k ≠ q) w W' → QKeep q w W' → RemP S q B c i i f w W') := fun W' a b d => HFIN.out f w W' HR.out (HH.out.less (by omega)) (LessS.last f i) (KeptS.refl _ w) rfl a b d
    clear HPOP HFIN hms
    go_enter Try.func23, Try.ntmps23
    go_wp2_with fail
    refine (rowLen_any _ _ _ _).mono ?_
    rintro e w' ⟨rfl, rfl⟩
    go_wp2_with fail
    refine HP.out.mono ?_
    rintro e w1 ⟨rfl, g1, g2, g3⟩
    have HG := Lib.hid (HE.out _ g1 g2 g3)
    clear g1 g2 g3
    go_wp2_with fail
    go_ret
    exact ⟨⟨_, rfl⟩, HG.out⟩
  · have hlt : i < n := by omega
    have hb1 : (n == i) = false := by rw [beq_eq_false_iff_ne]; omega
    have hb2 : (n != i) = true := by rw [bne_iff_ne]; omega
    have hb3 : ¬ n = i := by omega
    have HSW := Lib.hid (swap_any HR.out.withq (i := i) (j := n) (by omega) (by omega) hin (by omega))
    have HD : Hid (∀ W, RowI (fun k => S k ∨ k = q) q B c (n + 1) (swapF f i n) W → Calls Try.prog 30 #[heapV q, .int .i64 (i : Int), .int .i64 (n : Int)] W fun e w' => ∃ r, e = .returned (.bool r) ∧ DnP (fun k => S k ∨ k = q) q B c (n + 1) n i (swapF f i n) W r w') := fun W hW =>
      down_any hW hlt (by omega) (by omega) (HH.out.drop hlt (fun k hk hne => swapF_o f i n hne (by omega)) (swapF_l f i n))
    clear hin
    go_enter Try.func23, Try.ntmps23
    go_wp2_with fail
    refine (rowLen_any _ _ _ _).mono ?_
    rintro e w' ⟨rfl, rfl⟩
    go_wp2_with fail
    refine HSW.out.mono ?_
    rintro e w1 ⟨rfl, g1, g2⟩
    have HD1 := Lib.hid (HD.out _ g1)
    have HK1 := Lib.hid g2
    clear g1 g2 HD hml hms HSW
    go_wp2_with fail
    refine HD1.out.mono ?_
    rintro e w2 ⟨r, rfl, f2, k1, k2, k3, k4, k5, k6⟩
    have HK2 := Lib.hid (HK1.out.trans k4)
    have HS2 := Lib.hid k2
    have HN2 : Hid (f2 n = f i) := (k3 n (Nat.le_refl _)).trans (swapF_r f i n)
    cases r with
    | true =>
      have HP := Lib.hid (HPOP.out f2 w2 (k1.without (fun _ h => .inl h)) ((HK2.out.frozen (.inr rfl)).trans HQF.out))
      have HE : Hid (∀ W', RowI S q B c n f2 W' → KeptS (fun k => k ≠ q) w2 W' → QKeep q w2 W' → RemP S q B c n i f w W') := fun W' a b d => HFIN.out f2 w2 W' (k1.without (fun _ h => .inl h)) (k5 rfl) (LessS.swap hi HS2.out) HK2.out HN2.out a b d
      clear k1 k2 k3 k4 k5 k6 HD1 HFIN HPOP HN2
      go_wp2_with fail
      refine HP.out.mono ?_
      rintro e w3 ⟨rfl, g1, g2, g3⟩
      have HG := Lib.hid (HE.out _ g1 g2 g3)
      clear g1 g2 g3
      go_wp2_with fail
      go_ret
      exact ⟨⟨_, rfl⟩, HG.out⟩
    | false =>
      have HUP := Lib.hid (up_any k1 (j := i) (m := n) hlt (by omega) (by omega) (k6 rfl))
      clear k1 k2 k3 k4 k5 k6 HD1
      go_wp2_with fail
      refine HUP.out.mono ?_
      rintro e w3 ⟨rfl, f3, m1, m2, m3, m4, m5⟩
      have HP := Lib.hid (HPOP.out f3 w3 (m1.without (fun _ h => .inl h)) (((HK2.out.trans m5).frozen (.inr rfl)).trans HQF.out))
      have HE : Hid (∀ W', RowI S q B c n f3 W' → KeptS (fun k => k ≠ q) w3 W' → QKeep q w3 W' → RemP S q B c n i f w W') := fun W' a b d => HFIN.out f3 w3 W' (m1.without (fun _ h => .inl h)) m2 (LessS.swap hi (HS2.out.trans m3)) (HK2.out.trans m5) ((m4 n (Nat.le_refl _)).trans HN2.out) a b d
      clear m1 m2 m3 m4 m5 HUP HFIN HPOP HN2
      go_wp2_with fail
      refine HP.out.mono ?_
      rintro e w4 ⟨rfl, g1, g2, g3⟩
      have HG := Lib.hid (HE.out _ g1 g2 g3)
      clear g1 g2 g3
      go_wp2_with fail
      go_ret
      exact ⟨⟨_, rfl⟩, HG.out⟩
end Go.Proofs.Ytcageojgfnihpaa
