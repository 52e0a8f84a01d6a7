/- Layer 40: skip. Printed by genrsy1.py. -/
import Derived.Test.YtafkadhijljmkaaGreatRsy0
import Derived.RegionTactic
namespace Go.Proofs.YtafkadhijljmkaaGreat
set_option linter.unusedVariables false
open Go.RowKit

/-- A scope in which the run jumps back to the label at its head. -/
theorem wp_scope_head {P : Program} {a : Act} {w : World} {Q : Exit → Act → World → Prop} {stuff : Code} (l : Nat) (J : Act → World → Prop) (μ : Act → World → Nat) (hf : findLabel (Code.seq (Code.label l) stuff) l = some (Code.seq Code.skip stuff)) (h0 : J a w)
    (pass : ∀ a w, J a w → stuff.wp P (Exit.jump l (fun a' w' => J a' w' ∧ μ a' w' < μ a w) Q) a w) : (Code.scope (Code.seq (Code.label l) stuff)).wp P Q a w :=
  wp_scope_jumps l J μ hf (wp_seq (wp_label (wp_mono (pass a w h0) fun e a' w' h => by
    cases e with
    | goto l' => exact ⟨h.1, h.2.1⟩
    | normal => exact h
    | exit id => exact h
    | ret => exact h
    | _ => exact h))) fun a w h => wp_seq (wp_skip (pass a w h))
/-- What is left when what begins no message is gone. -/
def skipped (l : List UInt8) : List UInt8 := l.dropWhile fun c => protoOf c = 0
theorem skipped_len (l : List UInt8) : (skipped l).length ≤ l.length := (List.dropWhile_suffix _).length_le
/-- One count more. -/
def cntAdd (C : List Int) (k : Nat) (n : Int) : List Int := C.set k (C.getD k 0 + n)
theorem cntAdd_len (C : List Int) (k : Nat) (n : Int) : (cntAdd C k n).length = C.length := List.length_set
theorem cntAdd_zero (C : List Int) (k : Nat) : cntAdd C k 0 = C := by
  unfold cntAdd
  rw [Int.add_zero, List.getD_eq_getElem?_getD]
  apply List.ext_getElem?
  intro i
  rw [List.getElem?_set]
  split
  · rename_i e; subst e
    split
    · rename_i h; rw [List.getElem?_eq_getElem h]; rfl
    · rename_i h; rw [List.getElem?_eq_none (by omega)]
  · rfl
theorem cntAdd_add (C : List Int) (k : Nat) (m n : Int) (hk : k < C.length) : cntAdd (cntAdd C k m) k n = cntAdd C k (m + n) := by
  unfold cntAdd
  rw [List.set_set]
  congr 1
  simp [List.getD_eq_getElem?_getD, List.getElem?_set_self hk]
  omega
theorem cntAdd_get (C : List Int) (k : Nat) (m : Int) (hk : k < C.length) : (cntAdd C k m).getD k 0 = C.getD k 0 + m := by
  unfold cntAdd
  simp [List.getD_eq_getElem?_getD, List.getElem?_set_self hk]
def SkipPost (g b : Nat) (C : List Int) (l : List UInt8) (W : World) (e : Ending) (w' : World) : Prop :=
  e = .returned (.bool (decide (skipped l ≠ []))) ∧ DecI w' g b (cntAdd C 9 ((l.length : Int) - ((skipped l).length : Int))) (skipped l) ∧ KeptS (fun j => j ≠ b ∧ j ≠ g) W w'
/-- At the label: some are gone. -/
def SkipJ (g b : Nat) (C : List Int) (l : List UInt8) (W : World) (a : Act) (w : World) : Prop :=
  ∃ u3 u4 u5 u6 u7 u8 u9 u10 u11 u12 u13 u14 u15 u16 u17 u18 u19 u20 u21 u22 u23 u24 u25 u26 u27 u28 u29 u30 u31 u32 u33, a = { tmps := #[.pointer (some ⟨g, 0, none⟩), undef, .bool false, u3, u4, u5, u6, u7, u8, u9, u10, u11, u12, u13, u14, u15, u16, u17, u18, u19, u20, u21, u22, u23, u24, u25, u26, u27, u28, u29, u30, u31, u32, u33], defers := [] } ∧
    ∃ r : List UInt8, skipped r = skipped l ∧ r.length ≤ l.length ∧ DecI w g b (cntAdd C 9 ((l.length : Int) - (r.length : Int))) r ∧ KeptS (fun j => j ≠ b ∧ j ≠ g) W w
def SkipM (b : Nat) (w : World) : Nat := match w.cell? ⟨b, 1026, none⟩ with | some (.int _ n) => n.toNat | _ => 0
theorem skipM_eq {w : World} {b : Nat} {l : List UInt8} (h : WinI w b l) : SkipM b w = l.length := by
  obtain ⟨D, a, h⟩ := h
  unfold SkipM
  rw [h.blk.cell 1026 (winL_n h.len _ _)]
  simp
theorem DecI.drewN {W : World} {g b : Nat} {C : List Int} {l : List UInt8} (h : DecI W g b C l) (n : Nat) : DecI (W.drewN n) g b C l :=
  ⟨h.blk.kept rfl (Nat.le_refl _), h.len, h.win.kept rfl (Nat.le_refl _), h.ne⟩
theorem DecI.drew {W : World} {g b : Nat} {C : List Int} {l : List UInt8} (h : DecI W g b C l) : DecI W.drew g b C l :=
  ⟨h.blk.kept rfl (Nat.le_refl _), h.len, h.win.kept rfl (Nat.le_refl _), h.ne⟩
theorem DecI.cd {W : World} {g b : Nat} {C : List Int} {l : List UInt8} (h : DecI W g b C l) (k : Nat) (hk : k < 13) : W.cell? ⟨g, k + 1, none⟩ = some (.int .i64 (C.getD k 0)) := by
  have hl := h.len
  rw [h.ck k (by omega), List.getD_eq_getElem?_getD, List.getElem?_eq_getElem (by omega)]
  rfl
set_option maxRecDepth 8000 in
set_option maxHeartbeats 1000000 in
theorem rsySkip_any {W : World} {g b : Nat} {C : List Int} {l : List UInt8} (h : DecI W g b C l) (hC : Hid (0 ≤ C.getD 9 0 ∧ C.getD 9 0 ≤ 1000000000)) : Calls Tryz.prog 40 #[.pointer (some ⟨g, 0, none⟩)] W (SkipPost g b C l W) := by
  have hL := Lib.hid (h.win.lt)
  have hmax : l.length ≤ 1024 := by obtain ⟨D, a, q⟩ := h.win; exact q.max
  have H0 : Hid (SkipJ g b C l W { tmps := #[.pointer (some ⟨g, 0, none⟩), undef, .bool false, undef, undef, undef, undef, undef, undef, undef, undef, undef, undef, undef, undef, undef, undef, undef, undef, undef, undef, undef, undef, undef, undef, undef, undef, undef, undef, undef, undef, undef, undef, undef], defers := [] } W) := Lib.hid ⟨undef, undef, undef, undef, undef, undef, undef, undef, undef, undef, undef, undef, undef, undef, undef, undef, undef, undef, undef, undef, undef, undef, undef, undef, undef, undef, undef, undef, undef, undef, undef, rfl, l, rfl, Nat.le_refl _, by rw [Int.sub_self, cntAdd_zero]; exact h, KeptS.refl _ _⟩
  clear h
  go_enter Tryz.func40, Tryz.ntmps40
  go_wp2_with fail
  refine wp_scope_head 0 (SkipJ g b C l W) (fun _ w => SkipM b w) rfl H0.out ?_
  · rintro a w ⟨u3, u4, u5, u6, u7, u8, u9, u10, u11, u12, u13, u14, u15, u16, u17, u18, u19, u20, u21, u22, u23, u24, u25, u26, u27, u28, u29, u30, u31, u32, u33, rfl, r, hr, hrl, hd, hk⟩
    have HD := Lib.hid hd
    have HK := Lib.hid (And.intro hr hk)
    have c0 := hd.c0
    clear hr hd hk H0
    rcases r with _ | ⟨c, r⟩
    · go_wp2_with fail
      refine (winFirst_none HD.out.win).mono ?_
      rintro e w' ⟨rfl, rfl⟩
      go_wp2_with fail
      simp only [Exit.jump]
      go_ret
      have e : skipped l = [] := HK.out.1.symm
      refine ⟨by rw [e]; rfl, ?_, HK.out.2⟩
      rw [e]
      exact HD.out
    · have hlen : r.length < l.length := by simp only [List.length_cons] at hrl; omega
      go_wp2_with fail
      refine (winFirst_some HD.out.win).mono ?_
      rintro e w' ⟨rfl, n, rfl⟩
      have HD1 := Lib.hid (HD.out.drewN n)
      have HK1 := Lib.hid (HK.out.2.drewN n)
      have HM := Lib.hid (skipM_eq HD.out.win)
      clear HD c0
      have c0 := HD1.out.c0
      go_wp2_with fail
      refine (proto_any c _).mono ?_
      rintro e w' ⟨rfl, rfl⟩
      by_cases hp : protoOf c = 0
      · have HS : Hid (skipped r = skipped l) := Lib.hid (by rw [← HK.out.1]; unfold skipped; rw [List.dropWhile_cons_of_pos (by simp [hp])])
        rw [hp]
        clear hp HK
        go_wp2_with fail
        refine (winDrop_any 1 HD1.out.win (by omega)).mono ?_
        rintro e w2 ⟨rfl, hw, hk⟩
        have e1 : (max 0 (min (1 : Int) (((c :: r).length : Nat) : Int))).toNat = 1 := by simp only [List.length_cons]; omega
        rw [e1] at hw ⊢
        have HD2 := Lib.hid (HD1.out.moved hw hk)
        have HK2 := Lib.hid (HK1.out.trans (hk.less fun j q => q.1))
        clear e1 hw hk HD1 HK1 c0
        have c9 : w2.cell? ⟨g, 10, none⟩ = some (.int .i64 _) := HD2.out.cd 9 (by omega)
        have z9 := HD2.out.blk.fz 10
        rw [cntAdd_get _ _ _ (by have := HD2.out.len; rw [cntAdd_len] at this; omega)] at c9
        have hb1 := hC.out.1
        have hb2 := hC.out.2
        have hq : (0 : Int) ≤ (l.length : Int) - ((c :: r).length : Int) := by omega
        have hq2 : (l.length : Int) - ((c :: r).length : Int) ≤ 1024 := by omega
        generalize hQ : C.getD 9 0 + ((l.length : Int) - ((c :: r).length : Int)) = q at *
        have HQ := Lib.hid hQ
        have hq3 : 0 ≤ q := by omega
        have hq4 : q ≤ 1000001024 := by omega
        clear hQ hb1 hb2 hq hq2
        go_wp2_with fail
        go_region
        go_wp2_with fail
        go_step3
        have hd3 := HD2.out.set 9 (q + 1) (by omega)
        have e3 : (cntAdd C 9 ((l.length : Int) - ((c :: r).length : Int))).set 9 (q + 1) = cntAdd C 9 ((l.length : Int) - (r.length : Int)) := by
          have h13 := HD2.out.len
          rw [cntAdd_len] at h13
          unfold cntAdd
          rw [List.set_set]
          congr 1
          have := HQ.out
          simp only [List.length_cons] at this ⊢
          omega
        rw [e3] at hd3
        refine ⟨rfl, ⟨_, _, _, _, _, _, _, _, _, _, _, _, _, _, _, _, _, _, _, _, _, _, _, _, _, _, _, _, _, _, _, rfl, r, HS.out, by omega, hd3.drew, (HK2.out.trans (HD2.out.keptS 9 (q + 1))).drew⟩, ?_⟩
        show SkipM b (World.drew (w2.setCell ⟨g, 10, none⟩ (.int .i64 (q + 1)))) < SkipM b w
        rw [HM.out, skipM_eq hd3.drew.win, show (List.drop 1 (c :: r)).length = r.length from rfl]
        simp only [List.length_cons]
        omega
      · have hb : (protoOf c == 0) = false := by rw [beq_eq_false_iff_ne]; exact hp
        have hb2 : (protoOf c != 0) = true := by rw [bne_iff_ne]; exact hp
        have HS : Hid (c :: r = skipped l) := Lib.hid (by rw [← HK.out.1]; unfold skipped; rw [List.dropWhile_cons_of_neg (by simp [hp])])
        clear hp HK
        go_wp2_with fail
        simp only [Exit.jump]
        go_ret
        have e := HS.out
        refine ⟨by rw [← e]; rfl, ?_, HK1.out⟩
        rw [← e]
        exact HD1.out
end Go.Proofs.YtafkadhijljmkaaGreat
