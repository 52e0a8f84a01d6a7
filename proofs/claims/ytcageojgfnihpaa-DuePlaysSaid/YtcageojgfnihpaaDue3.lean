/- Layer 43: the methods behind heap.Interface; container/heap.up over a row of timers. -/
import Derived.Test.YtcageojgfnihpaaDue2
import Derived.IntWalk
import Derived.LoopTactic
namespace Go.Proofs.Ytcageojgfnihpaa
set_option linter.unusedVariables false
open Go.RowKit

abbrev heapV (q : Nat) : Value := .iface 60 (.pointer (some ⟨q, 0, none⟩))
theorem ld_row (q : Nat) (a : Option Addr) (n c : Nat) (W : World) (h : W.cell? ⟨q, 0, none⟩ = some (.slice a n c)) : (loadVar 51 ⟨q, 0, none⟩).run Try.prog W = .ok (.slice a n c) W := by
  simp [loadVar, h, go_sem]
theorem mth_less {q : Nat} {a : Option Addr} {n c : Nat} {W : World} (h : W.cell? ⟨q, 0, none⟩ = some (.slice a n c)) : (method 215 60 (.pointer (some ⟨q, 0, none⟩)) "Less").run Try.prog W = .ok (65, .slice a n c) W := by
  have e : (method 215 60 (.pointer (some ⟨q, 0, none⟩)) "Less").run Try.prog W = (do let v ← loadVar 51 ⟨q, 0, none⟩; pure (65, v) : Sem (FuncId × Value)).run Try.prog W := by kernel_rfl
  rw [e]
  simp [h, go_sem]
theorem mth_swap {q : Nat} {a : Option Addr} {n c : Nat} {W : World} (h : W.cell? ⟨q, 0, none⟩ = some (.slice a n c)) : (method 215 60 (.pointer (some ⟨q, 0, none⟩)) "Swap").run Try.prog W = .ok (66, .slice a n c) W := by
  have e : (method 215 60 (.pointer (some ⟨q, 0, none⟩)) "Swap").run Try.prog W = (do let v ← loadVar 51 ⟨q, 0, none⟩; pure (66, v) : Sem (FuncId × Value)).run Try.prog W := by kernel_rfl
  rw [e]
  simp [h, go_sem]
theorem mth_len {q : Nat} {a : Option Addr} {n c : Nat} {W : World} (h : W.cell? ⟨q, 0, none⟩ = some (.slice a n c)) : (method 215 60 (.pointer (some ⟨q, 0, none⟩)) "Len").run Try.prog W = .ok (24, .slice a n c) W := by
  have e : (method 215 60 (.pointer (some ⟨q, 0, none⟩)) "Len").run Try.prog W = (do let v ← loadVar 51 ⟨q, 0, none⟩; pure (24, v) : Sem (FuncId × Value)).run Try.prog W := by kernel_rfl
  rw [e]
  simp [h, go_sem]
theorem mth_push (q : Nat) (W : World) : (method 215 60 (.pointer (some ⟨q, 0, none⟩)) "Push").run Try.prog W = .ok (68, .pointer (some ⟨q, 0, none⟩)) W := by kernel_rfl
theorem mth_pop (q : Nat) (W : World) : (method 215 60 (.pointer (some ⟨q, 0, none⟩)) "Pop").run Try.prog W = .ok (67, .pointer (some ⟨q, 0, none⟩)) W := by kernel_rfl

/-- What a heap's function leaves. -/
def HeapP (S : Nat → Prop) (q B c n m : Nat) (f : Nat → Tm) (w : World) (w' : World) : Prop := ∃ f', RowI S q B c n f' w' ∧ HeapF f' m ∧ SameS f f' m ∧ (∀ k, m ≤ k → f' k = f k) ∧ KeptS S w w'
def UpR (S : Nat → Prop) (q B c n m : Nat) (f : Nat → Tm) (w : World) (j : Nat) (f' : Nat → Tm) (wr : World) : Prop :=
  RowI S q B c n f' wr ∧ UpI f' m j ∧ SameS f f' m ∧ (∀ k, m ≤ k → f' k = f k) ∧ KeptS S w wr
set_option maxRecDepth 8000 in
set_option maxHeartbeats 1000000 in
theorem up_any {S : Nat → Prop} {q B c n m j : Nat} {f : Nat → Tm} {w : World} (h : RowI S q B c n f w) (hj : j < m) (hm : m ≤ n) (hn : n ≤ 1000000) (hu : UpI f m j) :
    Calls Try.prog 29 #[heapV q, .int .i64 (j : Int)] w fun e w' => e = .returned (.tuple #[]) ∧ HeapP S q B c n m f w w' := by
  have H0 : Hid (UpR S q B c n m f w j f w) := ⟨h, hu, SameS.refl f m, fun _ _ => rfl, KeptS.refl S w⟩
  have hr : ∀ m n : Nat, m ≤ n → n ≤ 1000000 → m ≤ 1000000 := fun _ _ a b => Nat.le_trans a b
  have hm2 := hr m n hm hn
  clear h hu hr
  go_enter Try.func29, Try.ntmps29
  go_wp2_with fail
  go_loopw [1] (fun jv wr => ∃ (j : Nat) (f' : Nat → Tm), jv = .int .i64 (j : Int) ∧ j < m ∧ Hid (UpR S q B c n m f w j f' wr)) (fun jv _ => (intOf jv).toNat)
  case atStart => exact ⟨j, f, rfl, hj, H0⟩
  case round =>
    obtain ⟨j, f', rfl, hj, HR⟩ := hrel
    by_cases h0 : j = 0
    · subst h0
      have HE : Hid (HeapP S q B c n m f w wr) := ⟨f', HR.out.1, HR.out.2.1.root, HR.out.2.2⟩
      go_wp2_with fail
      go_end0
      exact ⟨rfl, HE.out⟩
    · obtain ⟨p, hp⟩ : ∃ p, par j = p := ⟨_, rfl⟩
      have hp' : (j - 1) / 2 = p := hp
      have w1 : IntKind.i64.wrap ((j : Int) - 1) = (j : Int) - 1 := IntWalk.i64_in _ (by omega)
      have w2 : ((j : Int) - 1).tdiv 2 = (p : Int) := by rw [Int.tdiv_eq_ediv_of_nonneg (by omega)]; omega
      have w2' : ((j : Int) - 1) / 2 = (p : Int) := by omega
      have w4 : IntKind.i64.wrap (p : Int) = (p : Int) := IntWalk.i64_in _ (by omega)
      have hpl : p < j := by omega
      have hpj : (p == j) = false := by rw [beq_eq_false_iff_ne]; omega
      have HP := Lib.hid hp
      have tj := HR.out.1.tim j (by omega)
      have tp := HR.out.1.tim p (by omega)
      have HL := Lib.hid (less_any B n c j p (f' j) (f' p) wr (by omega) (by omega) hn tj.row tp.row tj.id tj.t tp.id tp.t)
      have hm1 := mth_less HR.out.1.sl
      clear hp hp' tj tp
      cases hb : befT (f' j) (f' p) with
      | false =>
        rw [hb] at HL
        have HE : Hid (∀ k, HeapP S q B c n m f w (wr.drewN k)) := fun k => ⟨f', HR.out.1.drewN k, HR.out.2.1.stop (by rw [HP.out]; exact hb), HR.out.2.2.1, HR.out.2.2.2.1, HR.out.2.2.2.2.drewN k⟩
        clear hb
        go_wp2_with fail
        refine HL.out.mono ?_
        rintro e w1 ⟨rfl, k, rfl⟩
        go_wp2_with fail
        go_end0
        exact ⟨rfl, HE.out _⟩
      | true =>
        rw [hb] at HL
        have HS := fun k => Lib.hid (swap_any (HR.out.1.drewN k) (i := p) (j := j) (by omega) (by omega) (by omega) hn)
        have hm3 := fun k => mth_swap (HR.out.1.drewN k).sl
        have HE : Hid (∀ k w', RowI S q B c n (swapF f' p j) w' → KeptS S (wr.drewN k) w' → UpR S q B c n m f w p (swapF f' p j) w') := fun k w' g1 g2 => by
          have g3 := HR.out.2.1.step (by omega) hj (by rw [HP.out]; exact hb)
          rw [HP.out] at g3
          refine ⟨g1, g3, HR.out.2.2.1.trans (SameS.swap f' (by omega) hj), fun x hx => ?_, (HR.out.2.2.2.2.drewN k).trans g2⟩
          rw [swapF_o f' p j (by omega) (by omega)]
          exact HR.out.2.2.2.1 x hx
        clear hb
        go_wp2_with fail
        refine HL.out.mono ?_
        rintro e w1 ⟨rfl, k, rfl⟩
        have hm4 := hm3 k
        clear hm1 hm3 HL
        go_wp2_with fail
        refine (HS _).out.mono ?_
        rintro e w2 ⟨rfl, g1, g2⟩
        have HG := Lib.hid (HE.out _ w2 g1 g2)
        clear g1 g2 HE HS
        go_wp2_with fail
        go_roundw
        case rel => exact ⟨p, swapF f' p j, rfl, by omega, HG⟩
        case measure => simp [intOf]; omega
end Go.Proofs.Ytcageojgfnihpaa
