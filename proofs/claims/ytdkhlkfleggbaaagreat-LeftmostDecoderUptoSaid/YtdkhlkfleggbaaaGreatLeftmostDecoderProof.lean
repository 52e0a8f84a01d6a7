/- The statement Rows.LeftmostDecoderUptoSaid: whatever the arguments of bulk at most 1048576, the law returns true and its arguments read as they did. No condition. -/
import Derived.Test.YtdkhlkfleggbaaaGreatRows
import Derived.WalkKit
import Derived.ProofKit
import Derived.OpenShut
import Derived.ShutString
import Derived.ChangeOld
import Derived.Below
import Derived.JoinedCond
import Derived.Test.YtdkhlkfleggbaaaGreatV30
import Derived.Test.YtdkhlkfleggbaaaGreatV31
namespace Go.Proofs.YtdkhlkfleggbaaaGreat.leftmostDecoder
open Go.ChangeShapes Go.WideShapes Go.ChangeAt Go.RowKit
open Go.ChangeMaps (open_string shut_string)
set_option linter.unusedVariables false

theorem own : ownKnob Tryz.prog.godebug = none := by kernel_rfl
theorem laidOut : laidOutB Tryz.prog = true := by kernel_rfl
theorem bk_all {H : Type} : ∀ l : List (DataW H), Rows.uptoBulkAll l = (l.map Rows.uptoBulk).sum
  | [] => by simp [Rows.uptoBulkAll]
  | d :: l => by rw [Rows.uptoBulkAll, bk_all l, List.map_cons, List.sum_cons]
theorem bk_one {H : Type} (d : DataW H) : 1 ≤ Rows.uptoBulk d := by
  cases d with
  | lit l => cases l <;> simp [Rows.uptoBulk]
  | nil => simp [Rows.uptoBulk]
  | ptr d => simp [Rows.uptoBulk]
  | slice elems spare => simp [Rows.uptoBulk]
  | agg parts => simp [Rows.uptoBulk]
  | iface t d => simp [Rows.uptoBulk]
  | map entries => simp [Rows.uptoBulk]
  | held h => simp [Rows.uptoBulk]
theorem bk_sum {H : Type} (els sp : List (DataW H)) : (els.map Rows.uptoBulk).sum ≤ Rows.uptoBulk (.slice els sp) := by
  rw [Rows.uptoBulk, bk_all els]
  omega
theorem bk_len {H : Type} (els sp : List (DataW H)) : els.length ≤ Rows.uptoBulk (.slice els sp) := by
  refine Nat.le_trans ?_ (bk_sum els sp)
  induction els with
  | nil => exact Nat.zero_le _
  | cons d l ih => have := bk_one d; rw [List.length_cons, List.map_cons, List.sum_cons]; omega

set_option maxRecDepth 100000 in
theorem lifted (os : Os) (started : os.Started) (H : Type) (enc : TypeId × Value → H) (F : Stop.Interp) :
    ReturnsInHanded {} Tryz.checked os 8 .any ((Rows.OpenSpec.upto Rows.leftmostDecoderSpec).pre6 enc Tryz.prog Tryz.f8 Rows.leftmostDecoderUptoRow.domain false) (((Rows.OpenSpec.upto Rows.leftmostDecoderSpec).at F).post enc Tryz.prog Tryz.f8 false true false false) := by
  refine returnsInHanded_of_cond (C := Tryz.checked) (s := Rows.OpenSpec.upto Rows.leftmostDecoderSpec) (k := Rows.uptoSmall) rfl own started (by kernel_rfl) Tryz.func8
    (OpenSpec.witness (enc := enc) (C := Tryz.checked) (s := Rows.OpenSpec.upto Rows.leftmostDecoderSpec) (k := Rows.uptoSmall) rfl false ⟨#[], #[.slice none 0 0], []⟩ 8 (by kernel_rfl) (by kernel_rfl) (by kernel_rfl)
      (x := ([.nil], [], [])) (by kernel_rfl) rfl (by kernel_rfl)) ?_
  intro W base args ds gs before hval0 hW _ hk _
  have hval : ∀ (j : Nat) t v, Tryz.f8.params[j]? = some t → args[j]? = some v → Value.okWide Tryz.prog W .any base t v := hval0
  have hW' := hW
  obtain ⟨p, q, hA0, hV, rfl, hfz, hnd⟩ := hW
  have hA : DataW.TrodAll enc Tryz.prog W 0 (fun _ => true) true Tryz.f8.params.toList args.toList ds p := hA0
  rw [Tryz.params8] at hA hval
  obtain ⟨v0, vs0, d0, ds0, p0, q0, hargs, rfl, rfl, h0, r0⟩ := trodAll_cons hA
  obtain ⟨rfl, rfl, rfl⟩ := trodAll_nil r0
  obtain rfl : args = #[v0] := by cases args; simp_all
  obtain ⟨rfl, rfl⟩ := trodVars_none hV
  have hbk : Rows.uptoBulk d0 ≤ 1048576 := by
    have h := of_decide_eq_true hk
    simp only [List.append_nil, Rows.uptoBulkAll] at h
    omega
  have k0 := h0
  have lt0 : ∀ x ∈ p0, x.block < W.heap.size := by obtain ⟨m, hm⟩ := k0; exact DataW.trod_lt m _ _ _ hm
  obtain ⟨sl0, hsl0⟩ := h0
  obtain ⟨xa0, xl0, xc0, rfl⟩ := okWide_slice Tryz.underlying83 (hval 0 83 v0 rfl rfl)
  obtain ⟨A0, c0, L0, he0, wl0, ws0, wc0, wn0⟩ := open_parts (v := .slice xa0 xl0 xc0) Tryz.underlying83 Tryz.underlying22 Tryz.underlying5 (by kernel_rfl) (by kernel_rfl) Rows.uptoBulk bk_len bk_sum hsl0
  cases he0
  clear hA0 hval0
  refine (lmDec_any _ L0 _ ws0 wl0 wc0 (by have : L0.flatten.length ≤ Rows.uptoBulk d0 := wn0; omega)).mono fun e W' ⟨he, bel⟩ => ?_
  subst he
  exact ⟨_, rfl, _, _, _, [], _, [], hW', trodAll_mk1 (shut_bool Tryz.underlying4 _), (trodAll_cons_mk (Below.trod laidOut (by kernel_rfl) (of_decide_eq_true (by kernel_rfl)) k0 bel lt0) trodAll_mk0), rfl, bel.frame _, fun h => by cases h⟩

theorem over : Rows.leftmostDecoderUptoRow.holds Tryz.pinned (Rows.OpenSpec.upto Rows.leftmostDecoderSpec) :=
  OpenClaim.holds_of_cond 8 Tryz.f8 rfl rfl rfl rfl rfl rfl rfl ⟨rfl, rfl, rfl, rfl, rfl⟩ rfl rfl rfl rfl rfl (by kernel_rfl) Tryz.func8 (by kernel_rfl)
    (of_decide_eq_true (by kernel_rfl)) (by unfold Func.isWrapper; first | (rw [if_pos (by decide +kernel)]; kernel_rfl) | (rw [if_neg (by decide +kernel)]; exact ⟨rfl, rfl⟩))
    (fun os started H enc _ F => lifted os started H enc F)

/-- The statement. -/
theorem proved : Rows.LeftmostDecoderUptoSaid := over
#print axioms proved
end Go.Proofs.YtdkhlkfleggbaaaGreat.leftmostDecoder
