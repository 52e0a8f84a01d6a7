/- The statement Rows.ScriptBackUptoSaid: whatever the arguments of bulk at most 1048576, the law returns true and its arguments read as they did. No condition. -/
import Derived.Test.YtaiepcgfofpmjaaGreatRows
import Derived.Test.YtaiepcgfofpmjaaGreatScriptBackFacts
import Derived.WalkKit
import Derived.ProofKit
import Derived.OpenShut
import Derived.ShutString
import Derived.ChangeOld
import Derived.Below
import Derived.JoinedCond
import Derived.Test.YtaiepcgfofpmjaaGreatS43
import Derived.Test.YtaiepcgfofpmjaaGreatS42
namespace Go.Proofs.YtaiepcgfofpmjaaGreat.scriptBack
open Go.ChangeShapes Go.WideShapes Go.ChangeAt Go.RowKit
open Go.ChangeMaps (open_string shut_string)
set_option linter.unusedVariables false

theorem own : ownKnob Tryz.prog.godebug = none := by kernel_rfl
theorem laidOut : laidOutB Tryz.prog = true := by kernel_rfl
theorem bk_in {H : Type} : ∀ (l : List (DataW H)) (p : DataW H), p ∈ l → Rows.uptoBulk p ≤ Rows.uptoBulkAll l
  | [], p, h => by cases h
  | d :: l, p, h => by
    rw [Rows.uptoBulkAll]
    rcases List.mem_cons.1 h with rfl | q
    · omega
    · have := bk_in l p q
      omega
theorem bk_one {H : Type} (d : DataW H) : 1 ≤ Rows.uptoBulk d := by
  cases d with
  | lit l => cases l <;> simp [Rows.uptoBulk]
  | nil => simp [Rows.uptoBulk]
  | ptr d => simp [Rows.uptoBulk]
  | slice elems spare => simp [Rows.uptoBulk]
  | agg parts => simp [Rows.uptoBulk]
  | iface t d => simp [Rows.uptoBulk]
  | map entries => simp [Rows.uptoBulk]
  | held h => simp [Rows.uptoBulk]
theorem bk_cnt {H : Type} : ∀ l : List (DataW H), l.length ≤ Rows.uptoBulkAll l
  | [] => Nat.zero_le _
  | d :: l => by
    have h1 := bk_one d
    have h2 := bk_cnt l
    rw [Rows.uptoBulkAll, List.length_cons]
    omega
theorem bk_len {H : Type} (els sp : List (DataW H)) : els.length ≤ Rows.uptoBulk (.slice els sp) := by
  have := bk_cnt els
  rw [Rows.uptoBulk]
  omega
theorem bk_agg {H : Type} (ps : List (DataW H)) (p : DataW H) (h : p ∈ ps) : Rows.uptoBulk p ≤ Rows.uptoBulk (.agg ps) := by
  have := bk_in ps p h
  rw [Rows.uptoBulk]
  omega
theorem bk_mem {H : Type} (els sp : List (DataW H)) (p : DataW H) (h : p ∈ els) : Rows.uptoBulk p ≤ Rows.uptoBulk (.slice els sp) := by
  have := bk_in els p h
  rw [Rows.uptoBulk]
  omega

set_option maxRecDepth 100000 in
theorem lifted (os : Os) (started : os.Started) (H : Type) (enc : TypeId × Value → H) (F : Stop.Interp) :
    ReturnsInHanded {} Tryz.checked os 6 .any ((Rows.OpenSpec.upto Rows.scriptBackSpec).pre6 enc Tryz.prog Tryz.f6 Rows.scriptBackUptoRow.domain false) (((Rows.OpenSpec.upto Rows.scriptBackSpec).at F).post enc Tryz.prog Tryz.f6 false true false false) := by
  refine returnsInHanded_of_cond (C := Tryz.checked) (s := Rows.OpenSpec.upto Rows.scriptBackSpec) (k := Rows.uptoSmall) rfl own started (by kernel_rfl) Tryz.func6
    (OpenSpec.witness (enc := enc) (C := Tryz.checked) (s := Rows.OpenSpec.upto Rows.scriptBackSpec) (k := Rows.uptoSmall) rfl false ⟨#[], #[.slice none 0 0], []⟩ 8 (by kernel_rfl) (by kernel_rfl) (by kernel_rfl)
      (x := ([.nil], [], [])) (by kernel_rfl) rfl (by kernel_rfl)) ?_
  intro W base args ds gs before hval0 hW _ hk _
  have hval : ∀ (j : Nat) t v, Tryz.f6.params[j]? = some t → args[j]? = some v → Value.okWide Tryz.prog W .any base t v := hval0
  have hW' := hW
  obtain ⟨p, q, hA0, hV, rfl, hfz, hnd⟩ := hW
  have hA : DataW.TrodAll enc Tryz.prog W 0 (fun _ => true) true Tryz.f6.params.toList args.toList ds p := hA0
  rw [Tryz.params6] at hA hval
  obtain ⟨v0, vs0, d0, ds0, p0, q0, hargs, rfl, rfl, h0, r0⟩ := trodAll_cons hA
  obtain ⟨rfl, rfl, rfl⟩ := trodAll_nil r0
  obtain rfl : args = #[v0] := by cases args; simp_all
  obtain ⟨rfl, rfl⟩ := trodVars_none hV
  have hbk : Rows.uptoBulk d0 ≤ 1048576 := by
    have h := of_decide_eq_true hk
    simp only [List.append_nil, Rows.uptoBulkAll] at h
    omega
  have k0 := h0
  have lt0 : ∀ x ∈ p0, x.block < W.heap.size := by obtain ⟨m, hm⟩ := k0; exact DataW.trod_lt m _ _ _ hm
  obtain ⟨sl0, hsl0⟩ := h0
  obtain ⟨xa0, xl0, xc0, rfl⟩ := okWide_slice Tryz.underlying32 (hval 0 32 v0 rfl rfl)
  obtain ⟨A0, c0, Cs0, ss0, he0, hf0, hm0, hi0, hl0, hz0⟩ := open_stepsU (v := .slice xa0 xl0 xc0) Rows.uptoBulk bk_len bk_agg bk_mem hsl0
  cases he0
  clear hA0 hval0
  refine (scriptBack_walk _ _ Cs0 ss0 W hf0 hm0 hi0 hl0 (fun s hs => Nat.le_trans (hz0 s hs) hbk)).mono fun e W' ⟨he, bel⟩ => ?_
  subst he
  exact ⟨_, rfl, _, _, _, [], _, [], hW', trodAll_mk1 (shut_bool Tryz.underlying4 _), (trodAll_cons_mk (Below.trod laidOut (by kernel_rfl) (of_decide_eq_true (by kernel_rfl)) k0 bel lt0) trodAll_mk0), rfl, bel.frame _, fun h => by cases h⟩

theorem joined_vars (P : Program) (f : FuncId) (fn : Func) (c : OpenClaim) (n : String) (vs : List String) (g1 g2 : (H : Type) → List (DataW H) → Left H) : joinedFacts P f fn ⟨n, vs, g1⟩ c = joinedFacts P f fn ⟨n, vs, g2⟩ c := rfl
theorem jfB : joinedFacts Tryz.prog 6 Tryz.f6 (Rows.OpenSpec.upto Rows.scriptBackSpec).bare Rows.scriptBackUptoRow = true :=
  (joined_vars Tryz.prog 6 Tryz.f6 Rows.scriptBackUptoRow Rows.scriptBackSpec.name Rows.scriptBackSpec.vars (fun _ _ => { results := [], args := [] }) Rows.scriptBackSpec.fn).trans jf
set_option maxRecDepth 100000 in
theorem over : Rows.scriptBackUptoRow.holds Tryz.pinned (Rows.OpenSpec.upto Rows.scriptBackSpec) :=
  OpenClaim.holds_of_cond 6 Tryz.f6 rfl rfl rfl rfl rfl rfl rfl ⟨rfl, rfl, rfl, rfl, rfl⟩ rfl rfl rfl rfl rfl (by kernel_rfl) Tryz.func6 jfB
    (of_decide_eq_true (by kernel_rfl)) (by unfold Func.isWrapper; first | (rw [if_pos (by decide +kernel)]; kernel_rfl) | (rw [if_neg (by decide +kernel)]; exact ⟨rfl, rfl⟩))
    (fun os started H enc _ F => lifted os started H enc F)

/-- The statement. -/
theorem proved : Rows.ScriptBackUptoSaid := over
#print axioms proved
end Go.Proofs.YtaiepcgfofpmjaaGreat.scriptBack
