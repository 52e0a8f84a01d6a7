/- The statement Rows.NmeaPutsSaid: whatever the arguments, the law returns true and its arguments read as they did. No condition. -/
import Derived.Test.YtoabkoniegmkaaaGreatRows
import Derived.WalkKit
import Derived.ProofKit
import Derived.OpenShut
import Derived.ShutString
import Derived.ChangeOld
import Derived.Below
import Derived.Test.YtoabkoniegmkaaaGreatJ46
import Derived.Test.YtoabkoniegmkaaaGreatJ47
namespace Go.Proofs.YtoabkoniegmkaaaGreat.nmeaPuts
open Go.ChangeShapes Go.WideShapes Go.ChangeAt Go.RowKit
open Go.ChangeMaps (open_string shut_string)
set_option linter.unusedVariables false

theorem own : ownKnob Tryz.prog.godebug = none := by kernel_rfl
theorem laidOut : laidOutB Tryz.prog = true := by kernel_rfl

set_option maxRecDepth 100000 in
theorem lifted (os : Os) (started : os.Started) (H : Type) (enc : TypeId × Value → H) :
    ReturnsInHanded {} Tryz.checked os 5 .any (Rows.nmeaPutsSpec.pre6 enc Tryz.prog Tryz.f5 Rows.nmeaPutsRow.domain false) (Rows.nmeaPutsSpec.post enc Tryz.prog Tryz.f5 false true false false) := by
  refine returnsInHanded_of_change (C := Tryz.checked) own started (by kernel_rfl) Tryz.func5
    (ChangeSpec.witness6 (enc := enc) (C := Tryz.checked) false ⟨#[], #[.agg #[.int .i64 0, .string ByteArray.empty, .bool false, .int .i64 0, .int .i64 0, .int .i64 0, .int .i64 0, .bool false, .int .i64 0, .bool false, .int .i64 0, .int .i64 0, .bool false, .int .i64 0, .bool false, .int .i64 0, .bool false, .int .i64 0, .bool false, .int .i64 0, .bool false, .int .i64 0, .bool false, .int .i64 0, .bool false, .int .i64 0, .int .i64 0, .int .i64 0, .int .i64 0, .bool false, .bool false, .int .i64 0, .bool false, .int .i64 0, .bool false, .int .i64 0, .bool false, .int .i64 0, .bool false, .int .i64 0, .bool false, .int .i64 0, .int .i64 0, .int .i64 0, .bool false, .int .i64 0, .slice none 0 0, .bool false, .int .i64 0, .bool false, .int .i64 0, .bool false, .int .i64 0, .bool false, .int .i64 0, .bool false, .int .i64 0, .bool false, .int .i64 0, .bool false, .int .i64 0, .int .i64 0, .int .i64 0, .int .i64 0, .slice none 0 0]], []⟩ 8 (by kernel_rfl) (by kernel_rfl) (by kernel_rfl) (by kernel_rfl)) ?_
  intro W base args ds gs before hval0 hW hcnd _
  have hval : ∀ (j : Nat) t v, Tryz.f5.params[j]? = some t → args[j]? = some v → Value.okWide Tryz.prog W .any base t v := hval0
  have hW' := hW
  obtain ⟨p, q, hA0, hV, rfl, hfz, hnd⟩ := hW
  have hA : DataW.TrodAll enc Tryz.prog W 0 (fun _ => true) true Tryz.f5.params.toList args.toList ds p := hA0
  rw [Tryz.params5] at hA hval
  obtain ⟨v0, vs0, d0, ds0, p0, q0, hargs, rfl, rfl, h0, r0⟩ := trodAll_cons hA
  obtain ⟨rfl, rfl, rfl⟩ := trodAll_nil r0
  obtain rfl : args = #[v0] := by cases args; simp_all
  obtain ⟨rfl, rfl⟩ := trodVars_none hV
  have k0 := h0
  have lt0 : ∀ x ∈ p0, x.block < W.heap.size := by obtain ⟨m, hm⟩ := k0; exact DataW.trod_lt m _ _ _ hm
  obtain ⟨m0, C0, rfl, hn0, wt0, wl0, wu0⟩ := open_nmea ⟨_, _, _, _, _, _, _, Tryz.underlying46, by kernel_rfl, Tryz.underlying3, Tryz.underlying9, ⟨_, _, _, _, _, _, _, _, _, _, Tryz.underlying32, by kernel_rfl, ⟨_, _, _, _, _, Tryz.underlying28, by kernel_rfl, Tryz.underlying4, Tryz.underlying2, Tryz.underlying2, Tryz.underlying2, Tryz.underlying2⟩, ⟨_, _, Tryz.underlying30, by kernel_rfl, Tryz.underlying4, Tryz.underlying2⟩, ⟨_, _, Tryz.underlying30, by kernel_rfl, Tryz.underlying4, Tryz.underlying2⟩, Tryz.underlying2, ⟨_, _, Tryz.underlying30, by kernel_rfl, Tryz.underlying4, Tryz.underlying2⟩, ⟨_, _, Tryz.underlying30, by kernel_rfl, Tryz.underlying4, Tryz.underlying2⟩, ⟨_, _, Tryz.underlying30, by kernel_rfl, Tryz.underlying4, Tryz.underlying2⟩, ⟨_, _, Tryz.underlying30, by kernel_rfl, Tryz.underlying4, Tryz.underlying2⟩, ⟨_, _, Tryz.underlying30, by kernel_rfl, Tryz.underlying4, Tryz.underlying2⟩, ⟨_, _, Tryz.underlying30, by kernel_rfl, Tryz.underlying4, Tryz.underlying2⟩⟩, ⟨_, _, _, _, _, _, _, _, Tryz.underlying36, by kernel_rfl, ⟨_, _, _, _, _, Tryz.underlying28, by kernel_rfl, Tryz.underlying4, Tryz.underlying2, Tryz.underlying2, Tryz.underlying2, Tryz.underlying2⟩, Tryz.underlying4, ⟨_, _, Tryz.underlying30, by kernel_rfl, Tryz.underlying4, Tryz.underlying2⟩, ⟨_, _, Tryz.underlying30, by kernel_rfl, Tryz.underlying4, Tryz.underlying2⟩, ⟨_, _, Tryz.underlying30, by kernel_rfl, Tryz.underlying4, Tryz.underlying2⟩, ⟨_, _, Tryz.underlying30, by kernel_rfl, Tryz.underlying4, Tryz.underlying2⟩, ⟨_, _, Tryz.underlying30, by kernel_rfl, Tryz.underlying4, Tryz.underlying2⟩, ⟨_, _, _, _, Tryz.underlying34, by kernel_rfl, Tryz.underlying4, Tryz.underlying2, Tryz.underlying2, Tryz.underlying2⟩⟩, ⟨_, _, _, _, _, _, Tryz.underlying39, by kernel_rfl, Tryz.underlying4, Tryz.underlying2, ⟨_, Tryz.underlying37, Tryz.underlying2, by kernel_rfl⟩, ⟨_, _, Tryz.underlying30, by kernel_rfl, Tryz.underlying4, Tryz.underlying2⟩, ⟨_, _, Tryz.underlying30, by kernel_rfl, Tryz.underlying4, Tryz.underlying2⟩, ⟨_, _, Tryz.underlying30, by kernel_rfl, Tryz.underlying4, Tryz.underlying2⟩⟩, ⟨_, _, _, _, Tryz.underlying41, by kernel_rfl, ⟨_, _, Tryz.underlying30, by kernel_rfl, Tryz.underlying4, Tryz.underlying2⟩, ⟨_, _, Tryz.underlying30, by kernel_rfl, Tryz.underlying4, Tryz.underlying2⟩, ⟨_, _, Tryz.underlying30, by kernel_rfl, Tryz.underlying4, Tryz.underlying2⟩, ⟨_, _, Tryz.underlying30, by kernel_rfl, Tryz.underlying4, Tryz.underlying2⟩⟩, ⟨_, _, _, _, Tryz.underlying44, by kernel_rfl, Tryz.underlying2, Tryz.underlying2, Tryz.underlying2, ⟨_, _, _, _, _, _, _, _, Tryz.underlying42, Tryz.underlying107, Tryz.underlying30, by kernel_rfl, by kernel_rfl, Tryz.underlying4, Tryz.underlying2⟩⟩⟩ (hval 0 46 v0 rfl rfl) h0
  clear hA0 hval0
  refine (nmeaPuts_any C0 m0 W hn0 wt0 wl0 wu0).mono fun e W' ⟨he, bel⟩ => ?_
  subst he
  exact ⟨_, rfl, _, _, _, [], _, [], hW', trodAll_mk1 (shut_bool Tryz.underlying4 _), (trodAll_cons_mk (Below.trod laidOut (by kernel_rfl) (of_decide_eq_true (by kernel_rfl)) k0 bel lt0) trodAll_mk0), rfl, bel.frame _, fun h => by cases h⟩

theorem over : Rows.nmeaPutsRow.holds Tryz.pinned (OpenSpec.ofChange Rows.nmeaPutsSpec) :=
  OpenClaim.holds_of_wide 5 Tryz.f5 rfl rfl rfl rfl rfl rfl rfl ⟨rfl, rfl, rfl, rfl, rfl⟩ rfl rfl rfl rfl rfl (by kernel_rfl) Tryz.func5 (by kernel_rfl)
    (of_decide_eq_true (by kernel_rfl)) (by unfold Func.isWrapper; first | (rw [if_pos (by decide +kernel)]; kernel_rfl) | (rw [if_neg (by decide +kernel)]; exact ⟨rfl, rfl⟩))
    (fun os started H enc _ => lifted os started H enc)

/-- The statement. -/
theorem proved : Rows.NmeaPutsSaid := over
#print axioms proved
end Go.Proofs.YtoabkoniegmkaaaGreat.nmeaPuts
