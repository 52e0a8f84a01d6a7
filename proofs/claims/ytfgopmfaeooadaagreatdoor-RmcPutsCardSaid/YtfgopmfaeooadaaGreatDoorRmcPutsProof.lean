/- The statement Rows.RmcPutsCardSaid: whatever the arguments, the law returns true and its arguments read as they did; the package-level variables that the row lists are tied to the program's text. No further condition. -/
import Derived.Test.YtfgopmfaeooadaaGreatDoorRows
import Derived.Test.YtfgopmfaeooadaaGreatDoorTie
import Derived.Test.YtfgopmfaeooadaaGreatDoorCards
import Derived.LaidMore
import Derived.Lay
import Derived.LaidOnce
import Derived.Stop.Joined
import Derived.SevenTiedAt
import Derived.WalkKit
import Derived.ProofKit
import Derived.OpenShut
import Derived.ShutString
import Derived.ChangeOld
import Derived.Below
import Derived.Test.YtfgopmfaeooadaaGreatDoorMzrp
import Derived.Test.YtfgopmfaeooadaaGreatDoorMo2
namespace Go.Proofs.YtfgopmfaeooadaaGreatDoor.rmcPuts
open Go.ChangeShapes Go.WideShapes Go.ChangeAt Go.RowKit
open Go.ChangeMaps (open_string shut_string)
set_option linter.unusedVariables false

theorem own : ownKnob Tryz.prog.godebug = none := by kernel_rfl
theorem laidOut : laidOutB Tryz.prog = true := by kernel_rfl

abbrev laid : List (String × DataW Unit) := [("unicode/utf8.acceptRanges", Rows.laid_unicode_utf8_acceptRanges), ("unicode/utf8.first", Rows.laid_unicode_utf8_first)]
set_option maxRecDepth 100000 in
set_option maxHeartbeats 2000000 in
theorem lifted (os : Os) (started : os.Started) (H : Type) (enc : TypeId × Value → H) :
    ReturnsInHanded {} Tryz.checked os 4 .any (fun w args => (Rows.rmcPutsSpec.pre enc Tryz.prog Tryz.f4 [] false w args ∧ laidMetH Tryz.prog laid w) ∧ sizedMet enc Tryz.prog Tryz.f4 (OpenSpec.ofChange Rows.rmcPutsSpec) false w args) (Rows.rmcPutsSpec.post enc Tryz.prog Tryz.f4 false true false false) := by
  refine returnsInHanded_of_change_and (C := Tryz.checked) (X := fun w _ => laidMetH Tryz.prog laid w) (fun _ _ _ hh h => h.of_heap hh) own started (by kernel_rfl) Tryz.func4
    (ChangeSpec.witness_shaped (enc := enc) (C := Tryz.checked) (os := os) (X := fun w _ => laidMetH Tryz.prog laid w) false (World.laidAll Tryz.prog os laid) #[.agg #[.bool false, .int .i64 0, .int .i64 0, .int .i64 0, .int .i64 0, .bool false, .bool false, .int .i64 0, .bool false, .int .i64 0, .bool false, .int .i64 0, .bool false, .int .i64 0, .bool false, .int .i64 0, .bool false, .int .i64 0, .int .i64 0, .int .i64 0]] 8 (World.laidAll_os _ _ _)
      (World.shaped_of_ZipB (by kernel_rfl) (by kernel_rfl)) (by kernel_rfl) (by kernel_rfl) (by kernel_rfl)
      (by rw [MakeChecks.laidMetH_plain _ _ _ (by kernel_rfl)]; exact laidMet_laidAll _ (by kernel_rfl) (by kernel_rfl))) ?_
  intro W base args ds gs before hval0 hW _ _ _ _
  have hval : ∀ (j : Nat) t v, Tryz.f4.params[j]? = some t → args[j]? = some v → Value.okWide Tryz.prog W .any base t v := hval0
  have hW' := hW
  obtain ⟨p, q, hA0, hV, rfl, hfz, hnd⟩ := hW
  have hA : DataW.TrodAll enc Tryz.prog W 0 (fun _ => true) true Tryz.f4.params.toList args.toList ds p := hA0
  rw [Tryz.params4] at hA hval
  obtain ⟨v0, vs0, d0, ds0, p0, q0, hargs, rfl, rfl, h0, r0⟩ := trodAll_cons hA
  obtain ⟨rfl, rfl, rfl⟩ := trodAll_nil r0
  obtain rfl : args = #[v0] := by cases args; simp_all
  obtain ⟨rfl, rfl⟩ := trodVars_none hV
  have k0 := h0
  have lt0 : ∀ x ∈ p0, x.block < W.heap.size := by obtain ⟨m, hm⟩ := k0; exact DataW.trod_lt m _ _ _ hm
  obtain ⟨x00_0, x00_1, x00_2, x00_3, x00_4, x01, x02_0, x02_1, x03_0, x03_1, x04_0, x04_1, x05_0, x05_1, x06_0, x06_1, x07_0, x07_1, x07_2, x07_3, rfl⟩ := open_rmc ⟨_, _, _, _, _, _, _, _, Tryz.underlying32, by kernel_rfl, ⟨_, _, _, _, _, Tryz.underlying26, by kernel_rfl, Tryz.underlying4, Tryz.underlying2, Tryz.underlying2, Tryz.underlying2, Tryz.underlying2⟩, Tryz.underlying4, ⟨_, _, Tryz.underlying28, by kernel_rfl, Tryz.underlying4, Tryz.underlying2⟩, ⟨_, _, Tryz.underlying28, by kernel_rfl, Tryz.underlying4, Tryz.underlying2⟩, ⟨_, _, Tryz.underlying28, by kernel_rfl, Tryz.underlying4, Tryz.underlying2⟩, ⟨_, _, Tryz.underlying28, by kernel_rfl, Tryz.underlying4, Tryz.underlying2⟩, ⟨_, _, Tryz.underlying28, by kernel_rfl, Tryz.underlying4, Tryz.underlying2⟩, ⟨_, _, _, _, Tryz.underlying30, by kernel_rfl, Tryz.underlying4, Tryz.underlying2, Tryz.underlying2, Tryz.underlying2⟩⟩ (hval 0 32 v0 rfl rfl) h0
  clear hA0 hval0
  refine (rmcPuts_any x00_0 x00_1 x00_2 x00_3 x00_4 x01 x02_0 x02_1 x03_0 x03_1 x04_0 x04_1 x05_0 x05_1 x06_0 x06_1 x07_0 x07_1 x07_2 x07_3 W ).mono fun e W' ⟨he, bel⟩ => ?_
  subst he
  exact ⟨_, rfl, _, _, _, [], _, [], hW', trodAll_mk1 (shut_bool Tryz.underlying4 _), (trodAll_cons_mk (Below.trod laidOut (by kernel_rfl) (of_decide_eq_true (by kernel_rfl)) k0 bel lt0) trodAll_mk0), rfl, bel.frame _, fun h => by cases h⟩

theorem over : Rows.rmcPutsRow.holds Tryz.pinned (OpenSpec.ofChange Rows.rmcPutsSpec) :=
  OpenClaim.holds_of_wide 4 Tryz.f4 rfl rfl rfl rfl rfl rfl rfl ⟨rfl, rfl, rfl, rfl, rfl⟩ rfl rfl rfl rfl rfl (by kernel_rfl) Tryz.func4 (by kernel_rfl)
    (of_decide_eq_true (by kernel_rfl)) (by unfold Func.isWrapper; first | (rw [if_pos (by decide +kernel)]; kernel_rfl) | (rw [if_neg (by decide +kernel)]; exact ⟨rfl, rfl⟩))
    (fun os started H enc _ => lifted os started H enc)

/-- The statement. -/
theorem proved : Rows.RmcPutsCardSaid :=
  Claim7.holds_tied_plain_at .later [] [.data, .pinned] true (true, "7d647da276d9f5266ebfc5d3fe4a0c342e869151de9a0002d8b1927dc9b7a2b0") false
    over (fun _ h => by cases h) (by kernel_rfl) (fun _ h => by cases h) rmcPuts_row_tie rfl ⟨rfl, rfl⟩ (by kernel_rfl) rfl
    (fun f fn hf hfn => by
      obtain rfl : f = 4 := Option.some.inj ((show Tryz.prog.funcNamed "landfall/landfalllaw26.RmcPuts" = some 4 by kernel_rfl).symm.trans hf) |>.symm
      obtain rfl : fn = Tryz.f4 := (Option.some.inj (Tryz.func4.symm.trans hfn)).symm
      exact ⟨by kernel_rfl, fun j t ht => by
        rw [Tryz.params4] at ht
        have hm : t ∈ Tryz.f4.params.toList := by rw [Tryz.params4]; exact Array.mem_toList_iff.2 (Array.mem_of_getElem? ht)
        have hall : (Tryz.f4.params.toList.all fun u => !Tryz.prog.wantsStandIn u) = true := by kernel_rfl
        exact (show Tryz.prog.wantsStandIn t = false by simpa using List.all_eq_true.1 hall t hm)⟩)
    (by kernel_rfl)
#print axioms proved
end Go.Proofs.YtfgopmfaeooadaaGreatDoor.rmcPuts
