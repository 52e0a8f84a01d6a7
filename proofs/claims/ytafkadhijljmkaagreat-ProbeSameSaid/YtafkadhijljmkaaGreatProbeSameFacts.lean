/- The closed facts of the row of probeSame, one by one. -/
import Derived.Test.YtafkadhijljmkaaGreatRows
import Derived.WalkKit
import Derived.ProofKit
namespace Go.Proofs.YtafkadhijljmkaaGreat.probeSame
set_option linter.unusedVariables false
set_option maxRecDepth 100000
theorem and_mk {a b : Bool} (h : a = true) (k : b = true) : (a && b) = true := by rw [h, k]; rfl
theorem jf0 : (Rows.probeSameRow.wf (OpenSpec.ofChange Rows.probeSameSpec)) = true := of_decide_eq_true (by kernel_rfl)
theorem jf1 : (laidOutB Tryz.prog) = true := of_decide_eq_true (by kernel_rfl)
theorem jf2 : (mapsRowed Tryz.prog) = true := of_decide_eq_true (by kernel_rfl)
theorem jf3 : (Tryz.f3.params.all (Tryz.prog.readableRec ·)) = true := of_decide_eq_true (by kernel_rfl)
theorem jf4 : (namedTie Tryz.prog Rows.probeSameRow.named Rows.probeSameSpec.vars) = true := of_decide_eq_true (by kernel_rfl)
theorem jf5 : ((Rows.probeSameRow.stops == [])) = true := of_decide_eq_true (by kernel_rfl)
theorem jf6 : ((Tryz.prog.stops == [])) = true := of_decide_eq_true (by kernel_rfl)
theorem jf7 : ((Rows.probeSameRow.knobs == [])) = true := of_decide_eq_true (by kernel_rfl)
theorem jf8 : ((Tryz.prog.stopKnobs == [])) = true := of_decide_eq_true (by kernel_rfl)
theorem jf9 : ((Rows.probeSameRow.inPlace == Tryz.prog.inPlace 3)) = true := of_decide_eq_true (by kernel_rfl)
theorem jf10 : ((Rows.probeSameRow.unfollowed == Tryz.prog.unfollowed 3)) = true := of_decide_eq_true (by kernel_rfl)
theorem jf11 : ((Rows.probeSameRow.recurses == Tryz.prog.recurses 3)) = true := of_decide_eq_true (by kernel_rfl)
theorem jf12 : ((Rows.probeSameRow.named == Tryz.prog.varsNamed 3)) = true := of_decide_eq_true (by kernel_rfl)
theorem jf13 : ((Rows.probeSameRow.maps == (Tryz.f3.params.toList ++ Rows.probeSameSpec.plain.varTypes Tryz.prog).any (Tryz.prog.mapsRec ·))) = true := of_decide_eq_true (by kernel_rfl)
theorem jf14 : ((Rows.probeSameRow.ifaces == (Tryz.f3.params.toList ++ Rows.probeSameSpec.plain.varTypes Tryz.prog).any (Tryz.prog.ifacesRec ·))) = true := of_decide_eq_true (by kernel_rfl)
theorem jf15 : ((Rows.probeSameRow.mapsOut == Tryz.prog.mapsAmong Tryz.f3.resultTypes.toList)) = true := of_decide_eq_true (by kernel_rfl)
theorem jf16 : ((Rows.probeSameRow.loops == (Tryz.f3.params.toList ++ Rows.probeSameSpec.plain.varTypes Tryz.prog).any (Tryz.prog.loopsFrom ·))) = true := of_decide_eq_true (by kernel_rfl)
theorem jf17 : ((Rows.probeSameRow.wideKeys == (Tryz.f3.params.toList ++ Rows.probeSameSpec.plain.varTypes Tryz.prog ++ Tryz.f3.resultTypes.toList).any (Tryz.prog.wideKeysFrom ·))) = true := of_decide_eq_true (by kernel_rfl)
theorem jf18 : (Rows.probeSameSpec.vars.all (Tryz.prog.varReadable ·)) = true := of_decide_eq_true (by kernel_rfl)
theorem jf19 : (Tryz.f3.resultTypes.all (fun t => Tryz.prog.readableRec t && decide (t < Tryz.prog.types.size))) = true := of_decide_eq_true (by kernel_rfl)
theorem jf20 : ((Rows.probeSameRow.ifacesOut == Tryz.f3.resultTypes.toList.any (Tryz.prog.ifacesRec ·))) = true := of_decide_eq_true (by kernel_rfl)
theorem jf21 : ((Rows.probeSameRow.loopsOut == Tryz.f3.resultTypes.toList.any (Tryz.prog.loopsFrom ·))) = true := of_decide_eq_true (by kernel_rfl)
theorem jf22 : ((Rows.probeSameRow.plainKeys == Tryz.prog.plainKeys)) = true := of_decide_eq_true (by kernel_rfl)
theorem jf23 : (Rows.probeSameRow.shortTexts.isNone) = true := of_decide_eq_true (by kernel_rfl)
theorem jf24 : (Tryz.prog.stopsHeard) = true := of_decide_eq_true (by kernel_rfl)
theorem jf25 : (Tryz.prog.mayEnter) = true := of_decide_eq_true (by kernel_rfl)
theorem jf26 : ((Rows.probeSameRow.lifted == Tryz.prog.liftsFinal)) = true := of_decide_eq_true (by kernel_rfl)
theorem jf27 : ((Tryz.prog.make == some Rows.probeSameRow.make)) = true := of_decide_eq_true (by kernel_rfl)
theorem jf28 : ((Rows.probeSameRow.kinds == (if Rows.probeSameRow.domain.isEmpty then [] else Tryz.f3.params.toList.map fun t => match Tryz.prog.underlying t with | some (.int k) => some k | _ => none))) = true := of_decide_eq_true (by kernel_rfl)
theorem jf29 : ((Rows.probeSameRow.pinned == Rows.probeSameRow.pinnedBy)) = true := of_decide_eq_true (by kernel_rfl)
theorem jf30 : ((Rows.probeSameRow.veiled == (Tryz.f3.params.toList ++ Rows.probeSameSpec.plain.varTypes Tryz.prog ++ Tryz.f3.resultTypes.toList).any (Tryz.prog.veiledRec ·))) = true := of_decide_eq_true (by kernel_rfl)
theorem jf31 : (Rows.probeSameRow.veiledFits Tryz.prog Tryz.f3.params.toList (Tryz.f3.params.toList ++ Rows.probeSameSpec.plain.varTypes Tryz.prog ++ Tryz.f3.resultTypes.toList)) = true := of_decide_eq_true (by kernel_rfl)
theorem jf : joinedFacts Tryz.prog 3 Tryz.f3 Rows.probeSameSpec Rows.probeSameRow = true := (and_mk (and_mk (and_mk (and_mk (and_mk (and_mk (and_mk (and_mk (and_mk (and_mk (and_mk (and_mk (and_mk (and_mk (and_mk (and_mk (and_mk (and_mk (and_mk (and_mk (and_mk (and_mk (and_mk (and_mk (and_mk (and_mk (and_mk (and_mk (and_mk (and_mk (and_mk jf0 jf1) jf2) jf3) jf4) jf5) jf6) jf7) jf8) jf9) jf10) jf11) jf12) jf13) jf14) jf15) jf16) jf17) jf18) jf19) jf20) jf21) jf22) jf23) jf24) jf25) jf26) jf27) jf28) jf29) jf30) jf31)
end Go.Proofs.YtafkadhijljmkaaGreat.probeSame
