/- The closed facts of the row of scriptLinesUpto, one by one. -/
import Derived.Test.YtaiepcgfofpmjaaGreatRows
import Derived.WalkKit
import Derived.ProofKit
namespace Go.Proofs.YtaiepcgfofpmjaaGreat.scriptLines
set_option linter.unusedVariables false
set_option maxRecDepth 100000
theorem and_mk {a b : Bool} (h : a = true) (k : b = true) : (a && b) = true := by rw [h, k]; rfl
theorem jf0 : (Rows.scriptLinesUptoRow.wf (OpenSpec.ofChange Rows.scriptLinesSpec)) = true := of_decide_eq_true (by kernel_rfl)
theorem jf1 : (laidOutB Tryz.prog) = true := of_decide_eq_true (by kernel_rfl)
theorem jf2 : (mapsRowed Tryz.prog) = true := of_decide_eq_true (by kernel_rfl)
theorem jf3 : (Tryz.f5.params.all (Tryz.prog.readableRec ·)) = true := of_decide_eq_true (by kernel_rfl)
theorem jf4 : (namedTie Tryz.prog Rows.scriptLinesUptoRow.named Rows.scriptLinesSpec.vars) = true := of_decide_eq_true (by kernel_rfl)
theorem jf5 : ((Rows.scriptLinesUptoRow.stops == [])) = true := of_decide_eq_true (by kernel_rfl)
theorem jf6 : ((Tryz.prog.stops == [])) = true := of_decide_eq_true (by kernel_rfl)
theorem jf7 : ((Rows.scriptLinesUptoRow.knobs == [])) = true := of_decide_eq_true (by kernel_rfl)
theorem jf8 : ((Tryz.prog.stopKnobs == [])) = true := of_decide_eq_true (by kernel_rfl)
theorem jf9 : ((Rows.scriptLinesUptoRow.inPlace == Tryz.prog.inPlace 5)) = true := of_decide_eq_true (by kernel_rfl)
theorem jf10 : ((Rows.scriptLinesUptoRow.unfollowed == Tryz.prog.unfollowed 5)) = true := of_decide_eq_true (by kernel_rfl)
theorem jf11 : ((Rows.scriptLinesUptoRow.recurses == Tryz.prog.recurses 5)) = true := of_decide_eq_true (by kernel_rfl)
theorem jf12 : ((Rows.scriptLinesUptoRow.named == Tryz.prog.varsNamed 5)) = true := of_decide_eq_true (by kernel_rfl)
theorem jf13 : ((Rows.scriptLinesUptoRow.maps == (Tryz.f5.params.toList ++ Rows.scriptLinesSpec.plain.varTypes Tryz.prog).any (Tryz.prog.mapsRec ·))) = true := of_decide_eq_true (by kernel_rfl)
theorem jf14 : ((Rows.scriptLinesUptoRow.ifaces == (Tryz.f5.params.toList ++ Rows.scriptLinesSpec.plain.varTypes Tryz.prog).any (Tryz.prog.ifacesRec ·))) = true := of_decide_eq_true (by kernel_rfl)
theorem jf15 : ((Rows.scriptLinesUptoRow.mapsOut == Tryz.prog.mapsAmong Tryz.f5.resultTypes.toList)) = true := of_decide_eq_true (by kernel_rfl)
theorem jf16 : ((Rows.scriptLinesUptoRow.loops == (Tryz.f5.params.toList ++ Rows.scriptLinesSpec.plain.varTypes Tryz.prog).any (Tryz.prog.loopsFrom ·))) = true := of_decide_eq_true (by kernel_rfl)
theorem jf17 : ((Rows.scriptLinesUptoRow.wideKeys == (Tryz.f5.params.toList ++ Rows.scriptLinesSpec.plain.varTypes Tryz.prog ++ Tryz.f5.resultTypes.toList).any (Tryz.prog.wideKeysFrom ·))) = true := of_decide_eq_true (by kernel_rfl)
theorem jf18 : (Rows.scriptLinesSpec.vars.all (Tryz.prog.varReadable ·)) = true := of_decide_eq_true (by kernel_rfl)
theorem jf19 : (Tryz.f5.resultTypes.all (fun t => Tryz.prog.readableRec t && decide (t < Tryz.prog.types.size))) = true := of_decide_eq_true (by kernel_rfl)
theorem jf20 : ((Rows.scriptLinesUptoRow.ifacesOut == Tryz.f5.resultTypes.toList.any (Tryz.prog.ifacesRec ·))) = true := of_decide_eq_true (by kernel_rfl)
theorem jf21 : ((Rows.scriptLinesUptoRow.loopsOut == Tryz.f5.resultTypes.toList.any (Tryz.prog.loopsFrom ·))) = true := of_decide_eq_true (by kernel_rfl)
theorem jf22 : ((Rows.scriptLinesUptoRow.plainKeys == Tryz.prog.plainKeys)) = true := of_decide_eq_true (by kernel_rfl)
theorem jf23 : (Rows.scriptLinesUptoRow.shortTexts.isNone) = true := of_decide_eq_true (by kernel_rfl)
theorem jf24 : (Tryz.prog.stopsHeard) = true := of_decide_eq_true (by kernel_rfl)
theorem jf25 : (Tryz.prog.mayEnter) = true := of_decide_eq_true (by kernel_rfl)
theorem jf26 : ((Rows.scriptLinesUptoRow.lifted == Tryz.prog.liftsFinal)) = true := of_decide_eq_true (by kernel_rfl)
theorem jf27 : ((Tryz.prog.make == some Rows.scriptLinesUptoRow.make)) = true := of_decide_eq_true (by kernel_rfl)
theorem jf28 : ((Rows.scriptLinesUptoRow.kinds == (if Rows.scriptLinesUptoRow.domain.isEmpty then [] else Tryz.f5.params.toList.map fun t => match Tryz.prog.underlying t with | some (.int k) => some k | _ => none))) = true := of_decide_eq_true (by kernel_rfl)
theorem jf29 : ((Rows.scriptLinesUptoRow.pinned == Rows.scriptLinesUptoRow.pinnedBy)) = true := of_decide_eq_true (by kernel_rfl)
theorem jf30 : ((Rows.scriptLinesUptoRow.veiled == (Tryz.f5.params.toList ++ Rows.scriptLinesSpec.plain.varTypes Tryz.prog ++ Tryz.f5.resultTypes.toList).any (Tryz.prog.veiledRec ·))) = true := of_decide_eq_true (by kernel_rfl)
theorem jf31 : (Rows.scriptLinesUptoRow.veiledFits Tryz.prog Tryz.f5.params.toList (Tryz.f5.params.toList ++ Rows.scriptLinesSpec.plain.varTypes Tryz.prog ++ Tryz.f5.resultTypes.toList)) = true := of_decide_eq_true (by kernel_rfl)
theorem jf : joinedFacts Tryz.prog 5 Tryz.f5 Rows.scriptLinesSpec Rows.scriptLinesUptoRow = true := (and_mk (and_mk (and_mk (and_mk (and_mk (and_mk (and_mk (and_mk (and_mk (and_mk (and_mk (and_mk (and_mk (and_mk (and_mk (and_mk (and_mk (and_mk (and_mk (and_mk (and_mk (and_mk (and_mk (and_mk (and_mk (and_mk (and_mk (and_mk (and_mk (and_mk (and_mk jf0 jf1) jf2) jf3) jf4) jf5) jf6) jf7) jf8) jf9) jf10) jf11) jf12) jf13) jf14) jf15) jf16) jf17) jf18) jf19) jf20) jf21) jf22) jf23) jf24) jf25) jf26) jf27) jf28) jf29) jf30) jf31)
end Go.Proofs.YtaiepcgfofpmjaaGreat.scriptLines
