/- The closed facts of the row of scriptReads, one by one. -/
import Derived.Test.YtaiepcgfofpmjaaGreatRows
import Derived.WalkKit
import Derived.ProofKit
namespace Go.Proofs.YtaiepcgfofpmjaaGreat.scriptReads
set_option linter.unusedVariables false
set_option maxRecDepth 100000
theorem and_mk {a b : Bool} (h : a = true) (k : b = true) : (a && b) = true := by rw [h, k]; rfl
theorem jf0 : (Rows.scriptReadsRow.wf (OpenSpec.ofChange Rows.scriptReadsSpec)) = true := of_decide_eq_true (by kernel_rfl)
theorem jf1 : (laidOutB Tryz.prog) = true := of_decide_eq_true (by kernel_rfl)
theorem jf2 : (mapsRowed Tryz.prog) = true := of_decide_eq_true (by kernel_rfl)
theorem jf3 : (Tryz.f4.params.all (Tryz.prog.readableRec ·)) = true := of_decide_eq_true (by kernel_rfl)
theorem jf4 : (namedTie Tryz.prog Rows.scriptReadsRow.named Rows.scriptReadsSpec.vars) = true := of_decide_eq_true (by kernel_rfl)
theorem jf5 : ((Rows.scriptReadsRow.stops == [])) = true := of_decide_eq_true (by kernel_rfl)
theorem jf6 : ((Tryz.prog.stops == [])) = true := of_decide_eq_true (by kernel_rfl)
theorem jf7 : ((Rows.scriptReadsRow.knobs == [])) = true := of_decide_eq_true (by kernel_rfl)
theorem jf8 : ((Tryz.prog.stopKnobs == [])) = true := of_decide_eq_true (by kernel_rfl)
theorem jf9 : ((Rows.scriptReadsRow.inPlace == Tryz.prog.inPlace 4)) = true := of_decide_eq_true (by kernel_rfl)
theorem jf10 : ((Rows.scriptReadsRow.unfollowed == Tryz.prog.unfollowed 4)) = true := of_decide_eq_true (by kernel_rfl)
theorem jf11 : ((Rows.scriptReadsRow.recurses == Tryz.prog.recurses 4)) = true := of_decide_eq_true (by kernel_rfl)
theorem jf12 : ((Rows.scriptReadsRow.named == Tryz.prog.varsNamed 4)) = true := of_decide_eq_true (by kernel_rfl)
theorem jf13 : ((Rows.scriptReadsRow.maps == (Tryz.f4.params.toList ++ Rows.scriptReadsSpec.plain.varTypes Tryz.prog).any (Tryz.prog.mapsRec ·))) = true := of_decide_eq_true (by kernel_rfl)
theorem jf14 : ((Rows.scriptReadsRow.ifaces == (Tryz.f4.params.toList ++ Rows.scriptReadsSpec.plain.varTypes Tryz.prog).any (Tryz.prog.ifacesRec ·))) = true := of_decide_eq_true (by kernel_rfl)
theorem jf15 : ((Rows.scriptReadsRow.mapsOut == Tryz.prog.mapsAmong Tryz.f4.resultTypes.toList)) = true := of_decide_eq_true (by kernel_rfl)
theorem jf16 : ((Rows.scriptReadsRow.loops == (Tryz.f4.params.toList ++ Rows.scriptReadsSpec.plain.varTypes Tryz.prog).any (Tryz.prog.loopsFrom ·))) = true := of_decide_eq_true (by kernel_rfl)
theorem jf17 : ((Rows.scriptReadsRow.wideKeys == (Tryz.f4.params.toList ++ Rows.scriptReadsSpec.plain.varTypes Tryz.prog ++ Tryz.f4.resultTypes.toList).any (Tryz.prog.wideKeysFrom ·))) = true := of_decide_eq_true (by kernel_rfl)
theorem jf18 : (Rows.scriptReadsSpec.vars.all (Tryz.prog.varReadable ·)) = true := of_decide_eq_true (by kernel_rfl)
theorem jf19 : (Tryz.f4.resultTypes.all (fun t => Tryz.prog.readableRec t && decide (t < Tryz.prog.types.size))) = true := of_decide_eq_true (by kernel_rfl)
theorem jf20 : ((Rows.scriptReadsRow.ifacesOut == Tryz.f4.resultTypes.toList.any (Tryz.prog.ifacesRec ·))) = true := of_decide_eq_true (by kernel_rfl)
theorem jf21 : ((Rows.scriptReadsRow.loopsOut == Tryz.f4.resultTypes.toList.any (Tryz.prog.loopsFrom ·))) = true := of_decide_eq_true (by kernel_rfl)
theorem jf22 : ((Rows.scriptReadsRow.plainKeys == Tryz.prog.plainKeys)) = true := of_decide_eq_true (by kernel_rfl)
theorem jf23 : (Rows.scriptReadsRow.shortTexts.isNone) = true := of_decide_eq_true (by kernel_rfl)
theorem jf24 : (Tryz.prog.stopsHeard) = true := of_decide_eq_true (by kernel_rfl)
theorem jf25 : (Tryz.prog.mayEnter) = true := of_decide_eq_true (by kernel_rfl)
theorem jf26 : ((Rows.scriptReadsRow.lifted == Tryz.prog.liftsFinal)) = true := of_decide_eq_true (by kernel_rfl)
theorem jf27 : ((Tryz.prog.make == some Rows.scriptReadsRow.make)) = true := of_decide_eq_true (by kernel_rfl)
theorem jf28 : ((Rows.scriptReadsRow.kinds == (if Rows.scriptReadsRow.domain.isEmpty then [] else Tryz.f4.params.toList.map fun t => match Tryz.prog.underlying t with | some (.int k) => some k | _ => none))) = true := of_decide_eq_true (by kernel_rfl)
theorem jf29 : ((Rows.scriptReadsRow.pinned == Rows.scriptReadsRow.pinnedBy)) = true := of_decide_eq_true (by kernel_rfl)
theorem jf30 : ((Rows.scriptReadsRow.veiled == (Tryz.f4.params.toList ++ Rows.scriptReadsSpec.plain.varTypes Tryz.prog ++ Tryz.f4.resultTypes.toList).any (Tryz.prog.veiledRec ·))) = true := of_decide_eq_true (by kernel_rfl)
theorem jf31 : (Rows.scriptReadsRow.veiledFits Tryz.prog Tryz.f4.params.toList (Tryz.f4.params.toList ++ Rows.scriptReadsSpec.plain.varTypes Tryz.prog ++ Tryz.f4.resultTypes.toList)) = true := of_decide_eq_true (by kernel_rfl)
theorem jf : joinedFacts Tryz.prog 4 Tryz.f4 Rows.scriptReadsSpec Rows.scriptReadsRow = true := (and_mk (and_mk (and_mk (and_mk (and_mk (and_mk (and_mk (and_mk (and_mk (and_mk (and_mk (and_mk (and_mk (and_mk (and_mk (and_mk (and_mk (and_mk (and_mk (and_mk (and_mk (and_mk (and_mk (and_mk (and_mk (and_mk (and_mk (and_mk (and_mk (and_mk (and_mk jf0 jf1) jf2) jf3) jf4) jf5) jf6) jf7) jf8) jf9) jf10) jf11) jf12) jf13) jf14) jf15) jf16) jf17) jf18) jf19) jf20) jf21) jf22) jf23) jf24) jf25) jf26) jf27) jf28) jf29) jf30) jf31)
end Go.Proofs.YtaiepcgfofpmjaaGreat.scriptReads
