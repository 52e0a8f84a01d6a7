/- The closed facts of the row of nodeNil, one by one. -/
import Derived.Test.YtaiepcgfofpmjaaGreatRows
import Derived.WalkKit
import Derived.ProofKit
namespace Go.Proofs.YtaiepcgfofpmjaaGreat.nodeNil
set_option linter.unusedVariables false
set_option maxRecDepth 100000
theorem and_mk {a b : Bool} (h : a = true) (k : b = true) : (a && b) = true := by rw [h, k]; rfl
theorem jf0 : (Rows.nodeNilRow.wf (OpenSpec.ofChange Rows.nodeNilSpec)) = true := of_decide_eq_true (by kernel_rfl)
theorem jf1 : (laidOutB Tryz.prog) = true := of_decide_eq_true (by kernel_rfl)
theorem jf2 : (mapsRowed Tryz.prog) = true := of_decide_eq_true (by kernel_rfl)
theorem jf3 : (Tryz.f3.params.all (Tryz.prog.readableRec ·)) = true := of_decide_eq_true (by kernel_rfl)
theorem jf4 : (namedTie Tryz.prog Rows.nodeNilRow.named Rows.nodeNilSpec.vars) = true := of_decide_eq_true (by kernel_rfl)
theorem jf5 : ((Rows.nodeNilRow.stops == [])) = true := of_decide_eq_true (by kernel_rfl)
theorem jf6 : ((Tryz.prog.stops == [])) = true := of_decide_eq_true (by kernel_rfl)
theorem jf7 : ((Rows.nodeNilRow.knobs == [])) = true := of_decide_eq_true (by kernel_rfl)
theorem jf8 : ((Tryz.prog.stopKnobs == [])) = true := of_decide_eq_true (by kernel_rfl)
theorem jf9 : ((Rows.nodeNilRow.inPlace == Tryz.prog.inPlace 3)) = true := of_decide_eq_true (by kernel_rfl)
theorem jf10 : ((Rows.nodeNilRow.unfollowed == Tryz.prog.unfollowed 3)) = true := of_decide_eq_true (by kernel_rfl)
theorem jf11 : ((Rows.nodeNilRow.recurses == Tryz.prog.recurses 3)) = true := of_decide_eq_true (by kernel_rfl)
theorem jf12 : ((Rows.nodeNilRow.named == Tryz.prog.varsNamed 3)) = true := of_decide_eq_true (by kernel_rfl)
theorem jf13 : ((Rows.nodeNilRow.maps == (Tryz.f3.params.toList ++ Rows.nodeNilSpec.plain.varTypes Tryz.prog).any (Tryz.prog.mapsRec ·))) = true := of_decide_eq_true (by kernel_rfl)
theorem jf14 : ((Rows.nodeNilRow.ifaces == (Tryz.f3.params.toList ++ Rows.nodeNilSpec.plain.varTypes Tryz.prog).any (Tryz.prog.ifacesRec ·))) = true := of_decide_eq_true (by kernel_rfl)
theorem jf15 : ((Rows.nodeNilRow.mapsOut == Tryz.prog.mapsAmong Tryz.f3.resultTypes.toList)) = true := of_decide_eq_true (by kernel_rfl)
theorem jf16 : ((Rows.nodeNilRow.loops == (Tryz.f3.params.toList ++ Rows.nodeNilSpec.plain.varTypes Tryz.prog).any (Tryz.prog.loopsFrom ·))) = true := of_decide_eq_true (by kernel_rfl)
theorem jf17 : ((Rows.nodeNilRow.wideKeys == (Tryz.f3.params.toList ++ Rows.nodeNilSpec.plain.varTypes Tryz.prog ++ Tryz.f3.resultTypes.toList).any (Tryz.prog.wideKeysFrom ·))) = true := of_decide_eq_true (by kernel_rfl)
theorem jf18 : (Rows.nodeNilSpec.vars.all (Tryz.prog.varReadable ·)) = true := of_decide_eq_true (by kernel_rfl)
theorem jf19 : (Tryz.f3.resultTypes.all (fun t => Tryz.prog.readableRec t && decide (t < Tryz.prog.types.size))) = true := of_decide_eq_true (by kernel_rfl)
theorem jf20 : ((Rows.nodeNilRow.ifacesOut == Tryz.f3.resultTypes.toList.any (Tryz.prog.ifacesRec ·))) = true := of_decide_eq_true (by kernel_rfl)
theorem jf21 : ((Rows.nodeNilRow.loopsOut == Tryz.f3.resultTypes.toList.any (Tryz.prog.loopsFrom ·))) = true := of_decide_eq_true (by kernel_rfl)
theorem jf22 : ((Rows.nodeNilRow.plainKeys == Tryz.prog.plainKeys)) = true := of_decide_eq_true (by kernel_rfl)
theorem jf23 : (Rows.nodeNilRow.shortTexts.isNone) = true := of_decide_eq_true (by kernel_rfl)
theorem jf24 : (Tryz.prog.stopsHeard) = true := of_decide_eq_true (by kernel_rfl)
theorem jf25 : (Tryz.prog.mayEnter) = true := of_decide_eq_true (by kernel_rfl)
theorem jf26 : ((Rows.nodeNilRow.lifted == Tryz.prog.liftsFinal)) = true := of_decide_eq_true (by kernel_rfl)
theorem jf27 : ((Tryz.prog.make == some Rows.nodeNilRow.make)) = true := of_decide_eq_true (by kernel_rfl)
theorem jf28 : ((Rows.nodeNilRow.kinds == (if Rows.nodeNilRow.domain.isEmpty then [] else Tryz.f3.params.toList.map fun t => match Tryz.prog.underlying t with | some (.int k) => some k | _ => none))) = true := of_decide_eq_true (by kernel_rfl)
theorem jf29 : ((Rows.nodeNilRow.pinned == Rows.nodeNilRow.pinnedBy)) = true := of_decide_eq_true (by kernel_rfl)
theorem jf30 : ((Rows.nodeNilRow.veiled == (Tryz.f3.params.toList ++ Rows.nodeNilSpec.plain.varTypes Tryz.prog ++ Tryz.f3.resultTypes.toList).any (Tryz.prog.veiledRec ·))) = true := of_decide_eq_true (by kernel_rfl)
theorem jf31 : (Rows.nodeNilRow.veiledFits Tryz.prog Tryz.f3.params.toList (Tryz.f3.params.toList ++ Rows.nodeNilSpec.plain.varTypes Tryz.prog ++ Tryz.f3.resultTypes.toList)) = true := of_decide_eq_true (by kernel_rfl)
theorem jf : joinedFacts Tryz.prog 3 Tryz.f3 Rows.nodeNilSpec Rows.nodeNilRow = true := (and_mk (and_mk (and_mk (and_mk (and_mk (and_mk (and_mk (and_mk (and_mk (and_mk (and_mk (and_mk (and_mk (and_mk (and_mk (and_mk (and_mk (and_mk (and_mk (and_mk (and_mk (and_mk (and_mk (and_mk (and_mk (and_mk (and_mk (and_mk (and_mk (and_mk (and_mk jf0 jf1) jf2) jf3) jf4) jf5) jf6) jf7) jf8) jf9) jf10) jf11) jf12) jf13) jf14) jf15) jf16) jf17) jf18) jf19) jf20) jf21) jf22) jf23) jf24) jf25) jf26) jf27) jf28) jf29) jf30) jf31)
end Go.Proofs.YtaiepcgfofpmjaaGreat.nodeNil
