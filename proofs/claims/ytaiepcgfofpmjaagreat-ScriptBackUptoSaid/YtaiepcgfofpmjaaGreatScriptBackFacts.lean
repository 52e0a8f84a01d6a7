/- The closed facts of the row of scriptBackUpto, one by one. -/
import Derived.Test.YtaiepcgfofpmjaaGreatRows
import Derived.WalkKit
import Derived.ProofKit
namespace Go.Proofs.YtaiepcgfofpmjaaGreat.scriptBack
set_option linter.unusedVariables false
set_option maxRecDepth 100000
theorem and_mk {a b : Bool} (h : a = true) (k : b = true) : (a && b) = true := by rw [h, k]; rfl
theorem jf0 : (Rows.scriptBackUptoRow.wf (OpenSpec.ofChange Rows.scriptBackSpec)) = true := of_decide_eq_true (by kernel_rfl)
theorem jf1 : (laidOutB Tryz.prog) = true := of_decide_eq_true (by kernel_rfl)
theorem jf2 : (mapsRowed Tryz.prog) = true := of_decide_eq_true (by kernel_rfl)
theorem jf3 : (Tryz.f6.params.all (Tryz.prog.readableRec ·)) = true := of_decide_eq_true (by kernel_rfl)
theorem jf4 : (namedTie Tryz.prog Rows.scriptBackUptoRow.named Rows.scriptBackSpec.vars) = true := of_decide_eq_true (by kernel_rfl)
theorem jf5 : ((Rows.scriptBackUptoRow.stops == [])) = true := of_decide_eq_true (by kernel_rfl)
theorem jf6 : ((Tryz.prog.stops == [])) = true := of_decide_eq_true (by kernel_rfl)
theorem jf7 : ((Rows.scriptBackUptoRow.knobs == [])) = true := of_decide_eq_true (by kernel_rfl)
theorem jf8 : ((Tryz.prog.stopKnobs == [])) = true := of_decide_eq_true (by kernel_rfl)
theorem jf9 : ((Rows.scriptBackUptoRow.inPlace == Tryz.prog.inPlace 6)) = true := of_decide_eq_true (by kernel_rfl)
theorem jf10 : ((Rows.scriptBackUptoRow.unfollowed == Tryz.prog.unfollowed 6)) = true := of_decide_eq_true (by kernel_rfl)
theorem jf11 : ((Rows.scriptBackUptoRow.recurses == Tryz.prog.recurses 6)) = true := of_decide_eq_true (by kernel_rfl)
theorem jf12 : ((Rows.scriptBackUptoRow.named == Tryz.prog.varsNamed 6)) = true := of_decide_eq_true (by kernel_rfl)
theorem jf13 : ((Rows.scriptBackUptoRow.maps == (Tryz.f6.params.toList ++ Rows.scriptBackSpec.plain.varTypes Tryz.prog).any (Tryz.prog.mapsRec ·))) = true := of_decide_eq_true (by kernel_rfl)
theorem jf14 : ((Rows.scriptBackUptoRow.ifaces == (Tryz.f6.params.toList ++ Rows.scriptBackSpec.plain.varTypes Tryz.prog).any (Tryz.prog.ifacesRec ·))) = true := of_decide_eq_true (by kernel_rfl)
theorem jf15 : ((Rows.scriptBackUptoRow.mapsOut == Tryz.prog.mapsAmong Tryz.f6.resultTypes.toList)) = true := of_decide_eq_true (by kernel_rfl)
theorem jf16 : ((Rows.scriptBackUptoRow.loops == (Tryz.f6.params.toList ++ Rows.scriptBackSpec.plain.varTypes Tryz.prog).any (Tryz.prog.loopsFrom ·))) = true := of_decide_eq_true (by kernel_rfl)
theorem jf17 : ((Rows.scriptBackUptoRow.wideKeys == (Tryz.f6.params.toList ++ Rows.scriptBackSpec.plain.varTypes Tryz.prog ++ Tryz.f6.resultTypes.toList).any (Tryz.prog.wideKeysFrom ·))) = true := of_decide_eq_true (by kernel_rfl)
theorem jf18 : (Rows.scriptBackSpec.vars.all (Tryz.prog.varReadable ·)) = true := of_decide_eq_true (by kernel_rfl)
theorem jf19 : (Tryz.f6.resultTypes.all (fun t => Tryz.prog.readableRec t && decide (t < Tryz.prog.types.size))) = true := of_decide_eq_true (by kernel_rfl)
theorem jf20 : ((Rows.scriptBackUptoRow.ifacesOut == Tryz.f6.resultTypes.toList.any (Tryz.prog.ifacesRec ·))) = true := of_decide_eq_true (by kernel_rfl)
theorem jf21 : ((Rows.scriptBackUptoRow.loopsOut == Tryz.f6.resultTypes.toList.any (Tryz.prog.loopsFrom ·))) = true := of_decide_eq_true (by kernel_rfl)
theorem jf22 : ((Rows.scriptBackUptoRow.plainKeys == Tryz.prog.plainKeys)) = true := of_decide_eq_true (by kernel_rfl)
theorem jf23 : (Rows.scriptBackUptoRow.shortTexts.isNone) = true := of_decide_eq_true (by kernel_rfl)
theorem jf24 : (Tryz.prog.stopsHeard) = true := of_decide_eq_true (by kernel_rfl)
theorem jf25 : (Tryz.prog.mayEnter) = true := of_decide_eq_true (by kernel_rfl)
theorem jf26 : ((Rows.scriptBackUptoRow.lifted == Tryz.prog.liftsFinal)) = true := of_decide_eq_true (by kernel_rfl)
theorem jf27 : ((Tryz.prog.make == some Rows.scriptBackUptoRow.make)) = true := of_decide_eq_true (by kernel_rfl)
theorem jf28 : ((Rows.scriptBackUptoRow.kinds == (if Rows.scriptBackUptoRow.domain.isEmpty then [] else Tryz.f6.params.toList.map fun t => match Tryz.prog.underlying t with | some (.int k) => some k | _ => none))) = true := of_decide_eq_true (by kernel_rfl)
theorem jf29 : ((Rows.scriptBackUptoRow.pinned == Rows.scriptBackUptoRow.pinnedBy)) = true := of_decide_eq_true (by kernel_rfl)
theorem jf30 : ((Rows.scriptBackUptoRow.veiled == (Tryz.f6.params.toList ++ Rows.scriptBackSpec.plain.varTypes Tryz.prog ++ Tryz.f6.resultTypes.toList).any (Tryz.prog.veiledRec ·))) = true := of_decide_eq_true (by kernel_rfl)
theorem jf31 : (Rows.scriptBackUptoRow.veiledFits Tryz.prog Tryz.f6.params.toList (Tryz.f6.params.toList ++ Rows.scriptBackSpec.plain.varTypes Tryz.prog ++ Tryz.f6.resultTypes.toList)) = true := of_decide_eq_true (by kernel_rfl)
theorem jf : joinedFacts Tryz.prog 6 Tryz.f6 Rows.scriptBackSpec Rows.scriptBackUptoRow = true := (and_mk (and_mk (and_mk (and_mk (and_mk (and_mk (and_mk (and_mk (and_mk (and_mk (and_mk (and_mk (and_mk (and_mk (and_mk (and_mk (and_mk (and_mk (and_mk (and_mk (and_mk (and_mk (and_mk (and_mk (and_mk (and_mk (and_mk (and_mk (and_mk (and_mk (and_mk jf0 jf1) jf2) jf3) jf4) jf5) jf6) jf7) jf8) jf9) jf10) jf11) jf12) jf13) jf14) jf15) jf16) jf17) jf18) jf19) jf20) jf21) jf22) jf23) jf24) jf25) jf26) jf27) jf28) jf29) jf30) jf31)
end Go.Proofs.YtaiepcgfofpmjaaGreat.scriptBack
