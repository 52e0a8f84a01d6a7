/- Layer 28: Put, and the reference's. Printed by genvtg4.py. -/
import Derived.Test.YtdkhlkfleggbaaaGreatR19
namespace Go.Proofs.YtdkhlkfleggbaaaGreat
open Lib (hid)
open Tryz
set_option linter.unusedVariables false
open Go.RowKit
theorem bib {R:List ByteArray} (h:R.length≠8∧R.length≠9):jc R=(aen,3):=by unfold jc;rw[if_pos h]
theorem a1x (A:Option Addr) (R:List ByteArray) (c:Nat) (w:World) (hA:A=none→c=0) (hs:vg w w.1.size A R) (hn:R.length≤1000000) (hz:∀t∈R,t.size≤1000000) :
 Calls Tryz.prog 105 #[.slice A R.length c] w (aj4 (jc R) w):=by
 by_cases h:R.length≠8∧R.length≠9
 ·rw[bib h];exact amy A R.length c w (by rw[bne_iff_ne];omega) (by rw[bne_iff_ne];omega)
 ·refine aqx A R.length c R w rfl hA hs hn hz ?_ h;rcases(by omega:R.length=8∨R.length=9)with q|q
  ·exact .inl (by rw[q];rfl)
  ·exact .inr ⟨by rw[q];rfl,by rw[q];rfl⟩
end Go.Proofs.YtdkhlkfleggbaaaGreat
