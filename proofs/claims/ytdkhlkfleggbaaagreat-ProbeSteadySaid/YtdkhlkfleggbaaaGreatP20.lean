/- Layer 28: Put, and the reference's. Printed by genvtg4.py. -/
import Derived.Test.YtdkhlkfleggbaaaGreatP19
namespace Go.Proofs.YtdkhlkfleggbaaaGreat
open Lib (hid)
set_option linter.unusedVariables false
open Go.RowKit
theorem bec {R:List ByteArray} (h:R.length≠8∧R.length≠9):xu R=(aed,3):=by unfold xu;rw[if_pos h]
theorem awi (A:Option Addr) (R:List ByteArray) (c:Nat) (w:World) (hA:A=none→c=0) (hs:vf w w.heap.size A R) (hn:R.length≤1000000) (hz:∀t∈R,t.size≤1000000) :
 Calls Tryz.prog 105 #[.slice A R.length c] w (aje (xu R) w):=by
 by_cases h:R.length≠8∧R.length≠9
 ·rw[bec h]
  exact ak8 A R.length c w (by rw[bne_iff_ne];omega) (by rw[bne_iff_ne];omega)
 ·refine aoe A R.length c R w rfl hA hs hn hz ?_ h
  rcases(by omega:R.length=8∨R.length=9)with q|q
  ·exact .inl (by rw[q];rfl)
  ·exact .inr ⟨by rw[q];rfl,by rw[q];rfl⟩
end Go.Proofs.YtdkhlkfleggbaaaGreat
