/- Layer 29: the reference's Put. Printed by gengsv4.py. -/
import Derived.Test.YtdkhlkfleggbaaaGreatR33
namespace Go.Proofs.YtdkhlkfleggbaaaGreat
open Lib (hid)
open Tryz
set_option linter.unusedVariables false
open Go.RowKit
theorem ay7 (A:Option Addr) (R:List ByteArray) (c:Nat) (w:World) (hA:A=none→c=0) (hs:vg w w.1.size A R) (hn:R.length≤1000000) (hz:∀t∈R,t.size≤1000000):Calls Tryz.prog 106 #[.slice A R.length c] w (aj0 (zt R) w):=by
 by_cases h:aub R.length
 ·have:zt R=(v6,3):=by unfold zt;rw[if_pos h]
  rw[this];exact ami A R.length c w h hn
 ·unfold aub at h;exact a31 A R.length c ((R.length-3) / 4) R w rfl hA hs hz (hid om) om
theorem a1a (R:List ByteArray):(zt R).1.L.length≤4:=by
 by_cases h:(zt R).2=0
 ·exact(au3 h).1
 ·rw[a5n h];exact Nat.zero_le _
end Go.Proofs.YtdkhlkfleggbaaaGreat
