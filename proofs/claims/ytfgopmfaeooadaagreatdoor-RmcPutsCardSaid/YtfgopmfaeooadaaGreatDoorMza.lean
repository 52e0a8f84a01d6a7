/- Readers and writers of times, dates and angles, plain (layers 24 to 26). -/
import Derived.Test.YtfgopmfaeooadaaGreatDoorMz1
import Derived.Test.YtfgopmfaeooadaaGreatDoorMh
namespace Go.Proofs.YtfgopmfaeooadaaGreatDoor
set_option linter.unusedVariables false

/-- Readers and writers. -/
def rdClk (s : Rd) : Clk × Rd := ((takeClk (rdText s).1.data.toList).1, rdFail (takeClk (rdText s).1.data.toList).2 (rdText s).2)
def rdDat (s : Rd) : Dat × Rd := ((takeDat (rdText s).1.data.toList).1, rdFail (takeDat (rdText s).1.data.toList).2 (rdText s).2)
def wrClk (c : Clk) (s : Rd) : Rd := wrText (clkT c).1 (clkT c).2 s
def wrDat (d : Dat) (s : Rd) : Rd := wrText (datT d).1 (datT d).2 s
def rdAng (lat : Bool) (s : Rd) : (Bool × Int) × Rd :=
  (((takeAng (s.2.headD ByteArray.empty).data.toList (s.2.tail.headD ByteArray.empty) lat).1, (takeAng (s.2.headD ByteArray.empty).data.toList (s.2.tail.headD ByteArray.empty) lat).2.1),
    (firstE (textE (textE s.1 s.2) s.2.tail) (takeAng (s.2.headD ByteArray.empty).data.toList (s.2.tail.headD ByteArray.empty) lat).2.2, s.2.tail.tail))
def wrAng (lat : Bool) (n : Bool × Int) (s : Rd) : Rd := (firstE s.1 (angN n.1 n.2 lat).2.2, s.2 ++ [(angN n.1 n.2 lat).1, (angN n.1 n.2 lat).2.1])
end Go.Proofs.YtfgopmfaeooadaaGreatDoor
