/- Layer 45: a step's line, of the program. -/
import Derived.Test.YtaiepcgfofpmjaaGreatN19
import Derived.Laws.ResultCell
namespace Go.Proofs.YtaiepcgfofpmjaaGreat
set_option linter.unusedVariables false
open Go.RowKit
structure StpK where
  k:Int
  b:List UInt8
  n:Int
  id:Int
  v:List Int
  y:Int
  l:List (Int×Int)
def stpC (s:StpK) (A1:Option Addr) (c1:Nat) (A2:Option Addr) (c2:Nat) (A3:Option Addr) (c3:Nat):List Value:=
  [.int .i64 s.k,.slice A1 s.b.length c1,.int .i64 s.n,.int .i64 s.id,.slice A2 s.v.length c2,.int .i64 s.y,.slice A3 s.l.length c3]
structure StpM (Q:Nat→Prop) (w:World) (C:List Value) (s:StpK):Prop where
  it:∃ A1 c1 A2 c2 A3 c3,C=stpC s A1 c1 A2 c2 A3 c3∧FlatQ Q w A1 (s.b.map byL)∧FlatQ Q w A2 (s.v.map intL)∧FlatQ Q w A3 (pairC s.l)
theorem StpM.len {Q:Nat→Prop} {w:World} {C:List Value} {s:StpK} (h:StpM Q w C s):C.length=7:=by obtain⟨A1,c1,A2,c2,A3,c3,rfl,-⟩:=h.it;rfl
theorem StpM.keep {Q R:Nat→Prop} {w w':World} {C:List Value} {s:StpK} (h:StpM Q w C s) (hk:∀ b,Q b→w'.heap[b]?=w.heap[b]?) (hr:∀ b,Q b→R b):StpM R w' C s:=by
  obtain⟨A1,c1,A2,c2,A3,c3,rfl,h1,h2,h3⟩:=h.it
  exact⟨⟨A1,c1,A2,c2,A3,c3,rfl,(h1.keep hk).less hr,(h2.keep hk).less hr,(h3.keep hk).less hr⟩⟩
section
variable {P : Program} {w : World} {a : Act} {o : Oper} {Q : Exit → Act → World → Prop}
end
end Go.Proofs.YtaiepcgfofpmjaaGreat
