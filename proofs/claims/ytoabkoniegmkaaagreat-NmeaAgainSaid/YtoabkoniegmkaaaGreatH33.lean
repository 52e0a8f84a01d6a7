/- Layer 27: the reference's Put. Printed by gengsab.py. -/
import Derived.Test.YtoabkoniegmkaaaGreatH24
import Derived.Test.YtoabkoniegmkaaaGreatH15
namespace Go.Proofs.YtoabkoniegmkaaaGreat
set_option linter.unusedVariables false
open Go.RowKit
theorem nums12_at (ids:List Int) (k:Nat) (h:ids.length≤12) (hk:k < (nums12 ids).length):(nums12 ids)[k]=if hq:k < ids.length then (true,ids[k]) else (false,0):=by
  unfold nums12 at hk ⊢
  by_cases hq:k < ids.length
  · rw [dif_pos hq,List.getElem_append_left (by simpa using hq)]
    simp
  · rw [dif_neg hq,List.getElem_append_right (by simpa using hq)]
    simp
theorem textsNone27 (w w':World) (hb:Below w.heap.size w w'):TextsPost [] w (.slice none 0 0) w':=⟨none,0,rfl,fun _=>rfl,fun k hk=>absurd hk (by simp),FreshA.none_,hb⟩
theorem wrIds_len (l:List (Bool×Int)):∀ s:Rd,(wrIds l s).2.length=s.2.length+l.length:=by
  induction l with
  | nil=>intro s;simp [wrIds]
  | cons n l ih=>
    intro s
    show (wrIds l (wrNum 1 3 0 1 255 n s)).2.length=_
    rw [ih,wrNum_len,List.length_cons]
    omega
end Go.Proofs.YtoabkoniegmkaaaGreat
