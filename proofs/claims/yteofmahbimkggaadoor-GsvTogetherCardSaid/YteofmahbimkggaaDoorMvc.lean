/- Layer 28: Put, and the reference's. Printed by genvtg4.py. -/
import Derived.Test.YteofmahbimkggaaDoorMvb
namespace Go.Proofs.YteofmahbimkggaaDoor
set_option linter.unusedVariables false
open Go.RowKit

theorem TextsPost.after {fs : List ByteArray} {w w1 : World} {v : Value} {w' : World} (hb : Below w.heap.size w w1) (h : TextsPost fs w1 v w') : TextsPost fs w v w' := by
  obtain ⟨A, c, h1, h2, h3, h4, h5⟩ := h
  exact ⟨A, c, h1, h2, h3, h4.less hb.size, bthen hb h5⟩
/-- What a Put hands back. -/
def PutPost (x : List ByteArray × Int) (w : World) (r : Ending) (w' : World) : Prop := ∃ v, r = .returned (.tuple #[v, .int .i64 x.2]) ∧ TextsPost x.1 w v w'
theorem DonePost.put {s : Rd} {w w1 w' : World} {r : Ending} (hb : Below w.heap.size w w1) (h : DonePost s.1 s.2 w1 r w') : PutPost (wrDone s) w r w' := by
  obtain ⟨v, h1, h2⟩ := h
  exact ⟨v, h1, h2.after hb⟩
theorem vtg_chain {b0 b1 b2 b3 : Bool} {n0 n1 n2 n3 : Int} {s1 s2 s3 s4 : Rd} (h0 : Hid (wrCol ⟨1, 3, 2, 0, 36000, ⟨#[84]⟩⟩ (b0, n0) (0, []) = s1)) (h1 : Hid (wrCol ⟨1, 3, 2, 0, 36000, ⟨#[77]⟩⟩ (b1, n1) s1 = s2)) (h2 : Hid (wrCol ⟨1, 4, 2, 0, 999999, ⟨#[78]⟩⟩ (b2, n2) s2 = s3)) (h3 : Hid (wrCol ⟨1, 4, 2, 0, 999999, ⟨#[75]⟩⟩ (b3, n3) s3 = s4)) :
    putVtg [(b0, n0), (b1, n1), (b2, n2), (b3, n3)] = wrDone s4 ∧ s1.2.length = 2 ∧ s2.2.length = 4 ∧ s3.2.length = 6 ∧ s4.2.length = 8 := by
  have h0 := h0.out
  have h1 := h1.out
  have h2 := h2.out
  have h3 := h3.out
  refine ⟨?_, ?_, ?_, ?_, ?_⟩
  · show wrDone (wrCol _ _ (wrCol _ _ (wrCol _ _ (wrCol _ _ _)))) = _
    rw [h0, h1, h2, h3]
  · rw [← h0, wrCol_len]; rfl
  · rw [← h1, wrCol_len, ← h0, wrCol_len]; rfl
  · rw [← h2, wrCol_len, ← h1, wrCol_len, ← h0, wrCol_len]; rfl
  · rw [← h3, wrCol_len, ← h2, wrCol_len, ← h1, wrCol_len, ← h0, wrCol_len]; rfl

end Go.Proofs.YteofmahbimkggaaDoor
