/- Layer 29: Put. Printed by gengsv3.py. -/
import Derived.Test.YtcoohlopafjnmaaMga
import Derived.Test.YtcoohlopafjnmaaMvc
namespace Go.Proofs.Ytcoohlopafjnmaa
set_option linter.unusedVariables false
open Go.RowKit

def viewC (v : V4) : List Value := [.bool v.1.1, .int .i64 v.1.2, .bool v.2.1.1, .int .i64 v.2.1.2, .bool v.2.2.1.1, .int .i64 v.2.2.1.2, .bool v.2.2.2.1, .int .i64 v.2.2.2.2]
/-- A slice of views, read as a list. -/
def Vws (w : World) (B : Nat) (A : Option Addr) (l : List V4) : Prop :=
  ∀ k (hk : k < l.length), ∃ b off, A = some ⟨b, off, none⟩ ∧ b < B ∧ ∀ (j : Nat) u, (viewC l[k])[j]? = some u → w.cell? ⟨b, off + 8 * k + j, none⟩ = some u
theorem Vws.below {w w' : World} {B B' : Nat} {A : Option Addr} {l : List V4} (h : Vws w B A l) (hb : Below B' w w') (hB : B ≤ B') : Vws w' B A l := by
  intro k hk
  obtain ⟨b, off, h1, h2, h3⟩ := h k hk
  exact ⟨b, off, h1, h2, fun j u hu => (hb.cell (p := ⟨b, off + 8 * k + j, none⟩) (by show b < B'; omega)).trans (h3 j u hu)⟩
theorem Vws.more {w : World} {B B' : Nat} {A : Option Addr} {l : List V4} (h : Vws w B A l) (hB : B ≤ B') : Vws w B' A l := by
  intro k hk
  obtain ⟨b, off, h1, h2, h3⟩ := h k hk
  exact ⟨b, off, h1, by omega, h3⟩
abbrev gsvC (T N S : Int) (A : Option Addr) (n c : Nat) : Array Value := #[.int .i64 T, .int .i64 N, .int .i64 S, .slice A n c]
abbrev gsvV (T N S : Int) (A : Option Addr) (n c : Nat) : Value := .agg (gsvC T N S A n c)
theorem wrDig_len (lo hi n : Int) (s : Rd) : (wrDig lo hi n s).2.length = s.2.length + 1 := by rw [wrDig_text, wrText_len]
theorem wrDigR_len (lo hi n : Int) (s : Rd) : (wrDigR lo hi n s).2.length ≤ s.2.length + 1 := by
  unfold wrDigR
  split
  · exact Nat.le_succ _
  · rw [wrText_len]; exact Nat.le_refl _
theorem wrView_len (v : V4) (s : Rd) : (wrView v s).2.length = s.2.length + 4 := by unfold wrView; rw [wrNum_len, wrNum_len, wrNum_len, wrNum_len]
theorem wrViews_len (l : List V4) : ∀ s : Rd, (wrViews l s).2.length = s.2.length + 4 * l.length := by
  induction l with
  | nil => exact fun s => by simp [wrViews]
  | cons v l ih =>
    intro s
    show (wrViews l (wrView v s)).2.length = _
    rw [ih, wrView_len, List.length_cons]
    omega
theorem wrViews_snoc (l : List V4) (k : Nat) (h : k < l.length) (s : Rd) : wrViews (l.take (k + 1)) s = wrView l[k] (wrViews (l.take k) s) := by
  unfold wrViews
  rw [List.take_succ_eq_append_getElem h, List.foldl_append]
  rfl
theorem textsNone (w w' : World) (hb : Below w.heap.size w w') : TextsPost [] w (.slice none 0 0) w' := ⟨none, 0, rfl, fun _ => rfl, fun k hk => absurd hk (by simp), FreshA.none_, hb⟩

end Go.Proofs.Ytcoohlopafjnmaa
