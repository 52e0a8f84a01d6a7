/- Arguments opened: slices of texts, of which none has room. -/
import Derived.Test.YtpaejoikfnmdhaaDoorOpenOps
namespace Go.Proofs.YtpaejoikfnmdhaaDoor
set_option linter.unusedVariables false
open Go.ChangeShapes Go.WideShapes Go.ChangeAt Go.RowKit Go.Joins Go.Deep

section
variable {H : Type} {enc : TypeId × Value → H} {P : Program} {w : World} {base : Nat} {spare : Nat → Bool} {held : Bool}

/-- A slice of texts that came in: its list. -/
theorem open_strs2 {t e : TypeId} {fuel : Nat} {v : Value} {x : DataW H × List MemPlace} (ht : P.underlying t = some (.slice e)) (he : P.underlying e = some .string) (hc : P.cellsOf e = 1)
    (h : DataW.trod enc P w base spare held fuel t [v] = some x) :
    ∃ (A : Option Addr) (c : Nat) (fs : List ByteArray), v = .slice A fs.length c ∧ (A = none → c = 0) ∧ fs.length ≤ maxLen ∧ Strs w w.heap.size A fs ∧ ∀ f ∈ fs, f.size ≤ maxLen := by
  rcases open_strings ht he hc h with ⟨hcs, _⟩ | ⟨a, len, cap, ss, hcs, _, hl, hm, hz, _, hcell, hws⟩
  · simp at hcs
    subst hcs
    exact ⟨none, 0, [], rfl, fun _ => rfl, by simp, fun k hk => absurd hk (by simp), fun f hf => absurd hf (by simp)⟩
  · simp at hcs
    subst hcs
    have hlen : len ≤ ss.length := by split at hz <;> omega
    have hl2 : (ss.take len).length = len := by simp; omega
    refine ⟨some a, cap, ss.take len, by rw [hl2], fun q => (by cases q), by rw [hl2]; omega, ?_, fun f hf => hws f (List.mem_of_mem_take hf)⟩
    intro k hk
    rw [hl2] at hk
    have hck := hcell k (by omega)
    have hge : ss.getD k ByteArray.empty = (ss.take len)[k]'(by rw [hl2]; exact hk) := by
      rw [List.getElem_take, List.getD, List.getElem?_eq_getElem (by omega)]
      rfl
    rw [hge] at hck
    obtain ⟨b, off, spot⟩ := a
    have hspot : spot = none := by
      have h0 := hcell 0 (by omega)
      exact World.cell?_spot h0
    subst hspot
    have hadd : (⟨b, off, none⟩ : Addr).add k = ⟨b, off + k, none⟩ := by
      unfold Addr.add
      split <;> simp_all
    rw [hadd] at hck
    exact ⟨b, off, rfl, World.block_lt_of_cell? w _ hck, hck⟩

end
end Go.Proofs.YtpaejoikfnmdhaaDoor
