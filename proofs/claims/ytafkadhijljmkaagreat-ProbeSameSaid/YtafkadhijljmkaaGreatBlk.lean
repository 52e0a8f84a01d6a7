/- Blocks of many cells that are known whole. Over any program. -/
import Derived.Test.YtafkadhijljmkaaGreatBig
import Derived.Deep.RegionHeld
namespace Go.Proofs.YtafkadhijljmkaaGreat
set_option linter.unusedVariables false
open Go.RowKit

/-- Block b holds L, and nothing of it is frozen. -/
structure Blk (W : World) (b : Nat) (L : List Value) : Prop where
  rg : W.rangeAt b 0 L
  fz : ∀ o, W.frozen? ⟨b, o, none⟩ = false
  lt : b < W.heap.size
theorem Blk.new {w W : World} {C : Array Value} (h : Grew w W C) : Blk W w.heap.size C.toList := ⟨h.rg, h.fz, by have := h.sz; omega⟩
theorem Blk.newL {w W : World} {C : Array Value} {L : List Value} (h : Grew w W C) (e : C.toList = L) : Blk W w.heap.size L := e ▸ Blk.new h
theorem Blk.kept {w W : World} {b : Nat} {L : List Value} (h : Blk w b L) (hk : W.heap[b]? = w.heap[b]?) (hz : w.heap.size ≤ W.heap.size) : Blk W b L :=
  ⟨range_kept h.rg hk, fun o => (World.frozen?_of_block (a := ⟨b, o, none⟩) hk).trans (h.fz o), Nat.lt_of_lt_of_le h.lt hz⟩
theorem Blk.below {w W : World} {b B : Nat} {L : List Value} (h : Blk w b L) (hb : Below B w W) (hB : b < B) : Blk W b L := h.kept (hb.block b hB) hb.size
theorem Blk.on {w W : World} {b : Nat} {L : List Value} (h : Blk w b L) (hb : Below w.heap.size w W) : Blk W b L := h.below hb h.lt
theorem Blk.grew {w W : World} {C : Array Value} {b : Nat} {L : List Value} (h : Blk w b L) (hg : Grew w W C) : Blk W b L := h.on hg.bel
theorem Blk.far {w W : World} {b b' o : Nat} {L cs : List Value} (h : Blk w b L) (hs : Stored w W b' o cs) (hn : b ≠ b') : Blk W b L := h.kept (hs.far b hn) (Nat.le_of_eq hs.sz.symm)
theorem Blk.drew {w : World} {b : Nat} {L : List Value} (h : Blk w b L) : Blk w.drew b L := ⟨h.rg, h.fz, h.lt⟩
theorem Blk.undrew {w : World} {b : Nat} {L : List Value} (h : Blk w.drew b L) : Blk w b L := ⟨h.rg, h.fz, h.lt⟩
theorem Blk.sub {w : World} {b : Nat} {A M D : List Value} (h : Blk w b (A ++ M ++ D)) : w.rangeAt b A.length M := by
  have h1 := (World.rangeAt_append.1 (World.rangeAt_append.1 h.rg).1).2
  rwa [Nat.zero_add] at h1
theorem Blk.there {w : World} {b : Nat} {L : List Value} (h : Blk w b L) (o n : Nat) (hn : o + n ≤ L.length) : w.there b o n := fun j hj =>
  ⟨by have := h.rg.isSome (o + j) (by omega); rwa [Nat.zero_add] at this, h.fz _⟩
theorem Blk.cell {w : World} {b : Nat} {L : List Value} (h : Blk w b L) (o : Nat) {v : Value} (hv : L[o]? = some v) : w.cell? ⟨b, o, none⟩ = some v := by
  have := h.rg o v hv
  rwa [Nat.zero_add] at this
theorem Blk.put {w W : World} {b o : Nat} {A M D cs : List Value} (h : Blk w b (A ++ M ++ D)) (hs : Stored w W b o cs) (ho : A.length = o) (hc : cs.length = M.length) : Blk W b (A ++ cs ++ D) := by
  subst ho
  have h0 := World.rangeAt_append.1 h.rg
  have h1 := World.rangeAt_append.1 h0.1
  refine ⟨World.rangeAt_append.2 ⟨World.rangeAt_append.2 ⟨hs.apart 0 A h1.1 (.inl (by omega)), ?_⟩, ?_⟩, fun o => (hs.fz _).trans (h.fz o), by rw [hs.sz]; exact h.lt⟩
  · rw [Nat.zero_add]; exact hs.rg
  · have := hs.apart _ D h0.2 (.inr (by simp; omega))
    rw [List.length_append] at this ⊢
    rw [hc]
    exact this
theorem Blk.all {w W : World} {b : Nat} {L cs : List Value} (h : Blk w b L) (hs : Stored w W b 0 cs) (hc : cs.length = L.length) : Blk W b cs := by
  have := Blk.put (A := []) (M := L) (D := []) (by simpa using h) hs rfl hc
  simpa using this
theorem Stored.drew {w W : World} {b o : Nat} {cs : List Value} (h : Stored w.drew W b o cs) : Stored w W b o cs := ⟨h.os, h.tape, h.output, h.sz, h.far, h.fz, h.rg, h.apart, h.there⟩
theorem toList_all {C : Array Value} (h : ∀ v ∈ C.toList, v.oneCell' = true) : C.all (·.oneCell') = true := by
  rw [Array.all_eq_true_iff_forall_mem]
  intro v hv
  exact h v (by simpa using hv)
end Go.Proofs.YtafkadhijljmkaaGreat
