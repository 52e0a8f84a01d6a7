/- Layer 33: a book in memory; New. -/
import Derived.Test.YtloebedipfppeaaGap1
import Derived.Test.YtloebedipfppeaaPMap
namespace Go.Proofs.Ytloebedipfppeaa
set_option linter.unusedVariables false
open Go.RowKit

theorem frozen_past (w : World) (n o : Nat) (h : w.heap.size ≤ n) : w.frozen? ⟨n, o, none⟩ = false := by
  unfold World.frozen?
  rw [Array.getElem?_eq_none h]
/-- A line: sys, comp, seq, heard, lost. -/
abbrev Ln := Int × Int × Int × Int × Int
def lnC (x : Ln) : Array Value := #[.int .i64 x.1, .int .i64 x.2.1, .int .i64 x.2.2.1, .int .i64 x.2.2.2.1, .int .i64 x.2.2.2.2]
def keyL (x : Int × Int) : Lit := .string (keyBytes [.int .i64 x.1, .int .i64 x.2])
def lnKey (x : Ln) : Int × Int := (x.1, x.2.1)
theorem oct_wf {n : Int} (h : octB n = true) : (Lit.int .i64 n).wf = true := by
  obtain ⟨h1, h2⟩ := octB_iff.1 h
  have hmin : IntKind.i64.min = -9223372036854775808 := rfl
  have hmax : IntKind.i64.max = 9223372036854775807 := rfl
  simp only [Lit.wf, Bool.and_eq_true, decide_eq_true_eq]
  omega
theorem key_at {s c : Int} (hs : octB s = true) (hc : octB c = true) : keyOf Try.prog kT (keyV s c) = some (keyL (s, c)) := key_lits (oct_wf hs) (oct_wf hc)
theorem keyL_inj {s c s' c' : Int} (hs : octB s = true) (hc : octB c = true) (hs' : octB s' = true) (hc' : octB c' = true) (h : keyL (s, c) = keyL (s', c')) : s = s' ∧ c = c' := by
  have := kKeyed.inj (key_at hs hc) (by rw [h]; exact key_at hs' hc')
  injection this with this
  injection this with this
  injection this with h1 h2
  injection h2 with h2 _
  injection h1 with _ h1
  injection h2 with _ h2
  exact ⟨h1, h2⟩
/-- What is kept: the blocks of a kind. -/
structure KeptS (S : Nat → Prop) (w w' : World) : Prop where
  os : w'.os = w.os
  tape : w'.tape = w.tape
  output : w'.output = w.output
  size : w.heap.size ≤ w'.heap.size
  block : ∀ k, S k → w'.heap[k]? = w.heap[k]?
theorem KeptS.refl (S : Nat → Prop) (w : World) : KeptS S w w := ⟨rfl, rfl, rfl, Nat.le_refl _, fun _ _ => rfl⟩
theorem KeptS.trans {S : Nat → Prop} {w w1 w2 : World} (h : KeptS S w w1) (k : KeptS S w1 w2) : KeptS S w w2 :=
  ⟨k.os.trans h.os, k.tape.trans h.tape, k.output.trans h.output, Nat.le_trans h.size k.size, fun i hi => (k.block i hi).trans (h.block i hi)⟩
theorem KeptS.of_below {S : Nat → Prop} {w w' : World} (h : Below w.heap.size w w') (hb : ∀ k, S k → k < w.heap.size) : KeptS S w w' :=
  ⟨h.os, h.tape, h.output, h.size, fun k hk => h.block k (hb k hk)⟩
theorem KeptS.below {S : Nat → Prop} {B : Nat} {w w' : World} (h : KeptS S w w') (hb : ∀ k, k < B → S k) : Below B w w' :=
  ⟨h.os, h.tape, h.output, h.size, fun k hk => h.block k (hb k hk)⟩
theorem KeptS.cell {S : Nat → Prop} {w w' : World} (h : KeptS S w w') {b o : Nat} (hb : S b) : w'.cell? ⟨b, o, none⟩ = w.cell? ⟨b, o, none⟩ := World.cell?_of_block (a := ⟨b, o, none⟩) (h.block b hb)
theorem KeptS.frozen {S : Nat → Prop} {w w' : World} (h : KeptS S w w') {b o : Nat} (hb : S b) : w'.frozen? ⟨b, o, none⟩ = w.frozen? ⟨b, o, none⟩ := World.frozen?_of_block (a := ⟨b, o, none⟩) (h.block b hb)
theorem KeptS.drewN {S : Nat → Prop} {w w' : World} (h : KeptS S w w') (n : Nat) : KeptS S w (w'.drewN n) := ⟨h.os, h.tape, h.output, h.size, h.block⟩
theorem KeptS.set {S : Nat → Prop} {w w' : World} (h : KeptS S w w') {g : Nat} (hg : ¬ S g) (o : Nat) (v : Value) : KeptS S w (w'.setCell ⟨g, o, none⟩ v) :=
  ⟨h.os, h.tape, h.output, by simpa using h.size, fun k hk => (Below.heap_setCell _ _ _ _ (fun (e : k = g) => hg (e ▸ hk))).trans (h.block k hk)⟩

/-- A book, in block g; its lines, each in a block of its own; all of them of no block of the kind S. -/
def BookI (S : Nat → Prop) (g : Nat) (L : List (Ln × Nat)) (w : World) : Prop :=
  ∃ mb, w.cell? ⟨g, 0, none⟩ = some (.map (some mb)) ∧ PMap Try.prog kT keyL w mb L.length (L.map fun p => (lnKey p.1, p.2)) ∧
    (∀ p ∈ L, (∀ o, w.cell? ⟨p.2, o, none⟩ = (lnC p.1)[o]?) ∧ (∀ o, w.frozen? ⟨p.2, o, none⟩ = false) ∧ p.2 ≠ g ∧ ¬ S p.2 ∧ octB p.1.1 = true ∧ octB p.1.2.1 = true ∧ octB p.1.2.2.1 = true) ∧
    L.Pairwise (fun p q => p.2 ≠ q.2) ∧ (∀ k, S k → k < w.heap.size) ∧ ¬ S g ∧ ¬ S mb
theorem BookI.keep {S : Nat → Prop} {g : Nat} {L : List (Ln × Nat)} {w w' : World} (h : BookI S g L w) (hb : Below w.heap.size w w') : BookI S g L w' := by
  obtain ⟨mb, h1, h2, h3, h4, h5, h6, h7⟩ := h
  have hlt : ∀ {b o : Nat} {v : Value}, w.cell? ⟨b, o, none⟩ = some v → b < w.heap.size := fun {b o v} hv => by
    refine Nat.lt_of_not_le fun q => ?_
    simp [World.cell?, Array.getElem?_eq_none q] at hv
  refine ⟨mb, ((bcell hb).1 _ _ (hlt h1)).trans h1, h2.block (hb.block _ h2.lt), fun p hp => ?_, h4, fun k hk => Nat.lt_of_lt_of_le (h5 k hk) hb.size, h6, h7⟩
  obtain ⟨q1, q2, q3⟩ := h3 p hp
  have hp0 : p.2 < w.heap.size := hlt (o := 0) (v := .int .i64 p.1.1) (q1 0)
  exact ⟨fun o => ((bcell hb).1 _ _ hp0).trans (q1 o), fun o => ((bcell hb).2 _ _ hp0).trans (q2 o), q3⟩
theorem BookI.drewN {S : Nat → Prop} {g : Nat} {L : List (Ln × Nat)} {w : World} (h : BookI S g L w) (n : Nat) : BookI S g L (w.drewN n) := h.keep (bdrewN (Below.refl _ _) n)
/-- A larger kind: what was laid since. -/
theorem BookI.also {S : Nat → Prop} {g : Nat} {L : List (Ln × Nat)} {w w' : World} (h : BookI S g L w) (hb : Below w.heap.size w w') : BookI (fun k => S k ∨ (w.heap.size ≤ k ∧ k < w'.heap.size)) g L w' := by
  have hlt : ∀ {b o : Nat} {v : Value}, w.cell? ⟨b, o, none⟩ = some v → b < w.heap.size := fun {b o v} hv => by
    refine Nat.lt_of_not_le fun q => ?_
    simp [World.cell?, Array.getElem?_eq_none q] at hv
  obtain ⟨mb, h1, h2, h3, h4, h5, h6, h7⟩ := h.keep hb
  obtain ⟨mb', g1, g2, g3, -⟩ := h
  have e : mb = mb' := by
    have := ((bcell hb).1 _ _ (hlt g1)).trans g1
    rw [h1] at this
    injection this with this
    injection this with this
    injection this
  subst e
  have hg := hlt g1
  have hm := g2.lt
  refine ⟨mb, h1, h2, fun p hp => ?_, h4, fun k hk => ?_, fun q => ?_, fun q => ?_⟩
  · obtain ⟨q1, q2, q3, q4, q5⟩ := h3 p hp
    refine ⟨q1, q2, q3, fun q => ?_, q5⟩
    have hp0 : p.2 < w.heap.size := hlt (o := 0) (v := .int .i64 p.1.1) ((g3 p hp).1 0)
    rcases q with q | q
    · exact q4 q
    · omega
  · rcases hk with hk | hk
    · exact h5 k hk
    · exact hk.2
  · rcases q with q | q
    · exact h6 q
    · omega
  · rcases q with q | q
    · exact h7 q
    · omega
theorem BookI.less {S T : Nat → Prop} {g : Nat} {L : List (Ln × Nat)} {w : World} (h : BookI S g L w) (hT : ∀ k, T k → S k) : BookI T g L w := by
  obtain ⟨mb, h1, h2, h3, h4, h5, h6, h7⟩ := h
  exact ⟨mb, h1, h2, fun p hp => ⟨(h3 p hp).1, (h3 p hp).2.1, (h3 p hp).2.2.1, fun q => (h3 p hp).2.2.2.1 (hT _ q), (h3 p hp).2.2.2.2⟩, h4, fun k hk => h5 k (hT k hk), fun q => h6 (hT _ q), fun q => h7 (hT _ q)⟩
theorem gapsNew_any (w : World) : Calls Try.prog 7 #[] w fun e w' => ∃ g, e = .returned (.pointer (some ⟨g, 0, none⟩)) ∧ Below w.heap.size w w' ∧ BookI (fun k => k < w.heap.size) g [] w' := by
  have hmm := @run_makeMap Try.prog
  go_enter Try.func7, Try.ntmps7
  go_wp2
  go_ret
  refine ⟨_, rfl, ?_, w.heap.size, ?_, ?_, fun p hp => (by cases hp), List.Pairwise.nil, fun k hk => ?_, ?_, ?_⟩
  · exact bthen (below_new _ _) (below_new _ _)
  · simp
  · exact (PMap.made w Try.prog kT keyL).block (Below.heap_alloc _ _ _ (by simp))
  · have : k < w.heap.size := hk
    simp
    omega
  · simp
  · simp
end Go.Proofs.Ytloebedipfppeaa
