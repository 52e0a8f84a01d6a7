/- A range over an iterator that keeps its state in a cell of its own. -/
import Derived.RangeFuncNested
import Derived.RangeFuncBound
import Derived.RangeFuncCalls
import Derived.RangeFuncLeaves
import Derived.WalkKit
import Derived.OwnWalkIn
import Derived.TacticsInMore
import Derived.LoopNIn
import Derived.LoopIn
namespace Go.Proofs.YtfgopmfaeooadaaGreatDoor
set_option linter.unusedVariables false
open Go.RowKit

/-- Whatever a loop's body holds on to that is no cell of block bx, the iterator leaves; what it reads of bx, the body leaves. -/
def BoxStops {α : Type} (m : Nat) (P : Program) (gf : Nat) (lb : Array Value) (encs : α → Array Value) (bx : Nat) (S : List α → Prop) (w : World) : Prop :=
  ∀ (l : Nat) (J Jx : List α → World → Prop) (W : World), Below w.heap.size w W → (∀ pre V V', J pre V → V.grownBy V' (some bx) → J pre V') →
    (∀ pre x V, J pre V → (∃ rest, S (pre ++ x :: rest)) → YieldAt Fence.wide (m - 1) P l (encs x) V fun e V' =>
      (e = .returned (.bool true) ∧ J (pre ++ [x]) V' ∧ V'.heap[bx]? = V.heap[bx]?) ∨ (e = .returned (.bool false) ∧ Jx (pre ++ [x]) V')) →
    J [] W →
    CallsIn Fence.wide m P gf (#[.func (.yield l) #[] #[]] ++ lb) W fun e W' => (∃ v, e = .returned v) ∧ ((∃ xs, S xs ∧ J xs W') ∨ (∃ pre, (∃ rest, S (pre ++ rest)) ∧ Jx pre W'))

/-- How a round may be left. -/
def boxPost {α : Type} (B bx : Nat) (I : List α → World → Prop) (Ix : Code → List α → World → Prop) (xs : List α) (W : World) : Exit → Act → World → Prop
  | .normal, _, W' => KeepsFrom B W W' ∧ W'.heap[bx]? = W.heap[bx]? ∧ I xs W'
  | .ret, _, W' => KeepsFrom B W W' ∧ Ix .ret xs W'
  | _, _, _ => False

theorem wpIn_rangeBox {α : Type} {m : Nat} {P : Program} {g : Operand} {ps : Array Tmp} {assign body : Code} {Q : Exit → Act → World → Prop} {a : Act} {w : World}
    (h1 : 1 ≤ m) {gf : Nat} {lb : Array Value} (hg : a.eval g = .func (.func gf) #[] lb) (eg : ∀ args w, (callFunc gf args).run P w = .ok (.enter gf args) w)
    {encs : α → Array Value} {bx : Nat} (hbx : bx < w.heap.size) {S : List α → Prop} (hseq : BoxStops (m - 1) P gf lb encs bx S w) (hps : ∀ x, (encs x).size = ps.size)
    (I : List α → World → Prop) (Ix : Code → List α → World → Prop) (hI : OwnFrom w.heap.size I) (hIx : ∀ c, OwnFrom w.heap.size (Ix c)) (hIb : ∀ pre V V', I pre V → V.grownBy V' (some bx) → I pre V') (h0 : I [] w) (A1 : Array Value → α → Array Value)
    (hassign : ∀ (l : Nat) (x : α) (W : World) (K : Act → World → Prop), K { tmps := A1 a.tmps x, defers := [] } W →
      assign.wpIn (Fence.wide.inRound l) (m - 1 - 1) P (Exit.then K (fun _ _ _ => False)) { tmps := (ps.zip (encs x)).foldl (fun t (p, v) => t.setIfInBounds p v) a.tmps, defers := [] } W)
    (hbody : ∀ (l : Nat) (pre : List α) (x : α) (W : World), I pre W → (∃ rest, S (pre ++ x :: rest)) → body.wpIn (Fence.wide.inRound l) (m - 1 - 1) P (boxPost w.heap.size bx I Ix (pre ++ [x]) W) { tmps := A1 a.tmps x, defers := [] } W)
    (hdone : ∀ (D : Nat) (xs : List α) (W : World), w.heap.size ≤ D → S xs → I xs W → W.heap[D]? = some (.deferred (some [])) → Q .normal { a with defers := { target := .collected D, args := #[] } :: a.defers } W)
    (hstop : ∀ (D : Nat) (pre : List α) (W : World), w.heap.size ≤ D → (∃ rest, S (pre ++ rest)) → Ix .ret pre W → W.heap[D]? = some (.deferred (some [])) → Code.ret.wpIn Fence.wide m P Q { a with defers := { target := .collected D, args := #[] } :: a.defers } W) :
    (Code.rangeFunc g ps assign body).wpIn Fence.wide m P Q a w := by
  refine wpIn_rangeFunc ?_
  intro fn hfn
  show ∃ _, _
  let rec_ : LoopState → Option Code → Loop := fun st pe => { state := st, pending := pe, fn, tmps := a.tmps, params := ps, assign, body, defers := w.heap.size }
  obtain ⟨R, hR⟩ : ∃ R : LoopState → Option Code → Loop, R = rec_ := ⟨_, rfl⟩
  have rS : ∀ st pe, (R st pe).state = st := fun st pe => by rw [hR]
  obtain ⟨W1, hW1⟩ : ∃ W1, (w.alloc (.deferred (some []))).alloc (.loop (R .ready none)) = W1 := ⟨_, rfl⟩
  have z1 : W1.heap.size = w.heap.size + 2 := by rw [← hW1]; simp
  have bel : Below w.heap.size w W1 := by rw [← hW1]; exact ((Below.refl _ w).alloc (Nat.le_refl _) _).alloc (by simp) _
  have atL : W1.heap[w.heap.size + 1]? = some (.loop (R .ready none)) := by
    have := World.alloc_heap_new (w.alloc (.deferred (some []))) (.loop (R .ready none))
    rw [World.size_alloc] at this
    rw [← hW1]; exact this
  have atD : W1.heap[w.heap.size]? = some (.deferred (some [])) := by
    rw [← hW1]; exact (Below.heap_alloc _ _ _ (by simp)).trans (World.alloc_heap_new w _)
  have i1 : I [] W1 := by rw [← hW1]; exact hI.alloc _ (hI.alloc _ h0)
  -- the record and the row of deferred calls, behind a write of block bx
  have far : ∀ (V V' : World) (k : Nat) (o : Obj), V.grownBy V' (some bx) → w.heap.size ≤ k → V.heap[k]? = some o → V'.heap[k]? = some o := fun V V' k o hg hk ho =>
    (hg.block k (Array.getElem?_eq_some_iff.1 ho).1 (fun e => by cases e; omega)).trans ho
  refine ⟨w.heap.size + 1, [{ target := .collected w.heap.size, args := #[] }], W1, { target := .fn (.func gf) lb, args := #[.func (.yield (w.heap.size + 1)) #[] #[]] }, W1, gf,
    #[.func (.yield (w.heap.size + 1)) #[] #[]] ++ lb, W1, ?_, ?_, ?_, ?_, fun _ => h1, ?_⟩
  · rw [← hW1, hR]; exact run_enterLoop_outer _ _ _ _ _
  · simp only [resolve, hg]
    simp [go_sem]
  · intro f' hf'
    trivial
  · simp [invoke, go_sem, eg]
  · refine (hseq (w.heap.size + 1)
      (fun pre V => I pre V ∧ V.heap[w.heap.size + 1]? = some (.loop (R .ready none)) ∧ V.heap[w.heap.size]? = some (.deferred (some [])))
      (fun pre V => Ix .ret pre V ∧ V.heap[w.heap.size + 1]? = some (.loop (R .done (some .ret))) ∧ V.heap[w.heap.size]? = some (.deferred (some [])))
      W1 bel (fun pre V V' ⟨q1, q2, q3⟩ hg => ⟨hIb pre V V' q1 hg, far V V' _ _ hg (by omega) q2, far V V' _ _ hg (Nat.le_refl _) q3⟩) ?_ ⟨i1, atL, atD⟩).mono ?_
    · rintro pre x V ⟨hi, hl, hd⟩ hx
      have hlt : w.heap.size + 1 < V.heap.size := (Array.getElem?_eq_some_iff.1 hl).1
      have hy := run_yield (P := P) (args := encs x) hl (by rw [hR]; exact hps x)
      rw [hR] at hy
      refine ⟨fn, _, assign, body, hy, roundIn_of_wpIn hfn (hassign _ x V _ ⟨_, run_beginRound hl (rS _ _), ?_⟩)⟩
      obtain ⟨V2, hV2⟩ : ∃ V2, V.putObj (w.heap.size + 1) (.loop { R .ready none with state := .busy }) = V2 := ⟨_, rfl⟩
      have l2 : V2.heap[w.heap.size + 1]? = some (.loop { R .ready none with state := .busy }) := by rw [← hV2]; exact World.putObj_heap_same hlt
      have d2 : V2.heap[w.heap.size]? = some (.deferred (some [])) := by rw [← hV2]; exact (World.putObj_heap_other (by omega)).trans hd
      have b2 : V2.heap[bx]? = V.heap[bx]? := by rw [← hV2]; exact World.putObj_heap_other (by omega)
      have i2 : I pre V2 := by rw [← hV2]; exact hI.putObj _ hi (by omega) hl rfl
      rw [hV2]
      refine wpIn_mono (hbody _ pre x V2 i2 hx) ?_
      have fin : ∀ (jump : Option Code) (V3 : World), KeepsFrom w.heap.size V2 V3 →
          (Instr.endRound (w.heap.size + 1) jump).run P V3 = .ok (.bool jump.isNone) (V3.putObj (w.heap.size + 1) (.loop (R (if jump.isNone then .ready else .done) jump))) ∧
          V3.heap[w.heap.size + 1]? = some (.loop { R .ready none with state := .busy }) ∧
          (V3.putObj (w.heap.size + 1) (.loop (R (if jump.isNone then .ready else .done) jump))).heap[w.heap.size + 1]? = some (.loop (R (if jump.isNone then .ready else .done) jump)) ∧
          (V3.putObj (w.heap.size + 1) (.loop (R (if jump.isNone then .ready else .done) jump))).heap[w.heap.size]? = some (.deferred (some [])) := fun jump V3 hk3 => by
        have l3 := hk3.same _ _ (by omega) l2 rfl
        have hr := run_endRound (P := P) jump l3
        rw [hR] at hr l3 ⊢
        exact ⟨hr, l3, World.putObj_heap_same (Array.getElem?_eq_some_iff.1 l3).1, (World.putObj_heap_other (by omega)).trans (hk3.same _ _ (Nat.le_refl _) d2 rfl)⟩
      rintro e a3 V3 hp
      cases e with
      | normal =>
        obtain ⟨hk3, hb3, hi3⟩ := hp
        obtain ⟨hr, l3, l4, d4⟩ := fin none V3 hk3
        exact ⟨_, _, hr, .inl ⟨rfl, ⟨hI.putObj _ hi3 (by omega) l3 rfl, l4, d4⟩, (World.putObj_heap_other (by omega)).trans (hb3.trans b2)⟩⟩
      | ret =>
        obtain ⟨hk3, hi3⟩ := hp
        obtain ⟨hr, l3, l4, d4⟩ := fin (some .ret) V3 hk3
        exact ⟨_, _, hr, .inr ⟨rfl, (hIx _).putObj _ hi3 (by omega) l3 rfl, l4, d4⟩⟩
      | exit id => exact hp.elim
      | goto t => exact hp.elim
      | panic ch => exact hp.elim
      | outgrown => exact hp.elim
    · rintro e V ⟨⟨v, rfl⟩, (⟨xs, hS, hi, hl, hd⟩ | ⟨pre, hS, hi, hl, hd⟩)⟩
      · have he := run_endLoop (P := P) hl (by rw [hR]; simp [rec_])
        rw [hR] at he
        exact ⟨none, _, he, hdone _ xs _ (Nat.le_refl _) hS (hI.putObj _ hi (by omega) hl rfl) ((World.putObj_heap_other (by omega)).trans hd)⟩
      · have he := run_endLoop (P := P) hl (by rw [hR]; simp [rec_])
        rw [hR] at he
        exact ⟨some .ret, _, he, hstop _ pre _ (Nat.le_refl _) hS ((hIx _).putObj _ hi (by omega) hl rfl) ((World.putObj_heap_other (by omega)).trans hd)⟩
end Go.Proofs.YtfgopmfaeooadaaGreatDoor
