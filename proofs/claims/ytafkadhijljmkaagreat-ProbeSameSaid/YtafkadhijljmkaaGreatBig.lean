/- Structs of many cells, taken whole: their operations by what is known of them. Over any program. -/
import Derived.Test.YtafkadhijljmkaaGreatBas
import Derived.Deep.MidRow
import Derived.Deep.Upon
namespace Go.Proofs.YtafkadhijljmkaaGreat
set_option linter.unusedVariables false
open Go.RowKit

section
variable {P : Program} {ops : Array Oper} {rest : List Oper} {o : Oper} {a : Act} {w W : World} {Q : Exit → Act → World → Prop}
theorem wpList_exec (hgd : o.guard = none) {v : Value} (hex : (execOp a.eval o).run P w = .ok (.value v) W) (h : wpList P ops Q rest (a.put o.dst v) W) : wpList P ops Q (o :: rest) a w :=
  wpList_plain hgd fun K hK => by unfold Oper.wp; rw [hex]; exact hK _ _ h
theorem wpList_exec_skip (hgd : o.guard = none) (hex : (execOp a.eval o).run P w = .ok .skip W) (h : wpList P ops Q rest (a.put o.dst undef) W) : wpList P ops Q (o :: rest) a w :=
  wpList_plain hgd fun K hK => by unfold Oper.wp; rw [hex]; exact hK _ _ h
/-- A struct that is built, of which it is known what comes. -/
theorem wpList_build (hgd : o.guard = none) (t : TypeId) (parts : Array (Nat × Operand)) (ho : o.op = .build t parts) {v : Value} (ps : Array (Nat × Value)) (hp : (parts.map fun (i, x) => (i, a.eval x)) = ps) (hr : (Instr.build t ps).run P w = .ok v w)
    (h : wpList P ops Q rest (a.put o.dst v) w) : wpList P ops Q (o :: rest) a w :=
  wpList_exec hgd (by unfold execOp; rw [ho]; simp only [hp, Sem.run_bind, hr, Result.andThen_ok, Sem.run_pure]) h
theorem wpList_build0 (hgd : o.guard = none) (t : TypeId) (ho : o.op = .build t #[]) {v : Value} (hr : (Instr.build t #[]).run P w = .ok v w)
    (h : wpList P ops Q rest (a.put o.dst v) w) : wpList P ops Q (o :: rest) a w := wpList_build hgd t _ ho #[] (by simp) hr h
theorem wpList_build1 (hgd : o.guard = none) (t : TypeId) (i : Nat) (x : Operand) (ho : o.op = .build t #[(i, x)]) {u v : Value} (hx : a.eval x = u) (hr : (Instr.build t #[(i, u)]).run P w = .ok v w)
    (h : wpList P ops Q rest (a.put o.dst v) w) : wpList P ops Q (o :: rest) a w := wpList_build hgd t _ ho #[(i, u)] (by simp [hx]) hr h
theorem wpList_build2 (hgd : o.guard = none) (t : TypeId) (i j : Nat) (x y : Operand) (ho : o.op = .build t #[(i, x), (j, y)]) {u u' v : Value} (hx : a.eval x = u) (hy : a.eval y = u') (hr : (Instr.build t #[(i, u), (j, u')]).run P w = .ok v w)
    (h : wpList P ops Q rest (a.put o.dst v) w) : wpList P ops Q (o :: rest) a w := wpList_build hgd t _ ho #[(i, u), (j, u')] (by simp [hx, hy]) hr h
theorem wpList_assert (hgd : o.guard = none) (x : Operand) (xT aT : TypeId) (ok : Bool) (ho : o.op = .typeAssert x xT aT ok) {u v : Value} (hx : a.eval x = u) (hr : (Instr.typeAssert u xT aT ok).run P w = .ok v w)
    (h : wpList P ops Q rest (a.put o.dst v) w) : wpList P ops Q (o :: rest) a w :=
  wpList_exec hgd (by unfold execOp; rw [ho]; simp only [hx, Sem.run_bind, hr, Result.andThen_ok, Sem.run_pure]) h
theorem wpList_binop (hgd : o.guard = none) (bo : BinOp) (xT : TypeId) (x y : Operand) (yT : TypeId) (ho : o.op = .binOp bo xT x y yT) {u v r : Value} (hx : a.eval x = u) (hy : a.eval y = v) (hg : (eqGuard bo xT x y u v).run P w = .ok () w) (hr : (binOp bo xT u v).run P w = .ok r w)
    (h : wpList P ops Q rest (a.put o.dst r) w) : wpList P ops Q (o :: rest) a w :=
  wpList_exec hgd (by unfold execOp; rw [ho]; simp only [hx, hy, Sem.run_bind, hg, hr, Result.andThen_ok, Sem.run_pure]) h
end

/-- Parts of a range. -/
theorem World.rangeAt_append {w : World} {b o : Nat} {l m : List Value} : w.rangeAt b o (l ++ m) ↔ w.rangeAt b o l ∧ w.rangeAt b (o + l.length) m := by
  constructor
  · intro h
    refine ⟨fun j v hv => h j v ?_, fun j v hv => ?_⟩
    · have hj : j < l.length := by
        rcases Nat.lt_or_ge j l.length with q | q
        · exact q
        · rw [List.getElem?_eq_none q] at hv; cases hv
      rw [List.getElem?_append_left hj]; exact hv
    · have := h (l.length + j) v (by rw [List.getElem?_append_right (by omega)]; simpa using hv)
      rw [Nat.add_assoc]; exact this
  · rintro ⟨h1, h2⟩ j v hv
    rcases Nat.lt_or_ge j l.length with q | q
    · exact h1 j v (by rw [List.getElem?_append_left q] at hv; exact hv)
    · rw [List.getElem?_append_right q] at hv
      have := h2 _ _ hv
      rw [show o + l.length + (j - l.length) = o + j from by omega] at this
      exact this
theorem World.rangeAt_cons {w : World} {b o : Nat} {v : Value} {m : List Value} : w.rangeAt b o (v :: m) ↔ w.cell? ⟨b, o, none⟩ = some v ∧ w.rangeAt b (o + 1) m := by
  rw [show v :: m = [v] ++ m from rfl, World.rangeAt_append]
  exact and_congr ⟨fun h => h 0 v rfl, fun h j u hu => by
    cases j with
    | zero => injection hu with hu; subst hu; exact h
    | succ j => simp at hu⟩ Iff.rfl
theorem range_kept {w w' : World} {b o : Nat} {l : List Value} (h : w.rangeAt b o l) (hk : w'.heap[b]? = w.heap[b]?) : w'.rangeAt b o l := fun j v hv => (World.cell?_of_block (a := ⟨b, o + j, none⟩) hk).trans (h j v hv)
theorem range_below {w w' : World} {b o B : Nat} {l : List Value} (h : w.rangeAt b o l) (hb : Below B w w') (hl : b < B) : w'.rangeAt b o l := range_kept h (hb.block b hl)
theorem range_new (w : World) (C : Array Value) (t : TypeId) : (w.alloc (.cells C t)).rangeAt w.heap.size 0 C.toList := fun j v hv => by
  rw [Nat.zero_add]
  exact (World.cell?_alloc_at (w := w) _ _ _ _ rfl).trans (by rw [Array.getElem?_toList] at hv; exact hv)
/-- A new block that holds C. -/
structure Grew (w W : World) (C : Array Value) : Prop where
  sz : W.heap.size = w.heap.size + 1
  bel : Below w.heap.size w W
  rg : W.rangeAt w.heap.size 0 C.toList
  fz : ∀ o, W.frozen? ⟨w.heap.size, o, none⟩ = false
theorem grew_alloc (w : World) (C : Array Value) (t : TypeId) : Grew w (w.alloc (.cells C t)) C :=
  ⟨by simp, below_new _ _, range_new w C t, fun o => by rw [frozen?_alloc_cells]; simp [World.frozen?]⟩
theorem Grew.cell {w W : World} {C : Array Value} (h : Grew w W C) (o : Nat) {v : Value} (hv : C[o]? = some v) : W.cell? ⟨w.heap.size, o, none⟩ = some v := by
  have := h.rg o v (by rw [Array.getElem?_toList]; exact hv)
  rwa [Nat.zero_add] at this
/-- cs is stored in block b from o on. -/
structure Stored (w W : World) (b o : Nat) (cs : List Value) : Prop where
  os : W.os = w.os
  tape : W.tape = w.tape
  output : W.output = w.output
  sz : W.heap.size = w.heap.size
  far : ∀ k, k ≠ b → W.heap[k]? = w.heap[k]?
  fz : ∀ x, W.frozen? x = w.frozen? x
  rg : W.rangeAt b o cs
  apart : ∀ o' l, w.rangeAt b o' l → (o' + l.length ≤ o ∨ o + cs.length ≤ o') → W.rangeAt b o' l
  there : ∀ b' o' n, w.there b' o' n → W.there b' o' n
theorem setCells_heap (b : Nat) : ∀ (vs : List Value) (o : Nat) (w : World), (w.setCells b o vs).os = w.os ∧ (w.setCells b o vs).tape = w.tape ∧ (w.setCells b o vs).output = w.output ∧ (w.setCells b o vs).heap.size = w.heap.size ∧ ∀ k, k ≠ b → (w.setCells b o vs).heap[k]? = w.heap[k]?
  | [], o, w => ⟨rfl, rfl, rfl, rfl, fun _ _ => rfl⟩
  | v :: r, o, w => by
    obtain ⟨h1, h2, h3, h4, h5⟩ := setCells_heap b r (o + 1) (w.setCell ⟨b, o, none⟩ v)
    have hb : Below b w (w.setCell ⟨b, o, none⟩ v) := (Below.refl b w).setCell (Nat.le_refl _) v
    exact ⟨h1.trans hb.os, h2.trans hb.tape, h3.trans hb.output, h4.trans (by simp), fun k hk => (h5 k hk).trans (Below.heap_setCell _ _ _ _ hk)⟩
theorem stored_setCells {w : World} {b o : Nat} {cs : List Value} (ht : w.there b o cs.length) : Stored w (w.setCells b o cs) b o cs := by
  obtain ⟨h1, h2, h3, h4, h5⟩ := setCells_heap b cs o w
  exact ⟨h1, h2, h3, h4, h5, fun x => World.frozen?_setCells _ _ _ _ _, World.rangeAt_setCells_same _ _ _ _ ht, fun o' l hl ha => World.rangeAt_setCells_apart hl _ _ _ (.inr ha), fun b' o' n h => World.there_setCells h _ _ _⟩
theorem stored_setCell {w : World} {b o : Nat} {v : Value} (ht : w.there b o 1) : Stored w (w.setCell ⟨b, o, none⟩ v) b o [v] := stored_setCells (cs := [v]) ht
theorem Stored.below {w W : World} {b o B : Nat} {cs : List Value} (h : Stored w W b o cs) (hb : B ≤ b) : Below B w W := ⟨h.os, h.tape, h.output, by rw [h.sz]; exact Nat.le_refl _, fun k hk => h.far k (by omega)⟩
theorem there_of_range {w : World} {b o : Nat} {l : List Value} (h : w.rangeAt b o l) (hf : ∀ o, w.frozen? ⟨b, o, none⟩ = false) : w.there b o l.length := fun j hj => ⟨h.isSome j hj, hf _⟩
theorem World.there.sub {w : World} {b o n : Nat} (h : w.there b o n) (k m : Nat) (hm : k + m ≤ n) : w.there b (o + k) m := fun j hj => by
  have := h (k + j) (by omega)
  rwa [← Nat.add_assoc] at this
section
variable {P : Program} {ops : Array Oper} {rest : List Oper} {o : Oper} {a : Act} {w : World} {Q : Exit → Act → World → Prop}
theorem wpList_box_new (hgd : o.guard = none) (T : TypeId) (x : Operand) (ho : o.op = .box T x) (C : Array Value) (hx : a.eval x = .agg C) (h : ∀ W, Grew w W C → wpList P ops Q rest (a.put o.dst (.pointer (some ⟨w.heap.size, 0, none⟩))) W) : wpList P ops Q (o :: rest) a w :=
  wpList_exec hgd (W := w.alloc (.cells C T)) (by unfold execOp; rw [ho]; simp [hx, Instr.box, newVar, newRow, Value.cells]) (h _ (grew_alloc w C T))
theorem wpList_alloc_new (hgd : o.guard = none) (T : TypeId) (ho : o.op = .alloc T) (Z : Array Value) (hz : (zeroValue T).run P w = .ok (.agg Z) w) (h : ∀ W, Grew w W Z → wpList P ops Q rest (a.put o.dst (.pointer (some ⟨w.heap.size, 0, none⟩))) W) : wpList P ops Q (o :: rest) a w :=
  wpList_exec hgd (W := w.alloc (.cells Z T)) (by unfold execOp; rw [ho]; simp [Instr.alloc, hz, newVar, newRow, Value.cells]) (h _ (grew_alloc w Z T))
theorem run_storeAt_one (w : World) (b f : Nat) (ty : TypeId) (v : Value) (ht : w.there b f 1) (hi : (P.info? ty).map (·.size) = some 1) (hc : v.cells = #[v]) (h1 : v.oneCell' = true) :
    (Instr.storeAt ty (.pointer (some ⟨b, f, none⟩)) v).run P w = .ok () (w.setCell ⟨b, f, none⟩ v) := by
  have := run_storeCells_cells (P := P) b f [v] 0 w (fun j hj => by simpa using (ht j (by simpa using hj)).1) (fun j hj => by simpa using (ht j (by simpa using hj)).2) (fun u hu => by simp at hu; subst hu; exact h1)
  cases hq : P.info? ty with
  | none => simp [hq] at hi
  | some i =>
    have hs : 1 = i.size := by simp [hq] at hi; omega
    simp only [Nat.add_zero] at this
    simp only [Instr.storeAt, Instr.sureAddr, Sem.run_bind, Sem.run_pure, Result.andThen_ok]
    simp [storeVar, sizeOf, typeInfo, hq, hc, ← hs, this, World.setCells]
theorem wp_store_one {K : Act → World → Prop} (T : TypeId) (x y : Operand) (ho : o.op = .store T x y) (b f : Nat) (v : Value) (hx : a.eval x = .pointer (some ⟨b, f, none⟩)) (hy : a.eval y = v) (ht : w.there b f 1) (hi : (P.info? T).map (·.size) = some 1) (hc : v.cells = #[v]) (h1 : v.oneCell' = true)
    (h : ∀ W, Stored w W b f [v] → K (a.put o.dst undef) W) : o.wp P a w K Q := by
  unfold Oper.wp execOp
  simp only [ho, hx, hy, Sem.run_bind, run_storeAt_one w b f T v ht hi hc h1, Result.andThen_ok, Sem.run_pure]
  exact h _ (stored_setCell ht)
theorem wp_store_in {K : Act → World → Prop} (T : TypeId) (x y : Operand) (ho : o.op = .store T x y) (b f : Nat) (C : Array Value) (hx : a.eval x = .pointer (some ⟨b, f, none⟩)) (hy : a.eval y = .agg C) (ht : w.there b f C.size) (hi : (P.info? T).map (·.size) = some C.size) (h1 : C.all (·.oneCell') = true)
    (h : ∀ W, Stored w W b f C.toList → K (a.put o.dst undef) W) : o.wp P a w K Q :=
  wp_store_mid T x y ho b f C hx hy ht hi h1 (h _ (stored_setCells (by simpa using ht)))
theorem wpList_store_one (hgd : o.guard = none) (T : TypeId) (x y : Operand) (ho : o.op = .store T x y) (b f : Nat) (v : Value) (hx : a.eval x = .pointer (some ⟨b, f, none⟩)) (hy : a.eval y = v) (ht : w.there b f 1) (hi : (P.info? T).map (·.size) = some 1) (hc : v.cells = #[v]) (h1 : v.oneCell' = true)
    (h : ∀ W, Stored w W b f [v] → wpList P ops Q rest (a.put o.dst undef) W) : wpList P ops Q (o :: rest) a w :=
  wpList_plain hgd fun _ hK => wp_store_one T x y ho b f v hx hy ht hi hc h1 fun W hW => hK _ _ (h W hW)
theorem wpList_store_in (hgd : o.guard = none) (T : TypeId) (x y : Operand) (ho : o.op = .store T x y) (b f : Nat) (C : Array Value) (hx : a.eval x = .pointer (some ⟨b, f, none⟩)) (hy : a.eval y = .agg C) (ht : w.there b f C.size) (hi : (P.info? T).map (·.size) = some C.size) (h1 : C.all (·.oneCell') = true)
    (h : ∀ W, Stored w W b f C.toList → wpList P ops Q rest (a.put o.dst undef) W) : wpList P ops Q (o :: rest) a w :=
  wpList_store_mid hgd T x y ho b f C hx hy ht hi h1 (h _ (stored_setCells (by simpa using ht)))
end
end Go.Proofs.YtafkadhijljmkaaGreat
