/- Layer 24: six digits; what stands behind a point. -/
import Derived.Test.YtfgopmfaeooadaaGreatDoorMz4
import Derived.Test.YtfgopmfaeooadaaGreatDoorMe
namespace Go.Proofs.YtfgopmfaeooadaaGreatDoor
set_option linter.unusedVariables false
open Go.RowKit Go.Shelf
attribute [local go_sem] Oper.semAt_some

/-- What is asked where the body leaves, a mark among the deferred calls. -/
def MarkPost2 (P : Program) (fn : Func) (R : Ending → World → Prop) (_ : Exit → Act → World → Prop) : Exit → Act → World → Prop
  | .ret, a, w => bodyPostM Fence.wide 8 P fn R .ret a w
  | _, _, _ => False
theorem calls_of_mark2 {P : Program} {f : FuncId} {fn : Func} {c : Code} {args : Array Value} {w : World} {R : Ending → World → Prop} (hf : P.funcs[f]? = some fn) (hb : fn.body = some c)
    (h : c.wp P (MarkPost2 P fn R (bodyPost P fn R)) { tmps := args ++ Array.replicate (fn.ntmps - args.size) undef, defers := [] } w) : Calls P f args w R := by
  refine (callsIn_wide (n := 8)).1 (callsIn_of_wp_marks hf hb trivial (wpIn_wide.2 (wp_mono h ?_)) rfl)
  intro e a w' hq
  cases e with
  | ret => exact hq
  | _ => exact hq.elim

/-- The loop over three pairs, amid. -/
structure ThreeI (w : World) (pre : List (Int × Bool)) (W : World) : Prop where
  out : ∀ j, j < 3 → W.cell? ⟨w.heap.size + 2, j, none⟩ = some (.int .i64 ((pre.map Prod.fst).getD j 0))
  cnt : W.cell? ⟨w.heap.size + 3, 0, none⟩ = some (.int .i64 (pre.length : Int))
  r0 : ∀ j, j < 3 → W.cell? ⟨w.heap.size, j, none⟩ = some (.int .i64 0)
  r1 : W.cell? ⟨w.heap.size + 1, 0, none⟩ = some (.bool false)
  fr : ∀ b, w.heap.size ≤ b → b < w.heap.size + 4 → ∀ o, W.frozen? ⟨b, o, none⟩ = false
  bel : Below w.heap.size w W
  ok : ∀ x ∈ pre, x.2 = true
/-- Left amid the loop. -/
structure ThreeX (w : World) (pre : List (Int × Bool)) (W : World) : Prop where
  r0 : ∀ j, j < 3 → ∃ a, W.cell? ⟨w.heap.size, j, none⟩ = some (.int .i64 a)
  r1 : W.cell? ⟨w.heap.size + 1, 0, none⟩ = some (.bool false)
  bel : Below w.heap.size w W
  sz : w.heap.size + 4 ≤ W.heap.size
  bad : ∃ x ∈ pre, x.2 = false
theorem kept4 {w W W' : World} {row : Option Nat} {b : Nat} {o : Obj} (hg : W.grownBy W' row) (hr : ∀ r, row = some r → ∃ o : Obj, W.heap[r]? = some o ∧ o.isCells = false) (ho : W.heap[b]? = some o) (hc : o.isCells = true) : W'.heap[b]? = W.heap[b]? :=
  hg.block b (Array.getElem?_eq_some_iff.1 ho).1 (fun e => by obtain ⟨o', ho', hc'⟩ := hr b e.symm; rw [ho] at ho'; cases ho'; rw [hc] at hc'; cases hc')
theorem ThreeI.same {w W W' : World} {pre : List (Int × Bool)} (h : ThreeI w pre W) (hb : ∀ b, w.heap.size ≤ b → b < w.heap.size + 4 → W'.heap[b]? = W.heap[b]?) (hw : Below w.heap.size w W') : ThreeI w pre W' where
  out := fun j hj => (World.cell?_of_block (a := ⟨_, j, none⟩) (hb (w.heap.size + 2) (by omega) (by omega))).trans (h.out j hj)
  cnt := (World.cell?_of_block (a := ⟨_, 0, none⟩) (hb (w.heap.size + 3) (by omega) (by omega))).trans h.cnt
  r0 := fun j hj => (World.cell?_of_block (a := ⟨_, j, none⟩) (hb w.heap.size (by omega) (by omega))).trans (h.r0 j hj)
  r1 := (World.cell?_of_block (a := ⟨_, 0, none⟩) (hb (w.heap.size + 1) (by omega) (by omega))).trans h.r1
  fr := fun b h1 h2 o => (World.frozen?_of_block (a := ⟨b, o, none⟩) (hb b h1 h2)).trans (h.fr b h1 h2 o)
  bel := hw
  ok := h.ok
theorem ThreeX.same {w W W' : World} {pre : List (Int × Bool)} (h : ThreeX w pre W) (hb : ∀ b, w.heap.size ≤ b → b < w.heap.size + 4 → W'.heap[b]? = W.heap[b]?) (hw : Below w.heap.size w W') (hz : W.heap.size ≤ W'.heap.size) : ThreeX w pre W' where
  sz := Nat.le_trans h.sz hz
  r0 := fun j hj => by obtain ⟨a, ha⟩ := h.r0 j hj; exact ⟨a, (World.cell?_of_block (a := ⟨_, j, none⟩) (hb w.heap.size (by omega) (by omega))).trans ha⟩
  r1 := (World.cell?_of_block (a := ⟨_, 0, none⟩) (hb (w.heap.size + 1) (by omega) (by omega))).trans h.r1
  bel := hw
  bad := h.bad
theorem ThreeI.blocks {w W : World} {pre : List (Int × Bool)} (h : ThreeI w pre W) : ∀ b, w.heap.size ≤ b → b < w.heap.size + 4 → ∃ o, W.heap[b]? = some o ∧ o.isCells = true := fun b h1 h2 => by
  rcases (by omega : b = w.heap.size ∨ b = w.heap.size + 1 ∨ b = w.heap.size + 2 ∨ b = w.heap.size + 3) with rfl | rfl | rfl | rfl
  · exact cells_of_cell (h.r0 0 (by omega))
  · exact cells_of_cell h.r1
  · exact cells_of_cell (h.out 0 (by omega))
  · exact cells_of_cell h.cnt
/-- A number more. -/
theorem ThreeI.snoc {w W : World} {pre : List (Int × Bool)} (h : ThreeI w pre W) (hl : pre.length < 3) (n : Int) :
    ThreeI w (pre ++ [(n, true)]) ((W.setCell ⟨w.heap.size + 2, pre.length, none⟩ (.int .i64 n)).setCell ⟨w.heap.size + 3, 0, none⟩ (.int .i64 ((pre.length : Int) + 1))) where
  out := fun j hj => by
    rw [World.cell?_setCell_other _ _ _ _ (fun e => by injection e with e _; omega)]
    by_cases e : j = pre.length
    · subst e
      rw [World.cell?_setCell_same' _ _ _ (by rw [h.out _ hl]; rfl)]
      simp
    · rw [World.cell?_setCell_other _ _ _ _ (fun q => by injection q with _ q; exact e q.symm), h.out j hj]
      congr 2
      simp only [List.map_append, List.getD_eq_getElem?_getD]
      rcases Nat.lt_or_ge j pre.length with q | q
      · rw [List.getElem?_append_left (by simpa using q)]
      · rw [List.getElem?_append_right (by simpa using q), List.getElem?_eq_none (by simpa using q), List.getElem?_eq_none (by simp; omega)]
  cnt := by
    rw [World.cell?_setCell_same' _ _ _ (by rw [World.cell?_setCell_other _ _ _ _ (fun e => by injection e with e _; omega), h.cnt]; rfl)]
    simp
  r0 := fun j hj => by
    rw [World.cell?_setCell_other _ _ _ _ (fun e => by injection e with e _; omega), World.cell?_setCell_other _ _ _ _ (fun e => by injection e with e _; omega)]
    exact h.r0 j hj
  r1 := by
    rw [World.cell?_setCell_other _ _ _ _ (fun e => by injection e with e _; omega), World.cell?_setCell_other _ _ _ _ (fun e => by injection e with e _; omega)]
    exact h.r1
  fr := fun b h1 h2 o => by rw [World.frozen?_setCell, World.frozen?_setCell]; exact h.fr b h1 h2 o
  bel := (h.bel.setCell (by show w.heap.size ≤ w.heap.size + 2; omega) _).setCell (by show w.heap.size ≤ w.heap.size + 3; omega) _
  ok := fun x hx => by
    rcases List.mem_append.1 hx with q | q
    · exact h.ok x q
    · rw [List.mem_singleton.1 q]

theorem set3 {W : World} {g : Nat} {a b c x y z : Value} (h0 : W.cell? ⟨g, 0, none⟩ = some x) (h1 : W.cell? ⟨g, 1, none⟩ = some y) (h2 : W.cell? ⟨g, 2, none⟩ = some z) :
    (((W.setCell ⟨g, 0, none⟩ a).setCell ⟨g, 1, none⟩ b).setCell ⟨g, 2, none⟩ c).cell? ⟨g, 0, none⟩ = some a ∧ (((W.setCell ⟨g, 0, none⟩ a).setCell ⟨g, 1, none⟩ b).setCell ⟨g, 2, none⟩ c).cell? ⟨g, 1, none⟩ = some b ∧ (((W.setCell ⟨g, 0, none⟩ a).setCell ⟨g, 1, none⟩ b).setCell ⟨g, 2, none⟩ c).cell? ⟨g, 2, none⟩ = some c := by
  have n01 : (⟨g, 1, none⟩ : Addr) ≠ ⟨g, 0, none⟩ := fun e => by injection e with _ e; cases e
  have n02 : (⟨g, 2, none⟩ : Addr) ≠ ⟨g, 0, none⟩ := fun e => by injection e with _ e; cases e
  have n12 : (⟨g, 2, none⟩ : Addr) ≠ ⟨g, 1, none⟩ := fun e => by injection e with _ e; cases e
  refine ⟨?_, ?_, ?_⟩
  · rw [World.cell?_setCell_other _ _ _ _ n02, World.cell?_setCell_other _ _ _ _ n01, World.cell?_setCell_same' _ _ _ (by rw [h0]; rfl)]
  · rw [World.cell?_setCell_other _ _ _ _ n12, World.cell?_setCell_same' _ _ _ (by rw [World.cell?_setCell_other _ _ _ _ n01.symm, h1]; rfl)]
  · rw [World.cell?_setCell_same' _ _ _ (by rw [World.cell?_setCell_other _ _ _ _ n12.symm, World.cell?_setCell_other _ _ _ _ n02.symm, h2]; rfl)]
theorem set3_past {W : World} {g h o : Nat} {a b c d : Value} (hn : h ≠ g) : ((((W.setCell ⟨g, 0, none⟩ a).setCell ⟨g, 1, none⟩ b).setCell ⟨g, 2, none⟩ c).setCell ⟨h, 0, none⟩ d).cell? ⟨g, o, none⟩ = (((W.setCell ⟨g, 0, none⟩ a).setCell ⟨g, 1, none⟩ b).setCell ⟨g, 2, none⟩ c).cell? ⟨g, o, none⟩ :=
  World.cell?_setCell_other _ _ _ _ (fun e => by injection e with e _; exact hn e)
theorem set3_one {W : World} {g h : Nat} {a b c d x : Value} (hn : h ≠ g) (h0 : W.cell? ⟨h, 0, none⟩ = some x) : ((((W.setCell ⟨g, 0, none⟩ a).setCell ⟨g, 1, none⟩ b).setCell ⟨g, 2, none⟩ c).setCell ⟨h, 0, none⟩ d).cell? ⟨h, 0, none⟩ = some d := by
  have n : ∀ o, (⟨g, o, none⟩ : Addr) ≠ ⟨h, 0, none⟩ := fun o e => by injection e with e _; exact hn e.symm
  exact World.cell?_setCell_same' _ _ _ (by rw [World.cell?_setCell_other _ _ _ _ (n 2), World.cell?_setCell_other _ _ _ _ (n 1), World.cell?_setCell_other _ _ _ _ (n 0), h0]; rfl)
theorem keeps4 {W : World} {p q r s : Addr} {a b c d : Value} : KeepsOthers W ((((W.setCell p a).setCell q b).setCell r c).setCell s d) :=
  (((KeepsOthers.setCell _ _ _).trans (KeepsOthers.setCell _ _ _)).trans (KeepsOthers.setCell _ _ _)).trans (KeepsOthers.setCell _ _ _)
def ThreePost (l : List UInt8) (w : World) (e : Ending) (w' : World) : Prop :=
  ∃ (a b c : Int) (k : Bool), e = .returned (.tuple #[.agg #[.int .i64 a, .int .i64 b, .int .i64 c], .bool k]) ∧ threeL l = (if k = true then some (a, b, c) else none) ∧ Below w.heap.size w w'
theorem threeL_len {l : List UInt8} (h : l.length ≠ 6) : threeL l = none := by
  unfold threeL
  split
  · exact absurd rfl h
  · rfl
theorem pairsL_len {l : List UInt8} (h : l.length = 6) : (pairsL l).length = 3 := by
  match l, h with
  | [a, b, c, d, e, f], _ => rfl
theorem six_of {l : List UInt8} (h : l.length = 6) : ∃ a b c d e f, l = [a, b, c, d, e, f] := by
  match l, h with
  | [a, b, c, d, e, f], _ => exact ⟨a, b, c, d, e, f, rfl⟩
theorem pairV_num {a b : UInt8} (h : (pairV a b).2 = true) : (pairV a b).1 = numP a b := by
  have h : (digB a && digB b) = true := h
  rw [Bool.and_eq_true] at h
  obtain ⟨h1, h2⟩ := h
  unfold digB at h1 h2
  simp only [Bool.and_eq_true, decide_eq_true_eq] at h1 h2
  unfold pairV numP
  simp only
  omega
theorem three_all {l : List UInt8} (h : l.length = 6) (hk : ∀ x ∈ pairsL l, x.2 = true) : ∃ p q r, pairsL l = [p, q, r] ∧ threeL l = some (p.1, q.1, r.1) := by
  obtain ⟨a, b, c, d, e, f, rfl⟩ := six_of h
  refine ⟨pairV a b, pairV c d, pairV e f, rfl, ?_⟩
  have h1 := hk (pairV a b) (by simp [pairsL])
  have h2 := hk (pairV c d) (by simp [pairsL])
  have h3 := hk (pairV e f) (by simp [pairsL])
  rw [pairV_num h1, pairV_num h2, pairV_num h3]
  have h1 : (digB a && digB b) = true := h1
  have h2 : (digB c && digB d) = true := h2
  have h3 : (digB e && digB f) = true := h3
  rw [Bool.and_eq_true] at h1 h2 h3
  show (if _ then _ else _) = _
  rw [h1.1, h1.2, h2.1, h2.2, h3.1, h3.2]
  rfl
theorem three_bad {l : List UInt8} (h : l.length = 6) (hk : ∃ x ∈ pairsL l, x.2 = false) : threeL l = none := by
  obtain ⟨a, b, c, d, e, f, rfl⟩ := six_of h
  obtain ⟨x, hx, h2⟩ := hk
  show (if _ then _ else _) = _
  rw [if_neg ?_]
  intro q
  simp only [Bool.and_eq_true] at q
  have hx' : x = pairV a b ∨ x = pairV c d ∨ x = pairV e f := by simpa [pairsL] using hx
  rcases hx' with rfl | rfl | rfl
  · have h2 : (digB a && digB b) = false := h2
    rw [q.1.1.1.1.1, q.1.1.1.1.2] at h2; cases h2
  · have h2 : (digB c && digB d) = false := h2
    rw [q.1.1.1.2, q.1.1.2] at h2; cases h2
  · have h2 : (digB e && digB f) = false := h2
    rw [q.1.2, q.2] at h2; cases h2

theorem three_start (s : ByteArray) (w : World) (t1 t2 t3 t4 t5 : TypeId) :
    ThreeI w [] (((((w.alloc (.cells #[.int .i64 0, .int .i64 0, .int .i64 0] t1)).alloc (.cells #[.bool false] t2)).alloc (.cells #[.int .i64 0, .int .i64 0, .int .i64 0] t3)).alloc (.cells #[.int .i64 0] t4)).alloc (.cells #[.string s] t5)) where
  out := fun j hj => by
    rw [World.cell?_alloc_past _ _ _ (by simp <;> omega), World.cell?_alloc_past _ _ _ (by simp <;> omega), World.cell?_alloc_at _ _ _ _ (by simp)]
    rcases (by omega : j = 0 ∨ j = 1 ∨ j = 2) with rfl | rfl | rfl <;> rfl
  cnt := by
    rw [World.cell?_alloc_past _ _ _ (by simp <;> omega), World.cell?_alloc_at _ _ _ _ (by simp)]
    rfl
  r0 := fun j hj => by
    rw [World.cell?_alloc_past _ _ _ (by simp <;> omega), World.cell?_alloc_past _ _ _ (by simp <;> omega), World.cell?_alloc_past _ _ _ (by simp <;> omega), World.cell?_alloc_past _ _ _ (by simp <;> omega), World.cell?_alloc_at _ _ _ _ (by simp)]
    rcases (by omega : j = 0 ∨ j = 1 ∨ j = 2) with rfl | rfl | rfl <;> rfl
  r1 := by
    rw [World.cell?_alloc_past _ _ _ (by simp <;> omega), World.cell?_alloc_past _ _ _ (by simp <;> omega), World.cell?_alloc_past _ _ _ (by simp <;> omega), World.cell?_alloc_at _ _ _ _ (by simp)]
    rfl
  fr := fun b h1 h2 o => by
    simp only [frozen?_alloc_cells]
    exact frozen_past _ _ _ h1
  bel := bthen (bthen (bthen (bthen (below_new _ _) (below_new _ _)) (below_new _ _)) (below_new _ _)) (below_new _ _)
  ok := fun x hx => by cases hx
set_option maxRecDepth 8000 in
set_option maxHeartbeats 4000000 in
theorem cthree_short (s : ByteArray) (w : World) (hs : s.size ≤ 1000000) (h : s.size ≠ 6) : Calls Tryz.prog 74 #[.string s] w (ThreePost s.data.toList w) := by
  have HL : Hid (threeL s.data.toList = none) := threeL_len (by simpa using h)
  have hne : ((s.size : Int) != 6) = true := by rw [bne_iff_ne]; omega
  refine calls_of_mark2 Tryz.func74 rfl ?_
  simp only [Tryz.ntmps74, List.size_toArray, List.length_cons, List.length_nil, Nat.reduceAdd, Nat.reduceSub, Array.replicate_succ, Array.replicate_zero, List.push_toArray, List.append_toArray, List.nil_append, List.cons_append]
  go_wp2_with fail
  refine ⟨.tuple #[.agg #[.int .i64 0, .int .i64 0, .int .i64 0], .bool false], by simp [results, Tryz.results74, go_sem], ?_⟩
  exact ⟨0, 0, 0, false, rfl, HL.out, bthen (bthen (below_new _ _) (below_new _ _)) (below_new _ _)⟩
set_option maxRecDepth 8000 in
set_option maxHeartbeats 4000000 in
theorem cthree_six (s : ByteArray) (w : World) (h : s.size = 6) : Calls Tryz.prog 74 #[.string s] w (ThreePost s.data.toList w) := by
  have hne : ((s.size : Int) != 6) = false := by rw [bne_eq_false_iff_eq, h]; rfl
  have HS6 := Lib.hid h
  clear h
  refine calls_of_mark2 Tryz.func74 rfl ?_
  simp only [Tryz.ntmps74, List.size_toArray, List.length_cons, List.length_nil, Nat.reduceAdd, Nat.reduceSub, Array.replicate_succ, Array.replicate_zero, List.push_toArray, List.append_toArray, List.nil_append, List.cons_append]
  go_wp2_with fail
  refine (cpairs_any _ _).mono ?_
  rintro r x5 ⟨rfl, rfl⟩
  go_wp2_with fail
  have hbx : w.heap.size + 1 + 1 + 1 + 1 < (((((w.alloc (.cells #[.int .i64 0, .int .i64 0, .int .i64 0] 86)).alloc (.cells #[.bool false] 4)).alloc (.cells #[.int .i64 0, .int .i64 0, .int .i64 0] 86)).alloc (.cells #[.int .i64 0] 3)).alloc (.cells #[.string s] 9)).heap.size := by simp
  have hI0 : ThreeI w [] (((((w.alloc (.cells #[.int .i64 0, .int .i64 0, .int .i64 0] 86)).alloc (.cells #[.bool false] 4)).alloc (.cells #[.int .i64 0, .int .i64 0, .int .i64 0] 86)).alloc (.cells #[.int .i64 0] 3)).alloc (.cells #[.string s] 9)) := three_start s w _ _ _ _ _
  have hbs : (((((w.alloc (.cells #[.int .i64 0, .int .i64 0, .int .i64 0] 86)).alloc (.cells #[.bool false] 4)).alloc (.cells #[.int .i64 0, .int .i64 0, .int .i64 0] 86)).alloc (.cells #[.int .i64 0] 3)).alloc (.cells #[.string s] 9)).cell? ⟨w.heap.size + 1 + 1 + 1 + 1, 0, none⟩ = some (.string s) := World.cell?_alloc_at _ _ _ _ (by simp)
  have hbf : (((((w.alloc (.cells #[.int .i64 0, .int .i64 0, .int .i64 0] 86)).alloc (.cells #[.bool false] 4)).alloc (.cells #[.int .i64 0, .int .i64 0, .int .i64 0] 86)).alloc (.cells #[.int .i64 0] 3)).alloc (.cells #[.string s] 9)).frozen? ⟨w.heap.size + 1 + 1 + 1 + 1, 0, none⟩ = false := by
    simp only [frozen?_alloc_cells]
    exact frozen_past _ _ _ (by omega)
  have hz5 : (((((w.alloc (.cells #[.int .i64 0, .int .i64 0, .int .i64 0] 86)).alloc (.cells #[.bool false] 4)).alloc (.cells #[.int .i64 0, .int .i64 0, .int .i64 0] 86)).alloc (.cells #[.int .i64 0] 3)).alloc (.cells #[.string s] 9)).heap.size = w.heap.size + 5 := by simp
  generalize hW5 : ((((w.alloc (.cells #[.int .i64 0, .int .i64 0, .int .i64 0] 86)).alloc (.cells #[.bool false] 4)).alloc (.cells #[.int .i64 0, .int .i64 0, .int .i64 0] 86)).alloc (.cells #[.int .i64 0] 3)).alloc (.cells #[.string s] 9) = W5 at *
  clear hW5
  refine (wpIn_wide (n := 8)).1 ?_
  refine wpIn_rangeBox (by omega) (gf := 118) (lb := #[.pointer (some ⟨w.heap.size + 1 + 1 + 1 + 1, 0, none⟩)]) rfl (enters_of Tryz.func118 (by kernel_rfl) rfl) hbx
    (pairs_stops 7 (w.heap.size + 1 + 1 + 1 + 1) (by omega) s (by rw [HS6.out]; omega) W5 hbs hbf hbx) (fun _ => rfl)
    (fun pre W => ThreeI w pre W) (fun _ pre W => ThreeX w pre W) ?own ?ownx ?box hI0
    (fun T x => (((T.setIfInBounds 14 (.int .i64 x.1)).setIfInBounds 15 (.bool x.2)).setIfInBounds 6 (.int .i64 x.1)).setIfInBounds 7 (.bool x.2)) ?assign ?body ?done ?stop
  case own =>
    intro pre W W' row h hg hr
    refine h.same (fun b h1 h2 => ?_) (h.bel.grown hg h.bel.size (fun k e => by have := (hr k e).1; omega))
    obtain ⟨o, ho, hc⟩ := h.blocks b h1 h2
    exact kept4 (w := w) hg (fun r e => (hr r e).2) ho hc
  case ownx =>
    intro c pre W W' row h hg hr
    refine h.same (fun b h1 h2 => hg.block b ?_ (fun e => by have := (hr b e.symm).1; omega)) (h.bel.grown hg h.bel.size (fun k e => by have := (hr k e).1; omega)) hg.size
    have := h.sz
    omega
  case box =>
    intro pre W W' h hg
    refine h.same (fun b h1 h2 => hg.block b ?_ (fun e => by cases e; omega)) (h.bel.grown hg h.bel.size (fun k e => by cases e; omega))
    obtain ⟨o, ho, -⟩ := h.blocks b h1 h2
    exact (Array.getElem?_eq_some_iff.1 ho).1
  case assign =>
    rintro l ⟨xn, xb⟩ W K hK
    gi_wp2
    exact hK
  case body =>
    rintro l pre ⟨xn, xb⟩ W hI ⟨rest, hrest⟩
    have hl : pre.length < 3 := by
      have h1 := pairsL_len (l := s.data.toList) (by simpa using HS6.out)
      rw [← hrest, List.length_append, List.length_cons] at h1
      omega
    simp only [List.setIfInBounds_toArray, List.set_cons_zero, List.set_cons_succ]
    have HI := Lib.hid hI
    have o0 := hI.out 0 (by omega)
    have o1 := hI.out 1 (by omega)
    have o2 := hI.out 2 (by omega)
    have r0 := hI.r0 0 (by omega)
    have r1 := hI.r0 1 (by omega)
    have r2 := hI.r0 2 (by omega)
    have r3 := hI.r1
    have cn := hI.cnt
    have f0 := fun o => hI.fr w.heap.size (by omega) (by omega) o
    have f1 := hI.fr (w.heap.size + 1) (by omega) (by omega) 0
    have f2 := fun o => hI.fr (w.heap.size + 2) (by omega) (by omega) o
    have f3 := hI.fr (w.heap.size + 3) (by omega) (by omega) 0
    have hnw := hI.out pre.length hl
    generalize (pre.map Prod.fst).getD 0 0 = v0 at *
    generalize (pre.map Prod.fst).getD 1 0 = v1 at *
    generalize (pre.map Prod.fst).getD 2 0 = v2 at *
    generalize (pre.map Prod.fst).getD pre.length 0 = v3 at *
    have HR := Lib.hid hrest
    have i1 : (0 : Int) ≤ (pre.length : Int) := by omega
    have i2 : (pre.length : Int) < 3 := by omega
    clear hI hI0 hbs hbf hrest
    cases xb with
    | false =>
      gi_wp2
      obtain ⟨c0, c1, c2⟩ := set3 (a := .int .i64 v0) (b := .int .i64 v1) (c := .int .i64 v2) r0 r1 r2
      refine ⟨keeps4.from _, ⟨fun j hj => ?_, set3_one (by omega) r3, ?_, ?_, ⟨_, List.mem_append_right _ (List.mem_singleton_self _), rfl⟩⟩⟩
      · rcases (by omega : j = 0 ∨ j = 1 ∨ j = 2) with rfl | rfl | rfl
        · exact ⟨v0, (set3_past (by omega)).trans c0⟩
        · exact ⟨v1, (set3_past (by omega)).trans c1⟩
        · exact ⟨v2, (set3_past (by omega)).trans c2⟩
      · exact (((HI.out.bel.setCell (Nat.le_refl _) _).setCell (Nat.le_refl _) _).setCell (Nat.le_refl _) _).setCell (Nat.le_succ _) _
      · obtain ⟨o, ho, -⟩ := HI.out.blocks (w.heap.size + 3) (by omega) (by omega)
        have := (Array.getElem?_eq_some_iff.1 ho).1
        simp
        omega
    | true =>
      gi_wp2
      refine ⟨((KeepsOthers.setCell _ _ _).trans (KeepsOthers.setCell _ _ _)).from _, ?_, HI.out.snoc hl xn⟩
      obtain ⟨o, ho, -⟩ := HI.out.blocks (w.heap.size + 3) (by omega) (by omega)
      have hz3 := (Array.getElem?_eq_some_iff.1 ho).1
      rw [Below.heap_setCell _ _ _ _ (by simp), Below.heap_setCell _ _ _ _ (by simp <;> omega)]
  case done =>
    rintro D xs W hD rfl hI hK
    obtain ⟨p, q, r, hpq, hth⟩ := three_all (l := s.data.toList) (by simpa using HS6.out) hI.ok
    rw [hpq] at hI
    have o0 := hI.out 0 (by omega)
    have o1 := hI.out 1 (by omega)
    have o2 := hI.out 2 (by omega)
    simp only [List.map_cons, List.map_nil, List.getD_cons_zero, List.getD_cons_succ] at o0 o1 o2
    have r0 := hI.r0 0 (by omega)
    have r1 := hI.r0 1 (by omega)
    have r2 := hI.r0 2 (by omega)
    have r3 := hI.r1
    have f0 := fun o => hI.fr w.heap.size (by omega) (by omega) o
    have f1 := hI.fr (w.heap.size + 1) (by omega) (by omega) 0
    have HB := Lib.hid hI.bel
    have HT := Lib.hid hth
    have HK := Lib.hid hK
    have hzW : W5.heap.size ≤ W.heap.size := by have := (Array.getElem?_eq_some_iff.1 hK).1; omega
    clear hI hI0 hbs hbf hpq hth hK
    go_wp2_with fail
    obtain ⟨c0, c1, c2⟩ := set3 (a := .int .i64 p.1) (b := .int .i64 q.1) (c := .int .i64 r.1) r0 r1 r2
    have c3 := set3_one (a := .int .i64 p.1) (b := .int .i64 q.1) (c := .int .i64 r.1) (d := .bool true) (by omega : w.heap.size + 1 ≠ w.heap.size) r3
    rw [← set3_past (h := w.heap.size + 1) (d := .bool true) (by omega)] at c0 c1 c2
    have hk2 := (keeps4 (W := W) (p := ⟨w.heap.size, 0, none⟩) (q := ⟨w.heap.size, 1, none⟩) (r := ⟨w.heap.size, 2, none⟩) (s := ⟨w.heap.size + 1, 0, none⟩) (a := .int .i64 p.1) (b := .int .i64 q.1) (c := .int .i64 r.1) (d := .bool true)).same D _ HK.out rfl
    have hb4 : Below w.heap.size w ((((W.setCell ⟨w.heap.size, 0, none⟩ (.int .i64 p.1)).setCell ⟨w.heap.size, 1, none⟩ (.int .i64 q.1)).setCell ⟨w.heap.size, 2, none⟩ (.int .i64 r.1)).setCell ⟨w.heap.size + 1, 0, none⟩ (.bool true)) :=
      (((HB.out.setCell (Nat.le_refl _) _).setCell (Nat.le_refl _) _).setCell (Nat.le_refl _) _).setCell (Nat.le_succ _) _
    generalize (((W.setCell ⟨w.heap.size, 0, none⟩ (.int .i64 p.1)).setCell ⟨w.heap.size, 1, none⟩ (.int .i64 q.1)).setCell ⟨w.heap.size, 2, none⟩ (.int .i64 r.1)).setCell ⟨w.heap.size + 1, 0, none⟩ (.bool true) = W8 at *
    refine ⟨by simp, .inl ⟨_, _, rfl, run_takeDeferred hk2, ?_⟩⟩
    have hg := grownBy_putObj' W8 D (.deferred none)
    have hr : ∀ r, some D = some r → ∃ o : Obj, W8.heap[r]? = some o ∧ o.isCells = false := fun r e => by cases e; exact ⟨_, hk2, rfl⟩
    have d0 := cell_kept c0 hg hr
    have d1 := cell_kept c1 hg hr
    have d2 := cell_kept c2 hg hr
    have d3 := cell_kept c3 hg hr
    refine ⟨.tuple #[.agg #[.int .i64 p.1, .int .i64 q.1, .int .i64 r.1], .bool true], by simp [results, Tryz.results74, go_sem, d0, d1, d2, d3], ?_⟩
    exact ⟨p.1, q.1, r.1, true, rfl, HT.out, hb4.grown hg hb4.size (fun k e => by cases e; omega)⟩
  case stop =>
    rintro D pre W hD ⟨rest, hrest⟩ hX hK
    have hbad : threeL s.data.toList = none := by
      obtain ⟨x, hx, hx2⟩ := hX.bad
      exact three_bad (by simpa using HS6.out) ⟨x, by rw [← hrest]; exact List.mem_append_left _ hx, hx2⟩
    obtain ⟨a, ha⟩ := hX.r0 0 (by omega)
    obtain ⟨b, hb⟩ := hX.r0 1 (by omega)
    obtain ⟨c, hc⟩ := hX.r0 2 (by omega)
    have hd := hX.r1
    have HB := Lib.hid hX.bel
    have HT := Lib.hid hbad
    have HK := Lib.hid hK
    clear hX hI0 hbs hbf hrest hbad hK
    gi_wp2
    refine ⟨by simp, .inl ⟨_, _, rfl, run_takeDeferred HK.out, ?_⟩⟩
    have hg := grownBy_putObj' W D (.deferred none)
    have hr : ∀ r, some D = some r → ∃ o : Obj, W.heap[r]? = some o ∧ o.isCells = false := fun r e => by cases e; exact ⟨_, HK.out, rfl⟩
    have d0 := cell_kept ha hg hr
    have d1 := cell_kept hb hg hr
    have d2 := cell_kept hc hg hr
    have d3 := cell_kept hd hg hr
    refine ⟨.tuple #[.agg #[.int .i64 a, .int .i64 b, .int .i64 c], .bool false], by simp [results, Tryz.results74, go_sem, d0, d1, d2, d3], ?_⟩
    exact ⟨a, b, c, false, rfl, HT.out, HB.out.grown hg HB.out.size (fun k e => by cases e; omega)⟩
theorem cthree_any (s : ByteArray) (w : World) (hs : s.size ≤ 1000000) : Calls Tryz.prog 74 #[.string s] w (ThreePost s.data.toList w) := by
  by_cases h : s.size = 6
  · exact cthree_six s w h
  · exact cthree_short s w hs h
end Go.Proofs.YtfgopmfaeooadaaGreatDoor

/- Layer 24: what stands behind a point. Printed by genclkg.py. -/
namespace Go.Proofs.YtfgopmfaeooadaaGreatDoor
set_option linter.unusedVariables false
open Go.RowKit Go.Shelf
attribute [local go_sem] Oper.semAt_some

def BehPost (l : List UInt8) (w : World) (e : Ending) (w' : World) : Prop :=
  ∃ (n : Int) (k : Bool), e = .returned (.tuple #[.int .i64 n, .bool k]) ∧ behindL l = (if k = true then some n else none) ∧ Below w.heap.size w w'
theorem behindL_no {s : ByteArray} (h0 : 0 < s.size) (h : s[0] ≠ 46 ∨ s.size < 2 ∨ 3 < s.size) : behindL s.data.toList = none := by
  obtain ⟨⟨l⟩⟩ := s
  match l, h0, h with
  | [a], _, _ => rfl
  | [q, a], _, h =>
    have hq : q ≠ 46 := by
      rcases h with h | h | h
      · exact h
      · exact absurd h (by show ¬ (2 < 2); omega)
      · exact absurd h (by show ¬ (3 < 2); omega)
    show (if _ then _ else _) = _
    rw [if_neg (fun x => hq x.1)]
  | [q, a, b], _, h =>
    have hq : q ≠ 46 := by
      rcases h with h | h | h
      · exact h
      · exact absurd h (by show ¬ (3 < 2); omega)
      · exact absurd h (by show ¬ (3 < 3); omega)
    show (if _ then _ else _) = _
    rw [if_neg (fun x => hq x.1)]
  | _ :: _ :: _ :: _ :: _, _, _ => rfl
theorem behindL_3 (a b : UInt8) : behindL [46, a, b] = if (pairV a b).2 = true then some (pairV a b).1 else none := by
  show (if _ then _ else _) = _
  by_cases h : (pairV a b).2 = true
  · rw [if_pos h, pairV_num h]
    have h : (digB a && digB b) = true := h
    rw [Bool.and_eq_true] at h
    rw [if_pos ⟨rfl, h.1, h.2⟩]
  · rw [if_neg h, if_neg]
    rintro ⟨-, h1, h2⟩
    exact h (by show (digB a && digB b) = true; rw [h1, h2]; rfl)
theorem behindL_2 (a : UInt8) : behindL [46, a] = if (pairV a 48).2 = true then some (pairV a 48).1 else none := by
  show (if _ then _ else _) = _
  by_cases h : (pairV a 48).2 = true
  · rw [if_pos h, pairV_num h]
    have h : (digB a && digB 48) = true := h
    rw [Bool.and_eq_true] at h
    rw [if_pos ⟨rfl, h.1⟩]
    congr 1
    unfold numP
    have : ((48 : UInt8).toNat : Int) = 48 := rfl
    omega
  · rw [if_neg h, if_neg]
    rintro ⟨-, h1⟩
    exact h (by show (digB a && digB 48) = true; rw [h1]; rfl)

theorem beh_none (w : World) : Calls Tryz.prog 75 #[.string ⟨#[]⟩] w (BehPost [] w) := by
  refine calls_of_mark2 Tryz.func75 rfl ?_
  simp only [Tryz.ntmps75, List.size_toArray, List.length_cons, List.length_nil, Nat.reduceAdd, Nat.reduceSub, Array.replicate_succ, Array.replicate_zero, List.push_toArray, List.append_toArray, List.nil_append, List.cons_append]
  go_wp2_with fail
  refine ⟨.tuple #[.int .i64 0, .bool true], by simp [results, Tryz.results75, go_sem], ?_⟩
  exact ⟨0, true, rfl, rfl, by first | exact bthen (below_new _ _) (below_new _ _) | exact ((bthen (below_new _ _) (below_new _ _)).setCell (by simp) _) | exact ((bthen (below_new _ _) (below_new _ _)).setCell (by simp) _).setCell (by simp) _⟩
set_option maxHeartbeats 2000000 in
theorem beh_bad (s : ByteArray) (w : World) (hs : s.size ≤ 1000000) (h0 : 0 < s.size) (h : s[0] ≠ 46 ∨ s.size < 2 ∨ 3 < s.size) : Calls Tryz.prog 75 #[.string s] w (BehPost s.data.toList w) := by
  have HL := Lib.hid (behindL_no h0 h)
  obtain ⟨f1, f2⟩ := nonempty_forms h0
  have hk : ((s[0].toNat : Int) != 46) = true ∨ ((s[0].toNat : Int) != 46) = false ∧ (s.size : Int) < 2 ∨ ((s[0].toNat : Int) != 46) = false ∧ 2 ≤ (s.size : Int) ∧ 3 < (s.size : Int) := by
    by_cases q : s[0] = 46
    · have q2 : ((s[0].toNat : Int) != 46) = false := by rw [q]; rfl
      rcases h with h | h | h
      · exact absurd q h
      · exact .inr (.inl ⟨q2, by omega⟩)
      · exact .inr (.inr ⟨q2, by omega, by omega⟩)
    · refine .inl ?_
      rw [bne_iff_ne]
      intro k
      refine q (UInt8.toNat_inj.1 ?_)
      have : ((46 : UInt8).toNat : Int) = 46 := rfl
      omega
  clear h
  rcases hk with k1 | ⟨k1, k2⟩ | ⟨k1, k2, k3⟩
  all_goals
    refine calls_of_mark2 Tryz.func75 rfl ?_
    simp only [Tryz.ntmps75, List.size_toArray, List.length_cons, List.length_nil, Nat.reduceAdd, Nat.reduceSub, Array.replicate_succ, Array.replicate_zero, List.push_toArray, List.append_toArray, List.nil_append, List.cons_append]
    go_wp2_with fail
    refine ⟨.tuple #[.int .i64 0, .bool false], by simp [results, Tryz.results75, go_sem], ?_⟩
    exact ⟨0, false, rfl, HL.out, by first | exact bthen (below_new _ _) (below_new _ _) | exact ((bthen (below_new _ _) (below_new _ _)).setCell (by simp) _) | exact ((bthen (below_new _ _) (below_new _ _)).setCell (by simp) _).setCell (by simp) _⟩

/-- The one pair, amid. -/
structure BehI (w : World) (W : World) : Prop where
  r0 : ∃ a, W.cell? ⟨w.heap.size, 0, none⟩ = some (.int .i64 a)
  r1 : ∃ a, W.cell? ⟨w.heap.size + 1, 0, none⟩ = some (.bool a)
  f0 : W.frozen? ⟨w.heap.size, 0, none⟩ = false
  f1 : W.frozen? ⟨w.heap.size + 1, 0, none⟩ = false
  bel : Below w.heap.size w W
structure BehX (w : World) (x : Int × Bool) (W : World) : Prop where
  r0 : W.cell? ⟨w.heap.size, 0, none⟩ = some (.int .i64 x.1)
  r1 : W.cell? ⟨w.heap.size + 1, 0, none⟩ = some (.bool x.2)
  bel : Below w.heap.size w W
theorem BehI.same {w W W' : World} (h : BehI w W) (h0 : W'.heap[w.heap.size]? = W.heap[w.heap.size]?) (h1 : W'.heap[w.heap.size + 1]? = W.heap[w.heap.size + 1]?) (hw : Below w.heap.size w W') : BehI w W' where
  r0 := by obtain ⟨a, ha⟩ := h.r0; exact ⟨a, (World.cell?_of_block (a := ⟨_, 0, none⟩) h0).trans ha⟩
  r1 := by obtain ⟨a, ha⟩ := h.r1; exact ⟨a, (World.cell?_of_block (a := ⟨_, 0, none⟩) h1).trans ha⟩
  f0 := (World.frozen?_of_block (a := ⟨_, 0, none⟩) h0).trans h.f0
  f1 := (World.frozen?_of_block (a := ⟨_, 0, none⟩) h1).trans h.f1
  bel := hw
theorem BehX.same {w W W' : World} {x : Int × Bool} (h : BehX w x W) (h0 : W'.heap[w.heap.size]? = W.heap[w.heap.size]?) (h1 : W'.heap[w.heap.size + 1]? = W.heap[w.heap.size + 1]?) (hw : Below w.heap.size w W') : BehX w x W' where
  r0 := (World.cell?_of_block (a := ⟨_, 0, none⟩) h0).trans h.r0
  r1 := (World.cell?_of_block (a := ⟨_, 0, none⟩) h1).trans h.r1
  bel := hw
theorem beh_start (w : World) (t1 t2 t3 : TypeId) (s : ByteArray) : BehI w (((w.alloc (.cells #[.int .i64 0] t1)).alloc (.cells #[.bool false] t2)).alloc (.cells #[.string s] t3)) where
  r0 := ⟨0, by rw [World.cell?_alloc_past _ _ _ (by simp <;> omega), World.cell?_alloc_past _ _ _ (by simp <;> omega), World.cell?_alloc_at _ _ _ _ rfl]; rfl⟩
  r1 := ⟨false, by rw [World.cell?_alloc_past _ _ _ (by simp <;> omega), World.cell?_alloc_at _ _ _ _ (by simp)]; rfl⟩
  f0 := by simp only [frozen?_alloc_cells]; exact frozen_past _ _ _ (Nat.le_refl _)
  f1 := by simp only [frozen?_alloc_cells]; exact frozen_past _ _ _ (Nat.le_succ _)
  bel := bthen (bthen (below_new _ _) (below_new _ _)) (below_new _ _)
set_option maxRecDepth 8000 in
set_option maxHeartbeats 2000000 in
theorem beh_2 (a : UInt8) (w : World) : Calls Tryz.prog 75 #[.string ⟨#[46, a]⟩] w (BehPost [46, a] w) := by
  have hz : (⟨#[46, a]⟩ : ByteArray).size = 2 := rfl
  have h0 : ((⟨#[46, a]⟩ : ByteArray)[0]'(Nat.succ_pos _)) = 46 := rfl
  have hn : ((⟨#[46, a]⟩ : ByteArray).toList == []) = false := by rw [ByteArray.toList_eq]; rfl
  have hn2 : (⟨#[46, a]⟩ : ByteArray).toList.isEmpty = false := by rw [ByteArray.toList_eq]; rfl
  have hap : (⟨#[46, a]⟩ : ByteArray) ++ ⟨#[48]⟩ = ⟨#[46, a, 48]⟩ := rfl
  have hz3 : (⟨#[46, a, 48]⟩ : ByteArray).size = 3 := rfl
  have hx : (⟨#[46, a, 48]⟩ : ByteArray).extract 1 3 = ⟨#[a, 48]⟩ := rfl
  have HL := Lib.hid (behindL_2 a)
  refine calls_of_mark2 Tryz.func75 rfl ?_
  simp only [Tryz.ntmps75, List.size_toArray, List.length_cons, List.length_nil, Nat.reduceAdd, Nat.reduceSub, Array.replicate_succ, Array.replicate_zero, List.push_toArray, List.append_toArray, List.nil_append, List.cons_append]
  go_wp2_with fail
  refine (cpairs_any _ _).mono ?_
  rintro r x5 ⟨rfl, rfl⟩
  go_wp2_with fail
  clear h0 hn hn2 hap hx hz hz3
  have hbx : w.heap.size + 1 + 1 < (((w.alloc (.cells #[.int .i64 0] 2)).alloc (.cells #[.bool false] 4)).alloc (.cells #[.string ⟨#[a, 48]⟩] 9)).heap.size := by simp
  have hI0 : BehI w (((w.alloc (.cells #[.int .i64 0] 2)).alloc (.cells #[.bool false] 4)).alloc (.cells #[.string ⟨#[a, 48]⟩] 9)) := beh_start _ _ _ _ _
  have hbs : (((w.alloc (.cells #[.int .i64 0] 2)).alloc (.cells #[.bool false] 4)).alloc (.cells #[.string ⟨#[a, 48]⟩] 9)).cell? ⟨w.heap.size + 1 + 1, 0, none⟩ = some (.string ⟨#[a, 48]⟩) := World.cell?_alloc_at _ _ _ _ (by simp)
  have hbf : (((w.alloc (.cells #[.int .i64 0] 2)).alloc (.cells #[.bool false] 4)).alloc (.cells #[.string ⟨#[a, 48]⟩] 9)).frozen? ⟨w.heap.size + 1 + 1, 0, none⟩ = false := by
    simp only [frozen?_alloc_cells]
    exact frozen_past _ _ _ (by omega)
  have hz5 : (((w.alloc (.cells #[.int .i64 0] 2)).alloc (.cells #[.bool false] 4)).alloc (.cells #[.string ⟨#[a, 48]⟩] 9)).heap.size = w.heap.size + 3 := by simp
  generalize hW5 : ((w.alloc (.cells #[.int .i64 0] 2)).alloc (.cells #[.bool false] 4)).alloc (.cells #[.string ⟨#[a, 48]⟩] 9) = W5 at *
  clear hW5
  refine (wpIn_wide (n := 8)).1 ?_
  refine wpIn_rangeBox (by omega) (gf := 118) (lb := #[.pointer (some ⟨w.heap.size + 1 + 1, 0, none⟩)]) rfl (enters_of Tryz.func118 (by kernel_rfl) rfl) hbx
    (pairs_stops 7 (w.heap.size + 1 + 1) (by omega) ⟨#[a, 48]⟩ (by show 2 ≤ 1000000; omega) W5 hbs hbf hbx) (fun _ => rfl)
    (fun pre W => pre = [] ∧ BehI w W) (fun _ pre W => ∃ x, pre = [x] ∧ BehX w x W) ?own ?ownx ?box ⟨rfl, hI0⟩
    (fun T x => (((T.setIfInBounds 32 (.int .i64 x.1)).setIfInBounds 33 (.bool x.2)).setIfInBounds 4 (.int .i64 x.1)).setIfInBounds 5 (.bool x.2)) ?assign ?body ?done ?stop
  case own =>
    rintro pre W W' row ⟨hp, h⟩ hg hr
    obtain ⟨_, a0⟩ := h.r0
    obtain ⟨_, a1⟩ := h.r1
    obtain ⟨o0, q0, c0⟩ := cells_of_cell a0
    obtain ⟨o1, q1, c1⟩ := cells_of_cell a1
    exact ⟨hp, h.same (kept4 (w := w) hg (fun r e => (hr r e).2) q0 c0) (kept4 (w := w) hg (fun r e => (hr r e).2) q1 c1) (h.bel.grown hg h.bel.size (fun k e => by have := (hr k e).1; omega))⟩
  case ownx =>
    rintro c pre W W' row ⟨x, hp, h⟩ hg hr
    obtain ⟨o0, q0, c0⟩ := cells_of_cell h.r0
    obtain ⟨o1, q1, c1⟩ := cells_of_cell h.r1
    exact ⟨x, hp, h.same (kept4 (w := w) hg (fun r e => (hr r e).2) q0 c0) (kept4 (w := w) hg (fun r e => (hr r e).2) q1 c1) (h.bel.grown hg h.bel.size (fun k e => by have := (hr k e).1; omega))⟩
  case box =>
    rintro pre W W' ⟨hp, h⟩ hg
    obtain ⟨_, a0⟩ := h.r0
    obtain ⟨_, a1⟩ := h.r1
    obtain ⟨o0, q0, c0⟩ := cells_of_cell a0
    obtain ⟨o1, q1, c1⟩ := cells_of_cell a1
    exact ⟨hp, h.same (hg.block _ (Array.getElem?_eq_some_iff.1 q0).1 (fun e => by injection e with e; omega)) (hg.block _ (Array.getElem?_eq_some_iff.1 q1).1 (fun e => by injection e with e; omega)) (h.bel.grown hg h.bel.size (fun k e => by cases e; omega))⟩
  case assign =>
    rintro l ⟨xn, xb⟩ W K hK
    gi_wp2
    exact hK
  case body =>
    rintro l pre ⟨xn, xb⟩ W ⟨rfl, hI⟩ -
    simp only [List.setIfInBounds_toArray, List.set_cons_zero, List.set_cons_succ]
    obtain ⟨a0, r0⟩ := hI.r0
    obtain ⟨a1, r1⟩ := hI.r1
    have f0 := hI.f0
    have f1 := hI.f1
    have HI := Lib.hid hI
    clear hI hI0 hbs hbf
    gi_wp2
    refine ⟨((KeepsOthers.setCell _ _ _).trans (KeepsOthers.setCell _ _ _)).from _, (xn, xb), rfl, ?_, ?_, (HI.out.bel.setCell (Nat.le_refl _) _).setCell (Nat.le_succ _) _⟩
    · rw [World.cell?_setCell_other _ _ _ _ (fun e => by injection e with e _; omega), World.cell?_setCell_same' _ _ _ (by rw [r0]; rfl)]
    · rw [World.cell?_setCell_same' _ _ _ (by rw [World.cell?_setCell_other _ _ _ _ (fun e => by injection e with e _; omega), r1]; rfl)]
  case done =>
    rintro D xs W hD rfl ⟨hq, -⟩ hK
    exact absurd hq (by simp [pairsL])
  case stop =>
    rintro D pre W hD ⟨rest, hrest⟩ ⟨x, rfl, hX⟩ hK
    have hx : x = pairV a 48 := by
      have : [x] ++ rest = [pairV a 48] := hrest
      injection this
    subst hx
    have ha := hX.r0
    have hb := hX.r1
    have HB := Lib.hid hX.bel
    have HK := Lib.hid hK
    clear hX hI0 hbs hbf hrest hK
    generalize (pairV a 48).1 = xn at *
    generalize (pairV a 48).2 = xb at *
    gi_wp2
    refine ⟨by simp, .inl ⟨_, _, rfl, run_takeDeferred HK.out, ?_⟩⟩
    have hg := grownBy_putObj' W D (.deferred none)
    have hr : ∀ r, some D = some r → ∃ o : Obj, W.heap[r]? = some o ∧ o.isCells = false := fun r e => by cases e; exact ⟨_, HK.out, rfl⟩
    have d0 := cell_kept ha hg hr
    have d1 := cell_kept hb hg hr
    refine ⟨.tuple #[.int .i64 xn, .bool xb], by simp [results, Tryz.results75, go_sem, d0, d1], ?_⟩
    exact ⟨xn, xb, rfl, HL.out, HB.out.grown hg HB.out.size (fun k e => by cases e; omega)⟩
set_option maxRecDepth 8000 in
set_option maxHeartbeats 2000000 in
theorem beh_3 (a b : UInt8) (w : World) : Calls Tryz.prog 75 #[.string ⟨#[46, a, b]⟩] w (BehPost [46, a, b] w) := by
  have hz : (⟨#[46, a, b]⟩ : ByteArray).size = 3 := rfl
  have h0 : ((⟨#[46, a, b]⟩ : ByteArray)[0]'(Nat.succ_pos _)) = 46 := rfl
  have hn : ((⟨#[46, a, b]⟩ : ByteArray).toList == []) = false := by rw [ByteArray.toList_eq]; rfl
  have hn2 : (⟨#[46, a, b]⟩ : ByteArray).toList.isEmpty = false := by rw [ByteArray.toList_eq]; rfl
  have hap : (⟨#[46, a]⟩ : ByteArray) ++ ⟨#[48]⟩ = ⟨#[46, a, 48]⟩ := rfl
  have hz3 : (⟨#[46, a, b]⟩ : ByteArray).size = 3 := rfl
  have hx : (⟨#[46, a, b]⟩ : ByteArray).extract 1 3 = ⟨#[a, b]⟩ := rfl
  have HL := Lib.hid (behindL_3 a b)
  refine calls_of_mark2 Tryz.func75 rfl ?_
  simp only [Tryz.ntmps75, List.size_toArray, List.length_cons, List.length_nil, Nat.reduceAdd, Nat.reduceSub, Array.replicate_succ, Array.replicate_zero, List.push_toArray, List.append_toArray, List.nil_append, List.cons_append]
  go_wp2_with fail
  refine (cpairs_any _ _).mono ?_
  rintro r x5 ⟨rfl, rfl⟩
  go_wp2_with fail
  clear h0 hn hn2 hap hx hz hz3
  have hbx : w.heap.size + 1 + 1 < (((w.alloc (.cells #[.int .i64 0] 2)).alloc (.cells #[.bool false] 4)).alloc (.cells #[.string ⟨#[a, b]⟩] 9)).heap.size := by simp
  have hI0 : BehI w (((w.alloc (.cells #[.int .i64 0] 2)).alloc (.cells #[.bool false] 4)).alloc (.cells #[.string ⟨#[a, b]⟩] 9)) := beh_start _ _ _ _ _
  have hbs : (((w.alloc (.cells #[.int .i64 0] 2)).alloc (.cells #[.bool false] 4)).alloc (.cells #[.string ⟨#[a, b]⟩] 9)).cell? ⟨w.heap.size + 1 + 1, 0, none⟩ = some (.string ⟨#[a, b]⟩) := World.cell?_alloc_at _ _ _ _ (by simp)
  have hbf : (((w.alloc (.cells #[.int .i64 0] 2)).alloc (.cells #[.bool false] 4)).alloc (.cells #[.string ⟨#[a, b]⟩] 9)).frozen? ⟨w.heap.size + 1 + 1, 0, none⟩ = false := by
    simp only [frozen?_alloc_cells]
    exact frozen_past _ _ _ (by omega)
  have hz5 : (((w.alloc (.cells #[.int .i64 0] 2)).alloc (.cells #[.bool false] 4)).alloc (.cells #[.string ⟨#[a, b]⟩] 9)).heap.size = w.heap.size + 3 := by simp
  generalize hW5 : ((w.alloc (.cells #[.int .i64 0] 2)).alloc (.cells #[.bool false] 4)).alloc (.cells #[.string ⟨#[a, b]⟩] 9) = W5 at *
  clear hW5
  refine (wpIn_wide (n := 8)).1 ?_
  refine wpIn_rangeBox (by omega) (gf := 118) (lb := #[.pointer (some ⟨w.heap.size + 1 + 1, 0, none⟩)]) rfl (enters_of Tryz.func118 (by kernel_rfl) rfl) hbx
    (pairs_stops 7 (w.heap.size + 1 + 1) (by omega) ⟨#[a, b]⟩ (by show 2 ≤ 1000000; omega) W5 hbs hbf hbx) (fun _ => rfl)
    (fun pre W => pre = [] ∧ BehI w W) (fun _ pre W => ∃ x, pre = [x] ∧ BehX w x W) ?own ?ownx ?box ⟨rfl, hI0⟩
    (fun T x => (((T.setIfInBounds 32 (.int .i64 x.1)).setIfInBounds 33 (.bool x.2)).setIfInBounds 4 (.int .i64 x.1)).setIfInBounds 5 (.bool x.2)) ?assign ?body ?done ?stop
  case own =>
    rintro pre W W' row ⟨hp, h⟩ hg hr
    obtain ⟨_, a0⟩ := h.r0
    obtain ⟨_, a1⟩ := h.r1
    obtain ⟨o0, q0, c0⟩ := cells_of_cell a0
    obtain ⟨o1, q1, c1⟩ := cells_of_cell a1
    exact ⟨hp, h.same (kept4 (w := w) hg (fun r e => (hr r e).2) q0 c0) (kept4 (w := w) hg (fun r e => (hr r e).2) q1 c1) (h.bel.grown hg h.bel.size (fun k e => by have := (hr k e).1; omega))⟩
  case ownx =>
    rintro c pre W W' row ⟨x, hp, h⟩ hg hr
    obtain ⟨o0, q0, c0⟩ := cells_of_cell h.r0
    obtain ⟨o1, q1, c1⟩ := cells_of_cell h.r1
    exact ⟨x, hp, h.same (kept4 (w := w) hg (fun r e => (hr r e).2) q0 c0) (kept4 (w := w) hg (fun r e => (hr r e).2) q1 c1) (h.bel.grown hg h.bel.size (fun k e => by have := (hr k e).1; omega))⟩
  case box =>
    rintro pre W W' ⟨hp, h⟩ hg
    obtain ⟨_, a0⟩ := h.r0
    obtain ⟨_, a1⟩ := h.r1
    obtain ⟨o0, q0, c0⟩ := cells_of_cell a0
    obtain ⟨o1, q1, c1⟩ := cells_of_cell a1
    exact ⟨hp, h.same (hg.block _ (Array.getElem?_eq_some_iff.1 q0).1 (fun e => by injection e with e; omega)) (hg.block _ (Array.getElem?_eq_some_iff.1 q1).1 (fun e => by injection e with e; omega)) (h.bel.grown hg h.bel.size (fun k e => by cases e; omega))⟩
  case assign =>
    rintro l ⟨xn, xb⟩ W K hK
    gi_wp2
    exact hK
  case body =>
    rintro l pre ⟨xn, xb⟩ W ⟨rfl, hI⟩ -
    simp only [List.setIfInBounds_toArray, List.set_cons_zero, List.set_cons_succ]
    obtain ⟨a0, r0⟩ := hI.r0
    obtain ⟨a1, r1⟩ := hI.r1
    have f0 := hI.f0
    have f1 := hI.f1
    have HI := Lib.hid hI
    clear hI hI0 hbs hbf
    gi_wp2
    refine ⟨((KeepsOthers.setCell _ _ _).trans (KeepsOthers.setCell _ _ _)).from _, (xn, xb), rfl, ?_, ?_, (HI.out.bel.setCell (Nat.le_refl _) _).setCell (Nat.le_succ _) _⟩
    · rw [World.cell?_setCell_other _ _ _ _ (fun e => by injection e with e _; omega), World.cell?_setCell_same' _ _ _ (by rw [r0]; rfl)]
    · rw [World.cell?_setCell_same' _ _ _ (by rw [World.cell?_setCell_other _ _ _ _ (fun e => by injection e with e _; omega), r1]; rfl)]
  case done =>
    rintro D xs W hD rfl ⟨hq, -⟩ hK
    exact absurd hq (by simp [pairsL])
  case stop =>
    rintro D pre W hD ⟨rest, hrest⟩ ⟨x, rfl, hX⟩ hK
    have hx : x = pairV a b := by
      have : [x] ++ rest = [pairV a b] := hrest
      injection this
    subst hx
    have ha := hX.r0
    have hb := hX.r1
    have HB := Lib.hid hX.bel
    have HK := Lib.hid hK
    clear hX hI0 hbs hbf hrest hK
    generalize (pairV a b).1 = xn at *
    generalize (pairV a b).2 = xb at *
    gi_wp2
    refine ⟨by simp, .inl ⟨_, _, rfl, run_takeDeferred HK.out, ?_⟩⟩
    have hg := grownBy_putObj' W D (.deferred none)
    have hr : ∀ r, some D = some r → ∃ o : Obj, W.heap[r]? = some o ∧ o.isCells = false := fun r e => by cases e; exact ⟨_, HK.out, rfl⟩
    have d0 := cell_kept ha hg hr
    have d1 := cell_kept hb hg hr
    refine ⟨.tuple #[.int .i64 xn, .bool xb], by simp [results, Tryz.results75, go_sem, d0, d1], ?_⟩
    exact ⟨xn, xb, rfl, HL.out, HB.out.grown hg HB.out.size (fun k e => by cases e; omega)⟩
theorem cbehind_any (s : ByteArray) (w : World) (hs : s.size ≤ 1000000) : Calls Tryz.prog 75 #[.string s] w (BehPost s.data.toList w) := by
  by_cases h0 : 0 < s.size
  · by_cases h : s[0] ≠ 46 ∨ s.size < 2 ∨ 3 < s.size
    · exact beh_bad s w hs h0 h
    · have h1 : s[0] = 46 := Classical.byContradiction fun q => h (.inl q)
      have h2 : 2 ≤ s.size := by omega
      have h3 : s.size ≤ 3 := by omega
      clear h hs
      obtain ⟨⟨l⟩⟩ := s
      match l, h0, h1, h2, h3 with
      | [q, a], _, h1, _, _ => have h1 : q = 46 := h1; subst h1; exact beh_2 a w
      | [q, a, b], _, h1, _, _ => have h1 : q = 46 := h1; subst h1; exact beh_3 a b w
      | [q], _, _, h2, _ => exact absurd h2 (by show ¬ (2 ≤ 1); omega)
      | a :: b :: c :: d :: l, _, _, _, h3 => exact absurd h3 (by show ¬ (l.length + 4 ≤ 3); omega)
  · obtain ⟨⟨l⟩⟩ := s
    cases l with
    | nil => exact beh_none w
    | cons a l => exact absurd (Nat.succ_pos _) h0
end Go.Proofs.YtfgopmfaeooadaaGreatDoor
