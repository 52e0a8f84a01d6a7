/- Slices read as flat lists of cells; append as one step, to a slice without room and to a row of one's own; what is kept. Over any program. -/
import Derived.Test.YteofmahbimkggaaDoorMa
import Derived.Deep.Upon
import Derived.Deep.AppendLies
import Derived.ArgAppend
import Derived.Laws.IdiomCopy
import Derived.Test.YteofmahbimkggaaDoorMgd
namespace Go.Proofs.YteofmahbimkggaaDoor
set_option linter.unusedVariables false
open Go.RowKit

theorem addr_addQ (b off j : Nat) : (⟨b, off, none⟩ : Addr).add j = ⟨b, off + j, none⟩ := by unfold Addr.add; split <;> simp_all
/-- A slice's cells, as a list, in blocks of a kind. -/
def FlatQ (Q : Nat → Prop) (w : World) (A : Option Addr) (xs : List Value) : Prop := ∀ (j : Nat) u, xs[j]? = some u → ∃ b off, A = some ⟨b, off, none⟩ ∧ Q b ∧ w.cell? ⟨b, off + j, none⟩ = some u
theorem FlatQ.nil (Q : Nat → Prop) (w : World) (A : Option Addr) : FlatQ Q w A [] := fun j u hu => by simp at hu
theorem FlatQ.less {Q R : Nat → Prop} {w : World} {A : Option Addr} {xs : List Value} (h : FlatQ Q w A xs) (hr : ∀ b, Q b → R b) : FlatQ R w A xs := fun j u hu => by
  obtain ⟨b, off, h1, h2, h3⟩ := h j u hu
  exact ⟨b, off, h1, hr b h2, h3⟩
theorem FlatQ.keep {Q : Nat → Prop} {w w' : World} {A : Option Addr} {xs : List Value} (h : FlatQ Q w A xs) (hk : ∀ b, Q b → w'.heap[b]? = w.heap[b]?) : FlatQ Q w' A xs := fun j u hu => by
  obtain ⟨b, off, h1, h2, h3⟩ := h j u hu
  exact ⟨b, off, h1, h2, (World.cell?_of_block (a := ⟨b, off + j, none⟩) (hk b h2)).trans h3⟩
theorem FlatQ.below {Q : Nat → Prop} {w w' : World} {A : Option Addr} {xs : List Value} {B : Nat} (h : FlatQ Q w A xs) (hb : Below B w w') (hq : ∀ b, Q b → b < B) : FlatQ Q w' A xs := h.keep fun b hq' => hb.block b (hq b hq')
theorem FlatQ.lt {Q : Nat → Prop} {w : World} {A : Option Addr} {xs : List Value} (h : FlatQ Q w A xs) : FlatQ (fun b => Q b ∧ b < w.heap.size) w A xs := fun j u hu => by
  obtain ⟨b, off, h1, h2, h3⟩ := h j u hu
  exact ⟨b, off, h1, ⟨h2, World.block_lt_of_cell? w _ h3⟩, h3⟩
theorem FlatQ.take {Q : Nat → Prop} {w : World} {A : Option Addr} {xs ys : List Value} (h : FlatQ Q w A (xs ++ ys)) : FlatQ Q w A xs := fun j u hu => by
  have hj : j < xs.length := by
    rcases Nat.lt_or_ge j xs.length with q | q
    · exact q
    · rw [List.getElem?_eq_none q] at hu; cases hu
  exact h j u (by rw [List.getElem?_append_left hj]; exact hu)

/-- What is kept: the blocks of a kind. -/
structure KeptS (S : Nat → Prop) (w w' : World) : Prop where
  os : w'.os = w.os
  tape : w'.tape = w.tape
  output : w'.output = w.output
  size : w.heap.size ≤ w'.heap.size
  block : ∀ k, S k → w'.heap[k]? = w.heap[k]?
theorem KeptS.refl (S : Nat → Prop) (w : World) : KeptS S w w := ⟨rfl, rfl, rfl, Nat.le_refl _, fun _ _ => rfl⟩
theorem KeptS.trans {S : Nat → Prop} {w w1 w2 : World} (h : KeptS S w w1) (k : KeptS S w1 w2) : KeptS S w w2 :=
  ⟨k.os.trans h.os, k.tape.trans h.tape, k.output.trans h.output, Nat.le_trans h.size k.size, fun i hi => (k.block i hi).trans (h.block i hi)⟩
theorem KeptS.of_below {S : Nat → Prop} {B : Nat} {w w' : World} (h : Below B w w') (hb : ∀ k, S k → k < B) : KeptS S w w' :=
  ⟨h.os, h.tape, h.output, h.size, fun k hk => h.block k (hb k hk)⟩
theorem KeptS.below {S : Nat → Prop} {B : Nat} {w w' : World} (h : KeptS S w w') (hb : ∀ k, k < B → S k) : Below B w w' :=
  ⟨h.os, h.tape, h.output, h.size, fun k hk => h.block k (hb k hk)⟩
theorem KeptS.less {S T : Nat → Prop} {w w' : World} (h : KeptS S w w') (hT : ∀ k, T k → S k) : KeptS T w w' := ⟨h.os, h.tape, h.output, h.size, fun k hk => h.block k (hT k hk)⟩
theorem KeptS.cell {S : Nat → Prop} {w w' : World} (h : KeptS S w w') {b o : Nat} (hb : S b) : w'.cell? ⟨b, o, none⟩ = w.cell? ⟨b, o, none⟩ := World.cell?_of_block (a := ⟨b, o, none⟩) (h.block b hb)
theorem KeptS.frozen {S : Nat → Prop} {w w' : World} (h : KeptS S w w') {b o : Nat} (hb : S b) : w'.frozen? ⟨b, o, none⟩ = w.frozen? ⟨b, o, none⟩ := World.frozen?_of_block (a := ⟨b, o, none⟩) (h.block b hb)
theorem KeptS.drewN {S : Nat → Prop} {w w' : World} (h : KeptS S w w') (n : Nat) : KeptS S w (w'.drewN n) := ⟨h.os, h.tape, h.output, h.size, h.block⟩
theorem KeptS.drew {S : Nat → Prop} {w w' : World} (h : KeptS S w w') : KeptS S w w'.drew := ⟨h.os, h.tape, h.output, h.size, h.block⟩
theorem KeptS.set {S : Nat → Prop} {w w' : World} (h : KeptS S w w') {g : Nat} (hg : ¬ S g) (o : Nat) (v : Value) : KeptS S w (w'.setCell ⟨g, o, none⟩ v) :=
  ⟨h.os, h.tape, h.output, by simpa using h.size, fun k hk => (Below.heap_setCell _ _ _ _ (fun (e : k = g) => hg (e ▸ hk))).trans (h.block k hk)⟩
theorem KeptS.cells {S : Nat → Prop} {b : Nat} (hb : ¬ S b) : ∀ (vs : List Value) (o : Nat) (w : World), KeptS S w (w.setCells b o vs)
  | [], _, w => KeptS.refl S w
  | v :: r, o, w => ((KeptS.refl S w).set hb o v).trans (KeptS.cells hb r (o + 1) _)
theorem KeptS.grown {S : Nat → Prop} {w w' : World} {row : Option Nat} (h : w.grownBy w' row) (hb : ∀ k, S k → k < w.heap.size ∧ some k ≠ row) : KeptS S w w' := ⟨h.os, h.tape, h.output, h.size, fun k hk => h.block k (hb k hk).1 (hb k hk).2⟩
theorem FlatQ.kept {Q S : Nat → Prop} {w w' : World} {A : Option Addr} {xs : List Value} (h : FlatQ Q w A xs) (hk : KeptS S w w') (hq : ∀ b, Q b → S b) : FlatQ Q w' A xs := h.keep fun b hb => hk.block b (hq b hb)

theorem lt_of_cellQ {w : World} {b o : Nat} {v : Value} (hv : w.cell? ⟨b, o, none⟩ = some v) : b < w.heap.size := by
  refine Nat.lt_of_not_le fun q => ?_
  simp [World.cell?, Array.getElem?_eq_none q] at hv
theorem flatq_own {w : World} {base : Nat} {e : TypeId} {size n : Nat} {v : Value} {xs : List Value} (h : w.ownsRow base e size v n xs) : ∃ A c, v = .slice A n c ∧ n ≤ c ∧ FlatQ (fun b => base ≤ b ∧ b < w.heap.size) w A xs ∧ (A = none → n = 0 ∧ c = 0) := by
  rcases h.2 with ⟨hv, h0⟩ | ⟨g, cap, cur, hv, hb, hg, hcap, -⟩
  · have hx : xs = [] := List.eq_nil_of_length_eq_zero (by rw [h.1, h0]; simp)
    exact ⟨none, 0, by rw [hv, h0], by omega, by rw [hx]; exact FlatQ.nil _ _ _, fun _ => ⟨h0, rfl⟩⟩
  · subst hv
    exact ⟨some ⟨g, 0, none⟩, cap, rfl, hcap, fun j u hu => ⟨g, 0, rfl, ⟨hb, (Array.getElem?_eq_some_iff.1 hg).1⟩, by have := h.cells (g := g) rfl j u hu; rw [addr_addQ] at this; exact this⟩, fun q => by cases q⟩
section
variable {P : Program}
/-- 'append' to a slice that has no room for so much: what comes is a row of the call's own; where nothing is appended, the slice itself. -/
theorem run_append_full (w : World) (t ty e : TypeId) (i : TypeInfo) (z : Value) (size bytes : Nat) (h1 : P.underlying t = some (.slice e)) (h2 : P.info? e = some i) (h3 : i.zero = some z) (h4 : i.size = size) (h5 : i.bytes = bytes) (h6 : z.cells.size = size) (h7 : 0 < size)
    {Q R : Nat → Prop} (A : Option Addr) (n cap : Nat) (olds : List Value) (hnone : A = none → n = 0 ∧ cap = 0) (hcap : n ≤ cap) (hlo : olds.length = n * size) (holds : FlatQ Q w A olds)
    (X : Option Addr) (m c : Nat) (news : List Value) (hn : news.length = m * size) (hc : FlatQ R w X news) (h1c : ∀ u ∈ news, u.oneCell' = true)
    (hfull : m = 0 ∨ cap < n + m) (b1 : n + m ≤ maxLen) (b2 : (n + m) * bytes ≤ 140737488355328) :
    ∃ B cap' w', (Builtin.append_ #[t, t] ty #[.slice A n cap, .slice X m c]).run P w = .ok (.slice B (n + m) cap') w' ∧ w.grownBy w' none ∧ n + m ≤ cap' ∧ (m = 0 ∧ B = A ∧ cap' = cap ∧ w' = w ∨ 0 < m ∧ w'.ownsRow w.heap.size e size (.slice B (n + m) cap') (n + m) (olds ++ news)) := by
  by_cases hm : m = 0
  · subst hm
    obtain rfl : news = [] := List.eq_nil_of_length_eq_zero (by rw [hn]; simp)
    have hrun := run_append_nothing (P := P) w t t ty e i h1 h2 A n cap hcap (.slice X 0 c) ⟨.inl ⟨e, h1⟩, fun w' => by simp [Builtin.lenOf], by cases X <;> simp [Builtin.firstCells, h4, loadCells, loadCellsFrom], by cases X <;> simp [Builtin.firstCells, h4, loadCells, loadCellsFrom], by simp, fun u hu => by cases hu⟩
    exact ⟨A, cap, w, hrun, ⟨rfl, rfl, rfl, Nat.le_refl _, fun _ _ _ => rfl⟩, hcap, .inl ⟨rfl, rfl, rfl, rfl⟩⟩
  · have hpos : 0 < news.length := by rw [hn]; exact Nat.mul_pos (by omega) h7
    obtain ⟨xb, xo, hX, -, -⟩ := hc 0 news[0] (List.getElem?_eq_getElem hpos)
    subst hX
    have hnews : ∀ j u, news[j]? = some u → w.cell? ((⟨xb, xo, none⟩ : Addr).add j) = some u := fun j u hu => by
      obtain ⟨b', off, e1, -, e3⟩ := hc j u hu
      injection e1 with e1
      injection e1 with e1 e2
      subst e1 e2
      rw [addr_addQ]
      exact e3
    cases A with
    | none =>
      obtain ⟨rfl, rfl⟩ := hnone rfl
      obtain rfl : olds = [] := List.eq_nil_of_length_eq_zero (by simpa using hlo)
      obtain ⟨v', w', hr, h8, h9, -⟩ := run_append_own (P := P) w w.heap.size t ty e i z size bytes h1 h2 h3 h4 h5 h6 h7 (.slice none 0 0) 0 [] (World.ownsRow_nil w _ e size) ⟨xb, xo, none⟩ m c news hn hnews h1c b1 b2 (Nat.le_refl _)
      obtain ⟨B, cap', rfl, hle, -, -⟩ := flatq_own h8
      exact ⟨B, cap', w', hr, h9, hle, .inr ⟨by omega, h8⟩⟩
    | some a =>
      obtain ⟨v', w', hr, h8, h9⟩ := run_append_arg_grows (P := P) w t ty e i z size bytes h1 h2 h3 h4 h5 h6 h7 a n cap olds hlo (fun j u hu => by
        obtain ⟨b', off, e1, -, e3⟩ := holds j u hu
        injection e1 with e1
        subst e1
        rw [addr_addQ]
        exact e3) ⟨xb, xo, none⟩ m c news hn hnews (hfull.resolve_left hm) b1 b2
      obtain ⟨B, cap', rfl, hle, -, -⟩ := flatq_own h8
      exact ⟨B, cap', w', hr, h9, hle, .inr ⟨by omega, h8⟩⟩
/-- 'append' to a row of one's own, be it of nothing. -/
theorem run_append_mine (w : World) (t ty e : TypeId) (i : TypeInfo) (z : Value) (size bytes : Nat) (h1 : P.underlying t = some (.slice e)) (h2 : P.info? e = some i) (h3 : i.zero = some z) (h4 : i.size = size) (h5 : i.bytes = bytes) (h6 : z.cells.size = size) (h7 : 0 < size)
    {R : Nat → Prop} (base : Nat) (v : Value) (n : Nat) (xs : List Value) (hown : w.ownsRow base e size v n xs)
    (X : Option Addr) (m c : Nat) (news : List Value) (hn : news.length = m * size) (hc : FlatQ R w X news) (h1c : ∀ u ∈ news, u.oneCell' = true)
    (b1 : n + m ≤ maxLen) (b2 : (n + m) * bytes ≤ 140737488355328) (hb : base ≤ w.heap.size) :
    ∃ v' w', (Builtin.append_ #[t, t] ty #[v, .slice X m c]).run P w = .ok v' w' ∧ w'.ownsRow base e size v' (n + m) (xs ++ news) ∧ w.grownBy w' v.ownBlock ∧ (v'.ownBlock = v.ownBlock ∨ v'.ownBlock = some w.heap.size) := by
  by_cases hm : m = 0
  · subst hm
    obtain rfl : news = [] := List.eq_nil_of_length_eq_zero (by rw [hn]; simp)
    obtain ⟨A, cap, rfl, hcap, -, -⟩ := flatq_own hown
    have hrun := run_append_nothing (P := P) w t t ty e i h1 h2 A n cap hcap (.slice X 0 c) ⟨.inl ⟨e, h1⟩, fun w' => by simp [Builtin.lenOf], by cases X <;> simp [Builtin.firstCells, h4, loadCells, loadCellsFrom], by cases X <;> simp [Builtin.firstCells, h4, loadCells, loadCellsFrom], by simp, fun u hu => by cases hu⟩
    exact ⟨_, w, hrun, by rw [List.append_nil]; exact hown, ⟨rfl, rfl, rfl, Nat.le_refl _, fun _ _ _ => rfl⟩, .inl rfl⟩
  · have hpos : 0 < news.length := by rw [hn]; exact Nat.mul_pos (by omega) h7
    obtain ⟨xb, xo, hX, -, -⟩ := hc 0 news[0] (List.getElem?_eq_getElem hpos)
    subst hX
    have hnews : ∀ j u, news[j]? = some u → w.cell? ((⟨xb, xo, none⟩ : Addr).add j) = some u := fun j u hu => by
      obtain ⟨b', off, e1, -, e3⟩ := hc j u hu
      injection e1 with e1
      injection e1 with e1 e2
      subst e1 e2
      rw [addr_addQ]
      exact e3
    obtain ⟨v', w', hr, h8, h9, -, h10⟩ := run_append_own_at (P := P) w base t ty e i z size bytes h1 h2 h3 h4 h5 h6 h7 v n xs hown ⟨xb, xo, none⟩ m c news hn hnews h1c b1 b2 hb
    exact ⟨v', w', hr, h8, h9, h10⟩
/-- A builtin 'append' of which it is known what it does, at the operation. -/
theorem wp_append_known {w W : World} {o : Oper} {a : Act} {K : Act → World → Prop} {Q : Exit → Act → World → Prop} (s x : Operand) (t : TypeId)
    (ho : o.op = .call { callee := .builtin .append, args := #[s, x], argTypes := #[t, t] }) (v u r : Value) (hs : a.eval s = v) (hx : a.eval x = u)
    (hr : (Builtin.append_ #[t, t] o.type #[v, u]).run P w = .ok r W) (h : K (a.put o.dst r) W) : o.wp P a w K Q := by
  unfold Oper.wp execOp
  simp only [ho, resolve, invoke, builtin, Sem.run_bind, Sem.run_pure, Result.andThen_ok, List.map_toArray, List.map_cons, List.map_nil, hs, hx, hr]
  exact h
/-- At a plain region's list. -/
theorem wpList_append_known {w W : World} {ops : Array Oper} {rest : List Oper} {o : Oper} {a : Act} {Q : Exit → Act → World → Prop} (hgd : o.guard = none) (s x : Operand) (t : TypeId)
    (ho : o.op = .call { callee := .builtin .append, args := #[s, x], argTypes := #[t, t] }) (v u r : Value) (hs : a.eval s = v) (hx : a.eval x = u)
    (hr : (Builtin.append_ #[t, t] o.type #[v, u]).run P w = .ok r W) (h : wpList P ops Q rest (a.put o.dst r) W) : wpList P ops Q (o :: rest) a w :=
  wpList_plain hgd fun _ hK => wp_append_known s x t ho v u r hs hx hr (hK _ _ h)
/-- At a step of a region that draws. -/
theorem step_append_known {w W : World} {ops : Array Oper} {o : Oper} {a : Act} {K : Act → World → Prop} {Q : Exit → Act → World → Prop} {E : Prop} (hgd : o.guard = none) (s x : Operand) (t : TypeId)
    (ho : o.op = .call { callee := .builtin .append, args := #[s, x], argTypes := #[t, t] }) (v u r : Value) (hs : a.eval s = v) (hx : a.eval x = u)
    (hr : (Builtin.append_ #[t, t] o.type #[v, u]).run P w = .ok r W) (h : K (a.put o.dst r) W) : if Region.wanted o (yielded ops a.tmps) = true then Oper.wp P o a w K Q else E := by
  have hw : Region.wanted o (yielded ops a.tmps) = true := by simp [Region.wanted, hgd]
  rw [if_pos hw]
  exact wp_append_known s x t ho v u r hs hx hr h
end
end Go.Proofs.YteofmahbimkggaaDoor

/- Layer 29: a book in memory; forget, fits. -/
namespace Go.Proofs.YteofmahbimkggaaDoor
set_option linter.unusedVariables false
open Go.RowKit

/-- The cells of views. -/
def vsC (l : List V4) : List Value := l.flatMap viewC
theorem vsC_append (l m : List V4) : vsC (l ++ m) = vsC l ++ vsC m := by simp [vsC]
theorem vsC_len (l : List V4) : (vsC l).length = l.length * 8 := by
  induction l with
  | nil => rfl
  | cons x l ih => show (viewC x ++ vsC l).length = _; rw [List.length_append, ih]; show 8 + _ = _; simp; omega
theorem vsC_get : ∀ (D : List V4) (k j : Nat) (hk : k < D.length), j < 8 → (vsC D)[8 * k + j]? = (viewC D[k])[j]?
  | x :: D, 0, j, _, hj => by
    show (viewC x ++ vsC D)[8 * 0 + j]? = _
    rw [List.getElem?_append_left (by show 8 * 0 + j < 8; omega)]
    simp
  | x :: D, k + 1, j, hk, hj => by
    show (viewC x ++ vsC D)[8 * (k + 1) + j]? = _
    rw [List.getElem?_append_right (by show 8 ≤ _; omega)]
    have e : 8 * (k + 1) + j - (viewC x).length = 8 * k + j := by show 8 * (k + 1) + j - 8 = _; omega
    rw [e, vsC_get D k j (by simpa using hk) hj]
    rfl
theorem viewC_one (x : V4) : ∀ u ∈ viewC x, u.oneCell' = true := fun u hu => by
  simp only [viewC, List.mem_cons, List.not_mem_nil, or_false] at hu
  rcases hu with rfl | rfl | rfl | rfl | rfl | rfl | rfl | rfl <;> rfl
theorem vsC_one (l : List V4) : ∀ u ∈ vsC l, u.oneCell' = true := fun u hu => by
  obtain ⟨x, hx, h⟩ := List.mem_flatMap.1 hu
  exact viewC_one x u h
/-- A row of views that a book holds: no kind S, not the book's block. -/
def RwV (S : Nat → Prop) (g : Nat) (v : Value) (L : List V4) (w : World) : Prop :=
  (L = [] ∧ ∃ A, v = .slice A 0 0) ∨ ∃ b c cur, v = .slice (some ⟨b, 0, none⟩) L.length c ∧ b ≠ g ∧ ¬ S b ∧ w.heap[b]? = some (.cells cur 53 (0, 0)) ∧ L.length ≤ c ∧ cur.toList.take (L.length * 8) = vsC L
/-- A book: in block g, waiting for the message N of T, with the views L. -/
structure BkS (S : Nat → Prop) (g : Nat) (T N : Int) (L : List V4) (v : Value) (w : World) : Prop where
  c0 : w.cell? ⟨g, 0, none⟩ = some (.bool true)
  c1 : w.cell? ⟨g, 1, none⟩ = some (.int .i64 T)
  c2 : w.cell? ⟨g, 2, none⟩ = some (.int .i64 N)
  c3 : w.cell? ⟨g, 3, none⟩ = some v
  row : RwV S g v L w
  fro : ∀ o, w.frozen? ⟨g, o, none⟩ = false
  out : ¬ S g
  lt : ∀ k, S k → k < w.heap.size
def BkI (S : Nat → Prop) (g : Nat) (T N : Int) (L : List V4) (w : World) : Prop := ∃ v, BkS S g T N L v w
theorem RwV.keep {S : Nat → Prop} {g : Nat} {v : Value} {L : List V4} {w w' : World} (h : RwV S g v L w) (hk : ∀ b, b ≠ g → ¬ S b → b < w.heap.size → w'.heap[b]? = w.heap[b]?) : RwV S g v L w' := by
  rcases h with h | ⟨b, c, cur, rfl, h1, h2, h3, h4⟩
  · exact .inl h
  · exact .inr ⟨b, c, cur, rfl, h1, h2, (hk b h1 h2 (Array.getElem?_eq_some_iff.1 h3).1).trans h3, h4⟩
/-- Something else goes on: what lies in no block of the kind S stays as it was. -/
theorem BkS.grown {S : Nat → Prop} {g : Nat} {T N : Int} {L : List V4} {v : Value} {w w' : World} (h : BkS S g T N L v w) (hs : w.heap.size ≤ w'.heap.size) (hk : ∀ b, ¬ S b → b < w.heap.size → w'.heap[b]? = w.heap[b]?) : BkS (fun k => S k ∨ (w.heap.size ≤ k ∧ k < w'.heap.size)) g T N L v w' := by
  have hg := lt_of_cellQ h.c0
  have c := fun o => World.cell?_of_block (a := ⟨g, o, none⟩) (hk g h.out hg)
  refine ⟨(c 0).trans h.c0, (c 1).trans h.c1, (c 2).trans h.c2, (c 3).trans h.c3, ?_, fun o => (World.frozen?_of_block (a := ⟨g, o, none⟩) (hk g h.out hg)).trans (h.fro o), fun e => e.elim h.out (fun e => by omega), fun k q => q.elim (fun q => Nat.lt_of_lt_of_le (h.lt k q) hs) (fun q => q.2)⟩
  rcases h.row with ⟨e, A, e2⟩ | ⟨b, c', cur, e, h1, h2', h3, h4⟩
  · exact .inl ⟨e, A, e2⟩
  · have hbl := (Array.getElem?_eq_some_iff.1 h3).1
    exact .inr ⟨b, c', cur, e, h1, fun q => q.elim h2' (fun q => by omega), (hk b h2' hbl).trans h3, h4⟩
theorem BkS.also {S : Nat → Prop} {g : Nat} {T N : Int} {L : List V4} {v : Value} {w w' : World} (h : BkS S g T N L v w) (hb : Below w.heap.size w w') : BkS (fun k => S k ∨ (w.heap.size ≤ k ∧ k < w'.heap.size)) g T N L v w' :=
  h.grown hb.size fun b _ hl => hb.block b hl
theorem BkS.less {S T' : Nat → Prop} {g : Nat} {T N : Int} {L : List V4} {v : Value} {w : World} (h : BkS S g T N L v w) (hT : ∀ k, T' k → S k) : BkS T' g T N L v w := by
  refine { h with row := ?_, out := fun e => h.out (hT _ e), lt := fun k hk => h.lt k (hT k hk) }
  rcases h.row with ⟨e, A, e2⟩ | ⟨b, c, cur, e, h1, h2', h3, h4⟩
  · exact .inl ⟨e, A, e2⟩
  · exact .inr ⟨b, c, cur, e, h1, fun q => h2' (hT _ q), h3, h4⟩
theorem BkI.also {S : Nat → Prop} {g : Nat} {T N : Int} {L : List V4} {w w' : World} (h : BkI S g T N L w) (hb : Below w.heap.size w w') : BkI (fun k => S k ∨ (w.heap.size ≤ k ∧ k < w'.heap.size)) g T N L w' := let ⟨v, a⟩ := h; ⟨v, a.also hb⟩
theorem BkI.less {S T' : Nat → Prop} {g : Nat} {T N : Int} {L : List V4} {w : World} (h : BkI S g T N L w) (hT : ∀ k, T' k → S k) : BkI T' g T N L w := let ⟨v, a⟩ := h; ⟨v, a.less hT⟩
theorem BkI.lt {S : Nat → Prop} {g : Nat} {T N : Int} {L : List V4} {w : World} (h : BkI S g T N L w) : ∀ k, S k → k < w.heap.size := let ⟨_, a⟩ := h; a.lt
theorem BkI.c0 {S : Nat → Prop} {g : Nat} {T N : Int} {L : List V4} {w : World} (h : BkI S g T N L w) : w.cell? ⟨g, 0, none⟩ = some (.bool true) := let ⟨_, a⟩ := h; a.c0
theorem BkS.form {S : Nat → Prop} {g : Nat} {T N : Int} {L : List V4} {v : Value} {w : World} (h : BkS S g T N L v w) : ∃ A c, v = .slice A L.length c ∧ L.length ≤ c ∧ (A = none → L.length = 0 ∧ c = 0) ∧ FlatQ (fun b => ¬ S b ∧ b ≠ g ∧ b < w.heap.size) w A (vsC L) := by
  rcases h.row with ⟨rfl, A, e2⟩ | ⟨b, c, cur, e, h1, h2, h3, h4, h5⟩
  · exact ⟨A, 0, e2, Nat.le_refl _, fun _ => ⟨rfl, rfl⟩, FlatQ.nil _ _ _⟩
  · refine ⟨_, c, e, h4, fun q => (by cases q), fun j u hu => ⟨b, 0, rfl, ⟨h2, h1, (Array.getElem?_eq_some_iff.1 h3).1⟩, ?_⟩⟩
    rw [Nat.zero_add, cell_of_row w b j cur _ _ h3]
    rw [← h5, List.getElem?_take] at hu
    split at hu
    · simpa using hu
    · cases hu

theorem view_zero (w : World) : (zeroValue 53).run Tryd.prog w = .ok (.agg #[.bool false, .int .i64 0, .bool false, .int .i64 0, .bool false, .int .i64 0, .bool false, .int .i64 0]) w := by kernel_rfl
def zViews (n : Nat) : List Value := (Builtin.zeroCells #[Value.bool false, .int .i64 0, .bool false, .int .i64 0, .bool false, .int .i64 0, .bool false, .int .i64 0] n).toList
theorem zViews_len (n : Nat) : (zViews n).length = n * 8 := by simp [zViews, Builtin.zeroCells]
theorem clear_views (w : World) (b n c ty : Nat) (cur : Array Value) (hg : w.heap[b]? = some (.cells cur 53 (0, 0))) (hn : 0 < n) (hs : n * 8 ≤ cur.size) :
    (Builtin.clear_ #[24] ty #[.slice (some ⟨b, 0, none⟩) n c]).run Tryd.prog w = .ok (.tuple #[]) (w.setCells b 0 (zViews n)) := by
  have hst := run_storeCells_cells (P := Tryd.prog) b 0 (zViews n) 0 w (fun j hj => by
      rw [zViews_len] at hj
      rw [cell_of_row w b (0 + 0 + j) cur _ _ hg, Array.getElem?_eq_getElem (by omega)]; rfl) (fun j hj => by simp [World.frozen?, hg]) (by
      intro v hv
      unfold zViews at hv
      simp only [Builtin.zeroCells, Array.toList_map, Array.toList_range, List.mem_map, List.mem_range] at hv
      obtain ⟨i, -, rfl⟩ := hv
      have : i % 8 < 8 := Nat.mod_lt _ (by omega)
      show (#[Value.bool false, .int .i64 0, .bool false, .int .i64 0, .bool false, .int .i64 0, .bool false, .int .i64 0][i % 8]!).oneCell' = true
      generalize i % 8 = k at *
      rcases (by omega : k = 0 ∨ k = 1 ∨ k = 2 ∨ k = 3 ∨ k = 4 ∨ k = 5 ∨ k = 6 ∨ k = 7) with rfl | rfl | rfl | rfl | rfl | rfl | rfl | rfl <;> rfl)
  simp only [Nat.add_zero] at hst
  obtain ⟨m, rfl⟩ : ∃ m, n = m + 1 := ⟨n - 1, by omega⟩
  unfold zViews at hst ⊢
  simp [Builtin.clear_, run_underlying Tryd.underlying24, Value.cells, hst]
theorem clear_zero (w : World) (A : Option Addr) (c ty : Nat) : (Builtin.clear_ #[24] ty #[.slice A 0 c]).run Tryd.prog w = .ok (.tuple #[]) w := by
  cases A <;> simp [Builtin.clear_, run_underlying Tryd.underlying24]
theorem BkS.set1 {S : Nat → Prop} {g : Nat} {T N : Int} {L : List V4} {v : Value} {w : World} (h : BkS S g T N L v w) (T' : Int) : BkS S g T' N L v (w.setCell ⟨g, 1, none⟩ (.int .i64 T')) := by
  have o : ∀ j, j ≠ 1 → (w.setCell ⟨g, 1, none⟩ (.int .i64 T')).cell? ⟨g, j, none⟩ = w.cell? ⟨g, j, none⟩ := fun j hj => World.cell?_setCell_other _ _ _ _ (fun e => by injection e with _ e; exact hj e.symm)
  refine ⟨(o 0 (by decide)).trans h.c0, World.cell?_setCell_same _ _ _ h.c1, (o 2 (by decide)).trans h.c2, (o 3 (by decide)).trans h.c3, ?_, fun o => by rw [World.frozen?_setCell]; exact h.fro o, h.out, fun k hk => by simpa using h.lt k hk⟩
  exact h.row.keep fun b h1 _ _ => Below.heap_setCell _ _ _ _ h1
theorem BkS.set2 {S : Nat → Prop} {g : Nat} {T N : Int} {L : List V4} {v : Value} {w : World} (h : BkS S g T N L v w) (N' : Int) : BkS S g T N' L v (w.setCell ⟨g, 2, none⟩ (.int .i64 N')) := by
  have o : ∀ j, j ≠ 2 → (w.setCell ⟨g, 2, none⟩ (.int .i64 N')).cell? ⟨g, j, none⟩ = w.cell? ⟨g, j, none⟩ := fun j hj => World.cell?_setCell_other _ _ _ _ (fun e => by injection e with _ e; exact hj e.symm)
  refine ⟨(o 0 (by decide)).trans h.c0, (o 1 (by decide)).trans h.c1, World.cell?_setCell_same _ _ _ h.c2, (o 3 (by decide)).trans h.c3, ?_, fun o => by rw [World.frozen?_setCell]; exact h.fro o, h.out, fun k hk => by simpa using h.lt k hk⟩
  exact h.row.keep fun b h1 _ _ => Below.heap_setCell _ _ _ _ h1
theorem BkS.set3 {S : Nat → Prop} {g : Nat} {T N : Int} {L L' : List V4} {v v' : Value} {w : World} (h : BkS S g T N L v w) (hr : RwV S g v' L' w) : BkS S g T N L' v' (w.setCell ⟨g, 3, none⟩ v') := by
  have o : ∀ j, j ≠ 3 → (w.setCell ⟨g, 3, none⟩ v').cell? ⟨g, j, none⟩ = w.cell? ⟨g, j, none⟩ := fun j hj => World.cell?_setCell_other _ _ _ _ (fun e => by injection e with _ e; exact hj e.symm)
  refine ⟨(o 0 (by decide)).trans h.c0, (o 1 (by decide)).trans h.c1, (o 2 (by decide)).trans h.c2, World.cell?_setCell_same _ _ _ h.c3, ?_, fun o => by rw [World.frozen?_setCell]; exact h.fro o, h.out, fun k hk => by simpa using h.lt k hk⟩
  exact hr.keep fun b h1 _ _ => Below.heap_setCell _ _ _ _ h1
theorem BkS.drewN {S : Nat → Prop} {g : Nat} {T N : Int} {L : List V4} {v : Value} {w : World} (h : BkS S g T N L v w) (n : Nat) : BkS S g T N L v (w.drewN n) := ⟨h.c0, h.c1, h.c2, h.c3, h.row, h.fro, h.out, h.lt⟩
theorem BkS.drew {S : Nat → Prop} {g : Nat} {T N : Int} {L : List V4} {v : Value} {w : World} (h : BkS S g T N L v w) : BkS S g T N L v w.drew := ⟨h.c0, h.c1, h.c2, h.c3, h.row, h.fro, h.out, h.lt⟩
/-- What clear leaves. -/
theorem BkS.cleared {S : Nat → Prop} {g : Nat} {T N : Int} {L : List V4} {v : Value} {w : World} (h : BkS S g T N L v w) : ∃ A c W, v = .slice A L.length c ∧ L.length ≤ c ∧ (A = none → L.length = 0 ∧ c = 0) ∧ (∀ ty, (Builtin.clear_ #[24] ty #[.slice A L.length c]).run Tryd.prog w = .ok (.tuple #[]) W) ∧ BkS S g T N [] (.slice A 0 0) (W.setCell ⟨g, 3, none⟩ (.slice A 0 0)) ∧ KeptS S w W ∧ (∀ o, W.cell? ⟨g, o, none⟩ = w.cell? ⟨g, o, none⟩) ∧ ∀ o, W.frozen? ⟨g, o, none⟩ = false := by
  rcases h.row with ⟨rfl, A, e2⟩ | ⟨b, c, cur, e, h1, h2, h3, h4, h5⟩
  · refine ⟨A, 0, w, e2, Nat.le_refl _, fun _ => ⟨rfl, rfl⟩, fun ty => clear_zero w A 0 ty, h.set3 (.inl ⟨rfl, A, rfl⟩), KeptS.refl _ _, fun _ => rfl, h.fro⟩
  · rcases Nat.eq_zero_or_pos L.length with h0 | h0
    · refine ⟨_, c, w, e, h4, fun q => (by cases q), fun ty => by rw [h0]; exact clear_zero w _ c ty, h.set3 (.inl ⟨rfl, _, rfl⟩), KeptS.refl _ _, fun _ => rfl, h.fro⟩
    · have hsz : L.length * 8 ≤ cur.size := by
        have := congrArg List.length h5
        rw [vsC_len, List.length_take] at this
        simp at this
        omega
      have hk : ∀ k, k ≠ b → (w.setCells b 0 (zViews L.length)).heap[k]? = w.heap[k]? := fun k hk => (KeptS.cells (S := fun i => i ≠ b) (fun q => q rfl) _ _ _).block k hk
      have hc : ∀ o, (w.setCells b 0 (zViews L.length)).cell? ⟨g, o, none⟩ = w.cell? ⟨g, o, none⟩ := fun o => World.cell?_of_block (a := ⟨g, o, none⟩) (hk g (Ne.symm h1))
      have hf : ∀ o, (w.setCells b 0 (zViews L.length)).frozen? ⟨g, o, none⟩ = false := fun o => (World.frozen?_of_block (a := ⟨g, o, none⟩) (hk g (Ne.symm h1))).trans (h.fro o)
      have hKS : KeptS S w (w.setCells b 0 (zViews L.length)) := KeptS.cells h2 _ _ _
      refine ⟨_, c, w.setCells b 0 (zViews L.length), e, h4, fun q => (by cases q), fun ty => clear_views w b _ c ty cur h3 h0 hsz, ?_, hKS, hc, hf⟩
      have hB : BkS S g T N [] (.slice (some ⟨b, 0, none⟩) 0 0) ((w.setCells b 0 (zViews L.length)).setCell ⟨g, 3, none⟩ (.slice (some ⟨b, 0, none⟩) 0 0)) := by
        have o : ∀ j, j ≠ 3 → ((w.setCells b 0 (zViews L.length)).setCell ⟨g, 3, none⟩ (.slice (some ⟨b, 0, none⟩) 0 0)).cell? ⟨g, j, none⟩ = w.cell? ⟨g, j, none⟩ := fun j hj => (World.cell?_setCell_other _ _ _ _ (fun e => by injection e with _ e; exact hj e.symm)).trans (hc j)
        exact ⟨(o 0 (by decide)).trans h.c0, (o 1 (by decide)).trans h.c1, (o 2 (by decide)).trans h.c2, World.cell?_setCell_same _ _ _ ((hc 3).trans h.c3), .inl ⟨rfl, _, rfl⟩, fun o => by rw [World.frozen?_setCell]; exact hf o, h.out, fun k hk => by have := h.lt k hk; have := hKS.size; simp; omega⟩
      exact hB
set_option maxRecDepth 8000 in
set_option maxHeartbeats 1000000 in
theorem gsvforget_any {S : Nat → Prop} {g : Nat} {T N : Int} {L : List V4} {w : World} (h : BkI S g T N L w) : Calls Tryd.prog 14 #[.pointer (some ⟨g, 0, none⟩)] w fun e w' => e = .returned (.tuple #[]) ∧ BkI S g 0 0 [] w' ∧ KeptS S w w' := by
  obtain ⟨v, a⟩ := h
  obtain ⟨A, c, W, rfl, hc, hnone, hW, hB, hk, hcell, hf⟩ := a.cleared
  generalize hn : L.length = n at *
  have c1 := (hcell 1).trans a.c1
  have c2 := (hcell 2).trans a.c2
  have c3 := (hcell 3).trans a.c3
  have z3 := a.c3
  have f1 := hf 1
  have f2 := hf 2
  have f3 := hf 3
  have HB : Hid (∀ m, BkI S g 0 0 [] ((((W.setCell ⟨g, 1, none⟩ (.int .i64 0)).setCell ⟨g, 2, none⟩ (.int .i64 0)).setCell ⟨g, 3, none⟩ (.slice A 0 0)).drewN m) ∧ KeptS S w ((((W.setCell ⟨g, 1, none⟩ (.int .i64 0)).setCell ⟨g, 2, none⟩ (.int .i64 0)).setCell ⟨g, 3, none⟩ (.slice A 0 0)).drewN m)) := by
    intro m
    have ho := a.out
    have hWS : BkS S g T N [] (.slice A n c) W → False ∨ True := fun _ => .inr trivial
    have hB' : BkS S g 0 0 [] (.slice A 0 0) (((W.setCell ⟨g, 1, none⟩ (.int .i64 0)).setCell ⟨g, 2, none⟩ (.int .i64 0)).setCell ⟨g, 3, none⟩ (.slice A 0 0)) := by
      have o : ∀ (w : World) (i j : Nat) (u : Value), i ≠ j → (w.setCell ⟨g, i, none⟩ u).cell? ⟨g, j, none⟩ = w.cell? ⟨g, j, none⟩ := fun w i j u hij => World.cell?_setCell_other _ _ _ _ (fun q => by injection q with _ q; exact hij q)
      refine ⟨?_, ?_, ?_, ?_, .inl ⟨rfl, A, rfl⟩, fun o => by simp [hf o], ho, fun k hk' => by have := a.lt k hk'; have := hk.size; simp; omega⟩
      · rw [o _ _ _ _ (by omega), o _ _ _ _ (by omega), o _ _ _ _ (by omega)]; exact (hcell 0).trans a.c0
      · rw [o _ _ _ _ (by omega), o _ _ _ _ (by omega), World.cell?_setCell_same _ _ _ c1]
      · rw [o _ _ _ _ (by omega), World.cell?_setCell_same _ _ _ ((o _ _ _ _ (by omega)).trans c2)]
      · exact World.cell?_setCell_same _ _ _ ((o _ _ _ _ (by omega)).trans ((o _ _ _ _ (by omega)).trans c3))
    exact ⟨⟨_, hB'.drewN m⟩, (((hk.set ho _ _).set ho _ _).set ho _ _).drewN m⟩
  clear hB hk hcell hf hn a
  cases A with
  | none =>
    obtain ⟨rfl, rfl⟩ := hnone rfl
    go_enter Tryd.func14, Tryd.ntmps14
    go_wp2_with fail
    go_region_with (fail)
    all_goals go_wp2_with fail
    all_goals go_end0
    all_goals exact ⟨rfl, HB.out 1⟩
  | some ad =>
    clear hnone
    go_enter Tryd.func14, Tryd.ntmps14
    go_wp2_with fail
    go_region_with (fail)
    all_goals go_wp2_with fail
    all_goals go_end0
    all_goals exact ⟨rfl, HB.out 1⟩
end Go.Proofs.YteofmahbimkggaaDoor

/- Layer 29: fits, Clone. -/
namespace Go.Proofs.YteofmahbimkggaaDoor
set_option linter.unusedVariables false
open Go.RowKit

/-- A book, plainly. -/
structure Bk where
  T : Int
  N : Int
  L : List V4
def badM (m : GsvD) : Prop := m.T < 1 ∨ 9 < m.T ∨ m.N < 1 ∨ m.T < m.N ∨ 4 < m.L.length
instance (m : GsvD) : Decidable (badM m) := by unfold badM; infer_instance
def fitK (k : Bk) (m : GsvD) : Bk := if badM m then k else if m.N = 1 then ⟨m.T, 1, []⟩ else k
def fitB (k : Bk) (m : GsvD) : Bool := !decide (badM m) && (decide (m.N = (fitK k m).N) && decide (m.T = (fitK k m).T))
def FitPost (S : Nat → Prop) (g : Nat) (k : Bk) (m : GsvD) (w : World) (e : Ending) (w' : World) : Prop :=
  e = .returned (.bool (fitB k m)) ∧ BkI S g (fitK k m).T (fitK k m).N (fitK k m).L w' ∧ KeptS S w w'
def BkP (S : Nat → Prop) (g : Nat) (k : Bk) (w : World) : Prop := BkI S g k.T k.N k.L w

theorem BkI.below {S : Nat → Prop} {g : Nat} {T N : Int} {L : List V4} {w w' : World} (h : BkI S g T N L w) (hb : Below w.heap.size w w') : BkI S g T N L w' ∧ KeptS S w w' :=
  ⟨(h.also hb).less (fun _ q => .inl q), KeptS.of_below hb h.lt⟩
set_option maxRecDepth 8000 in
set_option maxHeartbeats 4000000 in
theorem gsvfits_bad {S : Nat → Prop} {g : Nat} {k : Bk} {w : World} (T N S' : Int) (A : Option Addr) (n c : Nat) (L : List V4) (hn : Hid (L.length = n)) (h : BkP S g k w) (hb : badM ⟨T, N, S', L⟩) (hm : n ≤ maxLen) :
    Calls Tryd.prog 13 #[.pointer (some ⟨g, 0, none⟩), gsvV T N S' A n c] w (FitPost S g k ⟨T, N, S', L⟩ w) := by
  unfold maxLen at hm
  have HP : Hid (FitPost S g k ⟨T, N, S', L⟩ w (.returned (.bool false)) (w.alloc (.cells (gsvC T N S' A n c) 26))) := by
    have e1 : fitB k ⟨T, N, S', L⟩ = false := by unfold fitB; rw [decide_eq_true hb]; rfl
    have e2 : fitK k ⟨T, N, S', L⟩ = k := if_pos hb
    obtain ⟨h1, h2⟩ := BkI.below h (below_new w (.cells (gsvC T N S' A n c) 26))
    exact ⟨by rw [e1], by rw [e2]; exact h1, h2⟩
  have hb' : T < 1 ∨ 9 < T ∨ N < 1 ∨ T < N ∨ (4 : Int) < (n : Int) := by
    have := hn.out
    rcases hb with h | h | h | h | h
    · exact .inl h
    · exact .inr (.inl h)
    · exact .inr (.inr (.inl h))
    · exact .inr (.inr (.inr (.inl h)))
    · refine .inr (.inr (.inr (.inr ?_)))
      have h' : 4 < L.length := h
      omega
  clear hb h hn
  rcases hb' with h | h | h | h | h
  · go_enter Tryd.func13, Tryd.ntmps13
    go_wp2
    go_ret
    exact HP.out
  · have i1 : 1 ≤ T := by omega
    go_enter Tryd.func13, Tryd.ntmps13
    go_wp2
    go_ret
    exact HP.out
  · go_enter Tryd.func13, Tryd.ntmps13
    go_wp2
    all_goals go_ret
    all_goals exact HP.out
  · go_enter Tryd.func13, Tryd.ntmps13
    go_wp2
    all_goals go_ret
    all_goals exact HP.out
  · go_enter Tryd.func13, Tryd.ntmps13
    go_wp2
    all_goals go_ret
    all_goals exact HP.out
set_option maxRecDepth 8000 in
set_option maxHeartbeats 4000000 in
theorem gsvfits_first {S : Nat → Prop} {g : Nat} {k : Bk} {w : World} (T S' : Int) (A : Option Addr) (n c : Nat) (L : List V4) (hn : Hid (L.length = n)) (h : BkP S g k w) (hb : ¬ badM ⟨T, 1, S', L⟩) :
    Calls Tryd.prog 13 #[.pointer (some ⟨g, 0, none⟩), gsvV T 1 S' A n c] w (FitPost S g k ⟨T, 1, S', L⟩ w) := by
  have e2 : fitK k ⟨T, 1, S', L⟩ = ⟨T, 1, []⟩ := (if_neg hb).trans (if_pos rfl)
  have e1 : fitB k ⟨T, 1, S', L⟩ = true := by unfold fitB; rw [e2, decide_eq_false hb]; simp
  have HPost : ∀ e w', e = .returned (.bool true) → BkI S g T 1 [] w' → KeptS S w w' → FitPost S g k ⟨T, 1, S', L⟩ w e w' := fun e w' h1 h2 h3 => ⟨by rw [e1]; exact h1, by rw [e2]; exact h2, h3⟩
  have HPO := Lib.hid HPost
  have i1 : 1 ≤ T ∧ T ≤ 9 ∧ (n : Int) ≤ 4 := by
    have := hn.out
    have hb' : ¬ (T < 1 ∨ 9 < T ∨ (1 : Int) < 1 ∨ T < 1 ∨ 4 < L.length) := hb
    omega
  obtain ⟨i1, i2, i3⟩ := i1
  have HM0 : Hid (∀ o, (w.alloc (.cells (gsvC T 1 S' A n c) 26)).cell? ⟨w.heap.size, o, none⟩ = (gsvC T 1 S' A n c)[o]?) := fun o => World.cell?_alloc_at _ _ _ _ rfl
  have hb0 := below_new w (.cells (gsvC T 1 S' A n c) 26)
  have H0 := Lib.hid (BkI.also h hb0)
  have HK0 := Lib.hid (KeptS.of_below hb0 h.lt)
  have hSg : ∀ k, S k → k < w.heap.size := h.lt
  have HS1 : Hid (w.heap.size < (w.alloc (.cells (gsvC T 1 S' A n c) 26)).heap.size) := by show _ < _; simp
  clear h hb hn HPost e1 e2 hb0 hSg
  go_enter Tryd.func13, Tryd.ntmps13
  go_wp2_with fail
  refine (gsvforget_any H0.out).mono ?_
  rintro r w1 ⟨rfl, h1, hk1⟩
  obtain ⟨v, hB⟩ := h1
  have hM : ∀ o, w1.cell? ⟨w.heap.size, o, none⟩ = (gsvC T 1 S' A n c)[o]? := fun o => (hk1.cell (.inr ⟨Nat.le_refl _, HS1.out⟩)).trans (HM0.out o)
  have hgm : g ≠ w.heap.size := fun e => hB.out (.inr ⟨by omega, by rw [e]; exact HS1.out⟩)
  have HF : Hid (∀ m, BkI S g T 1 [] (((w1.setCell ⟨g, 1, none⟩ (.int .i64 T)).setCell ⟨g, 2, none⟩ (.int .i64 1)).drewN m) ∧ KeptS S w (((w1.setCell ⟨g, 1, none⟩ (.int .i64 T)).setCell ⟨g, 2, none⟩ (.int .i64 1)).drewN m)) := fun m =>
    ⟨⟨_, (((hB.set1 T).set2 1).drewN m).less (fun _ q => .inl q)⟩, (((HK0.out.trans (hk1.less (fun _ q => .inl q))).set (fun q => hB.out (.inl q)) _ _).set (fun q => hB.out (.inl q)) _ _).drewN m⟩
  have c1 := hB.c1
  have c2 := hB.c2
  have f1 := hB.fro 1
  have f2 := hB.fro 2
  have m0 := hM 0
  have m1 := hM 1
  have k0 := (World.cell?_setCell_other (w1.setCell ⟨g, 1, none⟩ (.int .i64 T)) ⟨g, 2, none⟩ ⟨w.heap.size, 0, none⟩ (.int .i64 1) (fun q => by injection q with q; omega)).trans ((World.cell?_setCell_other w1 ⟨g, 1, none⟩ ⟨w.heap.size, 0, none⟩ (.int .i64 T) (fun q => by injection q with q; omega)).trans m0)
  have k1 := (World.cell?_setCell_other (w1.setCell ⟨g, 1, none⟩ (.int .i64 T)) ⟨g, 2, none⟩ ⟨w.heap.size, 1, none⟩ (.int .i64 1) (fun q => by injection q with q; omega)).trans ((World.cell?_setCell_other w1 ⟨g, 1, none⟩ ⟨w.heap.size, 1, none⟩ (.int .i64 T) (fun q => by injection q with q; omega)).trans m1)
  obtain ⟨-, d1, d2, -, -, -, -, -⟩ := (hB.set1 T).set2 1
  have HGM := Lib.hid hgm
  clear hB hM hk1 H0 HK0 HM0 hgm
  go_wp2_with fail
  go_quiet (fail)
  go_wp2_with fail
  go_ret
  exact HPO.out _ _ rfl (HF.out _).1 (HF.out _).2
set_option maxRecDepth 8000 in
set_option maxHeartbeats 4000000 in
theorem gsvfits_next {S : Nat → Prop} {g : Nat} {k : Bk} {w : World} (T N S' : Int) (A : Option Addr) (n c : Nat) (L : List V4) (hn : Hid (L.length = n)) (h : BkP S g k w) (hb : ¬ badM ⟨T, N, S', L⟩) (h1 : ¬ N = 1) :
    Calls Tryd.prog 13 #[.pointer (some ⟨g, 0, none⟩), gsvV T N S' A n c] w (FitPost S g k ⟨T, N, S', L⟩ w) := by
  obtain ⟨kT, kN, kL⟩ := k
  have e2 : fitK ⟨kT, kN, kL⟩ ⟨T, N, S', L⟩ = ⟨kT, kN, kL⟩ := (if_neg hb).trans (if_neg h1)
  have e1 : fitB ⟨kT, kN, kL⟩ ⟨T, N, S', L⟩ = (decide (N = kN) && decide (T = kT)) := by unfold fitB; rw [e2, decide_eq_false hb]; simp
  have i1 : 1 ≤ T ∧ T ≤ 9 ∧ (n : Int) ≤ 4 ∧ 1 < N ∧ N ≤ T := by
    have := hn.out
    have hb' : ¬ (T < 1 ∨ 9 < T ∨ N < 1 ∨ T < N ∨ 4 < L.length) := hb
    omega
  obtain ⟨i1, i2, i3, i4, i5⟩ := i1
  have hb0 := below_new w (.cells (gsvC T N S' A n c) 26)
  have H0 := BkI.also h hb0
  have HK0 := Lib.hid (KeptS.of_below hb0 h.lt)
  have HPO : Hid (∀ m e, e = .returned (.bool (decide (N = kN) && decide (T = kT))) → FitPost S g ⟨kT, kN, kL⟩ ⟨T, N, S', L⟩ w e ((w.alloc (.cells (gsvC T N S' A n c) 26)).drewN m)) := fun m e he => ⟨by rw [e1]; exact he, by rw [e2]; obtain ⟨v, q⟩ := H0; exact ⟨v, (q.drewN m).less (fun _ q => .inl q)⟩, HK0.out.drewN m⟩
  obtain ⟨v, q⟩ := H0
  have c1 : (w.alloc (.cells (gsvC T N S' A n c) 26)).cell? ⟨g, 1, none⟩ = some (.int .i64 kT) := q.c1
  have c2 : (w.alloc (.cells (gsvC T N S' A n c) 26)).cell? ⟨g, 2, none⟩ = some (.int .i64 kN) := q.c2
  clear h hb hn e1 e2 hb0 q HK0
  by_cases a1 : N = kN
  · by_cases a2 : T = kT
    · have hd : (decide (N = kN) && decide (T = kT)) = true := by rw [decide_eq_true a1, decide_eq_true a2]; rfl
      rw [hd] at HPO
      clear hd
      subst a1 a2
      go_enter Tryd.func13, Tryd.ntmps13
      go_wp2_with fail
      go_quiet (fail)
      go_wp2_with fail
      go_ret
      exact HPO.out _ _ rfl
    · have hd : (decide (N = kN) && decide (T = kT)) = false := by rw [decide_eq_false a2, Bool.and_false]
      rw [hd] at HPO
      clear hd
      subst a1
      have b2 : (T == kT) = false := by simpa using a2
      go_enter Tryd.func13, Tryd.ntmps13
      go_wp2_with fail
      go_quiet (fail)
      go_wp2_with fail
      go_ret
      exact HPO.out _ _ rfl
  · have hd : (decide (N = kN) && decide (T = kT)) = false := by rw [decide_eq_false a1, Bool.false_and]
    rw [hd] at HPO
    clear hd
    go_enter Tryd.func13, Tryd.ntmps13
    go_wp2_with fail
    go_quiet (fail)
    go_wp2_with fail
    go_ret
    exact HPO.out _ _ rfl
theorem gsvfits_any {S : Nat → Prop} {g : Nat} {k : Bk} {w : World} (T N S' : Int) (A : Option Addr) (c : Nat) (L : List V4) (h : BkP S g k w) (hm : L.length ≤ maxLen) :
    Calls Tryd.prog 13 #[.pointer (some ⟨g, 0, none⟩), gsvV T N S' A L.length c] w (FitPost S g k ⟨T, N, S', L⟩ w) := by
  by_cases hb : badM ⟨T, N, S', L⟩
  · exact gsvfits_bad T N S' A _ c L rfl h hb hm
  · by_cases h1 : N = 1
    · subst h1
      exact gsvfits_first T S' A _ c L rfl h hb
    · exact gsvfits_next T N S' A _ c L rfl h hb h1

theorem view_info : ∃ i, Tryd.prog.info? 53 = some i ∧ i.zero = some (.agg #[.bool false, .int .i64 0, .bool false, .int .i64 0, .bool false, .int .i64 0, .bool false, .int .i64 0]) ∧ i.size = 8 ∧ i.bytes = 64 := ⟨_, rfl, rfl, rfl, rfl⟩
set_option maxRecDepth 8000 in
set_option maxHeartbeats 2000000 in
theorem CloneV_any {Q : Nat → Prop} (A : Option Addr) (L : List V4) (c : Nat) (w : World) (hA : A = none → L.length = 0 ∧ c = 0) (hs : FlatQ Q w A (vsC L)) (hn : L.length ≤ 1000000) :
    Calls Tryd.prog 15 #[.slice A L.length c] w fun e w' => ∃ B d, e = .returned (.slice B L.length d) ∧ FlatQ (fun b => w.heap.size ≤ b ∧ b < w'.heap.size) w' B (vsC L) ∧ Below w.heap.size w w' := by
  cases A with
  | none =>
    obtain ⟨h0, rfl⟩ := hA rfl
    obtain rfl := List.eq_nil_of_length_eq_zero h0
    refine (CloneV_nil w).mono ?_
    rintro e w' ⟨rfl, h⟩
    exact ⟨none, 0, rfl, FlatQ.nil _ _ _, h⟩
  | some a =>
    obtain ⟨i0, hi, hz0, hz1, hz2⟩ := view_info
    obtain ⟨n, hln⟩ : ∃ n, L.length = n := ⟨_, rfl⟩
    have HLN := Lib.hid hln
    have hown : (w.alloc (.cells #[] 53)).ownsRow w.heap.size 53 8 (.slice (some ⟨w.heap.size, 0, none⟩) 0 0) 0 [] := World.ownsRow_made w #[] 0 (Nat.le_refl _) (by decide) rfl
    obtain ⟨v', w2, hrun, h8, h9, -⟩ := run_append_mine (P := Tryd.prog) (w.alloc (.cells #[] 53)) 24 24 53 i0 _ 8 64 Tryd.underlying24 hi hz0 hz1 hz2 rfl (by decide) w.heap.size _ 0 [] hown (some a) n c (vsC L) (by rw [vsC_len, hln]) (hs.lt.below (below_new w _) (fun b h => h.2)) (vsC_one L) (by unfold maxLen; omega) (by omega) (by simp)
    rw [Nat.zero_add, List.nil_append] at h8
    have HE : Hid (∃ B d, v' = .slice B n d ∧ FlatQ (fun b => w.heap.size ≤ b ∧ b < w2.heap.size) w2 B (vsC L) ∧ Below w.heap.size w w2) := by
      obtain ⟨B, d, h1, -, h2, -⟩ := flatq_own h8
      refine ⟨B, d, h1, h2, (below_new w _).trans ⟨h9.os, h9.tape, h9.output, h9.size, fun b hb => h9.block b (by simp; omega) (fun e => by simp [Value.ownBlock] at e; omega)⟩⟩
    have HR := Lib.hid hrun
    rw [hln] at hn ⊢
    clear hs hA hln hown hrun h8 h9
    have EQ : ∀ W : World, (binOp .eql 24 (.slice (some a) n c) (.slice none 0 0)).run Tryd.prog W = .ok (.bool false) W := fun W => Lib.run_eql_slice_nil W 24 53 (some a) n c 0 0 Tryd.underlying24
    go_enter Tryd.func15, Tryd.ntmps15
    go_wp2_with (at_builtin; refine wpList_append_known rfl _ _ 24 rfl _ _ _ rfl rfl HR.out ?_)
    go_ret
    obtain ⟨B, d, h1, h2, h3⟩ := HE.out
    exact ⟨B, d, by rw [h1]; rfl, h2, h3⟩
end Go.Proofs.YteofmahbimkggaaDoor
