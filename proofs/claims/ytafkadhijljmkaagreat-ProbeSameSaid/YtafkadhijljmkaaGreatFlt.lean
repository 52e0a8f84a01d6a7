/- Slices read as flat lists of cells; append as one step, to a slice without room and to a row of one's own; what is kept. Over any program. -/
import Derived.Test.YtafkadhijljmkaaGreatBas
import Derived.Deep.Upon
import Derived.Deep.AppendLies
import Derived.ArgAppend
import Derived.Laws.IdiomCopy
namespace Go.Proofs.YtafkadhijljmkaaGreat
set_option linter.unusedVariables false
open Go.RowKit

theorem addr_addQ (b off j : Nat) : (⟨b, off, none⟩ : Addr).add j = ⟨b, off + j, none⟩ := by unfold Addr.add; split <;> simp_all
/-- A slice's cells, as a list, in blocks of a kind. -/
def FlatQ (Q : Nat → Prop) (w : World) (A : Option Addr) (xs : List Value) : Prop := ∀ (j : Nat) u, xs[j]? = some u → ∃ b off, A = some ⟨b, off, none⟩ ∧ Q b ∧ w.cell? ⟨b, off + j, none⟩ = some u
theorem FlatQ.nil (Q : Nat → Prop) (w : World) (A : Option Addr) : FlatQ Q w A [] := fun j u hu => by simp at hu
theorem FlatQ.less {Q R : Nat → Prop} {w : World} {A : Option Addr} {xs : List Value} (h : FlatQ Q w A xs) (hr : ∀ b, Q b → R b) : FlatQ R w A xs := fun j u hu => by
  obtain ⟨b, off, h1, h2, h3⟩ := h j u hu
  exact ⟨b, off, h1, hr b h2, h3⟩
theorem FlatQ.keep {Q : Nat → Prop} {w w' : World} {A : Option Addr} {xs : List Value} (h : FlatQ Q w A xs) (hk : ∀ b, Q b → w'.heap[b]? = w.heap[b]?) : FlatQ Q w' A xs := fun j u hu => by
  obtain ⟨b, off, h1, h2, h3⟩ := h j u hu
  exact ⟨b, off, h1, h2, (World.cell?_of_block (a := ⟨b, off + j, none⟩) (hk b h2)).trans h3⟩
theorem FlatQ.below {Q : Nat → Prop} {w w' : World} {A : Option Addr} {xs : List Value} {B : Nat} (h : FlatQ Q w A xs) (hb : Below B w w') (hq : ∀ b, Q b → b < B) : FlatQ Q w' A xs := h.keep fun b hq' => hb.block b (hq b hq')
theorem FlatQ.lt {Q : Nat → Prop} {w : World} {A : Option Addr} {xs : List Value} (h : FlatQ Q w A xs) : FlatQ (fun b => Q b ∧ b < w.heap.size) w A xs := fun j u hu => by
  obtain ⟨b, off, h1, h2, h3⟩ := h j u hu
  exact ⟨b, off, h1, ⟨h2, World.block_lt_of_cell? w _ h3⟩, h3⟩
theorem FlatQ.take {Q : Nat → Prop} {w : World} {A : Option Addr} {xs ys : List Value} (h : FlatQ Q w A (xs ++ ys)) : FlatQ Q w A xs := fun j u hu => by
  have hj : j < xs.length := by
    rcases Nat.lt_or_ge j xs.length with q | q
    · exact q
    · rw [List.getElem?_eq_none q] at hu; cases hu
  exact h j u (by rw [List.getElem?_append_left hj]; exact hu)

/-- What is kept: the blocks of a kind. -/
structure KeptS (S : Nat → Prop) (w w' : World) : Prop where
  os : w'.os = w.os
  tape : w'.tape = w.tape
  output : w'.output = w.output
  size : w.heap.size ≤ w'.heap.size
  block : ∀ k, S k → w'.heap[k]? = w.heap[k]?
theorem KeptS.refl (S : Nat → Prop) (w : World) : KeptS S w w := ⟨rfl, rfl, rfl, Nat.le_refl _, fun _ _ => rfl⟩
theorem KeptS.trans {S : Nat → Prop} {w w1 w2 : World} (h : KeptS S w w1) (k : KeptS S w1 w2) : KeptS S w w2 :=
  ⟨k.os.trans h.os, k.tape.trans h.tape, k.output.trans h.output, Nat.le_trans h.size k.size, fun i hi => (k.block i hi).trans (h.block i hi)⟩
theorem KeptS.of_below {S : Nat → Prop} {B : Nat} {w w' : World} (h : Below B w w') (hb : ∀ k, S k → k < B) : KeptS S w w' :=
  ⟨h.os, h.tape, h.output, h.size, fun k hk => h.block k (hb k hk)⟩
theorem KeptS.below {S : Nat → Prop} {B : Nat} {w w' : World} (h : KeptS S w w') (hb : ∀ k, k < B → S k) : Below B w w' :=
  ⟨h.os, h.tape, h.output, h.size, fun k hk => h.block k (hb k hk)⟩
theorem KeptS.less {S T : Nat → Prop} {w w' : World} (h : KeptS S w w') (hT : ∀ k, T k → S k) : KeptS T w w' := ⟨h.os, h.tape, h.output, h.size, fun k hk => h.block k (hT k hk)⟩
theorem KeptS.cell {S : Nat → Prop} {w w' : World} (h : KeptS S w w') {b o : Nat} (hb : S b) : w'.cell? ⟨b, o, none⟩ = w.cell? ⟨b, o, none⟩ := World.cell?_of_block (a := ⟨b, o, none⟩) (h.block b hb)
theorem KeptS.frozen {S : Nat → Prop} {w w' : World} (h : KeptS S w w') {b o : Nat} (hb : S b) : w'.frozen? ⟨b, o, none⟩ = w.frozen? ⟨b, o, none⟩ := World.frozen?_of_block (a := ⟨b, o, none⟩) (h.block b hb)
theorem KeptS.drewN {S : Nat → Prop} {w w' : World} (h : KeptS S w w') (n : Nat) : KeptS S w (w'.drewN n) := ⟨h.os, h.tape, h.output, h.size, h.block⟩
theorem KeptS.drew {S : Nat → Prop} {w w' : World} (h : KeptS S w w') : KeptS S w w'.drew := ⟨h.os, h.tape, h.output, h.size, h.block⟩
theorem KeptS.set {S : Nat → Prop} {w w' : World} (h : KeptS S w w') {g : Nat} (hg : ¬ S g) (o : Nat) (v : Value) : KeptS S w (w'.setCell ⟨g, o, none⟩ v) :=
  ⟨h.os, h.tape, h.output, by simpa using h.size, fun k hk => (Below.heap_setCell _ _ _ _ (fun (e : k = g) => hg (e ▸ hk))).trans (h.block k hk)⟩
theorem KeptS.cells {S : Nat → Prop} {b : Nat} (hb : ¬ S b) : ∀ (vs : List Value) (o : Nat) (w : World), KeptS S w (w.setCells b o vs)
  | [], _, w => KeptS.refl S w
  | v :: r, o, w => ((KeptS.refl S w).set hb o v).trans (KeptS.cells hb r (o + 1) _)
theorem KeptS.grown {S : Nat → Prop} {w w' : World} {row : Option Nat} (h : w.grownBy w' row) (hb : ∀ k, S k → k < w.heap.size ∧ some k ≠ row) : KeptS S w w' := ⟨h.os, h.tape, h.output, h.size, fun k hk => h.block k (hb k hk).1 (hb k hk).2⟩
theorem FlatQ.kept {Q S : Nat → Prop} {w w' : World} {A : Option Addr} {xs : List Value} (h : FlatQ Q w A xs) (hk : KeptS S w w') (hq : ∀ b, Q b → S b) : FlatQ Q w' A xs := h.keep fun b hb => hk.block b (hq b hb)

theorem lt_of_cellQ {w : World} {b o : Nat} {v : Value} (hv : w.cell? ⟨b, o, none⟩ = some v) : b < w.heap.size := by
  refine Nat.lt_of_not_le fun q => ?_
  simp [World.cell?, Array.getElem?_eq_none q] at hv
theorem flatq_own {w : World} {base : Nat} {e : TypeId} {size n : Nat} {v : Value} {xs : List Value} (h : w.ownsRow base e size v n xs) : ∃ A c, v = .slice A n c ∧ n ≤ c ∧ FlatQ (fun b => base ≤ b ∧ b < w.heap.size) w A xs ∧ (A = none → n = 0 ∧ c = 0) := by
  rcases h.2 with ⟨hv, h0⟩ | ⟨g, cap, cur, hv, hb, hg, hcap, -⟩
  · have hx : xs = [] := List.eq_nil_of_length_eq_zero (by rw [h.1, h0]; simp)
    exact ⟨none, 0, by rw [hv, h0], by omega, by rw [hx]; exact FlatQ.nil _ _ _, fun _ => ⟨h0, rfl⟩⟩
  · subst hv
    exact ⟨some ⟨g, 0, none⟩, cap, rfl, hcap, fun j u hu => ⟨g, 0, rfl, ⟨hb, (Array.getElem?_eq_some_iff.1 hg).1⟩, by have := h.cells (g := g) rfl j u hu; rw [addr_addQ] at this; exact this⟩, fun q => by cases q⟩
section
variable {P : Program}
/-- 'append' to a slice that has no room for so much: what comes is a row of the call's own; where nothing is appended, the slice itself. -/
theorem run_append_full (w : World) (t ty e : TypeId) (i : TypeInfo) (z : Value) (size bytes : Nat) (h1 : P.underlying t = some (.slice e)) (h2 : P.info? e = some i) (h3 : i.zero = some z) (h4 : i.size = size) (h5 : i.bytes = bytes) (h6 : z.cells.size = size) (h7 : 0 < size)
    {Q R : Nat → Prop} (A : Option Addr) (n cap : Nat) (olds : List Value) (hnone : A = none → n = 0 ∧ cap = 0) (hcap : n ≤ cap) (hlo : olds.length = n * size) (holds : FlatQ Q w A olds)
    (X : Option Addr) (m c : Nat) (news : List Value) (hn : news.length = m * size) (hc : FlatQ R w X news) (h1c : ∀ u ∈ news, u.oneCell' = true)
    (hfull : m = 0 ∨ cap < n + m) (b1 : n + m ≤ maxLen) (b2 : (n + m) * bytes ≤ 140737488355328) :
    ∃ B cap' w', (Builtin.append_ #[t, t] ty #[.slice A n cap, .slice X m c]).run P w = .ok (.slice B (n + m) cap') w' ∧ w.grownBy w' none ∧ n + m ≤ cap' ∧ (m = 0 ∧ B = A ∧ cap' = cap ∧ w' = w ∨ 0 < m ∧ w'.ownsRow w.heap.size e size (.slice B (n + m) cap') (n + m) (olds ++ news)) := by
  by_cases hm : m = 0
  · subst hm
    obtain rfl : news = [] := List.eq_nil_of_length_eq_zero (by rw [hn]; simp)
    have hrun := run_append_nothing (P := P) w t t ty e i h1 h2 A n cap hcap (.slice X 0 c) ⟨.inl ⟨e, h1⟩, fun w' => by simp [Builtin.lenOf], by cases X <;> simp [Builtin.firstCells, h4, loadCells, loadCellsFrom], by cases X <;> simp [Builtin.firstCells, h4, loadCells, loadCellsFrom], by simp, fun u hu => by cases hu⟩
    exact ⟨A, cap, w, hrun, ⟨rfl, rfl, rfl, Nat.le_refl _, fun _ _ _ => rfl⟩, hcap, .inl ⟨rfl, rfl, rfl, rfl⟩⟩
  · have hpos : 0 < news.length := by rw [hn]; exact Nat.mul_pos (by omega) h7
    obtain ⟨xb, xo, hX, -, -⟩ := hc 0 news[0] (List.getElem?_eq_getElem hpos)
    subst hX
    have hnews : ∀ j u, news[j]? = some u → w.cell? ((⟨xb, xo, none⟩ : Addr).add j) = some u := fun j u hu => by
      obtain ⟨b', off, e1, -, e3⟩ := hc j u hu
      injection e1 with e1
      injection e1 with e1 e2
      subst e1 e2
      rw [addr_addQ]
      exact e3
    cases A with
    | none =>
      obtain ⟨rfl, rfl⟩ := hnone rfl
      obtain rfl : olds = [] := List.eq_nil_of_length_eq_zero (by simpa using hlo)
      obtain ⟨v', w', hr, h8, h9, -⟩ := run_append_own (P := P) w w.heap.size t ty e i z size bytes h1 h2 h3 h4 h5 h6 h7 (.slice none 0 0) 0 [] (World.ownsRow_nil w _ e size) ⟨xb, xo, none⟩ m c news hn hnews h1c b1 b2 (Nat.le_refl _)
      obtain ⟨B, cap', rfl, hle, -, -⟩ := flatq_own h8
      exact ⟨B, cap', w', hr, h9, hle, .inr ⟨by omega, h8⟩⟩
    | some a =>
      obtain ⟨v', w', hr, h8, h9⟩ := run_append_arg_grows (P := P) w t ty e i z size bytes h1 h2 h3 h4 h5 h6 h7 a n cap olds hlo (fun j u hu => by
        obtain ⟨b', off, e1, -, e3⟩ := holds j u hu
        injection e1 with e1
        subst e1
        rw [addr_addQ]
        exact e3) ⟨xb, xo, none⟩ m c news hn hnews (hfull.resolve_left hm) b1 b2
      obtain ⟨B, cap', rfl, hle, -, -⟩ := flatq_own h8
      exact ⟨B, cap', w', hr, h9, hle, .inr ⟨by omega, h8⟩⟩
/-- 'append' to a row of one's own, be it of nothing. -/
theorem run_append_mine (w : World) (t ty e : TypeId) (i : TypeInfo) (z : Value) (size bytes : Nat) (h1 : P.underlying t = some (.slice e)) (h2 : P.info? e = some i) (h3 : i.zero = some z) (h4 : i.size = size) (h5 : i.bytes = bytes) (h6 : z.cells.size = size) (h7 : 0 < size)
    {R : Nat → Prop} (base : Nat) (v : Value) (n : Nat) (xs : List Value) (hown : w.ownsRow base e size v n xs)
    (X : Option Addr) (m c : Nat) (news : List Value) (hn : news.length = m * size) (hc : FlatQ R w X news) (h1c : ∀ u ∈ news, u.oneCell' = true)
    (b1 : n + m ≤ maxLen) (b2 : (n + m) * bytes ≤ 140737488355328) (hb : base ≤ w.heap.size) :
    ∃ v' w', (Builtin.append_ #[t, t] ty #[v, .slice X m c]).run P w = .ok v' w' ∧ w'.ownsRow base e size v' (n + m) (xs ++ news) ∧ w.grownBy w' v.ownBlock ∧ (v'.ownBlock = v.ownBlock ∨ v'.ownBlock = some w.heap.size) := by
  by_cases hm : m = 0
  · subst hm
    obtain rfl : news = [] := List.eq_nil_of_length_eq_zero (by rw [hn]; simp)
    obtain ⟨A, cap, rfl, hcap, -, -⟩ := flatq_own hown
    have hrun := run_append_nothing (P := P) w t t ty e i h1 h2 A n cap hcap (.slice X 0 c) ⟨.inl ⟨e, h1⟩, fun w' => by simp [Builtin.lenOf], by cases X <;> simp [Builtin.firstCells, h4, loadCells, loadCellsFrom], by cases X <;> simp [Builtin.firstCells, h4, loadCells, loadCellsFrom], by simp, fun u hu => by cases hu⟩
    exact ⟨_, w, hrun, by rw [List.append_nil]; exact hown, ⟨rfl, rfl, rfl, Nat.le_refl _, fun _ _ _ => rfl⟩, .inl rfl⟩
  · have hpos : 0 < news.length := by rw [hn]; exact Nat.mul_pos (by omega) h7
    obtain ⟨xb, xo, hX, -, -⟩ := hc 0 news[0] (List.getElem?_eq_getElem hpos)
    subst hX
    have hnews : ∀ j u, news[j]? = some u → w.cell? ((⟨xb, xo, none⟩ : Addr).add j) = some u := fun j u hu => by
      obtain ⟨b', off, e1, -, e3⟩ := hc j u hu
      injection e1 with e1
      injection e1 with e1 e2
      subst e1 e2
      rw [addr_addQ]
      exact e3
    obtain ⟨v', w', hr, h8, h9, -, h10⟩ := run_append_own_at (P := P) w base t ty e i z size bytes h1 h2 h3 h4 h5 h6 h7 v n xs hown ⟨xb, xo, none⟩ m c news hn hnews h1c b1 b2 hb
    exact ⟨v', w', hr, h8, h9, h10⟩
/-- A builtin 'append' of which it is known what it does, at the operation. -/
theorem wp_append_known {w W : World} {o : Oper} {a : Act} {K : Act → World → Prop} {Q : Exit → Act → World → Prop} (s x : Operand) (t : TypeId)
    (ho : o.op = .call { callee := .builtin .append, args := #[s, x], argTypes := #[t, t] }) (v u r : Value) (hs : a.eval s = v) (hx : a.eval x = u)
    (hr : (Builtin.append_ #[t, t] o.type #[v, u]).run P w = .ok r W) (h : K (a.put o.dst r) W) : o.wp P a w K Q := by
  unfold Oper.wp execOp
  simp only [ho, resolve, invoke, builtin, Sem.run_bind, Sem.run_pure, Result.andThen_ok, List.map_toArray, List.map_cons, List.map_nil, hs, hx, hr]
  exact h
/-- At a plain region's list. -/
theorem wpList_append_known {w W : World} {ops : Array Oper} {rest : List Oper} {o : Oper} {a : Act} {Q : Exit → Act → World → Prop} (hgd : o.guard = none) (s x : Operand) (t : TypeId)
    (ho : o.op = .call { callee := .builtin .append, args := #[s, x], argTypes := #[t, t] }) (v u r : Value) (hs : a.eval s = v) (hx : a.eval x = u)
    (hr : (Builtin.append_ #[t, t] o.type #[v, u]).run P w = .ok r W) (h : wpList P ops Q rest (a.put o.dst r) W) : wpList P ops Q (o :: rest) a w :=
  wpList_plain hgd fun _ hK => wp_append_known s x t ho v u r hs hx hr (hK _ _ h)
/-- At a step of a region that draws. -/
theorem step_append_known {w W : World} {ops : Array Oper} {o : Oper} {a : Act} {K : Act → World → Prop} {Q : Exit → Act → World → Prop} {E : Prop} (hgd : o.guard = none) (s x : Operand) (t : TypeId)
    (ho : o.op = .call { callee := .builtin .append, args := #[s, x], argTypes := #[t, t] }) (v u r : Value) (hs : a.eval s = v) (hx : a.eval x = u)
    (hr : (Builtin.append_ #[t, t] o.type #[v, u]).run P w = .ok r W) (h : K (a.put o.dst r) W) : if Region.wanted o (yielded ops a.tmps) = true then Oper.wp P o a w K Q else E := by
  have hw : Region.wanted o (yielded ops a.tmps) = true := by simp [Region.wanted, hgd]
  rw [if_pos hw]
  exact wp_append_known s x t ho v u r hs hx hr h
end
end Go.Proofs.YtafkadhijljmkaaGreat
