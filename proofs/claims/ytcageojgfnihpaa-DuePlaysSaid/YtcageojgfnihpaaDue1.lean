/- Layer 43: timers in memory; before, Less, Swap. -/
import Derived.Test.YtcageojgfnihpaaDue0
import Derived.Test.YtcageojgfnihpaaPMap
import Derived.Test.YtcageojgfnihpaaChecked
import Derived.BigQuiet
import Derived.Deep.QuietTactic
import Derived.Lib.Hide
namespace Go.Proofs.Ytcageojgfnihpaa
set_option linter.unusedVariables false
open Go.RowKit

/-- What is kept: the blocks of a kind. -/
structure KeptS (S : Nat → Prop) (w w' : World) : Prop where
  os : w'.os = w.os
  tape : w'.tape = w.tape
  output : w'.output = w.output
  size : w.heap.size ≤ w'.heap.size
  block : ∀ k, S k → w'.heap[k]? = w.heap[k]?
theorem KeptS.refl (S : Nat → Prop) (w : World) : KeptS S w w := ⟨rfl, rfl, rfl, Nat.le_refl _, fun _ _ => rfl⟩
theorem KeptS.trans {S : Nat → Prop} {w w1 w2 : World} (h : KeptS S w w1) (k : KeptS S w1 w2) : KeptS S w w2 :=
  ⟨k.os.trans h.os, k.tape.trans h.tape, k.output.trans h.output, Nat.le_trans h.size k.size, fun i hi => (k.block i hi).trans (h.block i hi)⟩
theorem KeptS.of_below {S : Nat → Prop} {w w' : World} (h : Below w.heap.size w w') (hb : ∀ k, S k → k < w.heap.size) : KeptS S w w' :=
  ⟨h.os, h.tape, h.output, h.size, fun k hk => h.block k (hb k hk)⟩
theorem KeptS.below {S : Nat → Prop} {B : Nat} {w w' : World} (h : KeptS S w w') (hb : ∀ k, k < B → S k) : Below B w w' :=
  ⟨h.os, h.tape, h.output, h.size, fun k hk => h.block k (hb k hk)⟩
theorem KeptS.less {S T : Nat → Prop} {w w' : World} (h : KeptS S w w') (hT : ∀ k, T k → S k) : KeptS T w w' := ⟨h.os, h.tape, h.output, h.size, fun k hk => h.block k (hT k hk)⟩
theorem KeptS.cell {S : Nat → Prop} {w w' : World} (h : KeptS S w w') {b o : Nat} (hb : S b) : w'.cell? ⟨b, o, none⟩ = w.cell? ⟨b, o, none⟩ := World.cell?_of_block (a := ⟨b, o, none⟩) (h.block b hb)
theorem KeptS.frozen {S : Nat → Prop} {w w' : World} (h : KeptS S w w') {b o : Nat} (hb : S b) : w'.frozen? ⟨b, o, none⟩ = w.frozen? ⟨b, o, none⟩ := World.frozen?_of_block (a := ⟨b, o, none⟩) (h.block b hb)
theorem KeptS.drewN {S : Nat → Prop} {w w' : World} (h : KeptS S w w') (n : Nat) : KeptS S w (w'.drewN n) := ⟨h.os, h.tape, h.output, h.size, h.block⟩
theorem KeptS.set {S : Nat → Prop} {w w' : World} (h : KeptS S w w') {g : Nat} (hg : ¬ S g) (o : Nat) (v : Value) : KeptS S w (w'.setCell ⟨g, o, none⟩ v) :=
  ⟨h.os, h.tape, h.output, by simpa using h.size, fun k hk => (Below.heap_setCell _ _ _ _ (fun (e : k = g) => hg (e ▸ hk))).trans (h.block k hk)⟩

/-- A timer in memory, in the place i of the row in block B. -/
structure TimI (S : Nat → Prop) (q B : Nat) (x : Tm) (i : Nat) (w : World) : Prop where
  row : w.cell? ⟨B, i, none⟩ = some (.pointer (some ⟨x.b, 0, none⟩))
  rowf : w.frozen? ⟨B, i, none⟩ = false
  id : w.cell? ⟨x.b, 0, none⟩ = some (.int .i64 x.id)
  t : w.cell? ⟨x.b, 1, none⟩ = some (.int .i64 x.t)
  ev : w.cell? ⟨x.b, 2, none⟩ = some (.int .i64 x.ev)
  place : w.cell? ⟨x.b, 3, none⟩ = some (.int .i64 (i : Int))
  fro : ∀ o, w.frozen? ⟨x.b, o, none⟩ = false
  neB : x.b ≠ B
  neq : x.b ≠ q
  out : ¬ S x.b
/-- A block of pointers, of so many. -/
def BlkS (w : World) (B c : Nat) : Prop := ∃ cur, w.heap[B]? = some (.cells cur 56 (0, 0)) ∧ cur.size = c ∧ c ≤ maxLen
theorem BlkS.set {w : World} {B c : Nat} (h : BlkS w B c) (g o : Nat) (v : Value) : BlkS (w.setCell ⟨g, o, none⟩ v) B c := by
  obtain ⟨cur, h1, h2, h3⟩ := h
  by_cases e : B = g
  · subst e
    exact ⟨cur.setIfInBounds o v, heap_setCell_same w B o cur _ v h1, by simpa using h2, h3⟩
  · exact ⟨cur, (Below.heap_setCell _ _ _ _ e).trans h1, h2, h3⟩
theorem BlkS.keep {w w' : World} {B c : Nat} (h : BlkS w B c) (hb : w'.heap[B]? = w.heap[B]?) : BlkS w' B c := by
  obtain ⟨cur, h1, h2⟩ := h
  exact ⟨cur, hb.trans h1, h2⟩
/-- A row of timers, held in block q, its pointers in block B; all of blocks of no kind S. -/
structure RowI (S : Nat → Prop) (q B c n : Nat) (f : Nat → Tm) (w : World) : Prop where
  sl : w.cell? ⟨q, 0, none⟩ = some (.slice (some ⟨B, 0, none⟩) n c)
  tim : ∀ i, i < n → TimI S q B (f i) i w
  inj : InjT f n
  neq : B ≠ q
  out : ¬ S B
  le : n ≤ c
  blk : BlkS w B c
theorem lt_of_cell {w : World} {b o : Nat} {v : Value} (hv : w.cell? ⟨b, o, none⟩ = some v) : b < w.heap.size := by
  refine Nat.lt_of_not_le fun q => ?_
  simp [World.cell?, Array.getElem?_eq_none q] at hv
theorem TimI.keep {S T : Nat → Prop} {q B i : Nat} {x : Tm} {w w' : World} (h : TimI S q B x i w) (hk : KeptS T w w') (hB : T B) (hx : T x.b) : TimI S q B x i w' :=
  ⟨(hk.cell hB).trans h.row, (hk.frozen hB).trans h.rowf, (hk.cell hx).trans h.id, (hk.cell hx).trans h.t, (hk.cell hx).trans h.ev, (hk.cell hx).trans h.place, fun o => (hk.frozen hx).trans (h.fro o), h.neB, h.neq, h.out⟩
theorem RowI.keep {S T : Nat → Prop} {q B c n : Nat} {f : Nat → Tm} {w w' : World} (h : RowI S q B c n f w) (hk : KeptS T w w') (hq : T q) (hB : T B) (hx : ∀ i, i < n → T (f i).b) : RowI S q B c n f w' :=
  ⟨(hk.cell hq).trans h.sl, fun i hi => (h.tim i hi).keep hk hB (hx i hi), h.inj, h.neq, h.out, h.le, h.blk.keep (hk.block B hB)⟩
theorem RowI.below {S : Nat → Prop} {q B c n : Nat} {f : Nat → Tm} {w w' : World} (h : RowI S q B c n f w) (hb : Below w.heap.size w w') (hn : 0 < n) : RowI S q B c n f w' :=
  h.keep (T := fun k => k < w.heap.size) (KeptS.of_below hb (fun _ h => h)) (lt_of_cell h.sl) (lt_of_cell (h.tim 0 hn).row) (fun i hi => lt_of_cell (h.tim i hi).id)
theorem RowI.drewN {S : Nat → Prop} {q B c n : Nat} {f : Nat → Tm} {w : World} (h : RowI S q B c n f w) (k : Nat) : RowI S q B c n f (w.drewN k) :=
  h.keep (T := fun _ => True) ⟨rfl, rfl, rfl, Nat.le_refl _, fun _ _ => rfl⟩ trivial trivial (fun _ _ => trivial)

theorem before_any (b1 b2 : Nat) (i1 t1 i2 t2 : Int) (r : Bool) (w : World) (hr : r = decide (t1 < t2 ∨ t1 = t2 ∧ i1 < i2))
    (h0 : w.cell? ⟨b1, 0, none⟩ = some (.int .i64 i1)) (h1 : w.cell? ⟨b1, 1, none⟩ = some (.int .i64 t1)) (k0 : w.cell? ⟨b2, 0, none⟩ = some (.int .i64 i2)) (k1 : w.cell? ⟨b2, 1, none⟩ = some (.int .i64 t2)) :
    Calls Try.prog 28 #[.pointer (some ⟨b1, 0, none⟩), .pointer (some ⟨b2, 0, none⟩)] w fun e w' => e = .returned (.bool r) ∧ ∃ k, w' = w.drewN k := by
  rcases (by omega : t1 < t2 ∨ t1 = t2 ∨ t2 < t1) with h | h | h
  · have e : r = true := by rw [hr]; exact decide_eq_true (.inl h)
    subst e
    clear hr
    have d1 : decide (t1 < t2) = true := decide_eq_true h
    go_enter Try.func28, Try.ntmps28
    go_wp2_with fail
    go_quiet (fail)
    go_wp2_with fail
    go_ret
    exact ⟨rfl, _, rfl⟩
  · subst h
    have d1 : decide (t1 < t1) = false := decide_eq_false (by omega)
    have e : r = decide (i1 < i2) := by rw [hr]; simp
    clear hr
    subst e
    generalize hd : decide (i1 < i2) = r at *
    go_enter Try.func28, Try.ntmps28
    go_wp2_with fail
    go_quiet (fail)
    go_wp2_with fail
    go_ret
    exact ⟨rfl, _, rfl⟩
  · have e : r = false := by rw [hr]; exact decide_eq_false (by omega)
    subst e
    clear hr
    have d1 : decide (t1 < t2) = false := decide_eq_false (by omega)
    have d2 : (t1 == t2) = false := by rw [beq_eq_false_iff_ne]; omega
    go_enter Try.func28, Try.ntmps28
    go_wp2_with fail
    go_quiet (fail)
    go_wp2_with fail
    go_ret
    exact ⟨rfl, _, rfl⟩
theorem less_any (B n c i j : Nat) (x y : Tm) (w : World) (hi : i < n) (hj : j < n) (hn : n ≤ 1000000)
    (hx : w.cell? ⟨B, i, none⟩ = some (.pointer (some ⟨x.b, 0, none⟩))) (hy : w.cell? ⟨B, j, none⟩ = some (.pointer (some ⟨y.b, 0, none⟩)))
    (h0 : w.cell? ⟨x.b, 0, none⟩ = some (.int .i64 x.id)) (h1 : w.cell? ⟨x.b, 1, none⟩ = some (.int .i64 x.t)) (k0 : w.cell? ⟨y.b, 0, none⟩ = some (.int .i64 y.id)) (k1 : w.cell? ⟨y.b, 1, none⟩ = some (.int .i64 y.t)) :
    Calls Try.prog 65 #[.slice (some ⟨B, 0, none⟩) n c, .int .i64 (i : Int), .int .i64 (j : Int)] w fun e w' => e = .returned (.bool (befT x y)) ∧ ∃ k, w' = w.drewN k := by
  have HC := fun k => Lib.hid (before_any x.b y.b x.id x.t y.id y.t (befT x y) (w.drewN k) rfl h0 h1 k0 k1)
  generalize befT x y = r at *
  clear h0 h1 k0 k1
  go_enter Try.func65, Try.ntmps65
  go_wp2_with fail
  go_quiet ((go_at_call 28; exact Calls.quiet_of (HC _).out))
  go_wp2_with fail
  go_ret
  exact ⟨rfl, _, rfl⟩
end Go.Proofs.Ytcageojgfnihpaa
