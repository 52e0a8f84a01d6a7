/- Layer 43: a queue in memory; New, there, in, Len, When. -/
import Derived.Test.YtcageojgfnihpaaDue7
import Derived.Maps.Keyed
namespace Go.Proofs.Ytcageojgfnihpaa
set_option linter.unusedVariables false
open Go.RowKit
open Go.Maps (Keyed Tidy IsMap)

/-- The timers of a row, as a list. -/
def TL (f : Nat → Tm) (n : Nat) : List Tm := (List.range n).map f
theorem mem_TL {f : Nat → Tm} {n : Nat} {x : Tm} : x ∈ TL f n ↔ ∃ i, i < n ∧ f i = x := by simp [TL]
theorem TL_succ (f : Nat → Tm) (n : Nat) : TL f (n + 1) = TL f n ++ [f n] := by simp [TL, List.range_succ]
theorem TL_congr {f g : Nat → Tm} {n : Nat} (h : ∀ k, k < n → f k = g k) : TL f n = TL g n := List.map_congr_left fun k hk => h k (List.mem_range.1 hk)
theorem TL_nodup {f : Nat → Tm} {n : Nat} (h : InjT f n) : (TL f n).Nodup := by
  refine List.pairwise_map.2 (List.Pairwise.imp_of_mem (R := (· ≠ ·)) (fun {a b} ha hb hne e => hne (h a b (List.mem_range.1 ha) (List.mem_range.1 hb) (by rw [e]))) List.nodup_range)
theorem SameS.perm {f g : Nat → Tm} {n : Nat} (h : SameS f g n) (hf : InjT f n) (hg : InjT g n) : (TL f n).Perm (TL g n) := by
  refine (List.perm_ext_iff_of_nodup (TL_nodup hf) (TL_nodup hg)).2 fun x => ?_
  rw [mem_TL, mem_TL]
  constructor
  · rintro ⟨i, hi, rfl⟩
    exact h.2 i hi
  · rintro ⟨i, hi, rfl⟩
    obtain ⟨j, hj, e⟩ := h.1 i hi
    exact ⟨j, hj, e.symm⟩
theorem TL_push (f : Nat → Tm) (n : Nat) (x : Tm) : (TL (pushF f n x) (n + 1)).Perm (x :: TL f n) := by
  rw [TL_succ, pushF_at, TL_congr (fun k hk => pushF_lt f x hk)]
  exact List.perm_append_comm
theorem LessS.perm {f g : Nat → Tm} {n i : Nat} (h : LessS f g n i) (hi : i < n + 1) (hf : InjT f (n + 1)) (hg : InjT g n) : (TL f (n + 1)).Perm (f i :: TL g n) := by
  have hni : f i ∉ TL g n := fun hm => by
    obtain ⟨k, hk, e⟩ := mem_TL.1 hm
    obtain ⟨j, hj, hne, e'⟩ := h.1 k hk
    exact hne (hf j i hj hi (by rw [← e', e]))
  refine (List.perm_ext_iff_of_nodup (TL_nodup hf) (List.nodup_cons.2 ⟨hni, TL_nodup hg⟩)).2 fun x => ?_
  rw [List.mem_cons, mem_TL, mem_TL]
  constructor
  · rintro ⟨j, hj, rfl⟩
    by_cases e : j = i
    · exact .inl (by rw [e])
    · exact .inr (h.2 j hj e)
  · rintro (rfl | ⟨k, hk, rfl⟩)
    · exact ⟨i, hi, rfl⟩
    · obtain ⟨j, hj, -, e⟩ := h.1 k hk
      exact ⟨j, hj, e.symm⟩
/-- A timer without its block: its id, when, how much later again. -/
abbrev Tr := Int × Int × Int
def tri (x : Tm) : Tr := (x.id, x.t, x.ev)
abbrev keyI (n : Int) : Lit := .int .i64 n
abbrev kI : TypeId := 3
theorem kKeyed : Keyed Try.prog kI := Maps.int_keyed Try.underlying3
theorem key_int {n : Int} (h : (Lit.int .i64 n).wf = true) : keyOf Try.prog kI (.int .i64 n) = some (keyI n) := by
  simp [keyOf, Try.underlying3, mapKey, h]
theorem id_wf {n : Int} (h : 0 ≤ n ∧ n ≤ 15) : (Lit.int .i64 n).wf = true := by
  have hmin : IntKind.i64.min = -9223372036854775808 := rfl
  have hmax : IntKind.i64.max = 9223372036854775807 := rfl
  simp only [Lit.wf, Bool.and_eq_true, decide_eq_true_eq]
  omega
theorem keyI_inj {a b : Int} (h : keyI a = keyI b) : a = b := by injection h
def okT (x : Tr) : Prop := 0 ≤ x.1 ∧ x.1 ≤ 15 ∧ 0 ≤ x.2.1 ∧ x.2.1 ≤ 2199023255552 ∧ 0 ≤ x.2.2 ∧ x.2.2 ≤ 1099511627776
/-- A queue, in block q, of these timers; all of it in blocks of no kind S. -/
structure QueA (S : Nat → Prop) (q N : Nat) (r : List Tr) (n : Nat) (f : Nat → Tm) (v : Value) (mb : Nat) (w : World) : Prop where
  row : RowV (fun k => S k ∨ k = mb) q n f v w
  heap : HeapF f n
  map : w.cell? ⟨q, 1, none⟩ = some (.map (some mb))
  fro : ∀ o, w.frozen? ⟨q, o, none⟩ = false
  pm : PMap Try.prog kI keyI w mb N ((TL f n).map fun x => (x.id, x.b))
  ok : ∀ x ∈ r, okT x
  rep : r.Perm ((TL f n).map tri)
  outq : ¬ S q
  outm : ¬ S mb
  lt : ∀ k, S k → k < w.heap.size
def QueI (S : Nat → Prop) (q N : Nat) (r : List Tr) (w : World) : Prop := ∃ n f v mb, QueA S q N r n f v mb w
theorem QueI.perm {S : Nat → Prop} {q N : Nat} {r r' : List Tr} {w : World} (h : QueI S q N r w) (hp : r.Perm r') : QueI S q N r' w := by
  obtain ⟨n, f, v, mb, a⟩ := h
  exact ⟨n, f, v, mb, { a with ok := fun x hx => a.ok x (hp.mem_iff.2 hx), rep := hp.symm.trans a.rep }⟩
theorem QueI.less {S T : Nat → Prop} {q N : Nat} {r : List Tr} {w : World} (h : QueI S q N r w) (hT : ∀ k, T k → S k) : QueI T q N r w := by
  obtain ⟨n, f, v, mb, a⟩ := h
  refine ⟨n, f, v, mb, { a with row := ?_, outq := fun h => a.outq (hT _ h), outm := fun h => a.outm (hT _ h), lt := fun k hk => a.lt k (hT k hk) }⟩
  rcases a.row with h | ⟨B, c, e, h⟩
  · exact .inl h
  · exact .inr ⟨B, c, e, h.without (fun k hk => hk.elim (fun h => .inl (hT k h)) .inr)⟩
theorem QueA.mbq {S : Nat → Prop} {q N n mb : Nat} {r : List Tr} {f : Nat → Tm} {v : Value} {w : World} (a : QueA S q N r n f v mb w) : q ≠ mb := a.pm.cells a.map
theorem QueA.keep {S T : Nat → Prop} {q N n mb : Nat} {r : List Tr} {f : Nat → Tm} {v : Value} {w w' : World} (a : QueA S q N r n f v mb w) (hk : KeptS T w w') (hq : T q) (hm : T mb) (hB : ∀ B, v.ownBlock = some B → T B) (hx : ∀ i, i < n → T (f i).b) : QueA S q N r n f v mb w' :=
  { a with row := a.row.keep hk hq hB hx, map := (hk.cell hq).trans a.map, fro := fun o => (hk.frozen hq).trans (a.fro o), pm := a.pm.block (hk.block _ hm), lt := fun k h => Nat.lt_of_lt_of_le (a.lt k h) hk.size }
theorem QueA.below {S : Nat → Prop} {q N n mb : Nat} {r : List Tr} {f : Nat → Tm} {v : Value} {w w' : World} (a : QueA S q N r n f v mb w) (hb : Below w.heap.size w w') : QueA S q N r n f v mb w' :=
  a.keep (T := fun k => k < w.heap.size) (KeptS.of_below hb (fun _ h => h)) a.row.blocks.1 a.pm.lt a.row.blocks.2.1 a.row.blocks.2.2
theorem QueI.below {S : Nat → Prop} {q N : Nat} {r : List Tr} {w w' : World} (h : QueI S q N r w) (hb : Below w.heap.size w w') : QueI S q N r w' := by
  obtain ⟨n, f, v, mb, a⟩ := h
  exact ⟨n, f, v, mb, a.below hb⟩
/-- A larger kind: what was laid since. -/
theorem QueA.also {S : Nat → Prop} {q N n mb : Nat} {r : List Tr} {f : Nat → Tm} {v : Value} {w w' : World} (a : QueA S q N r n f v mb w) (hb : Below w.heap.size w w') : QueA (fun k => S k ∨ (w.heap.size ≤ k ∧ k < w'.heap.size)) q N r n f v mb w' := by
  have b := a.below hb
  have hl := a.row.blocks
  refine { b with row := ?_, outq := fun h => h.elim b.outq (fun h => by omega), outm := fun h => h.elim b.outm (fun h => by have := a.pm.lt; omega), lt := fun k h => h.elim (b.lt k) (fun h => h.2) }
  rcases b.row with h | ⟨B, c, e, h⟩
  · exact .inl h
  · refine .inr ⟨B, c, e, ⟨h.sl, fun i hi => { h.tim i hi with out := fun o => ?_ }, h.inj, h.neq, fun o => ?_, h.le, h.blk⟩⟩
    · have := hl.2.2 i hi
      have := (h.tim i hi).out
      rcases o with (o | o) | o
      · exact this (.inl o)
      · omega
      · exact this (.inr o)
    · have := hl.2.1 B (by rw [e]; rfl)
      rcases o with (o | o) | o
      · exact h.out (.inl o)
      · omega
      · exact h.out (.inr o)
theorem QueI.also {S : Nat → Prop} {q N : Nat} {r : List Tr} {w w' : World} (h : QueI S q N r w) (hb : Below w.heap.size w w') : QueI (fun k => S k ∨ (w.heap.size ≤ k ∧ k < w'.heap.size)) q N r w' := by
  obtain ⟨n, f, v, mb, a⟩ := h
  exact ⟨n, f, v, mb, a.also hb⟩
theorem QueA.drewN {S : Nat → Prop} {q N n mb : Nat} {r : List Tr} {f : Nat → Tm} {v : Value} {w : World} (a : QueA S q N r n f v mb w) (k : Nat) : QueA S q N r n f v mb (w.drewN k) := a.below (bdrewN (Below.refl _ _) k)
theorem QueI.drewN {S : Nat → Prop} {q N : Nat} {r : List Tr} {w : World} (h : QueI S q N r w) (k : Nat) : QueI S q N r (w.drewN k) := h.below (bdrewN (Below.refl _ _) k)
theorem PMap.distinct {w : World} {mb N : Nat} {l : List Tm} (h : PMap Try.prog kI keyI w mb N (l.map fun x => (x.id, x.b))) : l.Pairwise (fun x y => x.id ≠ y.id) :=
  (List.pairwise_map.1 h.apart).imp (fun h e => h (by rw [e]))
theorem QueA.len {S : Nat → Prop} {q N n mb : Nat} {r : List Tr} {f : Nat → Tm} {v : Value} {w : World} (a : QueA S q N r n f v mb w) : r.length = n := by
  rw [a.rep.length_eq]; simp [TL]
theorem QueA.inj {S : Nat → Prop} {q N n mb : Nat} {r : List Tr} {f : Nat → Tm} {v : Value} {w : World} (a : QueA S q N r n f v mb w) : InjT f n := by
  rcases a.row with ⟨rfl, -⟩ | ⟨B, c, -, h⟩
  · intro i j hi; omega
  · exact h.inj
/-- Ids are below 16: so there are at most 16 timers. -/
theorem ids_few {l : List Int} (h : l.Nodup) (hb : ∀ x ∈ l, 0 ≤ x ∧ x ≤ 15) : l.length ≤ 16 :=
  List.Nodup.length_le_of_subset (l₂ := [0, 1, 2, 3, 4, 5, 6, 7, 8, 9, 10, 11, 12, 13, 14, 15]) h fun x hx => by
    have := hb x hx
    simp only [List.mem_cons, List.not_mem_nil, or_false]
    omega
theorem QueA.few {S : Nat → Prop} {q N n mb : Nat} {r : List Tr} {f : Nat → Tm} {v : Value} {w : World} (a : QueA S q N r n f v mb w) : n ≤ 16 := by
  have h1 : ((TL f n).map (·.id)).length ≤ 16 := ids_few (List.pairwise_map.2 a.pm.distinct) fun x hx => by
    obtain ⟨y, hy, rfl⟩ := List.mem_map.1 hx
    have := a.ok (tri y) (a.rep.mem_iff.2 (List.mem_map.2 ⟨y, hy, rfl⟩))
    exact ⟨this.1, this.2.1⟩
  simpa [TL] using h1
theorem QueA.ids {S : Nat → Prop} {q N n mb : Nat} {r : List Tr} {f : Nat → Tm} {v : Value} {w : World} (a : QueA S q N r n f v mb w) : r.Pairwise (fun x y => x.1 ≠ y.1) :=
  (a.rep.pairwise_iff (fun h e => h e.symm)).2 (List.pairwise_map.2 a.pm.distinct)

theorem frozen_past (w : World) (n o : Nat) (h : w.heap.size ≤ n) : w.frozen? ⟨n, o, none⟩ = false := by
  unfold World.frozen?
  rw [Array.getElem?_eq_none h]
theorem mapNe (mb : Nat) (w : World) : (binOp .neq 52 (.map (some mb)) (.map none)).run Try.prog w = .ok (.bool true) w := by kernel_rfl
theorem dueNew_any (w : World) : Calls Try.prog 7 #[] w fun e w' => ∃ q, e = .returned (.pointer (some ⟨q, 0, none⟩)) ∧ Below w.heap.size w w' ∧ QueI (fun k => k < w.heap.size) q 0 [] w' := by
  have hmm := @run_makeMap Try.prog
  go_enter Try.func7, Try.ntmps7
  go_wp2
  go_ret
  refine ⟨_, rfl, ?_, 0, fun _ => ⟨0, 0, 0, 0⟩, .slice none 0 0, w.heap.size, ?_⟩
  · exact bthen (below_new _ _) (below_new _ _)
  · refine ⟨.inl ⟨rfl, rfl, ?_⟩, (fun k hk => by omega), ?_, fun o => ?_, ?_, (fun x hx => by cases hx), List.Perm.refl _, ?_, ?_, fun k hk => ?_⟩
    · simp
    · simp
    · rw [frozen?_alloc_cells]; exact frozen_past _ _ _ (by simp)
    · exact (PMap.made w Try.prog kI keyI).block (Below.heap_alloc _ _ _ (by simp))
    · simp
    · simp
    · have : k < w.heap.size := hk
      simp
      omega
theorem there_any (q mb : Nat) (w : World) (h : w.cell? ⟨q, 1, none⟩ = some (.map (some mb))) : Calls Try.prog 18 #[.pointer (some ⟨q, 0, none⟩)] w fun e w' => e = .returned (.bool true) ∧ w = w' := by
  have hne := mapNe mb
  go_enter Try.func18, Try.ntmps18
  go_wp2
  go_ret
  exact ⟨rfl, rfl⟩
def inB (n : Int) : Bool := decide (0 ≤ n ∧ n ≤ 1099511627776)
theorem in_any (n : Int) (w : World) : Calls Try.prog 19 #[.int .i64 n] w fun e w' => e = .returned (.bool (inB n)) ∧ w = w' := by
  by_cases h1 : n < 0
  · rw [show inB n = false from decide_eq_false (by omega)]
    go_enter Try.func19, Try.ntmps19
    go_wp2
    go_ret
    exact ⟨rfl, rfl⟩
  · by_cases h2 : n ≤ 1099511627776
    · have h0 : 0 ≤ n := by omega
      rw [show inB n = true from decide_eq_true ⟨h0, h2⟩]
      go_enter Try.func19, Try.ntmps19
      go_wp2
      go_ret
      exact ⟨rfl, rfl⟩
    · have h0 : 0 ≤ n := by omega
      have h3 : 1099511627776 < n := by omega
      rw [show inB n = false from decide_eq_false (by omega)]
      go_enter Try.func19, Try.ntmps19
      go_wp2
      go_ret
      exact ⟨rfl, rfl⟩
theorem queLen_any {S : Nat → Prop} {q N : Nat} {r : List Tr} {w : World} (h : QueI S q N r w) : Calls Try.prog 16 #[.pointer (some ⟨q, 0, none⟩)] w fun e w' => e = .returned (.int .i64 (r.length : Int)) ∧ w = w' := by
  obtain ⟨n, f, v, mb, a⟩ := h
  rw [a.len]
  obtain ⟨sa, c, rfl⟩ := a.row.form
  have hm := a.map
  have hs := a.row.cell
  clear a
  go_enter Try.func16, Try.ntmps16
  go_wp2_with (first | (go_at_call 18; refine (there_any q mb _ hm).mono ?_; rintro e w' ⟨rfl, rfl⟩) | (go_at_call 24; refine (rowLen_any _ _ _ _).mono ?_; rintro e w' ⟨rfl, rfl⟩))
  go_ret
  exact ⟨rfl, rfl⟩
end Go.Proofs.Ytcageojgfnihpaa
