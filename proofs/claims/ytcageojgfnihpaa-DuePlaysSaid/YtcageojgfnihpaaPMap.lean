/- Maps whose elements are pointers to blocks of their own: what a block holds, as a list; the laws of the walk over it. Over any program. -/
import Derived.Test.YtcageojgfnihpaaBas
import Derived.Maps.RangeWalk
import Derived.Maps.OwnSet
namespace Go.Proofs.Ytcageojgfnihpaa
set_option linter.unusedVariables false
open Go.RowKit
open Go.Maps (Keyed Tidy IsMap)

/-- How a pointer to a block's first cell reads. -/
def ptrR : Value → Option (DataW Unit × List MemPlace)
  | .pointer (some ⟨b, 0, none⟩) => some (.lit (.int .i64 (b : Int)), [])
  | .pointer none => some (.lit (.bool false), [])
  | _ => none
theorem ptrR_at (b : Nat) : ptrR (.pointer (some ⟨b, 0, none⟩)) = some (.lit (.int .i64 (b : Int)), []) := rfl
theorem ptrR_nil : ptrR (.pointer none) = some (.lit (.bool false), []) := rfl
theorem ptrR_inv {v : Value} {b : Nat} {ps : List MemPlace} (h : ptrR v = some (.lit (.int .i64 (b : Int)), ps)) : v = .pointer (some ⟨b, 0, none⟩) := by
  unfold ptrR at h
  split at h
  · injection h with h
    injection h with h _
    injection h with h
    injection h with _ h
    rw [Int.ofNat.inj h]
  · injection h with h
    injection h with h _
    injection h with h
    cases h
  · cases h
theorem ptrR_inv0 {v : Value} {ps : List MemPlace} (h : ptrR v = some (.lit (.bool false), ps)) : v = .pointer none := by
  unfold ptrR at h
  split at h
  · injection h with h
    injection h with h _
    injection h with h
    cases h
  · rfl
  · cases h

section
variable {α : Type} {kl : α → Lit} {D : DataW Unit} {L : List (α × Nat)}
/-- What a map reads as, as a list of keys and blocks. -/
def MapsTo (kl : α → Lit) (D : DataW Unit) (L : List (α × Nat)) : Prop :=
  (∀ p ∈ L, Maps.has D (kl p.1) = true ∧ ∀ zd, D.atKey (kl p.1) zd = .lit (.int .i64 (p.2 : Int))) ∧ (∀ l, Maps.has D l = true → ∃ p ∈ L, l = kl p.1) ∧ Maps.size D = L.length ∧ L.Pairwise (fun p q => kl p.1 ≠ kl q.1)
theorem MapsTo.nil : MapsTo kl (.map []) [] := ⟨fun p hp => (by cases hp), fun l hl => (by simp [Maps.has] at hl), rfl, List.Pairwise.nil⟩
theorem MapsTo.miss (h : MapsTo kl D L) {x : α} (hx : ∀ p ∈ L, kl p.1 ≠ kl x) : Maps.has D (kl x) = false := by
  cases hh : Maps.has D (kl x) with
  | false => rfl
  | true =>
    obtain ⟨p, hp, e⟩ := h.2.1 _ hh
    exact absurd e.symm (hx p hp)
theorem MapsTo.perm {L' : List (α × Nat)} (h : MapsTo kl D L) (hp : L.Perm L') : MapsTo kl D L' :=
  ⟨fun p hq => h.1 p (hp.mem_iff.2 hq), fun l hl => by obtain ⟨p, h1, h2⟩ := h.2.1 l hl; exact ⟨p, hp.mem_iff.1 h1, h2⟩, h.2.2.1.trans hp.length_eq, (hp.pairwise_iff (fun h => fun e => h e.symm)).1 h.2.2.2⟩
theorem MapsTo.put (h : MapsTo kl D L) (ht : Tidy D) {x : α} (hk : WideAt.IsKeyLit (kl x)) (hx : ∀ p ∈ L, kl p.1 ≠ kl x) (b : Nat) : MapsTo kl (D.put (kl x) (.lit (.int .i64 (b : Int)))) ((x, b) :: L) := by
  refine ⟨fun p hp => ?_, fun l hl => ?_, ?_, List.Pairwise.cons (fun p hp e => hx p hp e.symm) h.2.2.2⟩
  · rcases List.mem_cons.1 hp with rfl | hp
    · exact ⟨Maps.has_put_same ht.isMap hk _, fun zd => Maps.atKey_put_same ht.isMap hk _ zd⟩
    · have hne := hx p hp
      exact ⟨(Maps.has_put_other hne _).trans (h.1 p hp).1, fun zd => (Maps.atKey_put_other hne _ zd).trans ((h.1 p hp).2 zd)⟩
  · by_cases e : l = kl x
    · exact ⟨(x, b), List.mem_cons_self, e⟩
    · rw [Maps.has_put_other e] at hl
      obtain ⟨p, h1, h2⟩ := h.2.1 l hl
      exact ⟨p, List.mem_cons_of_mem _ h1, h2⟩
  · rw [Maps.size_put ht, h.miss hx, h.2.2.1]
    rfl
theorem MapsTo.del {p : α × Nat} (h : MapsTo kl D (p :: L)) (ht : Tidy D) : MapsTo kl (D.del (kl p.1)) L := by
  have hpw := List.pairwise_cons.1 h.2.2.2
  refine ⟨fun q hq => ?_, fun l hl => ?_, ?_, hpw.2⟩
  · have hne : kl q.1 ≠ kl p.1 := fun e => hpw.1 q hq e.symm
    have hh := h.1 q (List.mem_cons_of_mem _ hq)
    exact ⟨(Maps.has_del_other hne).trans hh.1, fun zd => (Maps.atKey_del_other hne zd).trans (hh.2 zd)⟩
  · by_cases e : l = kl p.1
    · subst e
      rw [Maps.has_del_same] at hl
      cases hl
    · rw [Maps.has_del_other e] at hl
      obtain ⟨q, h1, h2⟩ := h.2.1 l hl
      rcases List.mem_cons.1 h1 with rfl | h1
      · exact absurd h2 e
      · exact ⟨q, h1, h2⟩
  · have := Maps.size_del (k := kl p.1) ht
    rw [(h.1 p List.mem_cons_self).1, h.2.2.1] at this
    simpa using this
end

/-- The block holds a map from these keys to these blocks. -/
def PMap {α : Type} (P : Program) (k : TypeId) (kl : α → Lit) (w : World) (b n : Nat) (L : List (α × Nat)) : Prop := ∃ D, w.ownsMap P k ptrR b n D ∧ MapsTo kl D L
/-- A range over such a map: T is to come. -/
def PRange {α : Type} (P : Program) (k : TypeId) (kl : α → Lit) (w : World) (b r n : Nat) (L T : List (α × Nat)) (cnt : Nat) : Prop :=
  ∃ D lf, w.ranges P k ptrR b r n D lf cnt ∧ MapsTo kl D L ∧ (∀ l, lf l = true ↔ ∃ p ∈ T, l = kl p.1) ∧ (∀ p ∈ T, p ∈ L) ∧ T.Pairwise (fun p q => kl p.1 ≠ kl q.1)

section
variable {α : Type} {P : Program} {k : TypeId} {kl : α → Lit} {w : World} {b n : Nat} {L : List (α × Nat)}
theorem PMap.lt (h : PMap P k kl w b n L) : b < w.heap.size := by obtain ⟨D, h, -⟩ := h; exact h.lt
theorem PMap.made (w : World) (P : Program) (k : TypeId) (kl : α → Lit) : PMap P k kl (w.alloc (.map #[] 0)) w.heap.size 0 [] := ⟨_, World.ownsMap_made w P k ptrR, MapsTo.nil⟩
theorem PMap.block {w' : World} (h : PMap P k kl w b n L) (hb : w'.heap[b]? = w.heap[b]?) : PMap P k kl w' b n L := by
  obtain ⟨D, ⟨es, clock, h1, h2, h3, h4⟩, h5⟩ := h
  exact ⟨D, ⟨es, clock, hb.trans h1, h2, h3, h4⟩, h5⟩
theorem PMap.perm {L' : List (α × Nat)} (h : PMap P k kl w b n L) (hp : L.Perm L') : PMap P k kl w b n L' := by
  obtain ⟨D, h1, h2⟩ := h
  exact ⟨D, h1, h2.perm hp⟩
theorem PMap.len_le (h : PMap P k kl w b n L) : L.length ≤ n := by
  obtain ⟨D, h1, h2⟩ := h
  rw [← h2.2.2.1]
  exact h1.size_le
theorem PMap.mono {n' : Nat} (h : PMap P k kl w b n L) (hn : n ≤ n') : PMap P k kl w b n' L := by
  obtain ⟨D, h1, h2⟩ := h
  exact ⟨D, h1.mono hn, h2⟩
theorem PMap.apart (h : PMap P k kl w b n L) : L.Pairwise (fun p q => kl p.1 ≠ kl q.1) := by obtain ⟨D, -, h2⟩ := h; exact h2.2.2.2
/-- A block of cells is not the map's. -/
theorem PMap.cells (h : PMap P k kl w b n L) {g o : Nat} {v : Value} (hg : w.cell? ⟨g, o, none⟩ = some v) : g ≠ b := by
  rintro rfl
  obtain ⟨D, ⟨es, clock, h1, -⟩, -⟩ := h
  simp [World.cell?, h1] at hg
theorem PRange.owns {r cnt : Nat} {T : List (α × Nat)} (h : PRange P k kl w b r n L T cnt) : PMap P k kl w b n L := by
  obtain ⟨D, lf, h1, h2, -⟩ := h
  exact ⟨D, h1.owns, h2⟩
theorem PRange.left_eq {r cnt : Nat} {T : List (α × Nat)} (h : PRange P k kl w b r n L T cnt) : w.rangeLeft b r = cnt := by
  obtain ⟨D, lf, h1, -⟩ := h
  exact h1.left_eq
theorem PRange.kept {r cnt : Nat} {T : List (α × Nat)} {w' : World} {row : Option Nat} (h : PRange P k kl w b r n L T cnt) (hg : w.grownBy w' row) (hb' : some b ≠ row) (hr' : some r ≠ row) : PRange P k kl w' b r n L T cnt := by
  obtain ⟨D, lf, h1, h2⟩ := h
  exact ⟨D, lf, h1.kept hg hb' hr', h2⟩
theorem PRange.lt {r cnt : Nat} {T : List (α × Nat)} (h : PRange P k kl w b r n L T cnt) : r < w.heap.size := by
  obtain ⟨D, lf, h1, -⟩ := h
  exact h1.lt
end

theorem PMap.len_at {α : Type} {P : Program} {k t e : TypeId} {kl : α → Lit} {w : World} {b n : Nat} {L : List (α × Nat)} (hM : PMap P k kl w b n L) (ht : P.underlying t = some (.map k e)) (ty : TypeId) : (Builtin.len_ #[t] ty #[.map (some b)]).run P w = .ok (.int .i64 L.length) w := by
  obtain ⟨D, hown, hMT⟩ := hM
  rw [hown.len ht ty, hMT.2.2.1]
theorem PMap.put_at {α : Type} {P : Program} {k t e : TypeId} {kl : α → Lit} {w : World} {b n : Nat} {L : List (α × Nat)} (hM : PMap P k kl w b n L) (K : Keyed P k) (ht : P.underlying t = some (.map k e)) (hn : n < maxLen) {key : Value} {y : α} (bb : Nat) (hkey : keyOf P k key = some (kl y)) (hno : ∀ p ∈ L, kl p.1 ≠ kl y) :
    ∃ w', (Instr.mapUpdate t (.map (some b)) key (.pointer (some ⟨bb, 0, none⟩))).run P w = .ok () w' ∧ PMap P k kl w' b (n + 1) ((y, bb) :: L) ∧ w.mapTurned w' b := by
  obtain ⟨D, hown, hMT⟩ := hM
  obtain ⟨w', hrun, h1, h2⟩ := hown.store K ht hn hkey (ptrR_at bb)
  exact ⟨w', hrun, ⟨_, h1, hMT.put (hown.tidy K) (K.key hkey) hno bb⟩, h2⟩
theorem PMap.look_hit {α : Type} {P : Program} {k t e : TypeId} {kl : α → Lit} {w : World} {b n : Nat} {L : List (α × Nat)} (hM : PMap P k kl w b n L) (K : Keyed P k) (ht : P.underlying t = some (.map k e)) (hz : (zeroValue e).run P w = .ok (.pointer none) w) {key : Value} {y : α} {bb : Nat} (hkey : keyOf P k key = some (kl y)) (hin : (y, bb) ∈ L) :
    (Instr.lookup t (.map (some b)) key true).run P w = .ok (.tuple #[.pointer (some ⟨bb, 0, none⟩), .bool true]) w := by
  obtain ⟨D, hown, hMT⟩ := hM
  obtain ⟨v, ps, hrun, hv⟩ := hown.look_ok K ht hz ptrR_nil hkey
  obtain ⟨h1, h2⟩ := hMT.1 _ hin
  rw [h2] at hv
  rw [hrun, h1, ptrR_inv hv]
theorem PMap.look_miss {α : Type} {P : Program} {k t e : TypeId} {kl : α → Lit} {w : World} {b n : Nat} {L : List (α × Nat)} (hM : PMap P k kl w b n L) (K : Keyed P k) (ht : P.underlying t = some (.map k e)) (hz : (zeroValue e).run P w = .ok (.pointer none) w) {key : Value} {y : α} (hkey : keyOf P k key = some (kl y)) (hno : ∀ p ∈ L, kl p.1 ≠ kl y) :
    (Instr.lookup t (.map (some b)) key true).run P w = .ok (.tuple #[.pointer none, .bool false]) w := by
  obtain ⟨D, hown, hMT⟩ := hM
  obtain ⟨v, ps, hrun, hv⟩ := hown.look_ok K ht hz ptrR_nil hkey
  have h1 := hMT.miss hno
  rw [Maps.atKey_of_not_has h1] at hv
  rw [hrun, h1, ptrR_inv0 hv]
section
variable {α : Type} {P : Program} (w : World) {ops : Array Oper} {rest : List Oper} {o : Oper} {a : Act} {Q : Exit → Act → World → Prop}
theorem wpList_lookup_hit (hg : o.guard = none) (m x : Operand) (t : TypeId) (hop : o.op = Op.lookup t m x true) (k e : TypeId) (K : Keyed P k) (ht : P.underlying t = some (.map k e)) (hz : (zeroValue e).run P w = .ok (.pointer none) w)
    (kl : α → Lit) (b n : Nat) (L : List (α × Nat)) (hm : a.eval m = .map (some b)) (hM : PMap P k kl w b n L) (key : Value) (y : α) (bb : Nat) (hx : a.eval x = key) (hkey : keyOf P k key = some (kl y)) (hin : (y, bb) ∈ L)
    (hK : wpList P ops Q rest (a.put o.dst (.tuple #[.pointer (some ⟨bb, 0, none⟩), .bool true])) w) : wpList P ops Q (o :: rest) a w := by
  obtain ⟨D, hown, hMT⟩ := hM
  refine Go.wpList_lookup_own_ok w hg m x t hop k e K ht ptrR hz _ [] ptrR_nil b n D hm hown key (kl y) hx hkey (fun v ps hv => ?_)
  obtain ⟨h1, h2⟩ := hMT.1 _ hin
  rw [h2] at hv
  rw [h1, ptrR_inv hv]
  exact hK
theorem wpList_lookup_miss (hg : o.guard = none) (m x : Operand) (t : TypeId) (hop : o.op = Op.lookup t m x true) (k e : TypeId) (K : Keyed P k) (ht : P.underlying t = some (.map k e)) (hz : (zeroValue e).run P w = .ok (.pointer none) w)
    (kl : α → Lit) (b n : Nat) (L : List (α × Nat)) (hm : a.eval m = .map (some b)) (hM : PMap P k kl w b n L) (key : Value) (y : α) (hx : a.eval x = key) (hkey : keyOf P k key = some (kl y)) (hno : ∀ p ∈ L, kl p.1 ≠ kl y)
    (hK : wpList P ops Q rest (a.put o.dst (.tuple #[.pointer none, .bool false])) w) : wpList P ops Q (o :: rest) a w := by
  obtain ⟨D, hown, hMT⟩ := hM
  refine Go.wpList_lookup_own_ok w hg m x t hop k e K ht ptrR hz _ [] ptrR_nil b n D hm hown key (kl y) hx hkey (fun v ps hv => ?_)
  have h1 := hMT.miss hno
  rw [Maps.atKey_of_not_has h1] at hv
  rw [h1, ptrR_inv0 hv]
  exact hK
theorem wpList_update_new (hg : o.guard = none) (m x v : Operand) (t : TypeId) (hop : o.op = Op.mapUpdate t m x v) (k e : TypeId) (K : Keyed P k) (ht : P.underlying t = some (.map k e))
    (kl : α → Lit) (b n : Nat) (L : List (α × Nat)) (hm : a.eval m = .map (some b)) (hM : PMap P k kl w b n L) (hn : n < maxLen) (key : Value) (y : α) (bb : Nat) (hx : a.eval x = key) (hv : a.eval v = .pointer (some ⟨bb, 0, none⟩)) (hkey : keyOf P k key = some (kl y)) (hno : ∀ p ∈ L, kl p.1 ≠ kl y)
    (hK : ∀ w', PMap P k kl w' b (n + 1) ((y, bb) :: L) → w.mapTurned w' b → wpList P ops Q rest (a.put o.dst undef) w') : wpList P ops Q (o :: rest) a w := by
  obtain ⟨D, hown, hMT⟩ := hM
  exact Go.wpList_mapUpdate_in w hg m x v t hop k e K ht ptrR b n D hm hown hn key _ (kl y) hx hv hkey _ [] (ptrR_at bb) (fun w' h1 h2 => hK w' ⟨_, h1, hMT.put (hown.tidy K) (K.key hkey) hno bb⟩ h2)
theorem wpList_delete_one (hg : o.guard = none) (m x : Operand) (t k : TypeId) (hop : o.op = Op.call { callee := Callee.builtin Builtin.delete, args := #[m, x], argTypes := #[t, k] }) (e : TypeId) (K : Keyed P k) (ht : P.underlying t = some (.map k e))
    (kl : α → Lit) (b n : Nat) (L : List (α × Nat)) (p : α × Nat) (hm : a.eval m = .map (some b)) (hM : PMap P k kl w b n (p :: L)) (key : Value) (hx : a.eval x = key) (hkey : keyOf P k key = some (kl p.1))
    (hK : ∀ w', PMap P k kl w' b n L → w.mapTurned w' b → wpList P ops Q rest (a.put o.dst (.tuple #[])) w') : wpList P ops Q (o :: rest) a w := by
  obtain ⟨D, hown, hMT⟩ := hM
  exact Go.wpList_delete_own w hg m x t k hop e K ht ptrR b n D hm hown key (kl p.1) hx hkey (fun w' h1 h2 => hK w' ⟨_, h1, hMT.del (hown.tidy K)⟩ h2)
theorem wpList_len_pmap (hg : o.guard = none) (m : Operand) (t : TypeId) (hop : o.op = Op.call { callee := Callee.builtin Builtin.len, args := #[m], argTypes := #[t] }) (k e : TypeId) (ht : P.underlying t = some (.map k e))
    (kl : α → Lit) (b n : Nat) (L : List (α × Nat)) (hm : a.eval m = .map (some b)) (hM : PMap P k kl w b n L) (hK : wpList P ops Q rest (a.put o.dst (.int .i64 L.length)) w) : wpList P ops Q (o :: rest) a w := by
  obtain ⟨D, hown, hMT⟩ := hM
  refine Go.wpList_len_own w hg m t hop k e ht ptrR b n D hm hown ?_
  rw [hMT.2.2.1]
  exact hK
theorem wpList_range_pmap (hg : o.guard = none) (m : Operand) (t : TypeId) (hop : o.op = Op.range t m) (k e : TypeId) (K : Keyed P k) (ht : P.underlying t = some (.map k e)) (kl : α → Lit) (b n : Nat) (L : List (α × Nat)) (hm : a.eval m = .map (some b)) (hM : PMap P k kl w b n L)
    (hK : ∀ w' cnt, PRange P k kl w' b w.heap.size n L L cnt → w.grownBy w' none → w'.heap.size = w.heap.size + 1 → wpList P ops Q rest (a.put o.dst (.pointer (some ⟨w.heap.size, 0, none⟩))) w') : wpList P ops Q (o :: rest) a w := by
  obtain ⟨D, hown, hMT⟩ := hM
  refine Go.wpList_range_own w hg m t hop k e K ht ptrR b n D hm hown (fun w' h1 h2 h3 => hK w' _ ⟨D, _, h1, hMT, fun l => ⟨fun h => hMT.2.1 l h, fun ⟨p, hp, e⟩ => ?_⟩, fun p hp => hp, hMT.2.2.2⟩ h2 h3)
  rw [e]
  exact (hMT.1 p hp).1
theorem wpList_next_pmap (hg : o.guard = none) (it : Operand) (hop : o.op = Op.next it false) (k : TypeId) (K : Keyed P k) (kl : α → Lit) (mk : α → Value) (b r n : Nat) (L T : List (α × Nat)) (hmk : ∀ p ∈ L, keyOf P k (mk p.1) = some (kl p.1)) (cnt : Nat)
    (hit : a.eval it = .pointer (some ⟨r, 0, none⟩)) (h : PRange P k kl w b r n L T cnt)
    (hDone : T = [] → wpList P ops Q rest (a.put o.dst (.tuple #[.bool false])) w)
    (hMore : ∀ (x : α) (bb : Nat) (T' : List (α × Nat)) (w' : World) (cnt' : Nat), T.Perm ((x, bb) :: T') → PRange P k kl w' b r n L T' cnt' → cnt' < cnt → w.grownBy w' (some r) → w'.heap.size = w.heap.size →
      (Instr.entry (.pointer (some ⟨r, 0, none⟩))).run P w' = .ok (.tuple #[mk x, .pointer (some ⟨bb, 0, none⟩)]) w' → wpList P ops Q rest (a.put o.dst (.tuple #[.bool true, mk x, .pointer (some ⟨bb, 0, none⟩)])) w') :
    wpList P ops Q (o :: rest) a w := by
  obtain ⟨D, lf, hr, hMT, hlf, hT, hpw⟩ := h
  refine Go.wpList_next_ranges w hg it hop k K ptrR (fun v : Value => v) (fun v : Value => v) (fun key _ _ => ⟨key, rfl⟩) (fun v _ _ => ⟨v, rfl⟩) b r n D lf cnt hit hr (fun _ hl => hDone ?_) (fun x c kl0 y w' cnt' hkey hl hv hat hr' hlt hgr hsz hen => ?_)
  · cases T with
    | nil => rfl
    | cons p T =>
      have := (hlf (kl p.1)).2 ⟨p, List.mem_cons_self, rfl⟩
      rw [hl] at this
      cases this
  · obtain ⟨p, hp, rfl⟩ := (hlf kl0).1 hl
    obtain ⟨s, t, rfl⟩ := List.append_of_mem hp
    have hat' := (hMT.1 p (hT p hp)).2 (.lit (.bool false))
    rw [hat] at hat'
    obtain ⟨y1, y2⟩ := y
    simp only at hat'
    subst hat'
    obtain rfl := ptrR_inv hv
    obtain rfl := K.inj hkey (hmk p (hT p hp))
    refine hMore p.1 p.2 (s ++ t) w' cnt' List.perm_middle ⟨D, _, hr', hMT, fun l => ?_, fun q hq => hT q ?_, ?_⟩ hlt hgr hsz hen
    · have hp2 := (List.perm_middle (a := p) (l₁ := s) (l₂ := t)).pairwise_iff (R := fun p q : α × Nat => kl p.1 ≠ kl q.1) (fun h e => h e.symm) |>.1 hpw
      have hne := (List.pairwise_cons.1 hp2).1
      simp only [Bool.and_eq_true, Bool.not_eq_true']
      constructor
      · rintro ⟨h1, h2⟩
        obtain ⟨q, hq, rfl⟩ := (hlf l).1 h1
        rcases List.mem_append.1 hq with hq | hq
        · exact ⟨q, List.mem_append_left _ hq, rfl⟩
        · rcases List.mem_cons.1 hq with rfl | hq
          · rw [WideAt.sameKey_self (K.key hkey)] at h2
            cases h2
          · exact ⟨q, List.mem_append_right _ hq, rfl⟩
      · rintro ⟨q, hq, rfl⟩
        refine ⟨(hlf _).2 ⟨q, ?_, rfl⟩, Maps.sameKey_ne (fun e => hne q hq e.symm)⟩
        rcases List.mem_append.1 hq with hq | hq
        · exact List.mem_append_left _ hq
        · exact List.mem_append_right _ (List.mem_cons_of_mem _ hq)
    · rcases List.mem_append.1 hq with hq | hq
      · exact List.mem_append_left _ hq
      · exact List.mem_append_right _ (List.mem_cons_of_mem _ hq)
    · have hp2 := (List.perm_middle (a := p) (l₁ := s) (l₂ := t)).pairwise_iff (R := fun p q : α × Nat => kl p.1 ≠ kl q.1) (fun h e => h e.symm) |>.1 hpw
      exact (List.pairwise_cons.1 hp2).2
end
end Go.Proofs.Ytcageojgfnihpaa
