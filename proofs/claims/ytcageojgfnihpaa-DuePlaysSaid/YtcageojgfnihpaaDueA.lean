/- Layer 43: Set. -/
import Derived.Test.YtcageojgfnihpaaDue9
namespace Go.Proofs.Ytcageojgfnihpaa
set_option linter.unusedVariables false
open Go.RowKit

theorem unset_any {S : Nat → Prop} {q N : Nat} {r : List Tr} {w : World} (h : QueI S q N r w) {id : Int} (hw : (Lit.int .i64 id).wf = true) :
    Calls Try.prog 11 #[.pointer (some ⟨q, 0, none⟩), .int .i64 id] w fun e w' => e = .returned (.bool (r.any fun x => x.1 == id)) ∧ QueI S q N (without r id) w' ∧ KeptS S w w' := by
  by_cases hno : ∀ x ∈ r, x.1 ≠ id
  · rw [without_none hno, show (r.any fun x => x.1 == id) = false from by
      rw [List.any_eq_false]; exact fun x hx => by simpa using hno x hx]
    exact (unset_miss h hw hno).mono fun e w' ⟨h1, h2⟩ => ⟨h1, h2 ▸ h, h2 ▸ KeptS.refl S w⟩
  · obtain ⟨x, hxn⟩ := Classical.not_forall.1 hno
    obtain ⟨hx, he⟩ := Classical.not_imp.1 hxn
    clear hxn hno
    have he : x.1 = id := Classical.not_not.1 he
    subst he
    rw [show (r.any fun y => y.1 == x.1) = true from List.any_eq_true.2 ⟨x, hx, by simp⟩]
    obtain ⟨n, f, v, mb, a⟩ := h
    obtain ⟨i, hi, rfl⟩ := a.at hx
    exact (unset_hit a hi).mono fun e w' ⟨h1, h2, h3, _⟩ => ⟨h1, h2, h3⟩
def setB (id t ev : Int) : Bool := decide (0 ≤ id) && decide (id ≤ 15) && inB t && inB ev
set_option maxRecDepth 8000 in
theorem set_bad {S : Nat → Prop} {q N : Nat} {r : List Tr} {w : World} (h : QueI S q N r w) {id t ev : Int} (hb : setB id t ev = false) :
    Calls Try.prog 8 #[.pointer (some ⟨q, 0, none⟩), .int .i64 id, .int .i64 t, .int .i64 ev] w fun e w' => e = .returned (.bool false) ∧ w = w' := by
  obtain ⟨n, f, v, mb, a⟩ := h
  have hm := a.map
  have H1 := fun W => Lib.hid (in_any t W)
  have H2 := fun W => Lib.hid (in_any ev W)
  clear a
  unfold setB at hb
  by_cases h1 : id < 0
  · clear hb
    go_enter Try.func8, Try.ntmps8
    go_wp2_with (go_at_call 18; refine (there_any q mb _ hm).mono ?_; rintro e w' ⟨rfl, rfl⟩)
    go_ret
    exact ⟨rfl, rfl⟩
  · have h1' : 0 ≤ id := by omega
    by_cases h2 : 15 < id
    · have h2' : 16 ≤ id := by omega
      clear hb
      go_enter Try.func8, Try.ntmps8
      go_wp2_with (go_at_call 18; refine (there_any q mb _ hm).mono ?_; rintro e w' ⟨rfl, rfl⟩)
      go_ret
      exact ⟨rfl, rfl⟩
    · have h2' : id < 16 := by omega
      rw [decide_eq_true h1', decide_eq_true (show id ≤ 15 by omega), Bool.true_and, Bool.true_and] at hb
      cases h3 : inB t with
      | false =>
        rw [h3] at H1
        clear hb h3
        go_enter Try.func8, Try.ntmps8
        go_wp2_with (first | (go_at_call 18; refine (there_any q mb _ hm).mono ?_; rintro e w' ⟨rfl, rfl⟩) | (go_at_call 19; with_reducible refine (H1 _).out.mono ?_; rintro e w' ⟨rfl, rfl⟩))
        go_ret
        exact ⟨rfl, rfl⟩
      | true =>
        rw [h3, Bool.true_and] at hb
        rw [h3] at H1
        rw [hb] at H2
        clear hb h3
        go_enter Try.func8, Try.ntmps8
        go_wp2_with (go_at_call 18; refine (there_any q mb _ hm).mono ?_; rintro e w' ⟨rfl, rfl⟩)
        refine (H1 _).out.mono ?_
        rintro e w' ⟨rfl, rfl⟩
        go_wp2_with fail
        refine (H2 _).out.mono ?_
        rintro e w' ⟨rfl, rfl⟩
        go_wp2_with fail
        go_ret
        exact ⟨rfl, rfl⟩
abbrev timO (id t ev p : Int) : Obj := .cells #[.int .i64 id, .int .i64 t, .int .i64 ev, .int .i64 p] 58
theorem QueA.mapped {S : Nat → Prop} {q N n mb : Nat} {r : List Tr} {f : Nat → Tm} {v : Value} {w : World} (a : QueA S q N r n f v mb w) {id t ev : Int} (hok : okT (id, t, ev)) (hno : ∀ x ∈ r, x.1 ≠ id) (hN : N < 1000000) :
    ∃ w3, (Instr.mapUpdate 52 (.map (some mb)) (.int .i64 id) (.pointer (some ⟨w.heap.size, 0, none⟩))).run Try.prog (w.alloc (timO id t ev 0)) = .ok () w3 ∧ (w.alloc (timO id t ev 0)).mapTurned w3 mb ∧
      PMap Try.prog kI keyI w3 mb (N + 1) ((id, w.heap.size) :: (TL f n).map fun x => (x.id, x.b)) := by
  have a2 := a.below (below_new w (timO id t ev 0))
  obtain ⟨w3, g1, g2, g3⟩ := a2.pm.put_at kKeyed Try.underlying52 (by unfold maxLen; omega) w.heap.size (key_int (id_wf ⟨hok.1, hok.2.1⟩)) (fun p hp e => by
    obtain ⟨x, hx, rfl⟩ := List.mem_map.1 hp
    exact hno (tri x) (a.rep.mem_iff.2 (List.mem_map.2 ⟨x, hx, rfl⟩)) (keyI_inj e))
  exact ⟨w3, g1, g3, g2⟩
theorem QueA.added {S : Nat → Prop} {q N n mb : Nat} {r : List Tr} {f : Nat → Tm} {v : Value} {w w3 w4 : World} (a : QueA S q N r n f v mb w) {id t ev : Int} (hok : okT (id, t, ev)) (hg : (w.alloc (timO id t ev 0)).mapTurned w3 mb)
    (hpm : PMap Try.prog kI keyI w3 mb (N + 1) ((id, w.heap.size) :: (TL f n).map fun x => (x.id, x.b)))
    (h4 : ∃ B c f', RowI (fun k => S k ∨ k = mb) q B c (n + 1) f' w4 ∧ HeapF f' (n + 1) ∧ SameS (pushF f n ⟨w.heap.size, id, t, ev⟩) f' (n + 1) ∧ KeptS (fun k => S k ∨ k = mb) w3 w4 ∧ QKeep q w3 w4) : QueI S q (N + 1) ((id, t, ev) :: r) w4 ∧ KeptS S w w4 := by
  obtain ⟨B, c, f', h1, h2, h3, h4, h5⟩ := h4
  have a2 := a.below (below_new w (timO id t ev 0))
  have hk := turned_kept hg
  have hql := a2.row.blocks.1
  have hinj : InjT (pushF f n ⟨w.heap.size, id, t, ev⟩) (n + 1) := fun i j hi hj e => by
    have b0 := a.row.blocks.2.2
    by_cases ei : i = n
    · by_cases ej : j = n
      · omega
      · rw [ei, pushF_at, pushF_lt f _ (show j < n by omega)] at e
        have := b0 j (by omega)
        have e' : w.heap.size = (f j).b := e
        omega
    · by_cases ej : j = n
      · rw [ej, pushF_at, pushF_lt f _ (show i < n by omega)] at e
        have := b0 i (by omega)
        have e' : (f i).b = w.heap.size := e
        omega
      · rw [pushF_lt f _ (show i < n by omega), pushF_lt f _ (show j < n by omega)] at e
        exact a.inj i j (by omega) (by omega) e
  have hp := (TL_push f n ⟨w.heap.size, id, t, ev⟩).symm.trans (h3.perm hinj h1.inj)
  refine ⟨⟨n + 1, f', .slice (some ⟨B, 0, none⟩) (n + 1) c, mb, ⟨.inr ⟨B, c, rfl, h1⟩, h2, (h5.1 1 (by decide)).trans ((hk.cell ⟨a.mbq, hql⟩).trans a2.map), fun o => (h5.2 o).trans ((hk.frozen ⟨a.mbq, hql⟩).trans (a2.fro o)), ?_, fun x hx => ?_, ?_, a.outq, a.outm, fun k hk' => ?_⟩⟩, ?_⟩
  · exact (hpm.block (h4.block mb (.inr rfl))).perm (hp.map (fun x : Tm => (x.id, x.b)))
  · rcases List.mem_cons.1 hx with rfl | hx
    · exact hok
    · exact a.ok x hx
  · exact (a.rep.cons (id, t, ev)).trans (hp.map tri)
  · exact Nat.lt_of_lt_of_le (a2.lt k hk') (Nat.le_trans hk.size h4.size)
  · exact ((KeptS.of_below (below_new w (timO id t ev 0)) a.lt).trans (hk.less (fun k hk' => ⟨fun e => a.outm (by rw [← e]; exact hk'), a2.lt k hk'⟩))).trans (h4.less (fun _ h => .inl h))
theorem QueA.pushes {S : Nat → Prop} {q N n mb : Nat} {r : List Tr} {f : Nat → Tm} {v : Value} {w w3 : World} (a : QueA S q N r n f v mb w) {id t ev : Int} (hg : (w.alloc (timO id t ev 0)).mapTurned w3 mb) :
    Calls Try.prog 20 #[heapV q, .iface 56 (.pointer (some ⟨w.heap.size, 0, none⟩))] w3 fun e w' => e = .returned (.tuple #[]) ∧ ∃ B c f', RowI (fun k => S k ∨ k = mb) q B c (n + 1) f' w' ∧ HeapF f' (n + 1) ∧ SameS (pushF f n ⟨w.heap.size, id, t, ev⟩) f' (n + 1) ∧ KeptS (fun k => S k ∨ k = mb) w3 w' ∧ QKeep q w3 w' := by
  have a2 := a.below (below_new w (timO id t ev 0))
  have hk := turned_kept hg
  have hqm := a.mbq
  have hbl := a2.row.blocks
  have hmS : ∀ B, v.ownBlock = some B → B ≠ mb := fun B e => by
    rcases a.row with ⟨-, rfl, -⟩ | ⟨B', c, rfl, h⟩
    · cases e
    · injection e with e
      have e' : B' = B := e
      exact fun e2 => h.out (.inr (e'.trans e2))
  have hmT : ∀ i, i < n → (f i).b ≠ mb := fun i hi => by
    obtain ⟨B, c, -, h⟩ := a.rowI (by omega)
    exact fun e => (h.tim i hi).out (.inr e)
  have hbm : w.heap.size ≠ mb := by have := a.pm.lt; omega
  have hcell : ∀ o, w3.cell? ⟨w.heap.size, o, none⟩ = (#[Value.int .i64 id, .int .i64 t, .int .i64 ev, .int .i64 0] : Array Value)[o]? := fun o =>
    (hk.cell ⟨hbm, by simp⟩).trans (World.cell?_alloc_at _ _ _ _ rfl)
  have b0 := a.row.blocks
  refine heapPush_any (x := ⟨w.heap.size, id, t, ev⟩) (a2.row.keep hk ⟨hqm, hbl.1⟩ (fun B e => ⟨hmS B e, hbl.2.1 B e⟩) (fun i hi => ⟨hmT i hi, hbl.2.2 i hi⟩)) ⟨hcell 0, hcell 1, hcell 2, ⟨_, hcell 3⟩, fun o => ?_, ?_, fun h => ?_, fun i hi => ?_, fun e => ?_⟩ (fun k h => ?_) (fun h => h.elim a.outq hqm) ?_ (by have := a.few; omega) a.heap
  · exact (hk.frozen ⟨hbm, by simp⟩).trans (by rw [frozen?_alloc_cells]; exact frozen_past _ _ _ (Nat.le_refl _))
  · exact fun e => by have := b0.1; have e' : w.heap.size = q := e; omega
  · rcases h with h | h
    · have h' : S w.heap.size := h
      have := a.lt _ h'
      omega
    · exact hbm h
  · have := b0.2.2 i hi
    exact fun e => by have e' : w.heap.size = (f i).b := e; omega
  · have := b0.2.1 _ e
    exact Nat.lt_irrefl _ this
  · rcases h with h | h
    · exact Nat.lt_of_lt_of_le (a2.lt k h) hk.size
    · rw [h]; exact Nat.lt_of_lt_of_le a2.pm.lt hk.size
  · exact (hk.frozen ⟨hqm, hbl.1⟩).trans (a2.fro 0)
set_option maxRecDepth 8000 in
set_option maxHeartbeats 1000000 in
theorem set_ok {S : Nat → Prop} {q N : Nat} {r : List Tr} {w : World} (h : QueI S q N r w) {id t ev : Int} (hb : setB id t ev = true) (hN : N < 1000000) :
    Calls Try.prog 8 #[.pointer (some ⟨q, 0, none⟩), .int .i64 id, .int .i64 t, .int .i64 ev] w fun e w' => e = .returned (.bool true) ∧ QueI S q (N + 1) ((id, t, ev) :: without r id) w' ∧ KeptS S w w' := by
  simp only [setB, Bool.and_eq_true, decide_eq_true_eq] at hb
  obtain ⟨⟨⟨i1, i2⟩, i3⟩, i4⟩ := hb
  have hok : okT (id, t, ev) := by
    have := of_decide_eq_true i3
    have := of_decide_eq_true i4
    refine ⟨i1, i2, ?_, ?_, ?_, ?_⟩ <;> show _ ≤ _ <;> simp only <;> omega
  have H1 := fun W => Lib.hid (in_any t W)
  have H2 := fun W => Lib.hid (in_any ev W)
  rw [i3] at H1
  rw [i4] at H2
  have HU := Lib.hid (unset_any h (id := id) (id_wf ⟨i1, i2⟩))
  have hm : ∃ mb, w.cell? ⟨q, 1, none⟩ = some (.map (some mb)) := by obtain ⟨n, f, v, mb, a⟩ := h; exact ⟨mb, a.map⟩
  obtain ⟨mb0, hm⟩ := hm
  generalize (r.any fun x => x.1 == id) = ub at *
  have hno : Hid (∀ x ∈ without r id, x.1 ≠ id) := fun x hx => of_decide_eq_true (List.mem_filter.1 hx).2
  generalize without r id = r1 at *
  have HOK := Lib.hid hok
  have i5 : id < 16 := by omega
  clear h hok i3 i4 i2
  go_enter Try.func8, Try.ntmps8
  go_wp2_with (go_at_call 18; refine (there_any q mb0 _ hm).mono ?_; rintro e w' ⟨rfl, rfl⟩)
  refine (H1 _).out.mono ?_
  rintro e w' ⟨rfl, rfl⟩
  go_wp2_with fail
  refine (H2 _).out.mono ?_
  rintro e w' ⟨rfl, rfl⟩
  go_wp2_with fail
  refine HU.out.mono ?_
  rintro e w1 ⟨rfl, hq1, hk1⟩
  obtain ⟨n, f, v, mb, a⟩ := hq1
  obtain ⟨w3, g1, g2, g3⟩ := a.mapped HOK.out hno.out hN
  have HP := Lib.hid (a.pushes g2)
  have hm1 : (w1.alloc (timO id t ev 0)).cell? ⟨q, 1, none⟩ = some (.map (some mb)) := (a.below (below_new w1 (timO id t ev 0))).map
  have HG2 := Lib.hid g2
  have HG3 := Lib.hid g3
  have HA := Lib.hid a
  have HK1 := Lib.hid hk1
  clear a g2 g3 hk1 hm HU
  go_wp2_with fail
  refine HP.out.mono ?_
  rintro e w4 ⟨rfl, h4⟩
  have HF := Lib.hid (HA.out.added HOK.out HG2.out HG3.out h4)
  clear h4
  go_wp2_with fail
  go_ret
  exact ⟨rfl, HF.out.1, HK1.out.trans HF.out.2⟩
end Go.Proofs.Ytcageojgfnihpaa
