/- Layer 43: When, Unset. -/
import Derived.Test.YtcageojgfnihpaaDue8
import Derived.Deep.RegionWith
import Derived.StillTailTactics
namespace Go.Proofs.Ytcageojgfnihpaa
set_option linter.unusedVariables false
open Go.RowKit
open Go.Maps (Keyed Tidy IsMap)

theorem elem_zero (w : World) : (zeroValue 56).run Try.prog w = .ok (.pointer none) w := by kernel_rfl
theorem PMap.del_at {α : Type} {P : Program} {k t e : TypeId} {kl : α → Lit} {w : World} {b n : Nat} {L : List (α × Nat)} {p : α × Nat} (hM : PMap P k kl w b n (p :: L)) (K : Keyed P k) (ht : P.underlying t = some (.map k e)) {key : Value} (hkey : keyOf P k key = some (kl p.1)) :
    ∃ w', (∀ ty, (Builtin.delete_ #[t, k] ty #[.map (some b), key]).run P w = .ok (.tuple #[]) w') ∧ PMap P k kl w' b n L ∧ w.mapTurned w' b := by
  obtain ⟨D, hown, hMT⟩ := hM
  obtain ⟨w', hrun, h1, h2⟩ := hown.drop K ht hkey 0
  exact ⟨w', fun ty => hrun, ⟨_, h1, hMT.del (hown.tidy K)⟩, h2⟩
theorem turned_kept {w w' : World} {b : Nat} (h : w.mapTurned w' b) : KeptS (fun k => k ≠ b ∧ k < w.heap.size) w w' :=
  ⟨h.grown.os, h.grown.tape, h.grown.output, h.grown.size, fun k hk => h.grown.block k hk.2 (fun e => by injection e with e; exact hk.1 e)⟩
theorem QueA.hit {S : Nat → Prop} {q N n mb i : Nat} {r : List Tr} {f : Nat → Tm} {v : Value} {w : World} (a : QueA S q N r n f v mb w) (hi : i < n) :
    (Instr.lookup 52 (.map (some mb)) (.int .i64 (f i).id) true).run Try.prog w = .ok (.tuple #[.pointer (some ⟨(f i).b, 0, none⟩), .bool true]) w := by
  have hx := a.ok (tri (f i)) (a.rep.mem_iff.2 (List.mem_map.2 ⟨f i, mem_TL.2 ⟨i, hi, rfl⟩, rfl⟩))
  exact a.pm.look_hit kKeyed Try.underlying52 (elem_zero w) (key_int (id_wf ⟨hx.1, hx.2.1⟩)) (List.mem_map.2 ⟨f i, mem_TL.2 ⟨i, hi, rfl⟩, rfl⟩)
theorem QueA.miss {S : Nat → Prop} {q N n mb : Nat} {r : List Tr} {f : Nat → Tm} {v : Value} {w : World} (a : QueA S q N r n f v mb w) {id : Int} (hw : (Lit.int .i64 id).wf = true) (hno : ∀ x ∈ r, x.1 ≠ id) :
    (Instr.lookup 52 (.map (some mb)) (.int .i64 id) true).run Try.prog w = .ok (.tuple #[.pointer none, .bool false]) w := by
  refine a.pm.look_miss kKeyed Try.underlying52 (elem_zero w) (key_int hw) (fun p hp e => ?_)
  obtain ⟨x, hx, rfl⟩ := List.mem_map.1 hp
  exact hno (tri x) (a.rep.mem_iff.2 (List.mem_map.2 ⟨x, hx, rfl⟩)) (keyI_inj e)
theorem QueA.at {S : Nat → Prop} {q N n mb : Nat} {r : List Tr} {f : Nat → Tm} {v : Value} {w : World} (a : QueA S q N r n f v mb w) {x : Tr} (hx : x ∈ r) : ∃ i, i < n ∧ tri (f i) = x := by
  obtain ⟨y, hy, e⟩ := List.mem_map.1 (a.rep.mem_iff.1 hx)
  obtain ⟨i, hi, rfl⟩ := mem_TL.1 hy
  exact ⟨i, hi, e⟩
theorem QueA.rowI {S : Nat → Prop} {q N n mb : Nat} {r : List Tr} {f : Nat → Tm} {v : Value} {w : World} (a : QueA S q N r n f v mb w) (h0 : 0 < n) : ∃ B c, v = .slice (some ⟨B, 0, none⟩) n c ∧ RowI (fun k => S k ∨ k = mb) q B c n f w := by
  rcases a.row with ⟨e, -⟩ | h
  · omega
  · exact h
theorem when_hit {S : Nat → Prop} {q N : Nat} {r : List Tr} {w : World} (h : QueI S q N r w) {x : Tr} (hx : x ∈ r) : Calls Try.prog 15 #[.pointer (some ⟨q, 0, none⟩), .int .i64 x.1] w fun e w' => e = .returned (.tuple #[.int .i64 x.2.1, .bool true]) ∧ w = w' := by
  obtain ⟨n, f, v, mb, a⟩ := h
  obtain ⟨i, hi, rfl⟩ := a.at hx
  obtain ⟨B, c, -, hR⟩ := a.rowI (by omega)
  have hl := a.hit hi
  have hm := a.map
  have ht := (hR.tim i hi).t
  clear a hR hx
  show Calls Try.prog 15 #[.pointer (some ⟨q, 0, none⟩), .int .i64 (f i).id] w fun e w' => e = .returned (.tuple #[.int .i64 (f i).t, .bool true]) ∧ w = w'
  generalize (f i).id = id at *
  generalize (f i).t = t at *
  generalize (f i).b = b at *
  go_enter Try.func15, Try.ntmps15
  go_wp2_with (go_at_call 18; refine (there_any q mb _ hm).mono ?_; rintro e w' ⟨rfl, rfl⟩)
  go_ret2
  exact ⟨rfl, rfl⟩
theorem when_miss {S : Nat → Prop} {q N : Nat} {r : List Tr} {w : World} (h : QueI S q N r w) {id : Int} (hw : (Lit.int .i64 id).wf = true) (hno : ∀ x ∈ r, x.1 ≠ id) : Calls Try.prog 15 #[.pointer (some ⟨q, 0, none⟩), .int .i64 id] w fun e w' => e = .returned (.tuple #[.int .i64 0, .bool false]) ∧ w = w' := by
  obtain ⟨n, f, v, mb, a⟩ := h
  have hl := a.miss hw hno
  have hm := a.map
  clear a hno hw
  go_enter Try.func15, Try.ntmps15
  go_wp2_with (go_at_call 18; refine (there_any q mb _ hm).mono ?_; rintro e w' ⟨rfl, rfl⟩)
  go_ret2
  exact ⟨rfl, rfl⟩
def without (r : List Tr) (id : Int) : List Tr := r.filter fun y => decide (y.1 ≠ id)
theorem without_none {r : List Tr} {id : Int} (h : ∀ x ∈ r, x.1 ≠ id) : without r id = r := List.filter_eq_self.2 fun x hx => decide_eq_true (h x hx)
theorem without_perm {r l : List Tr} {x : Tr} (h : r.Perm (x :: l)) (hl : ∀ y ∈ l, y.1 ≠ x.1) : (without r x.1).Perm l := by
  have h1 := h.filter (fun y => decide (y.1 ≠ x.1))
  rw [List.filter_cons_of_neg (by simp), List.filter_eq_self.2 (fun y hy => decide_eq_true (hl y hy))] at h1
  exact h1
theorem unset_miss {S : Nat → Prop} {q N : Nat} {r : List Tr} {w : World} (h : QueI S q N r w) {id : Int} (hw : (Lit.int .i64 id).wf = true) (hno : ∀ x ∈ r, x.1 ≠ id) : Calls Try.prog 11 #[.pointer (some ⟨q, 0, none⟩), .int .i64 id] w fun e w' => e = .returned (.bool false) ∧ w = w' := by
  obtain ⟨n, f, v, mb, a⟩ := h
  have hl := a.miss hw hno
  have hm := a.map
  clear a hno hw
  go_enter Try.func11, Try.ntmps11
  go_wp2_with (go_at_call 18; refine (there_any q mb _ hm).mono ?_; rintro e w' ⟨rfl, rfl⟩)
  go_ret
  exact ⟨rfl, rfl⟩
/-- What Unset leaves. -/
def UnsP (S : Nat → Prop) (q N : Nat) (r : List Tr) (x : Tm) (w w' : World) : Prop := QueI S q N (without r x.id) w' ∧ KeptS S w w' ∧ w'.cell? ⟨x.b, 0, none⟩ = some (.int .i64 x.id)
theorem QueA.removed {S : Nat → Prop} {q N n mb i B c : Nat} {r : List Tr} {f : Nat → Tm} {w w2 : World} (a : QueA S q N r (n + 1) f (.slice (some ⟨B, 0, none⟩) (n + 1) c) mb w) (hi : i < n + 1) (hR : RemP (fun k => S k ∨ k = mb) q B c n i f w w2) :
    w2.cell? ⟨q, 1, none⟩ = some (.map (some mb)) ∧ ∃ w3, (∀ ty, (Builtin.delete_ #[52, kI] ty #[.map (some mb), .int .i64 (f i).id]).run Try.prog w2 = .ok (.tuple #[]) w3) ∧ UnsP S q N r (f i) w w3 := by
  obtain ⟨f', h1, h2, h3, h4, h5, h6⟩ := hR
  have hx := a.ok (tri (f i)) (a.rep.mem_iff.2 (List.mem_map.2 ⟨f i, mem_TL.2 ⟨i, hi, rfl⟩, rfl⟩))
  have hp := h3.perm hi a.inj h1.inj
  have pm2 : PMap Try.prog kI keyI w2 mb N (((f i).id, (f i).b) :: (TL f' n).map fun x => (x.id, x.b)) := (a.pm.block (h4.block mb (.inr rfl))).perm (hp.map _)
  obtain ⟨w3, g1, g2, g3⟩ := pm2.del_at kKeyed Try.underlying52 (key_int (id_wf ⟨hx.1, hx.2.1⟩))
  have hk := turned_kept g3
  have hq2 : w2.cell? ⟨q, 1, none⟩ = some (.map (some mb)) := (h5.1 1 (by decide)).trans a.map
  have hqm := pm2.cells hq2
  have hql := lt_of_cell hq2
  have hxb := lt_of_cell h6
  have hxm : (f i).b ≠ mb := pm2.cells h6
  have hcell : ∀ {b o : Nat} {u : Value}, w2.cell? ⟨b, o, none⟩ = some u → w3.cell? ⟨b, o, none⟩ = some u := fun {b o u} hu => (hk.cell ⟨pm2.cells hu, lt_of_cell hu⟩).trans hu
  have hBl : B < w2.heap.size := by obtain ⟨cur, e, -⟩ := h1.blk; exact (Array.getElem?_eq_some_iff.1 e).1
  have hdist := (List.pairwise_cons.1 ((hp.pairwise_iff (R := fun x y : Tm => x.id ≠ y.id) (fun h e => h e.symm)).1 a.pm.distinct)).1
  have hrep := a.rep.trans (hp.map tri)
  have hwo : (without r (f i).id).Perm ((TL f' n).map tri) := without_perm (x := tri (f i)) hrep fun y hy => by
    obtain ⟨z, hz, rfl⟩ := List.mem_map.1 hy
    exact fun e => hdist z hz e.symm
  refine ⟨hq2, w3, g1, ⟨n, f', .slice (some ⟨B, 0, none⟩) n c, mb, ⟨?_, h2, hcell hq2, fun o => ?_, g2, fun x hx => a.ok x (List.mem_filter.1 hx).1, hwo, a.outq, a.outm, fun k hk' => ?_⟩⟩, ?_, hcell h6⟩
  · exact .inr ⟨B, c, rfl, h1.keep hk ⟨hqm, hql⟩ ⟨fun e => h1.out (.inr e), hBl⟩ (fun j hj => ⟨fun e => (h1.tim j hj).out (.inr e), lt_of_cell (h1.tim j hj).id⟩)⟩
  · exact (hk.frozen ⟨hqm, hql⟩).trans ((h5.2 o).trans (a.fro o))
  · exact Nat.lt_of_lt_of_le (a.lt k hk') (Nat.le_trans h4.size hk.size)
  · exact (h4.less (fun _ h => .inl h)).trans (hk.less (fun k hk' => ⟨fun e => a.outm (by rw [← e]; exact hk'), Nat.lt_of_lt_of_le (a.lt k hk') h4.size⟩))
set_option maxRecDepth 8000 in
theorem unset_hit {S : Nat → Prop} {q N n mb i : Nat} {r : List Tr} {f : Nat → Tm} {v : Value} {w : World} (a : QueA S q N r n f v mb w) (hi : i < n) :
    Calls Try.prog 11 #[.pointer (some ⟨q, 0, none⟩), .int .i64 (f i).id] w fun e w' => e = .returned (.bool true) ∧ UnsP S q N r (f i) w w' := by
  obtain ⟨m, rfl⟩ : ∃ m, n = m + 1 := ⟨n - 1, by omega⟩
  obtain ⟨B, c, rfl, hR⟩ := a.rowI (by omega)
  have hl := a.hit hi
  have hm := a.map
  have hp := (hR.tim i hi).place
  have hf16 := a.few
  have HREM : Hid (∀ k, Calls Try.prog 23 #[heapV q, .int .i64 (i : Int)] (w.drewN k) fun e w' => (∃ u, e = .returned u) ∧ RemP (fun k => S k ∨ k = mb) q B c m i f (w.drewN k) w') := fun k =>
    heapRemove_any (hR.drewN k) (by omega) (fun h => h.elim a.outq a.mbq) (a.fro 0) (by omega) a.heap
  have HA := Lib.hid (fun k => a.drewN k)
  clear a hR hf16
  generalize hfb : (f i).b = b at *
  generalize hfi : (f i).id = id at *
  have HFB := Lib.hid hfb
  have HFI := Lib.hid hfi
  clear hfb hfi
  go_enter Try.func11, Try.ntmps11
  go_wp2_with (go_at_call 18; refine (there_any q mb _ hm).mono ?_; rintro e w' ⟨rfl, rfl⟩)
  go_region_with (go_at_call 23; refine (HREM.out _).mono ?_; rintro e w1 ⟨⟨u, rfl⟩, hrem⟩)
  have HX := Lib.hid ((HA.out _).removed hi hrem)
  rw [HFI.out] at HX
  obtain ⟨hq2, w3, g1, g2⟩ := HX.out
  have HG : Hid (UnsP S q N r (f i) w w3) := ⟨g2.1, ((KeptS.refl S w).drewN _).trans g2.2.1, g2.2.2⟩
  clear hrem g2 HX
  go_wp2_with fail
  go_ret
  exact ⟨rfl, HG.out⟩
end Go.Proofs.Ytcageojgfnihpaa
