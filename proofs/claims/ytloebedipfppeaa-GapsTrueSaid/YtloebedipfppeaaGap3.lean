/- Layer 33: Hear. -/
import Derived.Test.YtloebedipfppeaaGap2
import Derived.BigQuiet
import Derived.Deep.QuietTactic
import Derived.Deep.RegionWith
import Derived.StillTailTactics
import Derived.Deep.DeepCutAuto
namespace Go.Proofs.Ytloebedipfppeaa
set_option linter.unusedVariables false
open Go.RowKit

theorem elem_zero (w : World) : (zeroValue 52).run Try.prog w = .ok (.pointer none) w := by kernel_rfl
theorem mapNe (mb : Nat) (w : World) : (binOp .eql 45 (.map (some mb)) (.map none)).run Try.prog w = .ok (.bool false) w := by kernel_rfl
theorem mapEq (w : World) : (binOp .eql 45 (.map none) (.map none)).run Try.prog w = .ok (.bool true) w := by kernel_rfl
/-- The octets of a call, asked. -/
theorem asked (q s c : Int) (w : World) (x : Bool) (hx : (octB q && octB s && octB c) = x) : Hid (Calls Try.prog 14 #[.slice (some ⟨w.heap.size, 0, none⟩) 3 3] (w.alloc (.cells #[.int .i64 q, .int .i64 s, .int .i64 c] 3)) fun e w' => e = .returned (.bool x) ∧ ∃ n, w' = (w.alloc (.cells #[.int .i64 q, .int .i64 s, .int .i64 c] 3)).drewN n) := by
  have := octets_any w.heap.size q s c (w.alloc (.cells #[.int .i64 q, .int .i64 s, .int .i64 c] 3)) (World.cell?_alloc_at _ _ _ _ rfl) (World.cell?_alloc_at _ _ _ _ rfl) (World.cell?_alloc_at _ _ _ _ rfl)
  rw [hx] at this
  exact this
set_option maxHeartbeats 1000000 in
theorem hear_nil (q s c : Int) (w : World) : Calls Try.prog 8 #[.pointer none, .int .i64 q, .int .i64 s, .int .i64 c] w fun e w' => e = .returned (.tuple #[.int .i64 0, .bool false]) ∧ Below w.heap.size w w' := by
  go_enter Try.func8, Try.ntmps8
  go_wp2
  go_ret2
  exact ⟨rfl, Below.refl _ _⟩
set_option maxHeartbeats 1000000 in
theorem hear_none (g : Nat) (q s c : Int) (w : World) (hg : w.cell? ⟨g, 0, none⟩ = some (.map none)) : Calls Try.prog 8 #[.pointer (some ⟨g, 0, none⟩), .int .i64 q, .int .i64 s, .int .i64 c] w fun e w' => e = .returned (.tuple #[.int .i64 0, .bool false]) ∧ Below w.heap.size w w' := by
  have heq := mapEq
  go_enter Try.func8, Try.ntmps8
  go_wp2
  go_ret2
  exact ⟨rfl, Below.refl _ _⟩
set_option maxHeartbeats 1000000 in
theorem hear_bad (g mb : Nat) (q s c : Int) (w : World) (hg : w.cell? ⟨g, 0, none⟩ = some (.map (some mb))) (hx : (octB q && octB s && octB c) = false) : Calls Try.prog 8 #[.pointer (some ⟨g, 0, none⟩), .int .i64 q, .int .i64 s, .int .i64 c] w fun e w' => e = .returned (.tuple #[.int .i64 0, .bool false]) ∧ Below w.heap.size w w' := by
  have HO := asked q s c w _ hx
  have HB := Lib.hid (below_new w (.cells #[.int .i64 q, .int .i64 s, .int .i64 c] 3))
  have hne := mapNe mb
  go_enter Try.func8, Try.ntmps8
  go_wp2_with fail
  refine HO.out.mono ?_
  rintro e w1 ⟨rfl, n, rfl⟩
  go_wp2_with fail
  go_ret2
  exact ⟨rfl, bdrewN HB.out n⟩
set_option maxHeartbeats 4000000 in
theorem hear_full (S : Nat → Prop) (g mb n : Nat) (L : List ((Int × Int) × Nat)) (q s c : Int) (w : World) (hg : w.cell? ⟨g, 0, none⟩ = some (.map (some mb))) (hx : (octB q && octB s && octB c) = true) (hM : PMap Try.prog kT keyL w mb n L) (hno : Hid (∀ p ∈ L, keyL p.1 ≠ keyL (s, c))) (hfull : 16 ≤ L.length) :
    Calls Try.prog 8 #[.pointer (some ⟨g, 0, none⟩), .int .i64 q, .int .i64 s, .int .i64 c] w fun e w' => e = .returned (.tuple #[.int .i64 0, .bool false]) ∧ Below w.heap.size w w' := by
  have HO := asked q s c w _ hx
  have HB := Lib.hid (below_new w (.cells #[.int .i64 q, .int .i64 s, .int .i64 c] 3))
  have HG := Lib.hid hg
  have HM := Lib.hid hM
  have hkey : Hid (keyOf Try.prog kT (keyV s c) = some (keyL (s, c))) := by
    simp only [Bool.and_eq_true] at hx
    exact key_at hx.1.2 hx.2
  clear hx hM
  have hgl : g < w.heap.size := by
    refine Nat.lt_of_not_le fun q => ?_
    simp [World.cell?, Array.getElem?_eq_none q] at hg
  have hne := mapNe mb
  go_enter Try.func8, Try.ntmps8
  go_wp2_with fail
  refine HO.out.mono ?_
  rintro e w1 ⟨rfl, n1, rfl⟩
  have hb1 := bdrewN HB.out n1
  have hg1 := ((bcell hb1).1 g 0 hgl).trans hg
  have HM1 := Lib.hid (HM.out.block (hb1.block _ HM.out.lt))
  have HB1 := Lib.hid hb1
  generalize hW : (w.alloc (.cells #[.int .i64 q, .int .i64 s, .int .i64 c] 3)).drewN n1 = W at *
  clear hW hg HO HB HM HG hb1
  have HB2 := Lib.hid (bthen HB1.out (below_new W (.cells #[.int .i64 s, .int .i64 c] 51)))
  have HM2 := Lib.hid (HM1.out.block (Below.heap_alloc W (.cells #[.int .i64 s, .int .i64 c] 51) mb HM1.out.lt))
  have hg2 : (W.alloc (.cells #[.int .i64 s, .int .i64 c] 51)).cell? ⟨g, 0, none⟩ = some (.map (some mb)) := (Lib.cell?_alloc_some _ hg1)
  have hk0 : (W.alloc (.cells #[.int .i64 s, .int .i64 c] 51)).cell? ⟨W.heap.size, 0, none⟩ = some (.int .i64 s) := World.cell?_alloc_at _ _ _ _ rfl
  have hk1 : (W.alloc (.cells #[.int .i64 s, .int .i64 c] 51)).cell? ⟨W.heap.size, 1, none⟩ = some (.int .i64 c) := World.cell?_alloc_at _ _ _ _ rfl
  go_upto_region 4 with fail
  generalize hW2 : W.alloc (.cells #[.int .i64 s, .int .i64 c] 51) = W2 at *
  clear hW2
  have hl : ∀ k, (Instr.lookup 45 (.map (some mb)) (.agg #[.int .i64 s, .int .i64 c]) true).run Try.prog (W2.drewN k) = .ok (.tuple #[.pointer none, .bool false]) (W2.drewN k) := fun k =>
    (HM2.out.block (w' := W2.drewN k) rfl).look_miss kKeyed Try.underlying45 (elem_zero _) hkey.out hno.out
  go_quiet (fail)
  have hlen : ∀ ty, (Builtin.len_ #[45] ty #[.map (some mb)]).run Try.prog (W2.drewN nq) = .ok (.int .i64 L.length) (W2.drewN nq) := fun ty => (HM2.out.block (w' := W2.drewN nq) rfl).len_at Try.underlying45 ty
  have hg3 : (W2.drewN nq).cell? ⟨g, 0, none⟩ = some (.map (some mb)) := hg2
  have i16 : (16 : Int) ≤ (L.length : Int) := by omega
  have HBL := Lib.hid (bdrewN HB2.out nq)
  generalize W2.drewN nq = W3 at *
  clear hl hk0 hk1 hg2 HB2 HM2
  go_wp2_with fail
  go_ret2
  exact ⟨rfl, HBL.out⟩
set_option maxHeartbeats 4000000 in
theorem hear_new (S : Nat → Prop) (g mb n : Nat) (L : List ((Int × Int) × Nat)) (q s c : Int) (w : World) (hg : w.cell? ⟨g, 0, none⟩ = some (.map (some mb))) (hx : (octB q && octB s && octB c) = true) (hM : PMap Try.prog kT keyL w mb n L) (hno : Hid (∀ p ∈ L, keyL p.1 ≠ keyL (s, c))) (hfull : L.length < 16) (hn : n < maxLen) :
    Calls Try.prog 8 #[.pointer (some ⟨g, 0, none⟩), .int .i64 q, .int .i64 s, .int .i64 c] w fun e w' => e = .returned (.tuple #[.int .i64 0, .bool true]) ∧ ∃ W0 w1 bb, Below w.heap.size w W0 ∧ w.heap.size ≤ bb ∧ bb < W0.heap.size ∧ (∀ o, W0.cell? ⟨bb, o, none⟩ = (lnC (s, c, q, 1, 0))[o]?) ∧ (∀ o, W0.frozen? ⟨bb, o, none⟩ = false) ∧ PMap Try.prog kT keyL w1 mb (n + 1) (((s, c), bb) :: L) ∧ W0.mapTurned w1 mb ∧ ∃ k, w' = w1.drewN k := by
  have HO := asked q s c w _ hx
  have HB := Lib.hid (below_new w (.cells #[.int .i64 q, .int .i64 s, .int .i64 c] 3))
  have HG := Lib.hid hg
  have HM := Lib.hid hM
  have hkey : Hid (keyOf Try.prog kT (keyV s c) = some (keyL (s, c))) := by
    simp only [Bool.and_eq_true] at hx
    exact key_at hx.1.2 hx.2
  clear hx hM
  have hgl : g < w.heap.size := by
    refine Nat.lt_of_not_le fun q => ?_
    simp [World.cell?, Array.getElem?_eq_none q] at hg
  have hne := mapNe mb
  go_enter Try.func8, Try.ntmps8
  go_wp2_with fail
  refine HO.out.mono ?_
  rintro e w1 ⟨rfl, n1, rfl⟩
  have hb1 := bdrewN HB.out n1
  have hg1 := ((bcell hb1).1 g 0 hgl).trans hg
  have HM1 := Lib.hid (HM.out.block (hb1.block _ HM.out.lt))
  have HB1 := Lib.hid hb1
  generalize hW : (w.alloc (.cells #[.int .i64 q, .int .i64 s, .int .i64 c] 3)).drewN n1 = W at *
  clear hW hg HO HB HM HG hb1
  have HB2 := Lib.hid (bthen HB1.out (below_new W (.cells #[.int .i64 s, .int .i64 c] 51)))
  have HM2 := Lib.hid (HM1.out.block (Below.heap_alloc W (.cells #[.int .i64 s, .int .i64 c] 51) mb HM1.out.lt))
  have hg2 : (W.alloc (.cells #[.int .i64 s, .int .i64 c] 51)).cell? ⟨g, 0, none⟩ = some (.map (some mb)) := (Lib.cell?_alloc_some _ hg1)
  have hk0 : (W.alloc (.cells #[.int .i64 s, .int .i64 c] 51)).cell? ⟨W.heap.size, 0, none⟩ = some (.int .i64 s) := World.cell?_alloc_at _ _ _ _ rfl
  have hk1 : (W.alloc (.cells #[.int .i64 s, .int .i64 c] 51)).cell? ⟨W.heap.size, 1, none⟩ = some (.int .i64 c) := World.cell?_alloc_at _ _ _ _ rfl
  go_upto_region 4 with fail
  generalize hW2 : W.alloc (.cells #[.int .i64 s, .int .i64 c] 51) = W2 at *
  clear hW2
  have hl : ∀ k, (Instr.lookup 45 (.map (some mb)) (.agg #[.int .i64 s, .int .i64 c]) true).run Try.prog (W2.drewN k) = .ok (.tuple #[.pointer none, .bool false]) (W2.drewN k) := fun k =>
    (HM2.out.block (w' := W2.drewN k) rfl).look_miss kKeyed Try.underlying45 (elem_zero _) hkey.out hno.out
  go_quiet (fail)
  have hlen : ∀ ty, (Builtin.len_ #[45] ty #[.map (some mb)]).run Try.prog (W2.drewN nq) = .ok (.int .i64 L.length) (W2.drewN nq) := fun ty => (HM2.out.block (w' := W2.drewN nq) rfl).len_at Try.underlying45 ty
  have hg3 : (W2.drewN nq).cell? ⟨g, 0, none⟩ = some (.map (some mb)) := hg2
  have i16 : (L.length : Int) < 16 := by omega
  have HBL := Lib.hid (bdrewN HB2.out nq)
  have HMQ : Hid (PMap Try.prog kT keyL (W2.drewN nq) mb n L) := HM2.out.block (w' := W2.drewN nq) rfl
  have hk0' : (W2.drewN nq).cell? ⟨W.heap.size, 0, none⟩ = some (.int .i64 s) := hk0
  have hk1' : (W2.drewN nq).cell? ⟨W.heap.size, 1, none⟩ = some (.int .i64 c) := hk1
  generalize W2.drewN nq = W3 at *
  clear hl hk0 hk1 hg2 HB2 HM2
  go_upto_region 5 with fail
  have hlt : Hid (g < W3.heap.size ∧ W.heap.size < W3.heap.size ∧ w.heap.size ≤ W3.heap.size) := by
    refine ⟨Nat.lt_of_lt_of_le hgl HBL.out.size, ?_, HBL.out.size⟩
    refine Nat.lt_of_not_le fun q => ?_
    simp [World.cell?, Array.getElem?_eq_none q] at hk0'
  obtain ⟨wA, hrun, hMA, htA⟩ := PMap.put_at (w := (W3.alloc (.cells #[.int .i64 s, .int .i64 c, .int .i64 q, .int .i64 1, .int .i64 0] 34)).drew) (HMQ.out.block (Below.heap_alloc W3 _ mb HMQ.out.lt)) kKeyed Try.underlying45 hn W3.heap.size hkey.out hno.out
  have HMA := Lib.hid hMA
  have HTA := Lib.hid htA
  have HBB := Lib.hid (bthen HBL.out (below_new W3 (.cells #[.int .i64 s, .int .i64 c, .int .i64 q, .int .i64 1, .int .i64 0] 34)))
  clear hMA htA hlen HBL HMQ hno hkey
  have hA0 : (W3.alloc (.cells #[.int .i64 s, .int .i64 c, .int .i64 q, .int .i64 1, .int .i64 0] 34)).cell? ⟨g, 0, none⟩ = some (.map (some mb)) := Lib.cell?_alloc_some _ hg3
  have hA1 : (W3.alloc (.cells #[.int .i64 s, .int .i64 c, .int .i64 q, .int .i64 1, .int .i64 0] 34)).cell? ⟨W.heap.size, 0, none⟩ = some (.int .i64 s) := Lib.cell?_alloc_some _ hk0'
  have hA2 : (W3.alloc (.cells #[.int .i64 s, .int .i64 c, .int .i64 q, .int .i64 1, .int .i64 0] 34)).cell? ⟨W.heap.size, 1, none⟩ = some (.int .i64 c) := Lib.cell?_alloc_some _ hk1'
  have HC9 : Hid (∀ o, (W3.alloc (.cells #[.int .i64 s, .int .i64 c, .int .i64 q, .int .i64 1, .int .i64 0] 34)).cell? ⟨W3.heap.size, o, none⟩ = (lnC (s, c, q, 1, 0))[o]?) := fun o => World.cell?_alloc_at _ _ _ _ rfl
  have HF9 : Hid (∀ o, (W3.alloc (.cells #[.int .i64 s, .int .i64 c, .int .i64 q, .int .i64 1, .int .i64 0] 34)).frozen? ⟨W3.heap.size, o, none⟩ = false) := fun o => by rw [frozen?_alloc_cells]; exact frozen_past _ _ _ (Nat.le_refl _)
  have HZ9 : Hid (W3.heap.size < (W3.alloc (.cells #[.int .i64 s, .int .i64 c, .int .i64 q, .int .i64 1, .int .i64 0] 34)).heap.size) := by show _ < _; simp
  go_region_with (fail)
  all_goals go_wp2_with fail
  all_goals go_ret2
  all_goals exact ⟨rfl, _, wA, W3.heap.size, bdrew HBB.out, hlt.out.2.2, HZ9.out, HC9.out, HF9.out, HMA.out, HTA.out, 0, rfl⟩
/-- A line that is known. -/
theorem setC3 {W : World} {b : Nat} {x : Ln} {y : Ln} (hc : ∀ o, W.cell? ⟨b, o, none⟩ = (lnC x)[o]?) (h1 : x.1 = y.1) (h2 : x.2.1 = y.2.1) :
    ∀ o, (((W.setCell ⟨b, 2, none⟩ (.int .i64 y.2.2.1)).setCell ⟨b, 3, none⟩ (.int .i64 y.2.2.2.1)).setCell ⟨b, 4, none⟩ (.int .i64 y.2.2.2.2)).cell? ⟨b, o, none⟩ = (lnC y)[o]? := by
  intro o
  have n : ∀ (i j : Nat), i ≠ j → (⟨b, i, none⟩ : Addr) ≠ ⟨b, j, none⟩ := fun i j hn q => by injection q with _ q; exact hn q
  by_cases e4 : o = 4
  · subst e4
    rw [World.cell?_setCell_same' _ _ _ (by rw [World.cell?_setCell_other _ _ _ _ (n 3 4 (by omega)), World.cell?_setCell_other _ _ _ _ (n 2 4 (by omega)), hc 4]; rfl)]
    rfl
  rw [World.cell?_setCell_other _ _ _ _ (n 4 o (by omega))]
  by_cases e3 : o = 3
  · subst e3
    rw [World.cell?_setCell_same' _ _ _ (by rw [World.cell?_setCell_other _ _ _ _ (n 2 3 (by omega)), hc 3]; rfl)]
    rfl
  rw [World.cell?_setCell_other _ _ _ _ (n 3 o (by omega))]
  by_cases e2 : o = 2
  · subst e2
    rw [World.cell?_setCell_same' _ _ _ (by rw [hc 2]; rfl)]
    rfl
  rw [World.cell?_setCell_other _ _ _ _ (n 2 o (by omega)), hc o]
  rcases o with _ | _ | _ | _ | _ | o
  · show some (Value.int .i64 x.1) = some (Value.int .i64 y.1); rw [h1]
  · show some (Value.int .i64 x.2.1) = some (Value.int .i64 y.2.1); rw [h2]
  · exact absurd rfl e2
  · exact absurd rfl e3
  · exact absurd rfl e4
  · rfl
def heardL (x : Ln) (q : Int) : Ln := (x.1, x.2.1, q, wrap64 (x.2.2.2.1 + 1), wrap64 (x.2.2.2.2 + lostOf x.2.2.1 q))
set_option maxHeartbeats 4000000 in
theorem hear_hit (g mb n b : Nat) (L : List ((Int × Int) × Nat)) (q s c u h l : Int) (w : World) (hg : w.cell? ⟨g, 0, none⟩ = some (.map (some mb))) (hx : (octB q && octB s && octB c) = true) (hM : PMap Try.prog kT keyL w mb n L) (hin : ((s, c), b) ∈ L)
    (hcell : ∀ o, w.cell? ⟨b, o, none⟩ = (lnC (s, c, u, h, l))[o]?) (hfz : ∀ o, w.frozen? ⟨b, o, none⟩ = false) (hu : octB u = true) :
    Calls Try.prog 8 #[.pointer (some ⟨g, 0, none⟩), .int .i64 q, .int .i64 s, .int .i64 c] w fun e w' => e = .returned (.tuple #[.int .i64 (lostOf u q), .bool true]) ∧ ∃ W0, Below w.heap.size w W0 ∧
      w' = ((W0.setCell ⟨b, 2, none⟩ (.int .i64 q)).setCell ⟨b, 3, none⟩ (.int .i64 (wrap64 (h + 1)))).setCell ⟨b, 4, none⟩ (.int .i64 (wrap64 (l + lostOf u q))) := by
  have HO := asked q s c w _ hx
  have HB := Lib.hid (below_new w (.cells #[.int .i64 q, .int .i64 s, .int .i64 c] 3))
  have HG := Lib.hid hg
  have HM := Lib.hid hM
  have hqo : octB q = true := by simp only [Bool.and_eq_true] at hx; exact hx.1.1
  have HBT := fun W => Lib.hid (between_any (octB_iff.1 hu) (octB_iff.1 hqo) W)
  have hkey : Hid (keyOf Try.prog kT (keyV s c) = some (keyL (s, c))) := by
    simp only [Bool.and_eq_true] at hx
    exact key_at hx.1.2 hx.2
  clear hx hM hu hqo
  have HIN := Lib.hid hin
  clear hin
  have hgl : g < w.heap.size := by
    refine Nat.lt_of_not_le fun q => ?_
    simp [World.cell?, Array.getElem?_eq_none q] at hg
  have hbl : b < w.heap.size := by
    refine Nat.lt_of_not_le fun q => ?_
    have := hcell 0
    simp [World.cell?, Array.getElem?_eq_none q, lnC] at this
  have HCE := Lib.hid hcell
  have HFZ := Lib.hid hfz
  clear hcell hfz
  generalize lostOf u q = lost at *
  have hne := mapNe mb
  go_enter Try.func8, Try.ntmps8
  go_wp2_with fail
  refine HO.out.mono ?_
  rintro e w1 ⟨rfl, n1, rfl⟩
  have hb1 := bdrewN HB.out n1
  have hg1 := ((bcell hb1).1 g 0 hgl).trans hg
  have HM1 := Lib.hid (HM.out.block (hb1.block _ HM.out.lt))
  have HC1 : Hid (∀ o, ((w.alloc (.cells #[.int .i64 q, .int .i64 s, .int .i64 c] 3)).drewN n1).cell? ⟨b, o, none⟩ = (lnC (s, c, u, h, l))[o]?) := fun o => ((bcell hb1).1 b o hbl).trans (HCE.out o)
  have HF1 : Hid (∀ o, ((w.alloc (.cells #[.int .i64 q, .int .i64 s, .int .i64 c] 3)).drewN n1).frozen? ⟨b, o, none⟩ = false) := fun o => ((bcell hb1).2 b o hbl).trans (HFZ.out o)
  have hb1z : b < ((w.alloc (.cells #[.int .i64 q, .int .i64 s, .int .i64 c] 3)).drewN n1).heap.size := Nat.lt_of_lt_of_le hbl hb1.size
  have HB1 := Lib.hid hb1
  generalize hW : (w.alloc (.cells #[.int .i64 q, .int .i64 s, .int .i64 c] 3)).drewN n1 = W at *
  clear hW hg HO HB HM HG hb1 HCE HFZ
  have hbn := below_new W (.cells #[.int .i64 s, .int .i64 c] 51)
  have HB2 := Lib.hid (bthen HB1.out hbn)
  have HM2 := Lib.hid (HM1.out.block (Below.heap_alloc W (.cells #[.int .i64 s, .int .i64 c] 51) mb HM1.out.lt))
  have hg2 : (W.alloc (.cells #[.int .i64 s, .int .i64 c] 51)).cell? ⟨g, 0, none⟩ = some (.map (some mb)) := (Lib.cell?_alloc_some _ hg1)
  have hk0 : (W.alloc (.cells #[.int .i64 s, .int .i64 c] 51)).cell? ⟨W.heap.size, 0, none⟩ = some (.int .i64 s) := World.cell?_alloc_at _ _ _ _ rfl
  have hk1 : (W.alloc (.cells #[.int .i64 s, .int .i64 c] 51)).cell? ⟨W.heap.size, 1, none⟩ = some (.int .i64 c) := World.cell?_alloc_at _ _ _ _ rfl
  have HC2 : Hid (∀ o, (W.alloc (.cells #[.int .i64 s, .int .i64 c] 51)).cell? ⟨b, o, none⟩ = (lnC (s, c, u, h, l))[o]?) := fun o => ((bcell hbn).1 b o hb1z).trans (HC1.out o)
  have HF2 : Hid (∀ o, (W.alloc (.cells #[.int .i64 s, .int .i64 c] 51)).frozen? ⟨b, o, none⟩ = false) := fun o => ((bcell hbn).2 b o hb1z).trans (HF1.out o)
  clear hbn
  go_upto_region 4 with fail
  generalize hW2 : W.alloc (.cells #[.int .i64 s, .int .i64 c] 51) = W2 at *
  clear hW2 HC1 HF1 HB1 HM1
  have hl : ∀ k, (Instr.lookup 45 (.map (some mb)) (.agg #[.int .i64 s, .int .i64 c]) true).run Try.prog (W2.drewN k) = .ok (.tuple #[.pointer (some ⟨b, 0, none⟩), .bool true]) (W2.drewN k) := fun k =>
    (HM2.out.block (w' := W2.drewN k) rfl).look_hit kKeyed Try.underlying45 (elem_zero _) hkey.out HIN.out
  go_quiet (fail)
  have HBL := Lib.hid (bdrewN HB2.out nq)
  have c2 : (W2.drewN nq).cell? ⟨b, 2, none⟩ = some (.int .i64 u) := HC2.out 2
  have c3 : (W2.drewN nq).cell? ⟨b, 3, none⟩ = some (.int .i64 h) := HC2.out 3
  have c4 : (W2.drewN nq).cell? ⟨b, 4, none⟩ = some (.int .i64 l) := HC2.out 4
  have f2 : (W2.drewN nq).frozen? ⟨b, 2, none⟩ = false := HF2.out 2
  have f3 : (W2.drewN nq).frozen? ⟨b, 3, none⟩ = false := HF2.out 3
  have f4 : (W2.drewN nq).frozen? ⟨b, 4, none⟩ = false := HF2.out 4
  generalize W2.drewN nq = W3 at *
  clear hl hk0 hk1 hg2 HB2 HM2 HC2 HF2
  go_wp2_with (go_at_call 15; refine (HBT _).out.mono ?_; rintro e w' ⟨rfl, rfl⟩)
  go_ret2
  exact ⟨rfl, _, HBL.out, rfl⟩
end Go.Proofs.Ytloebedipfppeaa
