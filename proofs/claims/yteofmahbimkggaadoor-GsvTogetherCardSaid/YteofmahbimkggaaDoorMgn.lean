/- Layer 29: the reference's Add, where a message fits. -/
import Derived.Test.YteofmahbimkggaaDoorMgm
namespace Go.Proofs.YteofmahbimkggaaDoor
set_option linter.unusedVariables false
open Go.RowKit

/-- The cells of the reference's Add: its book, its message, its result. -/
structure RAd (w W : World) (T N : Int) (v : Value) (C : Array Value) : Prop where
  k0 : W.cell? ⟨w.heap.size, 0, none⟩ = some (.int .i64 T)
  k1 : W.cell? ⟨w.heap.size, 1, none⟩ = some (.int .i64 N)
  k2 : W.cell? ⟨w.heap.size, 2, none⟩ = some v
  m : ∀ o, W.cell? ⟨w.heap.size + 1, o, none⟩ = C[o]?
  r : ∀ o, W.cell? ⟨w.heap.size + 2, o, none⟩ = (rbkC 0 0 none 0 0)[o]?
  f : ∀ b o, w.heap.size ≤ b → b ≤ w.heap.size + 2 → W.frozen? ⟨b, o, none⟩ = false
  bel : Below w.heap.size w W
  sz : w.heap.size + 2 < W.heap.size
theorem RAd.grow {w W W' : World} {T N : Int} {v : Value} {C : Array Value} (h : RAd w W T N v C) (hg : Below W.heap.size W W') : RAd w W' T N v C := by
  have hs := h.sz
  have c := fun b o (hb : b < W.heap.size) => (bcell hg).1 b o hb
  exact ⟨(c _ _ (by omega)).trans h.k0, (c _ _ (by omega)).trans h.k1, (c _ _ (by omega)).trans h.k2, fun o => (c _ _ (by omega)).trans (h.m o), fun o => (c _ _ (by omega)).trans (h.r o), fun b o h1 h2 => ((bcell hg).2 b o (by omega)).trans (h.f b o h1 h2), h.bel.trans (hg.mono h.bel.size), Nat.lt_of_lt_of_le hs hg.size⟩
theorem RAd.set {w W : World} {T N : Int} {v : Value} {C : Array Value} (h : RAd w W T N v C) (v' : Value) : RAd w (W.setCell ⟨w.heap.size, 2, none⟩ v') T N v' C := by
  have o : ∀ b j, ¬ (b = w.heap.size ∧ j = 2) → (W.setCell ⟨w.heap.size, 2, none⟩ v').cell? ⟨b, j, none⟩ = W.cell? ⟨b, j, none⟩ := fun b j hj => World.cell?_setCell_other _ _ _ _ (fun e => by injection e with e1 e2; exact hj ⟨e1.symm, e2.symm⟩)
  exact ⟨(o _ _ (by omega)).trans h.k0, (o _ _ (by omega)).trans h.k1, World.cell?_setCell_same _ _ _ h.k2, fun j => (o _ _ (by omega)).trans (h.m j), fun j => (o _ _ (by omega)).trans (h.r j), fun b j h1 h2 => by rw [World.frozen?_setCell]; exact h.f b j h1 h2, h.bel.setCell (Nat.le_refl _) _, by simpa using h.sz⟩
theorem r29first_set (w : World) (T N kT kN S' : Int) (A A' : Option Addr) (n c n' c' : Nat) :
    RAd w (((w.alloc (.cells (rbkC T N A' n' c') 30)).alloc (.cells (gsvC T N S' A n c) 26)).alloc (.cells (rbkC 0 0 none 0 0) 30)) T N (.slice A' n' c') (gsvC T N S' A n c) := by
  refine ⟨?_, ?_, ?_, fun o => ?_, fun o => ?_, fun b o h1 h2 => ?_, bthen (bthen (below_new _ _) (below_new _ _)) (below_new _ _), by simp⟩
  · rw [World.cell?_alloc_past _ _ _ (by simp; omega), World.cell?_alloc_past _ _ _ (by simp)]; exact World.cell?_alloc_at _ _ _ _ rfl
  · rw [World.cell?_alloc_past _ _ _ (by simp; omega), World.cell?_alloc_past _ _ _ (by simp)]; exact World.cell?_alloc_at _ _ _ _ rfl
  · rw [World.cell?_alloc_past _ _ _ (by simp; omega), World.cell?_alloc_past _ _ _ (by simp)]; exact World.cell?_alloc_at _ _ _ _ rfl
  · rw [World.cell?_alloc_past _ _ _ (by simp)]; exact World.cell?_alloc_at _ _ _ _ (by simp)
  · exact World.cell?_alloc_at _ _ _ _ (by simp)
  · rw [frozen?_alloc_cells, frozen?_alloc_cells, frozen?_alloc_cells]
    exact frozen_past _ _ _ h1
set_option maxRecDepth 8000 in
set_option maxHeartbeats 8000000 in
theorem r29Add_yes {Q R : Nat → Prop} {k : Bk} {w : World} (A' : Option Addr) (c' : Nat) (T N S' : Int) (A : Option Addr) (n c : Nat) (L : List V4) (hn : Hid (L.length = n)) (hQ : Hid (FlatQ Q w A' (vsC k.L))) (hR : Hid (FlatQ R w A (vsC L))) (hm : n ≤ 4) (hl : (fitK k ⟨T, N, S', L⟩).L.length ≤ 10000)
    (h1 : 1 ≤ N) (h9 : N ≤ 9) (hf : fitB k ⟨T, N, S', L⟩ = true) (heq : fitK k ⟨T, N, S', L⟩ = ⟨T, N, (fitK k ⟨T, N, S', L⟩).L⟩) (hb : ¬ badM ⟨T, N, S', L⟩) :
    Calls Tryd.prog 8 #[.agg (rbkC k.T k.N A' k.L.length c'), gsvV T N S' A n c] w (RAddPost k ⟨T, N, S', L⟩ w) := by
  obtain ⟨LK, hLK⟩ : ∃ LK, (fitK k ⟨T, N, S', L⟩).L = LK := ⟨_, rfl⟩
  have HP1 : Hid (N < T → ∀ B d w', FlatQ (fun b => w.heap.size ≤ b ∧ b < w'.heap.size) w' B (vsC (LK ++ L)) → Below w.heap.size w w' → RAddPost k ⟨T, N, S', L⟩ w (.returned (.tuple #[.agg (rbkC T (N + 1) B (LK ++ L).length d), .slice none 0 0, .bool false])) w') := by
    intro hlt B d w' q1 q2
    unfold RAddPost addO addF addK
    rw [hf, if_pos rfl, if_pos hlt, if_pos rfl, if_pos hlt, hLK]
    exact ⟨B, d, none, 0, by rw [decide_eq_true hlt]; rfl, q1, FlatQ.nil _ _ _, q2⟩
  have HP2 : Hid (¬ N < T → ∀ B d w', FlatQ (fun b => w.heap.size ≤ b ∧ b < w'.heap.size) w' B (vsC (LK ++ L)) → Below w.heap.size w w' → RAddPost k ⟨T, N, S', L⟩ w (.returned (.tuple #[.agg #[.int .i64 0, .int .i64 0, .slice none 0 0], .slice B (LK ++ L).length d, .bool true])) w') := by
    intro hlt B d w' q1 q2
    unfold RAddPost addO addF addK
    rw [hf, if_pos rfl, if_neg hlt, if_pos rfl, if_neg hlt, hLK]
    exact ⟨none, 0, B, d, by rw [decide_eq_false hlt]; rfl, FlatQ.nil _ _ _, q1, q2⟩
  have hb' : ¬ (T < 1 ∨ 9 < T ∨ N < 1 ∨ T < N ∨ 4 < L.length) := hb
  have i1 : 1 ≤ T := by omega
  have i2 : T ≤ 9 := by omega
  have i3 : N ≤ T := by omega
  have i4 : (n : Int) ≤ 4 := by omega
  obtain ⟨kT, kN, kL⟩ := k
  simp only at hQ
  -- behind the first if the book is that of the message
  have HCUT : Hid (N = 1 ∧ LK = [] ∨ ¬ N = 1 ∧ kT = T ∧ kN = N ∧ kL = LK) := by
    unfold fitK at heq hLK
    rw [if_neg hb] at heq hLK
    by_cases q : N = 1
    · rw [if_pos q] at hLK
      exact .inl ⟨q, hLK.symm⟩
    · rw [if_neg q] at hLK heq
      injection heq with e1 e2
      exact .inr ⟨q, e1, e2, hLK⟩
  clear hf heq hb hb'
  rw [hLK] at hl
  clear hLK
  have HW0 := fun a b A'' n'' c'' => Lib.hid (r29first_set w a b 0 0 S' A A'' n c n'' c'')
  have hQ2 := Lib.hid hQ.out.lt
  have hR2 := Lib.hid hR.out.lt
  clear hQ hR
  generalize hnk : kL.length = nk at *
  have HNK := Lib.hid hnk
  clear hnk
  go_enter Tryd.func8, Tryd.ntmps8
  try dsimp only
  repeat (fail_if_success (show Code.wp _ (Code.seq (Code.region 3 _ _) _) _ _ _)
          first | go_values | go_skip | go_guarded | go_step | go_upon | go_back | (simp only [Int.not_lt, Int.not_le] at *; go_simp) | (go_ite <;> go_prune <;> (try go_simp)))
  go_cut [] (fun wx => Hid (∃ Ab cb, RAd w wx T N (.slice Ab LK.length cb) (gsvC T N S' A n c) ∧ FlatQ (fun b => b < w.heap.size) wx Ab (vsC LK) ∧ FlatQ (fun b => b < w.heap.size) wx A (vsC L)))
  case first =>
    rcases HCUT.out with ⟨rfl, rfl⟩ | ⟨q, rfl, rfl, rfl⟩
    · clear HCUT
      go_wp2_with fail
      go_meet
      exact ⟨none, 0, (HW0 _ _ _ _ _).out, FlatQ.nil _ _ _, hR2.out.below (HW0 T 1 none 0 0).out.bel (fun b h => h.2) |>.less (fun b h => h.2)⟩
    · have q1 : (kN == 1) = false := by simpa using q
      clear q HCUT
      go_wp2_with fail
      go_meet
      have e := HNK.out
      subst e
      exact ⟨A', c', (HW0 _ _ _ _ _).out, hQ2.out.below (HW0 kT kN A' kL.length c').out.bel (fun b h => h.2) |>.less (fun b h => h.2), hR2.out.below (HW0 kT kN A' kL.length c').out.bel (fun b h => h.2) |>.less (fun b h => h.2)⟩
  case rest =>
  obtain ⟨Ab, cb, hRA, hq, hr⟩ := hcut.out
  clear hcut HCUT hQ2 hR2 HW0
  have hln := hn.out
  subst hln
  obtain ⟨i0, hi, hz0, hz1, hz2⟩ := view_info
  have hwz : w.heap.size ≤ wc.heap.size := hRA.bel.size
  have hown : ((wc.alloc (.cells #[] 53)).drew).ownsRow wc.heap.size 53 8 (.slice (some ⟨wc.heap.size, 0, none⟩) 0 0) 0 [] := World.ownsRow_made wc #[] 0 (Nat.le_refl _) (by decide) rfl
  have hb1 : Below wc.heap.size wc (wc.alloc (.cells #[] 53)).drew := bdrew (below_new _ _)
  obtain ⟨v1, w2, hrun1, h8, h10, -⟩ := run_append_mine (P := Tryd.prog) (wc.alloc (.cells #[] 53)).drew 24 24 53 i0 _ 8 64 Tryd.underlying24 hi hz0 hz1 hz2 rfl (by decide) wc.heap.size _ 0 [] hown Ab LK.length cb (vsC LK) (vsC_len LK) (hq.below hb1 (fun b h => by omega)) (vsC_one LK) (by unfold maxLen; omega) (by omega) (by simp)
  rw [Nat.zero_add, List.nil_append] at h8
  have hb2 : Below wc.heap.size wc w2 := hb1.trans ⟨h10.os, h10.tape, h10.output, h10.size, fun b hb => h10.block b (by simp; omega) (fun e => by simp [Value.ownBlock] at e; omega)⟩
  obtain ⟨v2, w3, hrun2, h11, h12, -⟩ := run_append_mine (P := Tryd.prog) w2 24 24 53 i0 _ 8 64 Tryd.underlying24 hi hz0 hz1 hz2 rfl (by decide) wc.heap.size _ LK.length (vsC LK) h8 A L.length c (vsC L) (vsC_len L) (hr.below hb2 (fun b h => by omega)) (vsC_one L) (by unfold maxLen; omega) (by omega) hb2.size
  have hb3 : Below wc.heap.size wc w3 := hb2.trans ⟨h12.os, h12.tape, h12.output, h12.size, fun b hb => h12.block b (by have := hb2.size; omega) (fun e => by have := (h8.lt b e.symm).1; omega)⟩
  obtain ⟨B, d, rfl, -, hfl, -⟩ := flatq_own h11
  have hRB := (hRA.grow hb3).set (.slice B (LK.length + L.length) d)
  have HFL : Hid (FlatQ (fun b => w.heap.size + 2 < b ∧ b < (w3.setCell ⟨w.heap.size, 2, none⟩ (.slice B (LK.length + L.length) d)).heap.size) (w3.setCell ⟨w.heap.size, 2, none⟩ (.slice B (LK.length + L.length) d)) B (vsC (LK ++ L))) := by
    rw [vsC_append]
    have hsz := hRA.sz
    refine (hfl.keep fun b h => Below.heap_setCell _ _ _ _ (fun e => ?_)).less fun b h => ⟨by omega, by simpa using h.2⟩
    have := h.1
    simp only at e
    omega
  have HRB := Lib.hid hRB
  have x2 := hRA.k2
  have x1 := hRA.k1
  have x0 := hRA.k0
  have y3 := hRA.m 3
  have y1 := hRA.m 1
  have y0 := hRA.m 0
  have z2 : w3.cell? ⟨w.heap.size, 2, none⟩ = some (.slice Ab LK.length cb) := (hRA.grow hb3).k2
  have f2 : w3.frozen? ⟨w.heap.size, 2, none⟩ = false := (hRA.grow hb3).f _ _ (Nat.le_refl _) (by omega)
  have xa : (wc.alloc (.cells #[] 53)).drew.cell? ⟨w.heap.size, 2, none⟩ = some (.slice Ab LK.length cb) := (hRA.grow hb1).k2
  have ya : (wc.alloc (.cells #[] 53)).drew.cell? ⟨w.heap.size + 1, 3, none⟩ = some (.slice A L.length c) := (hRA.grow hb1).m 3
  have ya2 : w2.cell? ⟨w.heap.size + 1, 3, none⟩ = some (.slice A L.length c) := (hRA.grow hb2).m 3
  have HR1 := Lib.hid hrun1
  have HR2 := Lib.hid hrun2
  have HNL : Hid ((LK ++ L).length = LK.length + L.length) := List.length_append
  generalize LK.length = nl at *
  generalize L.length = ml at *
  clear hfl h11 h12 h8 h10 hb1 hb2 hb3 hown hrun1 hrun2 hRB hRA hq hr hi hz0 hz1 hz2 hwz
  go_upto_region 7 with fail
  go_cut [] (fun wx => wx = w3.setCell ⟨w.heap.size, 2, none⟩ (.slice B (nl + ml) d))
  case first =>
    go_region_law (first | (refine step_append_known (by rfl) _ _ _ (by rfl) _ _ _ (by rfl) (by rfl) HR1.out ?_) | (refine step_append_known (by rfl) _ _ _ (by rfl) _ _ _ (by rfl) (by rfl) HR2.out ?_))
    all_goals go_wp2_with fail
    all_goals go_meet
    all_goals rfl
  case rest =>
  subst hcut
  generalize w3.setCell ⟨w.heap.size, 2, none⟩ (.slice B (nl + ml) d) = W4 at *
  clear x2 x1 x0 y3 y1 y0 z2 f2 xa ya ya2 HR1 HR2
  obtain ⟨k0, k1, k2, hm, hr, hf, hbel, hsz⟩ := HRB.out
  have m0 : W4.cell? ⟨w.heap.size + 1, 0, none⟩ = some (.int .i64 T) := hm 0
  have m1 : W4.cell? ⟨w.heap.size + 1, 1, none⟩ = some (.int .i64 N) := hm 1
  have r0 : W4.cell? ⟨w.heap.size + 1 + 1, 0, none⟩ = some (.int .i64 0) := hr 0
  have r1 : W4.cell? ⟨w.heap.size + 1 + 1, 1, none⟩ = some (.int .i64 0) := hr 1
  have r2 : W4.cell? ⟨w.heap.size + 1 + 1, 2, none⟩ = some (.slice none 0 0) := hr 2
  have f1 := fun o => hf w.heap.size o (Nat.le_refl _) (by omega)
  have f2 := fun o => hf (w.heap.size + 1 + 1) o (by omega) (by omega)
  have HBE := Lib.hid hbel
  clear hm hr hf hbel hsz HRB
  by_cases hlt : N < T
  · have b1 : (N == T) = false := by simp; omega
    go_wp2_with fail
    refine bodyPost_ret (v := .tuple #[.agg (rbkC T (N + 1) B (nl + ml) d), .slice none 0 0, .bool false]) (by simp [results, Tryd.results8, go_sem, r0, r1, r2]) rfl ?_
    have q := HP1.out hlt B d ((((W4.setCell ⟨w.heap.size, 1, none⟩ (.int .i64 (N + 1))).setCell ⟨w.heap.size + 1 + 1, 0, none⟩ (.int .i64 T)).setCell ⟨w.heap.size + 1 + 1, 1, none⟩ (.int .i64 (N + 1))).setCell ⟨w.heap.size + 1 + 1, 2, none⟩ (.slice B (nl + ml) d)) ?_ ?_
    · rw [HNL.out] at q
      exact q
    · exact (HFL.out.keep fun b h => by
        have e : ∀ (W : World) (g o : Nat) (v : Value), g ≤ w.heap.size + 2 → (W.setCell ⟨g, o, none⟩ v).heap[b]? = W.heap[b]? := fun W g o v hg => Below.heap_setCell _ _ _ _ (by simp only; omega)
        rw [e _ _ _ _ (by omega), e _ _ _ _ (by omega), e _ _ _ _ (by omega), e _ _ _ _ (by omega)]).less fun b h => ⟨by omega, by simpa using h.2⟩
    · exact ((((HBE.out.setCell (Nat.le_refl _) _).setCell (by simp only; omega) _).setCell (by simp only; omega) _).setCell (by simp only; omega) _)
  · obtain rfl : N = T := by omega
    go_wp2_with fail
    go_region_with (fail)
    all_goals go_wp2_with fail
    all_goals
      refine bodyPost_ret (v := .tuple #[.agg #[.int .i64 0, .int .i64 0, .slice none 0 0], .slice B (nl + ml) d, .bool true]) (by simp [results, Tryd.results8, go_sem, Act.put, r0, r1, r2]) rfl ?_
      have q := HP2.out hlt B d ((((W4.setCell ⟨w.heap.size, 1, none⟩ (.int .i64 (N + 1))).setCell ⟨w.heap.size + 1 + 1, 0, none⟩ (.int .i64 0)).setCell ⟨w.heap.size + 1 + 1, 1, none⟩ (.int .i64 0)).setCell ⟨w.heap.size + 1 + 1, 2, none⟩ (.slice none 0 0)).drew ?_ ?_
      · rw [HNL.out] at q
        exact q
      · exact (HFL.out.keep fun b h => by
          have e : ∀ (W : World) (g o : Nat) (v : Value), g ≤ w.heap.size + 2 → (W.setCell ⟨g, o, none⟩ v).heap[b]? = W.heap[b]? := fun W g o v hg => Below.heap_setCell _ _ _ _ (by simp only; omega)
          show (((W4.setCell _ _).setCell _ _).setCell _ _ |>.setCell _ _).heap[b]? = _
          rw [e _ _ _ _ (by omega), e _ _ _ _ (by omega), e _ _ _ _ (by omega), e _ _ _ _ (by omega)]).less fun b h => ⟨by omega, by show b < (World.setCell _ _ _).heap.size; simpa using h.2⟩
      · exact bdrew ((((HBE.out.setCell (Nat.le_refl _) _).setCell (by simp only; omega) _).setCell (by simp only; omega) _).setCell (by simp only; omega) _)
theorem r29Add_any {Q R : Nat → Prop} {k : Bk} {w : World} (A' : Option Addr) (c' : Nat) (T N S' : Int) (A : Option Addr) (c : Nat) (L : List V4) (hQ : FlatQ Q w A' (vsC k.L)) (hR : FlatQ R w A (vsC L)) (hm : L.length ≤ maxLen) (hl : k.L.length ≤ 10000) :
    Calls Tryd.prog 8 #[.agg (rbkC k.T k.N A' k.L.length c'), gsvV T N S' A L.length c] w (RAddPost k ⟨T, N, S', L⟩ w) := by
  cases hf : fitB k ⟨T, N, S', L⟩ with
  | false => exact r29Add_no A' _ c' T N S' A _ c L rfl hm hf
  | true =>
    have hf' := hf
    unfold fitB at hf
    simp only [Bool.and_eq_true, Bool.not_eq_true', decide_eq_false_iff_not, decide_eq_true_eq] at hf
    obtain ⟨h1, h2, h3⟩ := hf
    have hb : ¬ (T < 1 ∨ 9 < T ∨ N < 1 ∨ T < N ∨ 4 < L.length) := h1
    refine r29Add_yes A' c' T N S' A _ c L rfl hQ hR (by omega) ?_ (by omega) (by omega) hf' ?_ h1
    · unfold fitK
      rw [if_neg h1]
      split
      · exact Nat.zero_le _
      · exact hl
    · generalize fitK k ⟨T, N, S', L⟩ = K at *
      obtain ⟨a, b, c⟩ := K
      simp only at h2 h3
      rw [← h2, ← h3]
end Go.Proofs.YteofmahbimkggaaDoor
