/- Layer 43: slices.Clone over timers; All. -/
import Derived.Test.YtcageojgfnihpaaDueC
import Derived.Lib.SliceRun
import Derived.Deep.RegionHeld3
namespace Go.Proofs.Ytcageojgfnihpaa
set_option linter.unusedVariables false
open Go.RowKit

theorem RowV.at {S : Nat → Prop} {q n : Nat} {f : Nat → Tm} {v : Value} {w : World} (h : RowV S q n f v w) (hn : 0 < n) : ∃ B c, v = .slice (some ⟨B, 0, none⟩) n c ∧ RowI S q B c n f w := by
  rcases h with ⟨e, -⟩ | h
  · omega
  · exact h
set_option maxRecDepth 8000 in
set_option maxHeartbeats 1000000 in
theorem cloneRow_any {S : Nat → Prop} {q n : Nat} {f : Nat → Tm} {v : Value} {w : World} (h : RowV S q n f v w) (hn : n ≤ 1000) :
    Calls Try.prog 25 #[v] w fun e w' => ∃ v', e = .returned v' ∧ w'.ownsRow w.heap.size 56 1 v' n (pv f n) ∧ Below w.heap.size w w' := by
  rcases h with ⟨rfl, rfl, h⟩ | ⟨B, c, rfl, h⟩
  · have EQ : ∀ W : World, (binOp .eql 51 (.slice none 0 0) (.slice none 0 0)).run Try.prog W = .ok (.bool true) W := fun W => Lib.run_eql_slice_nil W 51 56 none 0 0 0 0 Try.underlying51
    clear h
    go_enter Try.func25, Try.ntmps25
    go_wp2
    go_ret
    exact ⟨_, rfl, World.ownsRow_nil w _ _ _, Below.refl _ _⟩
  · obtain ⟨i0, hi, hz0, hz1, hz2⟩ := info_partsP tim_info
    have hown : (w.alloc (.cells #[] 56)).ownsRow w.heap.size 56 1 (.slice (some ⟨w.heap.size, 0, none⟩) 0 0) 0 [] := World.ownsRow_made w #[] 0 (Nat.le_refl _) (by decide) rfl
    have HO := Lib.hid hown
    have HR := Lib.hid h
    clear hown h
    have EQ : ∀ W : World, (binOp .eql 51 (.slice (some ⟨B, 0, none⟩) n c) (.slice none 0 0)).run Try.prog W = .ok (.bool false) W := fun W => Lib.run_eql_slice_nil W 51 56 (some ⟨B, 0, none⟩) n c 0 0 Try.underlying51
    go_enter Try.func25, Try.ntmps25
    go_wp2_with (at_builtin; refine wpList_append_own _ rfl _ _ 51 rfl w.heap.size 56 i0 (.pointer none) 1 8 Try.underlying51 hi hz0 hz1 hz2 rfl (by decide) _ _ _ rfl HO.out ⟨B, 0, none⟩ n c (pv f n) rfl (by rw [pv_len]; omega) ?c1 ?c2 ?c3 ?c4 ?c5 ?_)
    case c1 =>
      intro j u hu
      have hj : j < n := by
        rcases Nat.lt_or_ge j n with k | k
        · exact k
        · rw [List.getElem?_eq_none (by rw [pv_len]; exact k)] at hu; cases hu
      rw [pv_at f hj] at hu
      injection hu with hu
      have e1 : (⟨B, 0, none⟩ : Addr).add j = ⟨B, j, none⟩ := by unfold Addr.add; split <;> simp_all
      have hc := (HR.out.tim j hj).row
      rw [e1, World.cell?_alloc_past _ _ _ (lt_of_cell hc), hc, ← hu]
    case c2 => intro u hu; obtain ⟨s, -, rfl⟩ := List.mem_map.1 hu; rfl
    case c3 => unfold maxLen; omega
    case c4 => omega
    case c5 => simp
    intro v' w2 hown' hgrow _
    have HPOST : Hid (w2.ownsRow w.heap.size 56 1 v' n (pv f n) ∧ Below w.heap.size w w2) := by
      refine ⟨?_, (below_new w _).grown hgrow (by simp) (fun k hk => (HO.out.lt k hk).1)⟩
      exact hown'
    clear hown' hgrow HO HR
    go_wp2_with fail
    go_ret
    exact ⟨_, rfl, HPOST.out.1, HPOST.out.2⟩
def SortedR (r : List Tr) : Prop := r.Pairwise (fun x y => befR x y = true)
theorem befR_iff {x y : Tr} : befR x y = true ↔ x.2.1 < y.2.1 ∨ x.2.1 = y.2.1 ∧ x.1 < y.1 := by simp [befR]
theorem sortedR_unique : ∀ {l l' : List Tr}, l.Perm l' → SortedR l → SortedR l' → l = l'
  | [], l', hp, _, _ => (List.nil_perm.1 hp).symm
  | x :: l, [], hp, _, _ => by cases List.perm_nil.1 hp
  | x :: l, y :: l', hp, h, h' => by
    have h1 := List.pairwise_cons.1 h
    have h2 := List.pairwise_cons.1 h'
    have e : x = y := by
      rcases List.mem_cons.1 (hp.mem_iff.1 (List.mem_cons_self : x ∈ x :: l)) with e | hx
      · exact e
      · rcases List.mem_cons.1 (hp.mem_iff.2 (List.mem_cons_self : y ∈ y :: l')) with e | hy
        · exact e.symm
        · have q1 := h1.1 y hy
          have q2 := h2.1 x hx
          rw [befR_iff] at q1 q2
          omega
    subst e
    rw [sortedR_unique ((List.perm_cons x).1 hp) h1.2 h2.2]
/-- The cells of what All answers. -/
def allC (r : List Tr) : List Value := r.flatMap fun x => [.int .i64 x.1, .int .i64 x.2.1]
theorem allC_snoc (r : List Tr) (x : Tr) : allC (r ++ [x]) = allC r ++ [.int .i64 x.1, .int .i64 x.2.1] := by simp [allC]
theorem pair_info : (Try.prog.info? 65).map (fun i => (i.zero, i.size, i.bytes)) = some (some (.agg #[.int .i64 0, .int .i64 0]), 2, 16) := by kernel_rfl
/-- What the sort leaves. -/
def SortP (r : List Tr) (n g cap : Nat) (w w' : World) : Prop :=
  ∃ l' : List Tm, l'.map tri = r ∧ l'.length = n ∧ (∀ j (hj : j < l'.length), w'.cell? ⟨g, j, none⟩ = some (.pointer (some ⟨(l'[j]).b, 0, none⟩)) ∧ w'.cell? ⟨(l'[j]).b, 0, none⟩ = some (.int .i64 (l'[j]).id) ∧ w'.cell? ⟨(l'[j]).b, 1, none⟩ = some (.int .i64 (l'[j]).t)) ∧ Below w.heap.size w w'
theorem QueA.sorts {S : Nat → Prop} {q N n mb g cap : Nat} {r : List Tr} {f : Nat → Tm} {v : Value} {w w1 : World} (a : QueA S q N r n f v mb w) (hs : SortedR r) (hb1 : Below w.heap.size w w1) (h0 : 0 < n) (hg : w.heap.size ≤ g) (hown : w1.ownsRow w.heap.size 56 1 (.slice (some ⟨g, 0, none⟩) n cap) n (pv f n)) :
    Calls Try.prog 26 #[.slice (some ⟨g, 0, none⟩) n cap, .func (.func 27) #[] #[]] w1 fun e w' => e = .returned (.tuple #[]) ∧ SortP r n g cap w w' := by
  obtain ⟨o1, o2, o3, o4⟩ := own_cells hown
  obtain ⟨B, c, -, hR⟩ := a.rowI h0
  have hlen : (TL f n).length = n := by simp [TL]
  have hgl : g < w1.heap.size := by obtain ⟨cur, e, -⟩ := o3; exact (Array.getElem?_eq_some_iff.1 e).1
  have hti : ∀ i, i < n → (f i).b < w.heap.size ∧ w1.cell? ⟨(f i).b, 0, none⟩ = some (.int .i64 (f i).id) ∧ w1.cell? ⟨(f i).b, 1, none⟩ = some (.int .i64 (f i).t) := fun i hi => by
    have ti := hR.tim i hi
    have hl := lt_of_cell ti.id
    exact ⟨hl, ((bcell hb1).1 _ 0 hl).trans ti.id, ((bcell hb1).1 _ 1 hl).trans ti.t⟩
  have hne : TL f n ≠ [] := fun e => by rw [e] at hlen; simp at hlen; omega
  have hH : ∀ j (hj : j < (TL f n).length), w1.cell? ⟨g, j, none⟩ = some (.pointer (some ⟨((TL f n)[j]).b, 0, none⟩)) ∧ w1.frozen? ⟨g, j, none⟩ = false := fun j hj => by
    have hj' : j < n := by omega
    refine ⟨?_, o2 j⟩
    rw [o1 j hj', pv_at f hj']
    simp [TL]
  have hat : ∀ x ∈ TL f n, AtT w1 g x := fun x hx => by
    obtain ⟨i, hi, rfl⟩ := mem_TL.1 hx
    obtain ⟨h1, h2, h3⟩ := hti i hi
    exact ⟨by omega, h2, h3⟩
  have hc := dueSort_any g cap (TL f n) w1 hne hH hat hgl (by have := a.few; omega) a.pm.distinct
  rw [hlen] at hc
  refine hc.mono ?_
  rintro e w' ⟨rfl, l', hp, hso, hcl, hk⟩
  refine ⟨rfl, l', ?_, by rw [← hp.length_eq, hlen], fun j hj => ?_, ?_⟩
  · refine sortedR_unique ((hp.symm.map tri).trans a.rep.symm) ?_ hs
    exact List.pairwise_map.2 (hso.imp fun {x y} h => h)
  · obtain ⟨i, hi, e⟩ := mem_TL.1 (hp.mem_iff.2 (List.getElem_mem hj))
    obtain ⟨h1, h2, h3⟩ := hti i hi
    have hb := hb1.size
    have hT : (f i).b ≠ g ∧ (f i).b < w1.heap.size := ⟨by omega, by omega⟩
    rw [← e]
    exact ⟨by have := hcl j hj; rw [← e] at this; exact this, (hk.cell hT).trans h2, (hk.cell hT).trans h3⟩
  · exact Below.trans hb1 (hk.below fun k hk => ⟨by omega, by have := hb1.size; omega⟩)
theorem own_base {w : World} {b b' n : Nat} {e : TypeId} {size : Nat} {v : Value} {xs : List Value} (h : w.ownsRow b e size v n xs) (hb : b' ≤ b) : w.ownsRow b' e size v n xs := by
  refine ⟨h.1, ?_⟩
  rcases h.2 with h | ⟨g, cap, cur, h1, h2, h3⟩
  · exact .inl h
  · exact .inr ⟨g, cap, cur, h1, Nat.le_trans hb h2, h3⟩
set_option maxRecDepth 8000 in
set_option maxHeartbeats 2000000 in
theorem all_any {S : Nat → Prop} {q N : Nat} {r : List Tr} {w : World} (h : QueI S q N r w) (hs : SortedR r) : Calls Try.prog 17 #[.pointer (some ⟨q, 0, none⟩)] w fun e w' => ∃ v, e = .returned v ∧ w'.ownsRow w.heap.size 65 2 v r.length (allC r) ∧ Below w.heap.size w w' := by
  obtain ⟨n, f, v, mb, a⟩ := h
  have hm := a.map
  have hcq := a.row.cell
  have hn := a.few
  have HC := Lib.hid (cloneRow_any a.row (by omega))
  have HLN : Hid (r.length = n) := a.len
  obtain ⟨sa, sc, rfl⟩ := a.row.form
  by_cases h0 : n = 0
  · subst h0
    have hr : r = [] := List.length_eq_zero_iff.1 HLN.out
    subst hr
    clear a hs HLN
    go_enter Try.func17, Try.ntmps17
    go_wp2_with (go_at_call 18; refine (there_any q mb _ hm).mono ?_; rintro e w' ⟨rfl, rfl⟩)
    refine HC.out.mono ?_
    rintro e w1 ⟨v', rfl, hown, hb1⟩
    have HB1 := Lib.hid hb1
    obtain ⟨p, cap, rfl⟩ : ∃ p cap, v' = .slice p 0 cap := by
      rcases hown.2 with ⟨e, -⟩ | ⟨g, cap, cur, e, -⟩
      · exact ⟨_, _, e⟩
      · exact ⟨_, _, e⟩
    clear hown hb1
    go_wp2_with (go_at_call 26; refine (sortNone_any _ _ _ _).mono ?_; rintro e w' ⟨rfl, rfl⟩)
    refine wp_loop_rounds 1 ?_
    rw [rounds_succ]
    go_wp2_with fail
    go_ret
    exact ⟨_, rfl, World.ownsRow_nil _ _ _ _, HB1.out⟩
  · have h0' : 0 < n := by omega
    have HSO : Hid (∀ g cap w1, Below w.heap.size w w1 → w.heap.size ≤ g → w1.ownsRow w.heap.size 56 1 (.slice (some ⟨g, 0, none⟩) n cap) n (pv f n) → Calls Try.prog 26 #[.slice (some ⟨g, 0, none⟩) n cap, .func (.func 27) #[] #[]] w1 fun e w' => e = .returned (.tuple #[]) ∧ SortP r n g cap w w') := fun g cap w1 g1 g2 g3 => a.sorts hs g1 h0' g2 g3
    clear a hs
    go_enter Try.func17, Try.ntmps17
    go_wp2_with (go_at_call 18; refine (there_any q mb _ hm).mono ?_; rintro e w' ⟨rfl, rfl⟩)
    refine HC.out.mono ?_
    rintro e w1 ⟨v', rfl, hown, hb1⟩
    obtain ⟨g, cap, rfl, hg, hgl⟩ := hown.form h0'
    have hle : n ≤ cap := (own_cells hown).2.2.2
    have HSO1 := Lib.hid (HSO.out g cap w1 hb1 hg hown)
    clear hown hb1 hgl HSO HC hm hcq
    go_wp2_with fail
    refine HSO1.out.mono ?_
    rintro e w2 ⟨rfl, l', hl1, hl2, hl3, hl4⟩
    have HCL := Lib.hid hl3
    have HB2 := Lib.hid hl4
    have HL1 := Lib.hid hl1
    have HL2 := Lib.hid hl2
    clear hl1 hl2 hl3 hl4 HSO1
    go_wp2_with fail
    go_loopw [4, 19] (fun u kv wr => ∃ k : Nat, kv = .int .i64 (k : Int) ∧ k ≤ n ∧ Hid (wr.ownsRow w2.heap.size 65 2 u k (allC (r.take k)) ∧ Below w2.heap.size w2 wr)) (fun _ kv _ => n - (intOf kv).toNat)
    case atStart => exact ⟨0, rfl, Nat.zero_le _, ⟨World.ownsRow_nil _ _ _ _, Below.refl _ _⟩⟩
    case round =>
      obtain ⟨k, rfl, hk, HW⟩ := hrel
      by_cases hlt : k < n
      · have hk' : k < l'.length := by rw [HL2.out]; exact hlt
        obtain ⟨x1, x2, x3⟩ := HCL.out k hk'
        have hb := HW.out.2
        have y1 := ((bcell hb).1 _ _ (lt_of_cell x1)).trans x1
        have y2 := ((bcell hb).1 _ _ (lt_of_cell x2)).trans x2
        have y3 := ((bcell hb).1 _ _ (lt_of_cell x3)).trans x3
        have HX : Hid (allC (r.take (k + 1)) = allC (r.take k) ++ [.int .i64 (l'[k]).id, .int .i64 (l'[k]).t]) := by
          show _ = _
          rw [List.take_succ_eq_append_getElem (by rw [HLN.out]; exact hlt), allC_snoc]
          have e : r[k]'(by rw [HLN.out]; exact hlt) = tri (l'[k]) := by
            have := HL1.out
            subst this
            simp
          rw [e]
          rfl
        have hbl := lt_of_cell x2
        clear x1 x2 x3 hb
        generalize (l'[k]).b = b at *
        generalize (l'[k]).id = id at *
        generalize (l'[k]).t = t at *
        have hn3 : k + 1 ≤ maxLen := by unfold maxLen; omega
        obtain ⟨i0, hi, hz0, hz1, hz2⟩ := info_partsP pair_info
        have HWA : Hid ((wr.drew.alloc (.cells #[.int .i64 id, .int .i64 t] 65)).ownsRow w2.heap.size 65 2 u4 k (allC (r.take k)) ∧ Below w2.heap.size w2 (wr.drew.alloc (.cells #[.int .i64 id, .int .i64 t] 65))) := ⟨HW.out.1.drew.alloc _, bthen (bdrew HW.out.2) (below_new _ _)⟩
        have HNW : Hid (∀ j u, ([.int .i64 id, .int .i64 t] : List Value)[j]? = some u → (wr.drew.alloc (.cells #[.int .i64 id, .int .i64 t] 65)).cell? ((⟨wr.heap.size, 0, none⟩ : Addr).add j) = some u) := fun j u hu => by
          have e1 : (⟨wr.heap.size, 0, none⟩ : Addr).add j = ⟨wr.heap.size, j, none⟩ := by unfold Addr.add; split <;> simp_all
          rw [e1]
          refine (World.cell?_alloc_at (w := wr.drew) _ _ _ _ rfl).trans ?_
          simpa using hu
        have HWV : Hid (w2.heap.size ≤ (wr.drew.alloc (.cells #[.int .i64 id, .int .i64 t] 65)).heap.size) := HWA.out.2.size
        have HBL : Hid (b < w2.heap.size) := hbl
        have HFR : Hid (b < (wr.drew.alloc (.cells #[.int .i64 id, .int .i64 t] 65)).heap.size ∧ some b ≠ u4.ownBlock) := ⟨Nat.lt_of_lt_of_le HBL.out HWV.out, fun e => by have := (HWA.out.1.lt b e.symm).1; have := HBL.out; omega⟩
        have hby : (k + 1) * 16 ≤ 140737488355328 := by omega
        have hone : Hid (∀ u ∈ ([.int .i64 id, .int .i64 t] : List Value), u.oneCell' = true) := fun u hu => by simp at hu; rcases hu with rfl | rfl <;> rfl
        clear hbl
        go_upto_region 9 with fail
        go_region_held3 (fun w' => w'.cell? ⟨b, 0, none⟩ = some (.int .i64 id) ∧ w'.cell? ⟨b, 1, none⟩ = some (.int .i64 t))
          (first | go_keep | (go_split_ands
                              refine ⟨?_, ?_⟩
                              all_goals (rw [hgrow.cell_far _ HFR.out.1 HFR.out.2]; assumption)))
          ((refine step_append_lies _ (by rfl) _ _ _ (by rfl) w2.heap.size 65 i0 _ 2 16 Try.underlying48 hi hz0 hz1 hz2 rfl (by omega) u4 k (allC (r.take k)) (by rfl) HWA.out.1 ⟨wr.heap.size, 0, none⟩ 1 1 [.int .i64 id, .int .i64 t] (by rfl) (by rfl) HNW.out hone.out (by omega) hn3 hby HWV.out (wr.heap.size + 1) (by simp) ?_; intro g2 cap2 w6 hown' hgrow hlies hg2))
        have HN : Hid (w6.ownsRow w2.heap.size 65 2 (.slice (some ⟨g2, 0, none⟩) (k + 1) cap2) (k + 1) (allC (r.take (k + 1))) ∧ Below w2.heap.size w2 w6) := by
          refine ⟨by rw [HX.out]; exact hown', HWA.out.2.grown hgrow HWA.out.2.size (fun j hj => (HWA.out.1.lt j hj).1)⟩
        clear hown' hgrow hlies hg2 HWA HNW HW hi hz0 hz1 hz2 y1 y2 y3 HFR HBL
        go_wp2_with fail
        go_roundw
        case rel => exact ⟨k + 1, by go_num, by omega, HN⟩
        case measure => simp [intOf]; omega
      · obtain rfl : k = n := by omega
        have HF : Hid (wr.ownsRow w.heap.size 65 2 u4 r.length (allC r) ∧ Below w.heap.size w wr) := by
          have h1 := HW.out
          rw [List.take_of_length_le (by rw [HLN.out]; exact Nat.le_refl _)] at h1
          refine ⟨?_, bthen HB2.out h1.2⟩
          rw [HLN.out]
          exact own_base h1.1 HB2.out.size
        go_wp2_with fail
        go_ret
        exact ⟨_, rfl, HF.out.1, HF.out.2⟩
end Go.Proofs.Ytcageojgfnihpaa
