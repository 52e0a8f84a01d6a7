/- Layer 33: All. -/
import Derived.Test.YtloebedipfppeaaGap6
namespace Go.Proofs.Ytloebedipfppeaa
set_option linter.unusedVariables false
open Go.RowKit Go.Shelf Go.Sort

theorem info_partsP {P : Program} {t : TypeId} {z : Value} {s b : Nat} (h : (P.info? t).map (fun i => (i.zero, i.size, i.bytes)) = some (some z, s, b)) : ∃ i, P.info? t = some i ∧ i.zero = some z ∧ i.size = s ∧ i.bytes = b := by
  cases hi : P.info? t with
  | none => rw [hi] at h; cases h
  | some i =>
    rw [hi] at h
    injection h with h
    injection h with h1 h2
    injection h2 with h2 h3
    exact ⟨i, rfl, h1, h2, h3⟩
theorem line_info : (Try.prog.info? 34).map (fun i => (i.zero, i.size, i.bytes)) = some (some (lnV 0 0 0 0 0), 5, 40) := by kernel_rfl
abbrev klL (x : Ln) : Lit := keyL (lnKey x)
theorem PMap.lines {w : World} {mb n : Nat} {L : List (Ln × Nat)} (h : PMap Try.prog kT keyL w mb n (L.map fun p => (lnKey p.1, p.2))) : PMap Try.prog kT klL w mb n L := by
  obtain ⟨D, h1, h2, h3, h4, h5⟩ := h
  refine ⟨D, h1, fun p hp => h2 (lnKey p.1, p.2) (List.mem_map.2 ⟨p, hp, rfl⟩), fun l hl => ?_, by simpa using h4, (by have := List.pairwise_map.1 h5; exact this)⟩
  obtain ⟨q, hq, e⟩ := h3 l hl
  obtain ⟨p, hp, rfl⟩ := List.mem_map.1 hq
  exact ⟨p, hp, e⟩
/-- What the loop keeps. -/
def AllLoop (w : World) (mb n : Nat) (L : List (Ln × Nat)) (v : Value) (wr : World) : Prop :=
  ∃ (D : List Ln) (T : List (Ln × Nat)) (cnt : Nat), (D ++ T.map Prod.fst).Perm (L.map Prod.fst) ∧ (∀ p ∈ T, p ∈ L) ∧ PRange Try.prog kT klL wr mb w.heap.size n L T cnt ∧ wr.ownsRow (w.heap.size + 1) 34 5 v D.length (lnsC D) ∧ Below w.heap.size w wr ∧ w.heap.size + 1 ≤ wr.heap.size
theorem line_at {w W : World} {b : Nat} {x : Ln} (h : ∀ o, w.cell? ⟨b, o, none⟩ = (lnC x)[o]?) (hb : Below w.heap.size w W) : ∀ o, W.cell? ⟨b, o, none⟩ = (lnC x)[o]? := fun o => by
  have hlt : b < w.heap.size := by
    refine Nat.lt_of_not_le fun q => ?_
    have := h 0
    simp [World.cell?, Array.getElem?_eq_none q, lnC] at this
  exact ((bcell hb).1 b o hlt).trans (h o)
/-- What is sorted: a row of the call's own. -/
theorem sortOwn_any {B cap0 : Nat} {v : Value} {D : List Ln} {w : World} (h : w.ownsRow B 34 5 v D.length (lnsC D)) (hn : D.length ≤ 16) (hk : D.Pairwise (fun x y => lnKey x ≠ lnKey y)) :
    Calls Try.prog 16 #[v, .func (.func 17) #[] #[]] w fun e w' => e = .returned (.tuple #[]) ∧ ∃ A c l, v = .slice A D.length c ∧ D.Perm l ∧ SortedL l ∧ Lns w' w'.heap.size A l ∧ FreshA B A ∧ ∀ B', B' ≤ B → B' ≤ w.heap.size → Below B' w w' := by
  obtain ⟨A, c, hv, hl, hf, -⟩ := lns_of_own h
  by_cases h0 : D.length = 0
  · obtain rfl := List.length_eq_zero_iff.1 h0
    rw [hv]
    refine (AnyF.slices_SortFunc_none gapSortL A c (.func (.func 17) #[] #[]) w).mono ?_
    rintro e w' ⟨rfl, rfl⟩
    exact ⟨rfl, A, c, [], rfl, List.Perm.refl _, List.Pairwise.nil, fun k hk => absurd hk (Nat.not_lt_zero _), hf, fun B' _ _ => Below.refl _ _⟩
  · obtain ⟨b, off, hA, -, -⟩ := hl 0 (by omega)
    subst hA
    subst hv
    have hoff : off = 0 := by
      rcases h.2 with ⟨q, -⟩ | ⟨g, cap, cur, q, -⟩
      · cases q
      · injection q with q
        injection q with q
        injection q
    subst hoff
    obtain ⟨hH, hb, hB⟩ := holds_of_own h
    have hs : D.toArray.size = D.length := by simp
    have := gapSort_any b c D.toArray w hH hb (by rw [hs]; exact hn) (by simpa using hk)
    rw [hs] at this
    refine this.mono ?_
    rintro e w' ⟨rfl, d', hp, hso, hH', hg⟩
    refine ⟨rfl, _, c, d'.toList, rfl, by simpa using hp, hso, lns_of_holds hH' (Nat.lt_of_lt_of_le hb hg.size), hf, fun B' q q' => (Below.refl B' w).grown hg q' (fun k hk => ?_)⟩
    injection hk with hk
    omega
set_option maxRecDepth 8000 in
set_option maxHeartbeats 8000000 in
theorem gapsAll_any {S : Nat → Prop} {g : Nat} {L : List (Ln × Nat)} {w : World} (h : BookI S g L w) (hn : L.length ≤ 16) :
    Calls Try.prog 9 #[.pointer (some ⟨g, 0, none⟩)] w fun e w' => ∃ A c l, e = .returned (.slice A L.length c) ∧ (L.map Prod.fst).Perm l ∧ SortedL l ∧ Lns w' w'.heap.size A l ∧ FreshA w.heap.size A ∧ Below w.heap.size w w' := by
  obtain ⟨mb, hg, hM, hL, -, -, -, -⟩ := h
  have HM := Lib.hid hM.lines
  have HLL := Lib.hid hL
  have HMK : Hid (∀ p ∈ L, keyOf Try.prog kT (keyV p.1.1 p.1.2.1) = some (klL p.1)) := fun p hp => key_at (hL p hp).2.2.2.2.1 (hL p hp).2.2.2.2.2.1
  have HG := Lib.hid hg
  clear hM hL
  go_enter Try.func9, Try.ntmps9
  go_wp2_with (at_range; refine wpList_range_pmap _ rfl _ 45 rfl kT 52 kKeyed Try.underlying45 klL mb L.length L rfl HM.out ?_)
  intro w0 cnt hrg hg0 hs0
  have HI0 : Hid (AllLoop w mb L.length L (.slice none 0 0) w0) := ⟨[], L, cnt, List.Perm.refl _, fun p hp => hp, hrg, World.ownsRow_nil _ _ _ _, (Below.refl _ w).grown hg0 (Nat.le_refl _) (fun k hk => by cases hk), by omega⟩
  clear hrg hg0 hs0 hg
  go_wp2_with fail
  try go_frame
  go_loopw [3] (fun v wr => Hid (AllLoop w mb L.length L v wr)) (fun _ wr => wr.rangeLeft mb w.heap.size)
  case atStart => exact HI0
  case round =>
    clear HI0
    obtain ⟨D, T, cnt1, hperm, hT, hrg, hown, hb, hz⟩ := hrel.out
    have HRG := Lib.hid hrg
    have HOWN := Lib.hid hown
    have HB := Lib.hid hb
    have HZ := Lib.hid hz
    have HP := Lib.hid (And.intro hperm hT)
    clear hperm hT hrg hown hb hz
    go_wp2_with (at_next; refine wpList_next_pmap _ rfl _ rfl kT kKeyed klL (fun x => keyV x.1 x.2.1) mb w.heap.size L.length L T HMK.out cnt1 rfl HRG.out ?_ ?_)
    · intro hT0
      have hp := HP.out.1
      rw [hT0, List.map_nil, List.append_nil] at hp
      have hlen : D.length = L.length := by simpa using hp.length_eq
      have hkd : D.Pairwise (fun x y => lnKey x ≠ lnKey y) := by
        refine (hp.pairwise_iff (fun h => fun e => h e.symm)).2 (List.pairwise_map.2 (HM.out.apart.imp fun {p q} h e => h ?_))
        show keyL _ = keyL _
        rw [e]
      have HS := Lib.hid (sortOwn_any (cap0 := 0) HOWN.out (by omega) hkd)
      have HPP := Lib.hid hp
      have HLN := Lib.hid hlen
      clear hp hlen hkd hT0 HRG HP HOWN
      go_wp2_with fail
      refine HS.out.mono ?_
      rintro e w' ⟨rfl, A, c, l, hv, h1, h2, h3, h4, h5⟩
      have HE : Hid (u3 = .slice A L.length c) := by rw [← HLN.out]; exact hv
      have HR : Hid ((L.map Prod.fst).Perm l ∧ SortedL l ∧ Lns w' w'.heap.size A l ∧ FreshA w.heap.size A ∧ Below w.heap.size w w') :=
        ⟨HPP.out.symm.trans h1, h2, h3, h4.less (Nat.le_succ _), HB.out.trans (h5 _ (Nat.le_succ _) (Nat.le_trans (Nat.le_succ _) HZ.out))⟩
      clear hv h1 h2 h3 h4 h5
      go_wp2_with fail
      go_ret
      exact ⟨A, c, l, by rw [HE.out]; rfl, HR.out⟩
    · intro s c q hh l bb T' w1 cnt2 hpT hrg1 hlt hg1 hs1 hen
      have hmem : ((s, c, q, hh, l), bb) ∈ L := HP.out.2 _ (hpT.mem_iff.2 List.mem_cons_self)
      have hb1 : Below w.heap.size w w1 := HB.out.grown hg1 (by have := HZ.out; omega) (fun k hk => by injection hk with hk; omega)
      have hz1 : w.heap.size + 1 ≤ w1.heap.size := by rw [hs1]; exact HZ.out
      have hown1 := HOWN.out.kept hg1 (by
        rcases HOWN.out.2 with ⟨e, -⟩ | ⟨g', cap', cur', e, hge, -⟩
        · left; rw [e]; rfl
        · right
          rw [e]
          intro q
          injection q with q
          have q : g' = w.heap.size := q
          omega)
      have hbn := below_new w1 (.cells #[.int .i64 s, .int .i64 c] 51)
      have HC := Lib.hid (line_at (HLL.out _ hmem).1 (hb1.trans (hbn.mono (by omega))))
      have k0 : (w1.alloc (.cells #[.int .i64 s, .int .i64 c] 51)).cell? ⟨w1.heap.size, 0, none⟩ = some (.int .i64 s) := World.cell?_alloc_at _ _ _ _ rfl
      have k1 : (w1.alloc (.cells #[.int .i64 s, .int .i64 c] 51)).cell? ⟨w1.heap.size, 1, none⟩ = some (.int .i64 c) := World.cell?_alloc_at _ _ _ _ rfl
      have l0 : (w1.alloc (.cells #[.int .i64 s, .int .i64 c] 51)).cell? ⟨bb, 0, none⟩ = some (.int .i64 s) := HC.out 0
      have l1 : (w1.alloc (.cells #[.int .i64 s, .int .i64 c] 51)).cell? ⟨bb, 1, none⟩ = some (.int .i64 c) := HC.out 1
      have HRG1 := Lib.hid hrg1
      have HG1 := Lib.hid (World.grownBy_alloc w1 (.cells #[.int .i64 s, .int .i64 c] 51) none)
      have HOW1 := Lib.hid hown1
      have HB1 := Lib.hid hb1
      have HPT := Lib.hid hpT
      have HLT := Lib.hid hlt
      have HZ1 := Lib.hid hz1
      have HGR := Lib.hid hg1
      have HS1 := Lib.hid hs1
      have HME := Lib.hid hmem
      clear hmem hb1 hz1 hown1 hbn hrg1 hlt hpT HOWN hg1 hs1 HB
      go_upto_region 7 with fail
      generalize hW2 : w1.alloc (.cells #[.int .i64 s, .int .i64 c] 51) = W2 at *
      go_quiet (fail)
      have HG3 : Hid (w1.grownBy (W2.drewN nq) none) := ⟨HG1.out.os, HG1.out.tape, HG1.out.output, HG1.out.size, HG1.out.block⟩
      have HC3 : Hid (∀ o, (W2.drewN nq).cell? ⟨bb, o, none⟩ = (lnC (s, c, q, hh, l))[o]?) := HC.out
      have HZ3 : Hid (w1.heap.size ≤ (W2.drewN nq).heap.size) := HG1.out.size
      clear k0 k1 l0 l1 HG1 HC hW2
      generalize W2.drewN nq = W3 at *
      have l0 : W3.cell? ⟨bb, 0, none⟩ = some (.int .i64 s) := HC3.out 0
      have l1 : W3.cell? ⟨bb, 1, none⟩ = some (.int .i64 c) := HC3.out 1
      have l2 : W3.cell? ⟨bb, 2, none⟩ = some (.int .i64 q) := HC3.out 2
      have l3 : W3.cell? ⟨bb, 3, none⟩ = some (.int .i64 hh) := HC3.out 3
      have l4 : W3.cell? ⟨bb, 4, none⟩ = some (.int .i64 l) := HC3.out 4
      have hg4 : w1.grownBy (W3.alloc (lnO s c q hh l)) none := HG3.out.andThen (World.grownBy_alloc W3 _ none) (fun j hj => by cases hj)
      have HO4 := Lib.hid (HOW1.out.kept hg4 (by
        rcases HOW1.out.2 with ⟨e, -⟩ | ⟨g', cap', cur', e, hge, -⟩
        · left; rw [e]; rfl
        · right; rw [e]; intro q; cases q))
      have HG4 := Lib.hid hg4
      have HNW : Hid (∀ j u, (lnL (s, c, q, hh, l))[j]? = some u → (W3.alloc (lnO s c q hh l)).cell? ((⟨W3.heap.size, 0, none⟩ : Addr).add j) = some u) := fun j u hu => by
        have e1 : (⟨W3.heap.size, 0, none⟩ : Addr).add j = ⟨W3.heap.size, j, none⟩ := by unfold Addr.add; split <;> simp_all
        rw [e1, World.cell?_alloc_at _ _ _ _ rfl]
        simpa [lnL] using hu
      have HWV : Hid (w.heap.size + 1 ≤ (W3.alloc (lnO s c q hh l)).heap.size) := by show _ ≤ _; have := HZ1.out; have := HZ3.out; simp; omega
      have HVO : Hid (∀ k, u3.ownBlock = some k → w.heap.size + 1 ≤ k) := fun k hk => by
        rcases HOW1.out.2 with ⟨e, -⟩ | ⟨g', cap', cur', e, hge, -⟩
        · rw [e] at hk; cases hk
        · rw [e] at hk; injection hk with hk; rw [← hk]; exact hge
      have HDL : Hid (D.length < L.length) := by
        have h1 := HP.out.1.length_eq
        have h2 := HPT.out.length_eq
        simp at h1 h2
        show _ < _
        omega
      have hdn : D.length ≤ 16 := by have := HDL.out; omega
      obtain ⟨i0, hi, hz0', hz1', hz2'⟩ := info_partsP line_info
      clear hg4 HG3 HC3 HOW1 hen
      go_wp2_with (at_builtin; refine wpList_append_lies _ rfl _ _ 31 rfl (w.heap.size + 1) 34 i0 (lnV 0 0 0 0 0) 5 40 Try.underlying31 hi hz0' hz1' hz2' rfl (by decide) _ _ _ rfl HO4.out ⟨W3.heap.size, 0, none⟩ 1 1 (lnL (s, c, q, hh, l)) rfl rfl HNW.out ?c2 (by decide) ?c3 ?c4 HWV.out _ rfl ?_)
      case c2 => intro u hu; simp [lnL] at hu; rcases hu with rfl | rfl | rfl | rfl | rfl <;> rfl
      case c3 => unfold maxLen; omega
      case c4 => omega
      intro g2 cap w6 hown' hgrow hlies hg2
      have hg5 : w1.grownBy w6 u3.ownBlock := (HG4.out.but u3.ownBlock).andThen hgrow (fun j hj => .inr hj)
      have hr6 : PRange Try.prog kT klL w6 mb w.heap.size L.length L T' cnt2 := by
        refine HRG1.out.kept hg5 ?_ ?_
        · intro e
          have := HVO.out mb e.symm
          have := HM.out.lt
          omega
        · intro e
          have := HVO.out _ e.symm
          omega
      have HNEXT : Hid (AllLoop w mb L.length L (.slice (some ⟨g2, 0, none⟩) (D.length + 1) cap) w6) := by
        refine ⟨D ++ [(s, c, q, hh, l)], T', cnt2, ?_, fun p hp => HP.out.2 p (HPT.out.mem_iff.2 (List.mem_cons_of_mem _ hp)), ?_, ?_, ?_, ?_⟩
        · have h1 := (HPT.out.map Prod.fst).append_left D
          rw [List.append_assoc]
          exact h1.symm.trans HP.out.1
        · exact hr6
        · rw [List.length_append, lnsC_snoc]
          exact hown'
        · refine HB1.out.grown hg5 (by have := HZ1.out; omega) (fun k hk => by have := HVO.out k hk; omega)
        · have := hg5.size; have := HZ1.out; omega
      have HM1 : Hid (wr.rangeLeft mb w.heap.size = cnt1) := HRG.out.left_eq
      have HM2 : Hid (w6.rangeLeft mb w.heap.size = cnt2) := hr6.left_eq
      clear hr6 hg5 hown' hgrow hlies hg2 l0 l1 l2 l3 l4
      go_wp2_with fail
      go_roundw
      case rel => exact HNEXT
      case measure => rw [HM1.out, HM2.out]; exact HLT.out
end Go.Proofs.Ytloebedipfppeaa
