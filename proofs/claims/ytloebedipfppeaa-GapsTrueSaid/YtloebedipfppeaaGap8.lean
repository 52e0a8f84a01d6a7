/- Layer 33: what is heard, in plain words; Hear, put together. -/
import Derived.Test.YtloebedipfppeaaGap7
namespace Go.Proofs.Ytloebedipfppeaa
set_option linter.unusedVariables false
open Go.RowKit Go.Shelf Go.Sort

def hearL (l : List Ln) (q s c : Int) : List Ln × Int × Bool :=
  if (octB q && octB s && octB c) = false then (l, 0, false) else
  match l.dropWhile (fun x => aheadB x s c) with
  | x :: r => if lnKey x = (s, c) then (l.takeWhile (fun x => aheadB x s c) ++ heardL x q :: r, lostOf x.2.2.1 q, true) else if 16 ≤ l.length then (l, 0, false) else (l.takeWhile (fun x => aheadB x s c) ++ (s, c, q, 1, 0) :: x :: r, 0, true)
  | [] => if 16 ≤ l.length then (l, 0, false) else (l.takeWhile (fun x => aheadB x s c) ++ [(s, c, q, 1, 0)], 0, true)
theorem ahead_key {x x' : Ln} (h : lnKey x = lnKey x') (s c : Int) : aheadB x s c = aheadB x' s c := by
  have h1 : x.1 = x'.1 := (Prod.ext_iff.1 h).1
  have h2 : x.2.1 = x'.2.1 := (Prod.ext_iff.1 h).2
  unfold aheadB
  rw [h1, h2]
theorem take_ahead {l : List Ln} {s c : Int} : ∀ x ∈ l.takeWhile (fun x => aheadB x s c), aheadB x s c = true := by
  induction l with
  | nil => intro x hx; cases hx
  | cons y l ih =>
    intro x hx
    rw [List.takeWhile_cons] at hx
    split at hx
    · next h =>
      rcases List.mem_cons.1 hx with rfl | hx
      · exact h
      · exact ih x hx
    · cases hx
theorem drop_not {l : List Ln} {s c : Int} {y : Ln} {r : List Ln} (h : l.dropWhile (fun x => aheadB x s c) = y :: r) : aheadB y s c = false := by
  induction l with
  | nil => cases h
  | cons z l ih =>
    rw [List.dropWhile_cons] at h
    split at h
    · exact ih h
    · next hz =>
      injection h with h1 h2
      rw [← h1]
      exact Bool.eq_false_iff.2 hz
theorem sorted_parts {l : List Ln} {s c : Int} {y : Ln} {r : List Ln} (hs : SortedL l) (h : l.dropWhile (fun x => aheadB x s c) = y :: r) :
    SortedL (l.takeWhile (fun x => aheadB x s c)) ∧ SortedL (y :: r) ∧ l = l.takeWhile (fun x => aheadB x s c) ++ y :: r := by
  have e : l = l.takeWhile (fun x => aheadB x s c) ++ y :: r := by rw [← h]; exact List.takeWhile_append_dropWhile.symm
  have hs' := hs
  rw [e] at hs'
  have hp := List.pairwise_append.1 hs'
  exact ⟨hp.1, hp.2.1, e⟩
/-- Who is known stands first behind those that come ahead. -/
theorem known_first {l : List Ln} {s c : Int} (hs : SortedL l) {x : Ln} (hx : x ∈ l) (hk : lnKey x = (s, c)) : ∃ r, l.dropWhile (fun x => aheadB x s c) = x :: r := by
  have hx1 : x.1 = s := congrArg Prod.fst hk
  have hx2 : x.2.1 = c := congrArg Prod.snd hk
  have hself : aheadB x s c = false := by
    refine Bool.eq_false_iff.2 fun h => ?_
    rw [aheadB_iff] at h
    omega
  cases hd : l.dropWhile (fun x => aheadB x s c) with
  | nil =>
    have e : l = l.takeWhile (fun x => aheadB x s c) ++ [] := by rw [← hd]; exact List.takeWhile_append_dropWhile.symm
    rw [List.append_nil] at e
    rw [e] at hx
    rw [take_ahead x hx] at hself
    cases hself
  | cons y r =>
    obtain ⟨-, h2, e⟩ := sorted_parts hs hd
    rw [e] at hx
    rcases List.mem_append.1 hx with hx | hx
    · rw [take_ahead x hx] at hself
      cases hself
    · rcases List.mem_cons.1 hx with rfl | hx
      · exact ⟨r, rfl⟩
      · have h3 := (List.pairwise_cons.1 h2).1 x hx
        have h4 := drop_not hd
        rw [aheadB_iff] at h3
        rw [Bool.eq_false_iff, Ne, aheadB_iff] at h4
        omega
theorem hear_known {l : List Ln} {q s c : Int} (ho : (octB q && octB s && octB c) = true) (hs : SortedL l) {x : Ln} (hx : x ∈ l) (hk : lnKey x = (s, c)) :
    ∃ t r, l = t ++ x :: r ∧ hearL l q s c = (t ++ heardL x q :: r, lostOf x.2.2.1 q, true) := by
  obtain ⟨r, hd⟩ := known_first hs hx hk
  refine ⟨l.takeWhile (fun x => aheadB x s c), r, (sorted_parts hs hd).2.2, ?_⟩
  unfold hearL
  rw [if_neg (by rw [ho]; simp), hd]
  simp only
  rw [if_pos hk]
theorem hear_unknown {l : List Ln} {q s c : Int} (ho : (octB q && octB s && octB c) = true) (hno : ∀ x ∈ l, lnKey x ≠ (s, c)) :
    hearL l q s c = if 16 ≤ l.length then (l, 0, false) else (l.takeWhile (fun x => aheadB x s c) ++ (s, c, q, 1, 0) :: l.dropWhile (fun x => aheadB x s c), 0, true) := by
  unfold hearL
  rw [if_neg (by rw [ho]; simp)]
  cases hd : l.dropWhile (fun x => aheadB x s c) with
  | nil => rfl
  | cons y r =>
    simp only
    rw [if_neg]
    refine hno y ?_
    have e : l = l.takeWhile (fun x => aheadB x s c) ++ y :: r := by rw [← hd]; exact List.takeWhile_append_dropWhile.symm
    rw [e]
    exact List.mem_append_right _ List.mem_cons_self
theorem sorted_new {l : List Ln} {q s c : Int} (hs : SortedL l) (hno : ∀ x ∈ l, lnKey x ≠ (s, c)) : SortedL (l.takeWhile (fun x => aheadB x s c) ++ (s, c, q, 1, 0) :: l.dropWhile (fun x => aheadB x s c)) := by
  have hs' := hs
  rw [← List.takeWhile_append_dropWhile (p := fun x => aheadB x s c) (l := l)] at hs'
  have hp := List.pairwise_append.1 hs'
  have hbehind : ∀ y ∈ l.dropWhile (fun x => aheadB x s c), aheadB (s, c, q, 1, 0) y.1 y.2.1 = true := by
    cases hd : l.dropWhile (fun x => aheadB x s c) with
    | nil => intro y hy; cases hy
    | cons z r =>
      obtain ⟨-, h2, e⟩ := sorted_parts hs hd
      have h4 := drop_not hd
      have hz : lnKey z ≠ (s, c) := hno z (by rw [e]; exact List.mem_append_right _ List.mem_cons_self)
      have hz' : ¬ (z.1 = s ∧ z.2.1 = c) := fun q => hz (Prod.ext q.1 q.2)
      rw [Bool.eq_false_iff, Ne, aheadB_iff] at h4
      intro y hy
      rw [aheadB_iff]
      show s < y.1 ∨ s = y.1 ∧ c < y.2.1
      rcases List.mem_cons.1 hy with rfl | hy
      · omega
      · have h3 := (List.pairwise_cons.1 h2).1 y hy
        rw [aheadB_iff] at h3
        omega
  exact List.pairwise_append.2 ⟨hp.1, List.Pairwise.cons hbehind hp.2.1, fun x hx y hy => by
    rcases List.mem_cons.1 hy with rfl | hy
    · exact take_ahead x hx
    · exact hp.2.2 x hx y hy⟩
theorem sorted_heard {t r : List Ln} {x : Ln} {q : Int} (hs : SortedL (t ++ x :: r)) : SortedL (t ++ heardL x q :: r) := by
  have hp := List.pairwise_append.1 hs
  have hc := List.pairwise_cons.1 hp.2.1
  exact List.pairwise_append.2 ⟨hp.1, List.Pairwise.cons (fun y hy => (ahead_key (x := heardL x q) (x' := x) rfl _ _).trans (hc.1 y hy)) hc.2, fun z hz y hy => by
    rcases List.mem_cons.1 hy with rfl | hy
    · exact hp.2.2 z hz x List.mem_cons_self
    · exact hp.2.2 z hz y (List.mem_cons_of_mem _ hy)⟩
theorem hear_sorted {l : List Ln} (hs : SortedL l) (q s c : Int) : SortedL (hearL l q s c).1 := by
  cases ho : (octB q && octB s && octB c) with
  | false => unfold hearL; rw [if_pos ho]; exact hs
  | true =>
    by_cases hx : ∃ x ∈ l, lnKey x = (s, c)
    · obtain ⟨x, hx, hk⟩ := hx
      obtain ⟨t, r, e, h⟩ := hear_known (q := q) ho hs hx hk
      rw [h]
      rw [e] at hs
      exact sorted_heard hs
    · have hno : ∀ x ∈ l, lnKey x ≠ (s, c) := fun x hx' hk => hx ⟨x, hx', hk⟩
      rw [hear_unknown ho hno]
      split
      · exact hs
      · exact sorted_new hs hno
theorem hear_len {l : List Ln} (hs : SortedL l) (q s c : Int) (hn : l.length ≤ 16) : (hearL l q s c).1.length ≤ 16 := by
  cases ho : (octB q && octB s && octB c) with
  | false => unfold hearL; rw [if_pos ho]; exact hn
  | true =>
    by_cases hx : ∃ x ∈ l, lnKey x = (s, c)
    · obtain ⟨x, hx, hk⟩ := hx
      obtain ⟨t, r, e, h⟩ := hear_known (q := q) ho hs hx hk
      rw [h]
      rw [e] at hn
      simpa using hn
    · have hno : ∀ x ∈ l, lnKey x ≠ (s, c) := fun x hx' hk => hx ⟨x, hx', hk⟩
      rw [hear_unknown ho hno]
      split
      · exact hn
      · next h =>
        have e : (l.takeWhile (fun x => aheadB x s c) ++ (s, c, q, 1, 0) :: l.dropWhile (fun x => aheadB x s c)).length = l.length + 1 := by
          rw [List.length_append, List.length_cons, ← Nat.add_assoc, ← List.length_append, List.takeWhile_append_dropWhile]
        have h' : l.length < 16 := Nat.lt_of_not_le h
        exact Nat.le_trans (Nat.le_of_eq e) h'
/-- A book that tells these lines. -/
def BookOf (S : Nat → Prop) (g : Nat) (l : List Ln) (w : World) : Prop := SortedL l ∧ l.length ≤ 16 ∧ ∃ L, BookI S g L w ∧ (L.map Prod.fst).Perm l
theorem cell_lt {w : World} {b o : Nat} {v : Value} (h : w.cell? ⟨b, o, none⟩ = some v) : b < w.heap.size := by
  refine Nat.lt_of_not_le fun q => ?_
  simp [World.cell?, Array.getElem?_eq_none q] at h
theorem PMap.relabel {α : Type} {P : Program} {k : TypeId} {kl : α → Lit} {w : World} {b n : Nat} {L L' : List (α × Nat)} (h : PMap P k kl w b n L) (e : L' = L) : PMap P k kl w b n L' := by subst e; exact h
theorem hear_any {S : Nat → Prop} {g : Nat} {l : List Ln} {w : World} (h : BookOf S g l w) (q s c : Int) :
    Calls Try.prog 8 #[.pointer (some ⟨g, 0, none⟩), .int .i64 q, .int .i64 s, .int .i64 c] w fun e w' => e = .returned (.tuple #[.int .i64 (hearL l q s c).2.1, .bool (hearL l q s c).2.2]) ∧ BookOf S g (hearL l q s c).1 w' ∧ KeptS S w w' := by
  obtain ⟨hs, hn, L, hB, hp⟩ := h
  have hB' := hB
  obtain ⟨mb, hg, hM, hL, hpw, hSb, hSg, hSm⟩ := hB'
  have hlen : L.length = l.length := by simpa using hp.length_eq
  cases ho : (octB q && octB s && octB c) with
  | false =>
    have e : hearL l q s c = (l, 0, false) := by unfold hearL; rw [if_pos ho]
    rw [e]
    exact (hear_bad g mb q s c w hg ho).mono fun r w' ⟨h1, h2⟩ => ⟨h1, ⟨hs, hn, L, hB.keep h2, hp⟩, KeptS.of_below h2 hSb⟩
  | true =>
    have ho' := ho
    simp only [Bool.and_eq_true] at ho'
    by_cases hx : ∃ p ∈ L, lnKey p.1 = (s, c)
    · obtain ⟨⟨x, b⟩, hpL, hk⟩ := hx
      have hxl : x ∈ l := hp.mem_iff.1 (List.mem_map.2 ⟨_, hpL, rfl⟩)
      obtain ⟨t, r, e, hh⟩ := hear_known (q := q) ho hs hxl hk
      rw [hh]
      obtain ⟨x1, x2, u, hd, lo⟩ := x
      have e1 : x1 = s := congrArg Prod.fst hk
      have e2 : x2 = c := congrArg Prod.snd hk
      subst e1 e2
      obtain ⟨c1, c2, c3, c4, c5, c6, c7⟩ := hL _ hpL
      obtain ⟨s1, s2, hL12⟩ := List.append_of_mem hpL
      have hbg : b ≠ g := c3
      have hlt : b < w.heap.size := cell_lt (c1 0)
      refine (hear_hit g mb L.length b (L.map fun p => (lnKey p.1, p.2)) q x1 x2 u hd lo w hg ho hM (List.mem_map.2 ⟨_, hpL, rfl⟩) c1 c2 c7).mono ?_
      rintro r0 w' ⟨rfl, W0, hb0, rfl⟩
      have hbm : b ≠ mb := hM.cells (c1 0)
      have hz0 : w.heap.size ≤ W0.heap.size := hb0.size
      have hkeep : KeptS S w (((W0.setCell ⟨b, 2, none⟩ (.int .i64 q)).setCell ⟨b, 3, none⟩ (.int .i64 (wrap64 (hd + 1)))).setCell ⟨b, 4, none⟩ (.int .i64 (wrap64 (lo + lostOf u q)))) :=
        (((KeptS.of_below hb0 hSb).set c4 _ _).set c4 _ _).set c4 _ _
      have hblk : ∀ k, k < w.heap.size → k ≠ b → (((W0.setCell ⟨b, 2, none⟩ (.int .i64 q)).setCell ⟨b, 3, none⟩ (.int .i64 (wrap64 (hd + 1)))).setCell ⟨b, 4, none⟩ (.int .i64 (wrap64 (lo + lostOf u q)))).heap[k]? = w.heap[k]? := fun k hk hne => by
        rw [Below.heap_setCell _ _ _ _ hne, Below.heap_setCell _ _ _ _ hne, Below.heap_setCell _ _ _ _ hne]
        exact hb0.block k hk
      have hset := setC3 (W := W0) (b := b) (x := (x1, x2, u, hd, lo)) (y := heardL (x1, x2, u, hd, lo) q) (fun o => ((bcell hb0).1 b o hlt).trans (c1 o)) rfl rfl
      refine ⟨rfl, ⟨by rw [e] at hs; exact sorted_heard hs, by rw [e] at hn; simpa using hn, s1 ++ (heardL (x1, x2, u, hd, lo) q, b) :: s2, ⟨mb, ?_, ?_, ?_, ?_, ?_, hSg, hSm⟩, ?_⟩, hkeep⟩
      · exact (World.cell?_of_block (a := ⟨g, 0, none⟩) (hblk g (cell_lt hg) (fun e => hbg e.symm))).trans hg
      · have e3 : (s1 ++ (heardL (x1, x2, u, hd, lo) q, b) :: s2).length = L.length := by rw [hL12]; simp
        rw [e3]
        refine PMap.relabel (hM.block (hblk mb hM.lt (fun e => hbm e.symm))) ?_
        rw [hL12]
        simp only [List.map_append, List.map_cons]
        rfl
      · intro p hp'
        have hmem : p = (heardL (x1, x2, u, hd, lo) q, b) ∨ p ∈ L ∧ p.2 ≠ b := by
          rw [hL12] at hpw
          have hpp := List.pairwise_append.1 hpw
          rcases List.mem_append.1 hp' with hq | hq
          · exact .inr ⟨by rw [hL12]; exact List.mem_append_left _ hq, hpp.2.2 p hq _ List.mem_cons_self⟩
          · rcases List.mem_cons.1 hq with rfl | hq
            · exact .inl rfl
            · exact .inr ⟨by rw [hL12]; exact List.mem_append_right _ (List.mem_cons_of_mem _ hq), fun e => (List.pairwise_cons.1 hpp.2.1).1 p hq e.symm⟩
        rcases hmem with rfl | ⟨hq, hne⟩
        · exact ⟨hset, fun o => by simp only [World.frozen?_setCell]; exact ((bcell hb0).2 b o hlt).trans (c2 o), hbg, c4, c5, c6, ho'.1.1⟩
        · obtain ⟨d1, d2, d3⟩ := hL p hq
          have hpl : p.2 < w.heap.size := cell_lt (d1 0)
          exact ⟨fun o => (World.cell?_of_block (a := ⟨p.2, o, none⟩) (hblk p.2 hpl hne)).trans (d1 o), fun o => (World.frozen?_of_block (a := ⟨p.2, o, none⟩) (hblk p.2 hpl hne)).trans (d2 o), d3⟩
      · rw [hL12] at hpw
        have hpp := List.pairwise_append.1 hpw
        have hcc := List.pairwise_cons.1 hpp.2.1
        exact List.pairwise_append.2 ⟨hpp.1, List.Pairwise.cons hcc.1 hcc.2, fun a ha z hz => by
          rcases List.mem_cons.1 hz with rfl | hz
          · exact hpp.2.2 a ha ((x1, x2, u, hd, lo), b) List.mem_cons_self
          · exact hpp.2.2 a ha z (List.mem_cons_of_mem _ hz)⟩
      · intro k hk
        exact Nat.lt_of_lt_of_le (hSb k hk) hkeep.size
      · rw [hL12, e] at hp
        simp only [List.map_append, List.map_cons] at hp ⊢
        have h1 := (List.perm_middle.symm.trans (hp.trans List.perm_middle))
        have h2 := (List.perm_cons _).1 h1
        exact List.perm_middle.trans ((List.Perm.cons _ h2).trans List.perm_middle.symm)
    · have hno : ∀ x ∈ l, lnKey x ≠ (s, c) := fun x hx' hk => by
        obtain ⟨p, hpL, rfl⟩ := List.mem_map.1 (hp.mem_iff.2 hx')
        exact hx ⟨p, hpL, hk⟩
      have hno2 : Hid (∀ p ∈ (L.map fun p : Ln × Nat => (lnKey p.1, p.2)), keyL p.1 ≠ keyL (s, c)) := fun p hpm e => by
        obtain ⟨p', hp', rfl⟩ := List.mem_map.1 hpm
        obtain ⟨-, -, -, -, c5, c6, -⟩ := hL p' hp'
        obtain ⟨q1, q2⟩ := keyL_inj c5 c6 ho'.1.2 ho'.2 e
        exact hx ⟨p', hp', Prod.ext q1 q2⟩
      rw [hear_unknown ho hno]
      by_cases hfull : 16 ≤ l.length
      · rw [if_pos hfull]
        exact (hear_full S g mb L.length (L.map fun p => (lnKey p.1, p.2)) q s c w hg ho hM hno2 (by simpa [hlen] using hfull)).mono fun r w' ⟨h1, h2⟩ => ⟨h1, ⟨hs, hn, L, hB.keep h2, hp⟩, KeptS.of_below h2 hSb⟩
      · rw [if_neg hfull]
        refine (hear_new S g mb L.length (L.map fun p => (lnKey p.1, p.2)) q s c w hg ho hM hno2 (by simp [hlen]; omega) (by unfold maxLen; omega)).mono ?_
        rintro r w' ⟨rfl, W0, w1, bb, hb0, hbb, hbl, hc, hf, hM1, hturn, n, rfl⟩
        have hB0 := hB.keep hb0
        obtain ⟨mb0, g0, m0, L0, -, -, -, -⟩ := hB0
        have emb : mb0 = mb := by
          have := ((bcell hb0).1 g 0 (cell_lt hg)).trans hg
          rw [g0] at this
          injection this with this
          injection this with this
          injection this
        subst emb
        have hblk : ∀ k, k < W0.heap.size → k ≠ mb0 → w1.heap[k]? = W0.heap[k]? := fun k hk hne => hturn.grown.block k hk (fun e => by injection e with e; exact hne e)
        have hz1 : W0.heap.size ≤ w1.heap.size := hturn.grown.size
        have hkeep : KeptS S w w1 := (KeptS.of_below hb0 hSb).trans ⟨hturn.grown.os, hturn.grown.tape, hturn.grown.output, hturn.grown.size, fun k hk => hblk k (Nat.lt_of_lt_of_le (hSb k hk) hb0.size) (fun e => hSm (e ▸ hk))⟩
        have hbmb : bb ≠ mb0 := by have := hM.lt; omega
        have hwz := hb0.size
        refine ⟨rfl, ⟨sorted_new hs hno, ?_, ((s, c, q, 1, 0), bb) :: L, ⟨mb0, ?_, ?_, ?_, ?_, ?_, hSg, hSm⟩, ?_⟩, hkeep.drewN n⟩
        · have := hear_len hs q s c hn
          rw [hear_unknown ho hno, if_neg hfull] at this
          exact this
        · exact (World.cell?_of_block (a := ⟨g, 0, none⟩) (hblk g (cell_lt g0) (hM.cells hg))).trans g0
        · exact hM1
        · intro p hp'
          rcases List.mem_cons.1 hp' with rfl | hp'
          · exact ⟨fun o => (World.cell?_of_block (a := ⟨bb, o, none⟩) (hblk bb hbl hbmb)).trans (hc o), fun o => (World.frozen?_of_block (a := ⟨bb, o, none⟩) (hblk bb hbl hbmb)).trans (hf o), by have := cell_lt hg; show bb ≠ g; omega, fun q => by have := hSb _ q; have : bb < w.heap.size := this; omega, ho'.1.2, ho'.2, ho'.1.1⟩
          · obtain ⟨d1, d2, d3⟩ := L0 p hp'
            have hpl : p.2 < W0.heap.size := cell_lt (d1 0)
            have hpm : p.2 ≠ mb0 := m0.cells (d1 0)
            exact ⟨fun o => (World.cell?_of_block (a := ⟨p.2, o, none⟩) (hblk p.2 hpl hpm)).trans (d1 o), fun o => (World.frozen?_of_block (a := ⟨p.2, o, none⟩) (hblk p.2 hpl hpm)).trans (d2 o), d3⟩
        · refine List.Pairwise.cons (fun p hp' => ?_) hpw
          have hpl : p.2 < w.heap.size := cell_lt ((hL p hp').1 0)
          show bb ≠ p.2
          omega
        · intro k hk
          have h1 := hSb k hk
          show k < w1.heap.size
          omega
        · rw [List.map_cons]
          refine List.Perm.trans (List.Perm.cons _ ?_) List.perm_middle.symm
          rw [List.takeWhile_append_dropWhile]
          exact hp
end Go.Proofs.Ytloebedipfppeaa
