/- Layer 33: slices.SortFunc over lines. -/
import Derived.Test.YtloebedipfppeaaGap4
import Derived.StillTailTactics
namespace Go.Proofs.Ytloebedipfppeaa
set_option linter.unusedVariables false
open Go.RowKit Go.Shelf Go.Sort

def lnL (x : Ln) : List Value := [.int .i64 x.1, .int .i64 x.2.1, .int .i64 x.2.2.1, .int .i64 x.2.2.2.1, .int .i64 x.2.2.2.2]
abbrev lnV (a b c d e : Int) : Value := .agg #[.int .i64 a, .int .i64 b, .int .i64 c, .int .i64 d, .int .i64 e]
abbrev lnO (a b c d e : Int) : Obj := .cells #[.int .i64 a, .int .i64 b, .int .i64 c, .int .i64 d, .int .i64 e] 34
theorem grown_twice (W : World) (p q : Nat) (os os' : Array Obj) : grow ((grow (W.drewN p) os).drewN q) os' = grow (W.drewN (p + q)) (os ++ os') := by
  simp [grow, World.drewN, Array.append_assoc, Nat.add_assoc]
set_option maxHeartbeats 1000000 in
theorem cmpLn_any (a b c d e a' b' c' d' e' : Int) (W : World) : Calls Try.prog 17 #[lnV a b c d e, lnV a' b' c' d' e'] W fun r w' => r = .returned (.int .i64 (cfL (a, b, c, d, e) (a', b', c', d', e'))) ∧ ∃ q os', w' = grow (W.drewN q) os' := by
  rw [show cfL (a, b, c, d, e) (a', b', c', d', e') = if Lib.compareInt a a' = 0 then Lib.compareInt b b' else Lib.compareInt a a' from rfl]
  have HC1 : ∀ W', Hid (Calls Try.prog 19 #[.int .i64 a, .int .i64 a'] W' fun e w' => e = .returned (.int .i64 (Lib.compareInt a a')) ∧ w' = W') := fun W' => compare_any a a' W'
  have HC2 : ∀ W', Hid (Calls Try.prog 19 #[.int .i64 b, .int .i64 b'] W' fun e w' => e = .returned (.int .i64 (Lib.compareInt b b')) ∧ w' = W') := fun W' => compare_any b b' W'
  generalize Lib.compareInt a a' = x at *
  generalize Lib.compareInt b b' = y at *
  have hz : ((W.alloc (lnO a b c d e)).alloc (lnO a' b' c' d' e')).heap.size = W.heap.size + 1 + 1 := by simp
  have m0 : ∀ o, ((W.alloc (lnO a b c d e)).alloc (lnO a' b' c' d' e')).cell? ⟨W.heap.size, o, none⟩ = (lnC (a, b, c, d, e))[o]? := fun o => (World.cell?_alloc_past _ _ _ (by simp)).trans (World.cell?_alloc_at _ _ _ _ rfl)
  have m1 : ∀ o, ((W.alloc (lnO a b c d e)).alloc (lnO a' b' c' d' e')).cell? ⟨W.heap.size + 1, o, none⟩ = (lnC (a', b', c', d', e'))[o]? := fun o => World.cell?_alloc_at _ _ _ _ (by simp)
  have HG : Hid ((W.alloc (lnO a b c d e)).alloc (lnO a' b' c' d' e') = grow W #[lnO a b c d e, lnO a' b' c' d' e']) := by show _ = _; rw [alloc_eq_grow, alloc_eq_grow, grow_grow]; rfl
  have HO : ∀ W2 : World, Hid (Calls Try.prog 18 #[.slice (some ⟨W2.heap.size, 0, none⟩) 2 2] (W2.alloc (.cells #[.int .i64 x, .int .i64 y] 3)) fun ee w' => ee = .returned (.int .i64 (if x = 0 then y else x)) ∧ ∃ q os, w' = grow (W2.drewN q) os) := fun W2 =>
    (or_any W2.heap.size x y _ (World.cell?_alloc_at (w := W2) _ _ _ _ rfl) (World.cell?_alloc_at (w := W2) _ _ _ _ rfl)).mono fun ee w' ⟨h1, h2⟩ => ⟨h1, 0, #[.cells #[.int .i64 x, .int .i64 y] 3], by rw [h2, alloc_eq_grow]; rfl⟩
  generalize (if x = 0 then y else x) = r at *
  go_enter Try.func17, Try.ntmps17
  go_upto_region 1 with fail
  generalize (W.alloc (lnO a b c d e)).alloc (lnO a' b' c' d' e') = W2 at *
  have m00 : W2.cell? ⟨W.heap.size, 0, none⟩ = some (.int .i64 a) := m0 0
  have m01 : W2.cell? ⟨W.heap.size, 1, none⟩ = some (.int .i64 b) := m0 1
  have m10 : W2.cell? ⟨W.heap.size + 1, 0, none⟩ = some (.int .i64 a') := m1 0
  have m11 : W2.cell? ⟨W.heap.size + 1, 1, none⟩ = some (.int .i64 b') := m1 1
  have HG1 : Hid (∃ q os, W2.drew = grow (W.drewN q) os) := ⟨1, _, by rw [HG.out]; rfl⟩
  clear m0 m1 hz HG
  have n00 : W2.drew.cell? ⟨W.heap.size, 0, none⟩ = some (.int .i64 a) := m00
  have n01 : W2.drew.cell? ⟨W.heap.size, 1, none⟩ = some (.int .i64 b) := m01
  have n10 : W2.drew.cell? ⟨W.heap.size + 1, 0, none⟩ = some (.int .i64 a') := m10
  have n11 : W2.drew.cell? ⟨W.heap.size + 1, 1, none⟩ = some (.int .i64 b') := m11
  refine wp_region_still_tail 10 (by kernel_rfl) (by kernel_rfl) ?_
  simp only [List.take_succ_cons, List.take_zero, List.drop_succ_cons, List.drop_zero]
  show wpStill Try.prog _ W2.drew (fun a' => wpList Try.prog _ _ _ a' W2.drew) _ _
  generalize W2.drew = W3 at *
  clear m00 m01 m10 m11
  have HO1 := HO W3
  clear HO
  still_step
  still_step
  still_step
  still_step
  still_call (HC1 _).out
  still_step
  still_step
  still_step
  still_step
  still_call (HC2 _).out
  refine wpStill_nil ?_
  go_wp2_with fail
  refine HO1.out.mono ?_
  rintro ee w1 ⟨rfl, q, os, hw⟩
  have HW := Lib.hid hw
  clear hw
  go_wp2_with fail
  go_ret
  refine ⟨rfl, ?_⟩
  obtain ⟨q', os', h'⟩ := HG1.out
  exact ⟨q' + q, os' ++ os, by rw [HW.out, h']; exact grown_twice _ _ _ _ _⟩
shelf_lay_g SlLaysF0.n6 Slsf 6 at Try 16 as gapSortL
theorem grownBy_sortedK {α : Type} [Inhabited α] (enc : α → List Value) (k : Nat) {w : World} {g n : Nat} {os : Array Obj} (d : Array α) : w.grownBy (sortWorldK enc k w g 0 n d os) (some g) := by
  refine ⟨rfl, rfl, rfl, by simp [sortWorldK, putRowK, putRow, mapBlock, Sort.ahead], fun k hk hne => ?_⟩
  unfold sortWorldK
  rw [heap_grow_old _ _ (by simpa [putRowK, putRow, mapBlock, Sort.ahead] using hk)]
  have : g ≠ k := fun e => hne (by rw [e])
  simp [putRowK, putRow, mapBlock, Sort.ahead, Array.getElem?_modify, this]
/-- What is sorted by the keys. -/
def SortedL (l : List Ln) : Prop := l.Pairwise (fun x y => aheadB x y.1 y.2.1 = true)
theorem sortedL_unique : ∀ {l l' : List Ln}, l.Perm l' → SortedL l → SortedL l' → l = l'
  | [], l', hp, _, _ => (List.nil_perm.1 hp).symm
  | x :: l, [], hp, _, _ => by cases List.perm_nil.1 hp
  | x :: l, y :: l', hp, h, h' => by
    have h1 := List.pairwise_cons.1 h
    have h2 := List.pairwise_cons.1 h'
    have e : x = y := by
      rcases List.mem_cons.1 (hp.mem_iff.1 (List.mem_cons_self : x ∈ x :: l)) with e | hx
      · exact e
      · rcases List.mem_cons.1 (hp.mem_iff.2 (List.mem_cons_self : y ∈ y :: l')) with e | hy
        · exact e.symm
        · have q1 := h1.1 y hy
          have q2 := h2.1 x hx
          rw [aheadB_iff] at q1 q2
          omega
    subst e
    rw [sortedL_unique ((List.perm_cons x).1 hp) h1.2 h2.2]
theorem sorted_of {d : Array Ln} (hs : SortedIn (ltOf cfL) 0 d.size d) (hd : d.toList.Pairwise (fun x y => lnKey x ≠ lnKey y)) : SortedL d.toList := by
  refine List.pairwise_iff_getElem.2 fun i j hi hj hij => ?_
  have h1 := hs i j (Nat.zero_le _) hij (by simpa using hj)
  rw [cfL_lt] at h1
  have ei : d[i]! = d.toList[i] := by rw [getElem!_pos d i (by simpa using hi)]; rfl
  have ej : d[j]! = d.toList[j] := by rw [getElem!_pos d j (by simpa using hj)]; rfl
  rw [ei, ej] at h1
  have h2 := List.pairwise_iff_getElem.1 hd i j hi hj hij
  rw [Bool.eq_false_iff, Ne, aheadB_iff] at h1
  rw [aheadB_iff]
  have h3 : ¬ ((d.toList[i]).1 = (d.toList[j]).1 ∧ (d.toList[i]).2.1 = (d.toList[j]).2.1) := fun q => h2 (Prod.ext q.1 q.2)
  omega
theorem lnAgg (w : World) : (isAgg 34).run Try.prog w = .ok true w := by kernel_rfl
theorem lnSize (w : World) : (Go.sizeOf 34).run Try.prog w = .ok 5 w := by kernel_rfl
theorem gapSort_any (blk cap : Nat) (d : Array Ln) (w : World) (hH : HoldsK lnL 5 w blk 0 d) (hblk : blk < w.heap.size) (hsz : d.size ≤ 16) (hd : d.toList.Pairwise (fun x y => lnKey x ≠ lnKey y)) :
    Calls Try.prog 16 #[.slice (some ⟨blk, 0, none⟩) d.size cap, .func (.func 17) #[] #[]] w fun e w' => e = .returned (.tuple #[]) ∧ ∃ d' : Array Ln, d.toList.Perm d'.toList ∧ SortedL d'.toList ∧ HoldsK lnL 5 w' blk 0 d' ∧ w.grownBy w' (some blk) := by
  have eg : ∀ args w, (callFunc 17 args).run Try.prog w = .ok (.enter 17 args) w := enters_of Try.func17 (by kernel_rfl) rfl
  have hcon := AnyQ.slices_SortFunc gapSortL 5 lnAgg lnSize lnL (fun _ => rfl) (fun x v hv => by simp [lnL] at hv; rcases hv with rfl | rfl | rfl | rfl | rfl <;> rfl) cfL swoL 17 #[] blk 0 cap d w eg
    (fun m os dk hdk x y => by
      obtain ⟨a, b, c, e, f⟩ := x
      obtain ⟨a', b', c', e', f'⟩ := y
      exact cmpLn_any a b c e f a' b' c' e' f' _) hH hblk (by omega)
  refine Calls.mono hcon ?_
  rintro e w' ⟨rfl, d', n, os, hp, hs, rfl⟩
  have hsd : d'.size = d.size := hp.1
  have hpm : d.toList.Perm d'.toList := by
    have h3 := hp.2.2
    rw [Array.extract_size, ← hsd, Array.extract_size] at h3
    exact h3.symm
  refine ⟨rfl, d', hpm, sorted_of (by rw [hsd]; exact hs) ((hpm.pairwise_iff (fun h => fun e => h e.symm)).1 hd), holdsK_sortWorldK_c lnL 5 w blk 0 d d' n os hH hblk hsd, grownBy_sortedK lnL 5 d'⟩
end Go.Proofs.Ytloebedipfppeaa
