/- Layer 27, plain: a message that is put, and taken. -/
import Derived.Test.YtkjmcgjlkheamaaDoorMsa
import Derived.Test.YtkjmcgjlkheamaaDoorMvs
import Derived.Test.YtkjmcgjlkheamaaDoorMva
namespace Go.Proofs.YtkjmcgjlkheamaaDoor
set_option linter.unusedVariables false
open Go.RowKit

def wrIds (l : List (Bool × Int)) (s : Rd) : Rd := l.foldl (fun s n => wrNum 1 3 0 1 255 n s) s
def modeT (a : Bool) : ByteArray := if a = true then ⟨#[65]⟩ else ⟨#[77]⟩
def nums12 (ids : List Int) : List (Bool × Int) := ids.map (fun n => (true, n)) ++ List.replicate (12 - ids.length) (false, 0)
def putGsa (m : GsaD) : List ByteArray × Int := if 12 < m.ids.length then ([], 7) else wrDone (wrNum 1 3 2 0 99999 m.p2 (wrNum 1 3 2 0 99999 m.p1 (wrNum 1 3 2 0 99999 m.p0 (wrIds (nums12 m.ids) (wrDig 1 3 m.f (wrText (modeT m.a) 0 (0, [])))))))
theorem wrIds_ok : ∀ (l : List (Bool × Int)) (s : Rd), (wrIds l s).1 = 0 → s.1 = 0 ∧ ∃ T : List ByteArray, T.length = l.length ∧ (∀ L, wrIds l (0, L) = (0, L ++ T)) ∧ wrIds l s = (0, s.2 ++ T) ∧ ∀ R, rdIds l.length (0, T ++ R) = ((l.filter fun x => x.1).map (fun x => x.2), (0, R))
  | [], s, h => ⟨h, [], rfl, fun L => by rw [List.append_nil]; rfl, by rw [List.append_nil]; exact Prod.ext h rfl, fun R => rfl⟩
  | n :: l, s, h => by
    obtain ⟨h1, T, h2, h3, h4, h5⟩ := wrIds_ok l (wrNum 1 3 0 1 255 n s) h
    obtain ⟨g1, t, g2, g3, g4⟩ := wrNum_ok h1
    refine ⟨g1, t :: T, by simp [h2], fun L => ?_, ?_, fun R => ?_⟩
    · show wrIds l (wrNum 1 3 0 1 255 n (0, L)) = _
      rw [g2, h3, List.append_assoc]; rfl
    · show wrIds l (wrNum 1 3 0 1 255 n s) = _
      rw [h4, g3, List.append_assoc]; rfl
    · obtain ⟨b, n⟩ := n
      have := rdIds_step (k := l.length) (g4 (T ++ R))
      rw [List.length_cons, List.cons_append, this, h5]
      cases b <;> simp
theorem nums12_back (ids : List Int) : ((nums12 ids).filter fun x => x.1).map (fun x => x.2) = ids := by
  unfold nums12
  rw [List.filter_append, List.map_append]
  have h1 : (ids.map (fun n => ((true, n) : Bool × Int))).filter (fun x => x.1) = ids.map (fun n => (true, n)) := List.filter_eq_self.2 (fun a ha => by obtain ⟨n, -, rfl⟩ := List.mem_map.1 ha; rfl)
  have h2 : (List.replicate (12 - ids.length) ((false, 0) : Bool × Int)).filter (fun x => x.1) = [] := List.filter_eq_nil_iff.2 (fun a ha => by rw [List.eq_of_mem_replicate ha]; decide)
  rw [h1, h2, List.map_nil, List.append_nil, List.map_map]
  exact List.map_id _
theorem nums12_len (ids : List Int) (h : ids.length ≤ 12) : (nums12 ids).length = 12 := by simp [nums12]; omega
theorem rdOne_put (a : Bool) (R : List ByteArray) : rdOne (0, modeT a :: R) = (a, (0, R)) := by
  unfold rdOne
  rw [rdText_cons]
  cases a
  · show (decide ((⟨#[77]⟩ : ByteArray) = ⟨#[65]⟩), if (⟨#[77]⟩ : ByteArray) ≠ ⟨#[65]⟩ ∧ (⟨#[77]⟩ : ByteArray) ≠ ⟨#[77]⟩ then rdFail 3 (0, R) else (0, R)) = _
    rw [if_neg (fun q => q.2 rfl), decide_eq_false (by decide)]
  · show (decide ((⟨#[65]⟩ : ByteArray) = ⟨#[65]⟩), if (⟨#[65]⟩ : ByteArray) ≠ ⟨#[65]⟩ ∧ (⟨#[65]⟩ : ByteArray) ≠ ⟨#[77]⟩ then rdFail 3 (0, R) else (0, R)) = _
    rw [if_neg (fun q => q.1 rfl), decide_eq_true rfl]
theorem gsa_put_take {m : GsaD} (h : (putGsa m).2 = 0) : takeGsa (putGsa m).1 = (m, 0) ∧ (putGsa m).1.length = 17 := by
  by_cases hl : 12 < m.ids.length
  · unfold putGsa at h; rw [if_pos hl] at h; exact absurd h (by decide)
  · have hp : putGsa m = wrDone (wrNum 1 3 2 0 99999 m.p2 (wrNum 1 3 2 0 99999 m.p1 (wrNum 1 3 2 0 99999 m.p0 (wrIds (nums12 m.ids) (wrDig 1 3 m.f (wrText (modeT m.a) 0 (0, []))))))) := if_neg hl
    rw [hp] at h ⊢
    obtain ⟨h1, t2, -, h3, h4⟩ := wrNum_ok h
    obtain ⟨g1, t1, -, g3, g4⟩ := wrNum_ok h1
    obtain ⟨f1, t0, -, f3, f4⟩ := wrNum_ok g1
    obtain ⟨e1, T, e2, -, e4, e5⟩ := wrIds_ok _ _ f1
    obtain ⟨d1, -, -, -, d5, d6⟩ := wrDig_ok (by omega) (by omega) e1
    rw [nums12_len m.ids (by omega)] at e2 e5
    rw [nums12_back] at e5
    have hR : (wrDone (wrNum 1 3 2 0 99999 m.p2 (wrNum 1 3 2 0 99999 m.p1 (wrNum 1 3 2 0 99999 m.p0 (wrIds (nums12 m.ids) (wrDig 1 3 m.f (wrText (modeT m.a) 0 (0, [])))))))).1 = modeT m.a :: digT m.f :: (T ++ [t0, t1, t2]) := by
      unfold wrDone
      rw [h3, g3, f3, e4, d5]
      simp [wrText]
    rw [hR]
    have hlen : (modeT m.a :: digT m.f :: (T ++ [t0, t1, t2])).length = 17 := by simp [e2]
    refine ⟨?_, hlen⟩
    have := gsa_taken (R := modeT m.a :: digT m.f :: (T ++ [t0, t1, t2])) hlen (Lib.hid (rdOne_put m.a _)) (Lib.hid (d6 _)) (Lib.hid (e5 _)) (Lib.hid (f4 _)) (Lib.hid (g4 _)) (Lib.hid (h4 _))
    rw [this, if_pos rfl]
/-- The sizes, summed. -/
def sizes (l : List ByteArray) : Nat := (l.map ByteArray.size).sum
theorem sizes_cons (t : ByteArray) (l : List ByteArray) : sizes (t :: l) = t.size + sizes l := by simp [sizes]
theorem sizes_append (l k : List ByteArray) : sizes (l ++ k) = sizes l + sizes k := by simp [sizes]
theorem rdIds_ok : ∀ (k : Nat) (s : Rd), (rdIds k s).2.1 = 0 → s.1 = 0 ∧ ∃ T R D U, s.2 = T ++ R ∧ T.length = k ∧ rdIds k s = (D, (0, R)) ∧ D.length ≤ k ∧ sizes U ≤ sizes T ∧ ∀ L, wrIds (D.map fun n => (true, n)) (0, L) = (0, L ++ U)
  | 0, s, h => ⟨h, [], s.2, [], [], rfl, rfl, Prod.ext rfl (Prod.ext h rfl), Nat.le_refl _, Nat.le_refl _, fun L => by rw [List.append_nil]; rfl⟩
  | k + 1, s, h => by
    obtain ⟨h1, T, R, D, U, h2, h3, h4, h5, h6, h7⟩ := rdIds_ok k (rdNum 1 3 0 1 255 s).2 h
    obtain ⟨g1, t, R1, n, g2, g3, t', g4, g5, g6⟩ := rdNum_ok h1
    obtain ⟨b, n⟩ := n
    rw [g3] at h2 h4
    simp only at h2 h4
    subst h2
    have hst := rdIds_step (k := k) g3
    rw [h4] at hst
    have hle := g5 rfl
    cases b with
    | true => exact ⟨g1, t :: T, R, n :: D, t' :: U, by rw [g2]; rfl, by simp [h3], by rw [hst]; simp, by simp; omega, by rw [sizes_cons, sizes_cons]; omega, fun L => by
        show wrIds (D.map fun n => (true, n)) (wrNum 1 3 0 1 255 (true, n) (0, L)) = _
        rw [g4, h7, List.append_assoc]; rfl⟩
    | false => exact ⟨g1, t :: T, R, D, U, by rw [g2]; rfl, by simp [h3], by rw [hst]; simp, by omega, by rw [sizes_cons]; omega, h7⟩
theorem wrIds_none (j : Nat) : ∀ L, wrIds (List.replicate j (false, 0)) (0, L) = (0, L ++ List.replicate j ByteArray.empty) := by
  induction j with
  | zero => intro L; simp [wrIds]
  | succ j ih =>
    intro L
    have h1 : wrNum 1 3 0 1 255 (false, 0) (0, L) = (0, L ++ [ByteArray.empty]) := by
      have h : putN false 0 1 3 0 1 255 = (ByteArray.empty, 0) := by decide +kernel
      unfold wrNum
      rw [h]
      rfl
    show wrIds (List.replicate j (false, 0)) (wrNum 1 3 0 1 255 (false, 0) (0, L)) = _
    rw [h1, ih, List.append_assoc]
    rfl
theorem rdOne_ok {s : Rd} (h : (rdOne s).2.1 = 0) : s.1 = 0 ∧ ∃ t R a, s.2 = t :: R ∧ rdOne s = (a, (0, R)) ∧ t.size = 1 := by
  obtain ⟨e, l⟩ := s
  by_cases hq : (rdText (e, l)).1 ≠ ⟨#[65]⟩ ∧ (rdText (e, l)).1 ≠ ⟨#[77]⟩
  · unfold rdOne at h
    rw [if_pos hq] at h
    exact absurd (firstE_zero h).2 (by decide)
  · have hr : rdOne (e, l) = (decide ((rdText (e, l)).1 = ⟨#[65]⟩), (rdText (e, l)).2) := by unfold rdOne; rw [if_neg hq]
    rw [hr] at h
    obtain ⟨h1, t, R, h2⟩ := textE_zero h
    simp only at h1 h2
    subst h1 h2
    rw [rdText_cons] at hq hr
    simp only at hq hr
    refine ⟨rfl, t, R, _, rfl, hr, ?_⟩
    by_cases h3 : t = ⟨#[65]⟩
    · rw [h3]; rfl
    · by_cases h4 : t = ⟨#[77]⟩
      · rw [h4]; rfl
      · exact absurd ⟨h3, h4⟩ hq
theorem gsa_take_put {R : List ByteArray} (h : (takeGsa R).2 = 0) : R.length = 17 ∧ (takeGsa R).1.ids.length ≤ 12 ∧ (putGsa (takeGsa R).1).2 = 0 ∧ sizes (putGsa (takeGsa R).1).1 ≤ sizes R := by
  by_cases hl : R.length = 17
  · have hg : (rdGsa (0, R)).2.1 = 0 ∧ takeGsa R = ((rdGsa (0, R)).1, 0) := by
      unfold takeGsa at h ⊢
      rw [if_neg (fun q => q hl)] at h ⊢
      by_cases h0 : (rdGsa (0, R)).2.1 = 0
      · rw [if_pos h0]; exact ⟨h0, rfl⟩
      · rw [if_neg h0] at h; exact absurd h h0
    obtain ⟨h0, ht⟩ := hg
    obtain ⟨f1, t5, R5, n5, f2, f3, u5, f4, f5, -⟩ := rdNum_ok h0
    obtain ⟨g1, t4, R4, n4, g2, g3, u4, g4, g5, -⟩ := rdNum_ok f1
    obtain ⟨k1, t3, R3, n3, k2, k3, u3, k4, k5, -⟩ := rdNum_ok g1
    obtain ⟨e1, T, R2, D, U, e2, e3, e4, e5, e6, e7⟩ := rdIds_ok _ _ k1
    obtain ⟨d1, t1, R1, n1, d2, d3, d4, d5, d6, d7, -⟩ := rdDig_ok (by omega) (by omega) e1
    obtain ⟨-, t0, R0, a, c2, c3, c4⟩ := rdOne_ok d1
    have hr : rdGsa (0, R) = (⟨a, n1, D, n3, n4, n5⟩, (0, R5)) := by
      unfold rdGsa rdDop at *
      rw [c3] at d2 d3 e2 e4 k2 k3 g2 g3 f2 f3 ⊢
      simp only at d2 d3 e2 e4 k2 k3 g2 g3 f2 f3 ⊢
      rw [d3] at e2 e4 k2 k3 g2 g3 f2 f3 ⊢
      simp only at e2 e4 k2 k3 g2 g3 f2 f3 ⊢
      rw [e4] at k2 k3 g2 g3 f2 f3 ⊢
      simp only at k2 k3 g2 g3 f2 f3 ⊢
      rw [k3] at g2 g3 f2 f3 ⊢
      simp only at g2 g3 f2 f3 ⊢
      rw [g3] at f2 f3 ⊢
      simp only at f2 f3 ⊢
      rw [f3]
    have hRR : R = t0 :: t1 :: (T ++ t3 :: t4 :: t5 :: R5) := by
      unfold rdDop at *
      rw [c3] at d2 d3 e2 e4 k2 k3 g2 g3 f2 f3
      simp only at d2 d3 e2 e4 k2 k3 g2 g3 f2 f3
      rw [d3] at e2 e4 k2 k3 g2 g3 f2 f3
      simp only at e2 e4 k2 k3 g2 g3 f2 f3
      rw [e4] at k2 k3 g2 g3 f2 f3
      simp only at k2 k3 g2 g3 f2 f3
      rw [k3] at g2 g3 f2 f3
      simp only at g2 g3 f2 f3
      rw [g3] at f2 f3
      simp only at f2 f3
      simp only at c2
      rw [c2, d2, e2, k2, g2, f2]
    have hp : putGsa ⟨a, n1, D, n3, n4, n5⟩ = (modeT a :: digT n1 :: (U ++ List.replicate (12 - D.length) ByteArray.empty ++ [u3, u4, u5]), 0) := by
      unfold putGsa
      rw [if_neg (by show ¬ 12 < D.length; omega)]
      simp only
      have hw : wrText (modeT a) 0 (0, []) = (0, [modeT a]) := rfl
      have hi : wrIds (nums12 D) (0, [modeT a] ++ [digT n1]) = (0, [modeT a] ++ [digT n1] ++ U ++ List.replicate (12 - D.length) ByteArray.empty) := by
        unfold nums12 wrIds
        rw [List.foldl_append]
        have q1 := e7 ([modeT a] ++ [digT n1])
        unfold wrIds at q1
        rw [q1]
        have q2 := wrIds_none (12 - D.length) ([modeT a] ++ [digT n1] ++ U)
        unfold wrIds at q2
        exact q2
      rw [hw, d7, hi, k4, g4, f4]
      simp [wrDone]
    rw [ht, hr]
    simp only
    rw [hp]
    refine ⟨hl, e5, rfl, ?_⟩
    have hz : ∀ j, sizes (List.replicate j ByteArray.empty) = 0 := fun j => by
      induction j with
      | zero => rfl
      | succ j ih => rw [List.replicate_succ, sizes_cons, ih]; rfl
    have hm : (modeT a).size = 1 := by cases a <;> rfl
    rw [hRR]
    simp only [sizes_cons, sizes_append, hz, digT_size, hm]
    have z : sizes [] = 0 := rfl
    have k5' := k5 rfl
    have g5' := g5 rfl
    have f5' := f5 rfl
    omega
  · unfold takeGsa at h
    rw [if_pos hl] at h
    exact absurd h (by decide)
theorem takeGsa_no {R : List ByteArray} (h : (takeGsa R).2 ≠ 0) : (takeGsa R).1 = zeroS := by
  unfold takeGsa at h ⊢
  split at h
  · rename_i q; rw [if_pos q]
  · rename_i q
    rw [if_neg q]
    split at h
    · exact absurd rfl h
    · rename_i q2; rw [if_neg q2]
end Go.Proofs.YtkjmcgjlkheamaaDoor

/- Layer 27: the reference's Put. Printed by gengsab.py. -/
namespace Go.Proofs.YtkjmcgjlkheamaaDoor
set_option linter.unusedVariables false
open Go.RowKit

theorem wrIds_snoc (l : List (Bool × Int)) (k : Nat) (h : k < l.length) (s : Rd) : wrIds (l.take (k + 1)) s = wrNum 1 3 0 1 255 l[k] (wrIds (l.take k) s) := by
  unfold wrIds
  rw [List.take_succ_eq_append_getElem h, List.foldl_append]
  rfl
theorem nums12_at (ids : List Int) (k : Nat) (h : ids.length ≤ 12) (hk : k < (nums12 ids).length) : (nums12 ids)[k] = if hq : k < ids.length then (true, ids[k]) else (false, 0) := by
  unfold nums12 at hk ⊢
  by_cases hq : k < ids.length
  · rw [dif_pos hq, List.getElem_append_left (by simpa using hq)]
    simp
  · rw [dif_neg hq, List.getElem_append_right (by simpa using hq)]
    simp
theorem textsNone27 (w w' : World) (hb : Below w.heap.size w w') : TextsPost [] w (.slice none 0 0) w' := ⟨none, 0, rfl, fun _ => rfl, fun k hk => absurd hk (by simp), FreshA.none_, hb⟩
theorem alike_ids : ∀ (l : List (Bool × Int)) (a b : Rd), Alike a b → Alike (wrIds l a) (wrIds l b)
  | [], _, _, h => h
  | n :: l, a, b, h => alike_ids l _ _ (h.num _ _ _ _ _ _)
theorem wrIds_len (l : List (Bool × Int)) : ∀ s : Rd, (wrIds l s).2.length = s.2.length + l.length := by
  induction l with
  | nil => intro s; simp [wrIds]
  | cons n l ih =>
    intro s
    show (wrIds l (wrNum 1 3 0 1 255 n s)).2.length = _
    rw [ih, wrNum_len, List.length_cons]
    omega
set_option maxRecDepth 8000 in
theorem r27Put_long (a : Bool) (f : Int) (A : Option Addr) (n c : Nat) (b0 : Bool) (n0 : Int) (b1 : Bool) (n1 : Int) (b2 : Bool) (n2 : Int) (w : World) (hn : (12 : Int) < (n : Int)) (hm : n ≤ 1000000) : Calls Tryd.prog 23 #[gsaV a f A n c b0 n0 b1 n1 b2 n2] w (PutPost ([], 7) w) := by
  go_enter Tryd.func23, Tryd.ntmps23
  go_wp2
  go_ret2
  exact ⟨_, rfl, textsNone27 _ _ (below_new _ _)⟩
set_option maxRecDepth 8000 in
set_option maxHeartbeats 8000000 in
theorem r27Put_ok (a : Bool) (f : Int) (A : Option Addr) (n c : Nat) (L : List Int) (b0 : Bool) (n0 : Int) (b1 : Bool) (n1 : Int) (b2 : Bool) (n2 : Int) (w : World) (hn : Hid (L.length = n)) (hs : Hid (Ints w w.heap.size A L)) (h12 : n ≤ 12) : Calls Tryd.prog 23 #[gsaV a f A n c b0 n0 b1 n1 b2 n2] w (PutPost (putGsa ⟨a, f, L, (b0, n0), (b1, n1), (b2, n2)⟩) w) := by
  obtain ⟨s1, e1⟩ : ∃ s, Hid (wrText (modeT a) 0 (0, []) = s) := ⟨_, rfl⟩
  obtain ⟨s2, e2⟩ : ∃ s, Hid (wrDigR 1 3 f s1 = s) := ⟨_, rfl⟩
  obtain ⟨s3, e3⟩ : ∃ s, Hid (wrIds (nums12 L) s2 = s) := ⟨_, rfl⟩
  obtain ⟨s4, e4⟩ : ∃ s, Hid (wrNum 1 3 2 0 99999 (b0, n0) s3 = s) := ⟨_, rfl⟩
  obtain ⟨s5, e5⟩ : ∃ s, Hid (wrNum 1 3 2 0 99999 (b1, n1) s4 = s) := ⟨_, rfl⟩
  obtain ⟨s6, e6⟩ : ∃ s, Hid (wrNum 1 3 2 0 99999 (b2, n2) s5 = s) := ⟨_, rfl⟩
  have HPUT : Hid (putGsa ⟨a, f, L, (b0, n0), (b1, n1), (b2, n2)⟩ = wrDone s6) := by
    show _ = _
    unfold putGsa
    rw [if_neg (by show ¬ 12 < L.length; rw [hn.out]; omega)]
    simp only
    have h1 : Alike (wrDig 1 3 f (wrText (modeT a) 0 (0, []))) s2 := by
      rw [← e2.out, ← e1.out]
      exact (Alike.refl _).dig _ _ _
    have h2 := (((alike_ids (nums12 L) _ _ h1).num 1 3 2 0 99999 (b0, n0)).num 1 3 2 0 99999 (b1, n1)).num 1 3 2 0 99999 (b2, n2)
    rw [h2.done, e3.out, e4.out, e5.out, e6.out]
  have l1 : s1.2.length = 1 := by rw [← e1.out, wrText_len]; rfl
  have l2 : s2.2.length ≤ 2 := by
    rw [← e2.out]
    unfold wrDigR
    split
    · show s1.2.length ≤ 2; omega
    · rw [wrText_len]; omega
  have l3 : s3.2.length ≤ 14 := by rw [← e3.out, wrIds_len, nums12_len L (by rw [hn.out]; exact h12)]; omega
  have l4 : s4.2.length ≤ 15 := by rw [← e4.out, wrNum_len]; omega
  have l5 : s5.2.length ≤ 16 := by rw [← e5.out, wrNum_len]; omega
  have l6 : s6.2.length ≤ 17 := by rw [← e6.out, wrNum_len]; omega
  rw [HPUT.out]
  clear HPUT
  obtain ⟨X, hX⟩ : ∃ X, wrDone s6 = X := ⟨_, rfl⟩
  have HX := Lib.hid hX
  rw [hX]
  clear hX
  have hb1 := below_new w (.cells (gsaC a f A n c b0 n0 b1 n1 b2 n2) 50)
  have hz1 : (w.alloc (.cells (gsaC a f A n c b0 n0 b1 n1 b2 n2) 50)).heap.size = w.heap.size + 1 := by simp
  have hb3 := below_new (w.alloc (.cells (gsaC a f A n c b0 n0 b1 n1 b2 n2) 50)) (.cells #[.slice none 0 0, .int .i64 0, .int .i64 0] 74)
  have HR := Lib.hid (rowNew (w := w.alloc (.cells (gsaC a f A n c b0 n0 b1 n1 b2 n2) 50)))
  rw [hz1] at HR
  have HM : Hid (∀ o, ((w.alloc (.cells (gsaC a f A n c b0 n0 b1 n1 b2 n2) 50)).alloc (.cells #[.slice none 0 0, .int .i64 0, .int .i64 0] 74)).cell? ⟨w.heap.size, o, none⟩ = (gsaC a f A n c b0 n0 b1 n1 b2 n2)[o]?) := fun o => (World.cell?_alloc_past _ _ _ (by simp)).trans (World.cell?_alloc_at _ _ _ _ rfl)
  have HB := Lib.hid (bthen hb1 hb3)
  have HSV : Hid (Ints ((w.alloc (.cells (gsaC a f A n c b0 n0 b1 n1 b2 n2) 50)).alloc (.cells #[.slice none 0 0, .int .i64 0, .int .i64 0] 74)) w.heap.size A L) := hs.out.below (bthen hb1 hb3) (Nat.le_refl _)
  have i0 : (n : Int) ≤ 12 := by omega
  obtain ⟨S0, hS⟩ : ∃ S0, (fun k => k < w.heap.size + 1 + 1) = S0 := ⟨_, rfl⟩
  have sW : Hid (∀ k, k < w.heap.size + 1 + 1 → S0 k) := fun k hk => by rw [← hS]; exact hk
  rw [hS] at HR
  clear hS hb1 hb3 hz1
  go_enter Tryd.func23, Tryd.ntmps23
  try dsimp only
  repeat (fail_if_success (show Code.wp _ (Code.seq (Code.region 4 _ _) _) _ _ _)
          first | go_values | go_skip | go_guarded | go_step | go_upon | go_back | (simp only [Int.not_lt, Int.not_le] at *; go_simp) | (go_ite <;> go_prune <;> (try go_simp)))
  generalize hW3 : (w.alloc (.cells (gsaC a f A n c b0 n0 b1 n1 b2 n2) 50)).alloc (.cells #[.slice none 0 0, .int .i64 0, .int .i64 0] 74) = W3 at *
  clear hW3
  have HK0 : Hid (RowI S0 (w.heap.size + 1) (0, []) W3 ∧ Kept S0 (w.heap.size + 1) W3 W3) := ⟨HR.out, Kept.refl _ _ _⟩
  clear HR
  go_cut [] (fun wx => Hid (RowI S0 (w.heap.size + 1) s1 wx ∧ Kept S0 (w.heap.size + 1) W3 wx))
  case first =>
    have m0 := HM.out 0
    cases a with
    | true =>
      go_wp2_with fail
      refine (rowText e1 HK0.out.1 (by decide)).mono ?_
      rintro r x2 ⟨rfl, hp, hk⟩
      have HK1 : Hid (RowI S0 (w.heap.size + 1) s1 x2 ∧ Kept S0 (w.heap.size + 1) W3 x2) := ⟨hp, HK0.out.2.trans hk⟩
      clear hp hk
      go_wp2_with fail
      go_meet
      exact HK1
    | false =>
      go_wp2_with fail
      refine (rowText e1 HK0.out.1 (by decide)).mono ?_
      rintro r x2 ⟨rfl, hp, hk⟩
      have HK1 : Hid (RowI S0 (w.heap.size + 1) s1 x2 ∧ Kept S0 (w.heap.size + 1) W3 x2) := ⟨hp, HK0.out.2.trans hk⟩
      clear hp hk
      go_wp2_with fail
      go_meet
      exact HK1
  case rest =>
  have HK1 := hcut
  clear hcut HK0
  have m1 := (HK1.out.2.cell (b := w.heap.size) (o := 1) (sW.out _ (by omega)) (by omega)).trans (HM.out 1)
  go_wp2_with fail
  refine (r25PutDigit_any e2 (by omega) (by omega) HK1.out.1 (by omega)).mono ?_
  rintro r x3 ⟨rfl, hp, hk⟩
  have HK2 : Hid (RowI S0 (w.heap.size + 1) s2 x3 ∧ Kept S0 (w.heap.size + 1) W3 x3) := ⟨hp, HK1.out.2.trans hk⟩
  clear hp hk HK1 m1
  have HI0 : Hid (∃ sk, sk = wrIds ((nums12 L).take 0) s2 ∧ sk.2.length ≤ 2 + 0 ∧ RowI S0 (w.heap.size + 1) sk x3 ∧ Kept S0 (w.heap.size + 1) W3 x3) := ⟨s2, rfl, by omega, HK2.out.1, HK2.out.2⟩
  clear HK2
  go_wp2_with fail
  go_loopw [5] (fun i wr => ∃ k : Nat, i = .int .i64 (k : Int) ∧ k ≤ 12 ∧ Hid (∃ sk, sk = wrIds ((nums12 L).take k) s2 ∧ sk.2.length ≤ 2 + k ∧ RowI S0 (w.heap.size + 1) sk wr ∧ Kept S0 (w.heap.size + 1) W3 wr)) (fun i _ => 12 - (intOf i).toNat)
  case atStart => exact ⟨0, rfl, by omega, HI0⟩
  case round =>
    clear HI0
    obtain ⟨k, rfl, hk, hI⟩ := hrel
    obtain ⟨sk, hsk, hlk, hpk, hkk⟩ := hI.out
    by_cases hlt : k < 12
    · have hnl : k < (nums12 L).length := by rw [nums12_len L (by rw [hn.out]; exact h12)]; exact hlt
      have hnx := wrIds_snoc (nums12 L) k hnl s2
      rw [← hsk, nums12_at L k (by rw [hn.out]; exact h12) hnl] at hnx
      have i1 : (k : Int) < 12 := by omega
      have i2 : (0 : Int) ≤ (k : Int) := by omega
      have m2 := (hkk.cell (b := w.heap.size) (o := 2) (sW.out _ (by omega)) (by omega)).trans (HM.out 2)
      have hzr : w.heap.size < wr.heap.size := hpk.bd _ (sW.out _ (by omega))
      have m3 := (World.cell?_alloc_past (w := wr) (.cells #[.bool false, .int .i64 0] 25) w.heap.size 2 hzr).trans m2
      by_cases hkn : k < n
      · have hkl : k < L.length := by rw [hn.out]; exact hkn
        obtain ⟨b, off, hAb, hb, hc⟩ := HSV.out k hkl
        subst hAb
        rw [dif_pos hkl] at hnx
        generalize L[k] = v at *
        obtain ⟨q1, f0⟩ : ∃ s, Hid (wrNum 1 3 0 1 255 (true, v) sk = s) := ⟨_, rfl⟩
        rw [f0.out] at hnx
        have HNX := Lib.hid hnx
        have hc0 := (hkk.cell (b := b) (o := off + k) (sW.out _ (by omega)) (by omega)).trans hc
        have hc1 := (World.cell?_alloc_past (w := wr) (.cells #[.bool false, .int .i64 0] 25) b (off + k) (by omega)).trans hc0
        clear hc0
        have i3 : (k : Int) < (n : Int) := by omega
        have hb9 := below_new wr (.cells #[.bool true, .int .i64 v] 25)
        have HK0 : Hid (RowI S0 (w.heap.size + 1) sk (wr.alloc (.cells #[.bool true, .int .i64 v] 25)) ∧ Kept S0 (w.heap.size + 1) W3 (wr.alloc (.cells #[.bool true, .int .i64 v] 25))) := ⟨hpk.keep hb9, hkk.trans (Kept.of_below hb9 hpk.bd)⟩
        have y0 : (wr.alloc (.cells #[.bool true, .int .i64 v] 25)).cell? ⟨wr.heap.size, 0, none⟩ = some (.bool true) := World.cell?_alloc_at _ _ _ _ rfl
        have y1 : (wr.alloc (.cells #[.bool true, .int .i64 v] 25)).cell? ⟨wr.heap.size, 1, none⟩ = some (.int .i64 v) := World.cell?_alloc_at _ _ _ _ rfl
        have hVz : wr.heap.size < (wr.alloc (.cells #[.bool true, .int .i64 v] 25)).heap.size := by simp
        have HVZ := Lib.hid hVz
        clear hc hb9 hpk hkk hI hsk hVz hnx
        go_upto_region 14 with fail
        generalize hW9 : wr.alloc (.cells #[.bool true, .int .i64 v] 25) = W9 at *
        generalize hV : wr.heap.size = V at *
        clear hV hW9 hc1 m2 m3 hzr
        go_region_with (first | (go_at_call 97; refine (r27Id_any _).mono ?_; rintro r y3 ⟨rfl, hb2⟩; have k2 := Lib.hid (Kept.undrew (Kept.of_below (S := S0) (g := w.heap.size + 1) hb2 HK0.out.1.bd)); have R2 := Lib.hid (HK0.out.1.keep (w' := y3) (Below.trans (bdrew (Below.refl _ _)) hb2)); have z0 := ((bcell hb2).1 V 0 HVZ.out).trans y0; have z1 := ((bcell hb2).1 V 1 HVZ.out).trans y1) | (go_at_call 45; refine (rowNum f0 R2.out (by omega)).mono ?_; rintro r y4 ⟨rfl, hp3, hk3⟩))
        all_goals go_wp2_with fail
        all_goals have HK1 := Lib.hid (show RowI S0 (w.heap.size + 1) q1 _ ∧ Kept S0 (w.heap.size + 1) W3 _ from ⟨hp3, HK0.out.2.trans (k2.out.trans hk3)⟩)
        all_goals go_roundw
        all_goals first | exact ⟨k + 1, by go_num, by omega, Lib.hid ⟨q1, HNX.out.symm, by rw [← f0.out, wrNum_len]; omega, HK1.out.1, HK1.out.2⟩⟩ | (simp [intOf]; omega)
      · have hkl : ¬ k < L.length := by rw [hn.out]; exact hkn
        rw [dif_neg hkl] at hnx
        obtain ⟨q1, f0⟩ : ∃ s, Hid (wrNum 1 3 0 1 255 (false, 0) sk = s) := ⟨_, rfl⟩
        rw [f0.out] at hnx
        have HNX := Lib.hid hnx
        have i3 : (n : Int) ≤ (k : Int) := by omega
        have hb9 := below_new wr (.cells #[.bool false, .int .i64 0] 25)
        have HK0 : Hid (RowI S0 (w.heap.size + 1) sk (wr.alloc (.cells #[.bool false, .int .i64 0] 25)) ∧ Kept S0 (w.heap.size + 1) W3 (wr.alloc (.cells #[.bool false, .int .i64 0] 25))) := ⟨hpk.keep hb9, hkk.trans (Kept.of_below hb9 hpk.bd)⟩
        have y0 : (wr.alloc (.cells #[.bool false, .int .i64 0] 25)).cell? ⟨wr.heap.size, 0, none⟩ = some (.bool false) := World.cell?_alloc_at _ _ _ _ rfl
        have y1 : (wr.alloc (.cells #[.bool false, .int .i64 0] 25)).cell? ⟨wr.heap.size, 1, none⟩ = some (.int .i64 0) := World.cell?_alloc_at _ _ _ _ rfl
        have HVZ : Hid (wr.heap.size < (wr.alloc (.cells #[.bool false, .int .i64 0] 25)).heap.size) := by show _ < _; simp
        clear hb9 hpk hkk hI hsk hnx
        go_upto_region 14 with fail
        generalize hW9 : wr.alloc (.cells #[.bool false, .int .i64 0] 25) = W9 at *
        generalize hV : wr.heap.size = V at *
        clear hV hW9 m2 m3 hzr
        go_region_with (first | (go_at_call 97; refine (r27Id_any _).mono ?_; rintro r y3 ⟨rfl, hb2⟩; have k2 := Lib.hid (Kept.undrew (Kept.of_below (S := S0) (g := w.heap.size + 1) hb2 HK0.out.1.bd)); have R2 := Lib.hid (HK0.out.1.keep (w' := y3) (Below.trans (bdrew (Below.refl _ _)) hb2)); have z0 := ((bcell hb2).1 V 0 HVZ.out).trans y0; have z1 := ((bcell hb2).1 V 1 HVZ.out).trans y1) | (go_at_call 45; refine (rowNum f0 R2.out (by omega)).mono ?_; rintro r y4 ⟨rfl, hp3, hk3⟩))
        all_goals go_wp2_with fail
        all_goals have HK1 := Lib.hid (show RowI S0 (w.heap.size + 1) q1 _ ∧ Kept S0 (w.heap.size + 1) W3 _ from ⟨hp3, HK0.out.2.trans (k2.out.trans hk3)⟩)
        all_goals go_roundw
        all_goals first | exact ⟨k + 1, by go_num, by omega, Lib.hid ⟨q1, HNX.out.symm, by rw [← f0.out, wrNum_len]; omega, HK1.out.1, HK1.out.2⟩⟩ | (simp [intOf]; omega)
    · obtain rfl : k = 12 := by omega
      have hs3 : sk = s3 := by
        rw [hsk, List.take_of_length_le (by rw [nums12_len L (by rw [hn.out]; exact h12)]; omega)]
        exact e3.out
      subst hs3
      have HK0 : Hid (RowI S0 (w.heap.size + 1) sk wr ∧ Kept S0 (w.heap.size + 1) W3 wr) := ⟨hpk, hkk⟩
      clear hI hsk hpk hkk hlk HSV
      have m0 := (HK0.out.2.cell (b := w.heap.size) (o := 3) (sW.out _ (by omega)) (by omega)).trans (HM.out 3)
      have m1 := (HK0.out.2.cell (b := w.heap.size) (o := 4) (sW.out _ (by omega)) (by omega)).trans (HM.out 4)
      go_upto_region 15 with fail
      go_cut [] (fun wx => Hid (RowI S0 (w.heap.size + 1) s4 wx ∧ Kept S0 (w.heap.size + 1) W3 wx))
      case first =>
        go_region_with (first | (go_at_call 98; refine (r27Dop_any _).mono ?_; rintro r y3 ⟨rfl, hb2⟩; have k2 := Lib.hid (Kept.undrew (Kept.of_below (S := S0) (g := w.heap.size + 1) hb2 HK0.out.1.bd)); have R2 := Lib.hid (HK0.out.1.keep (w' := y3) (Below.trans (bdrew (Below.refl _ _)) hb2)); have z0 := (k2.out.cell (b := w.heap.size) (o := 3) (sW.out _ (by omega)) (by omega)).trans m0; have z1 := (k2.out.cell (b := w.heap.size) (o := 4) (sW.out _ (by omega)) (by omega)).trans m1) | (go_at_call 45; refine (rowNum e4 R2.out (by omega)).mono ?_; rintro r y4 ⟨rfl, hp3, hk3⟩))
        all_goals go_wp2_with fail
        all_goals go_meet
        all_goals exact Lib.hid ⟨hp3, HK0.out.2.trans (k2.out.trans hk3)⟩
      case rest =>
      have HK1 := hcut
      clear hcut HK0 m0 m1
      have HK0 := HK1
      clear HK1
      have m0 := (HK0.out.2.cell (b := w.heap.size) (o := 5) (sW.out _ (by omega)) (by omega)).trans (HM.out 5)
      have m1 := (HK0.out.2.cell (b := w.heap.size) (o := 6) (sW.out _ (by omega)) (by omega)).trans (HM.out 6)
      go_upto_region 16 with fail
      go_cut [] (fun wx => Hid (RowI S0 (w.heap.size + 1) s5 wx ∧ Kept S0 (w.heap.size + 1) W3 wx))
      case first =>
        go_region_with (first | (go_at_call 98; refine (r27Dop_any _).mono ?_; rintro r y3 ⟨rfl, hb2⟩; have k2 := Lib.hid (Kept.undrew (Kept.of_below (S := S0) (g := w.heap.size + 1) hb2 HK0.out.1.bd)); have R2 := Lib.hid (HK0.out.1.keep (w' := y3) (Below.trans (bdrew (Below.refl _ _)) hb2)); have z0 := (k2.out.cell (b := w.heap.size) (o := 5) (sW.out _ (by omega)) (by omega)).trans m0; have z1 := (k2.out.cell (b := w.heap.size) (o := 6) (sW.out _ (by omega)) (by omega)).trans m1) | (go_at_call 45; refine (rowNum e5 R2.out (by omega)).mono ?_; rintro r y4 ⟨rfl, hp3, hk3⟩))
        all_goals go_wp2_with fail
        all_goals go_meet
        all_goals exact Lib.hid ⟨hp3, HK0.out.2.trans (k2.out.trans hk3)⟩
      case rest =>
      have HK1 := hcut
      clear hcut HK0 m0 m1
      have HK0 := HK1
      clear HK1
      have m0 := (HK0.out.2.cell (b := w.heap.size) (o := 7) (sW.out _ (by omega)) (by omega)).trans (HM.out 7)
      have m1 := (HK0.out.2.cell (b := w.heap.size) (o := 8) (sW.out _ (by omega)) (by omega)).trans (HM.out 8)
      go_upto_region 17 with fail
      go_cut [] (fun wx => Hid (RowI S0 (w.heap.size + 1) s6 wx ∧ Kept S0 (w.heap.size + 1) W3 wx))
      case first =>
        go_region_with (first | (go_at_call 98; refine (r27Dop_any _).mono ?_; rintro r y3 ⟨rfl, hb2⟩; have k2 := Lib.hid (Kept.undrew (Kept.of_below (S := S0) (g := w.heap.size + 1) hb2 HK0.out.1.bd)); have R2 := Lib.hid (HK0.out.1.keep (w' := y3) (Below.trans (bdrew (Below.refl _ _)) hb2)); have z0 := (k2.out.cell (b := w.heap.size) (o := 7) (sW.out _ (by omega)) (by omega)).trans m0; have z1 := (k2.out.cell (b := w.heap.size) (o := 8) (sW.out _ (by omega)) (by omega)).trans m1) | (go_at_call 45; refine (rowNum e6 R2.out (by omega)).mono ?_; rintro r y4 ⟨rfl, hp3, hk3⟩))
        all_goals go_wp2_with fail
        all_goals go_meet
        all_goals exact Lib.hid ⟨hp3, HK0.out.2.trans (k2.out.trans hk3)⟩
      case rest =>
      have HK1 := hcut
      clear hcut HK0 m0 m1
      have HK0 := HK1
      clear HK1
      have HB6 := Lib.hid (Below.trans HB.out (HK0.out.2.below (B := w.heap.size) (by omega) (fun k hk => sW.out k (by omega))))
      go_wp2_with fail
      refine (rowDone HK0.out.1 (by omega)).mono ?_
      intro r w7 h7
      have h8 := DonePost.put HB6.out h7
      rw [HX.out] at h8
      obtain ⟨v, rfl, h9⟩ := h8
      clear h7
      have H9 := Lib.hid h9
      clear h9
      go_wp2_with fail
      go_ret2
      exact ⟨v, rfl, H9.out⟩
theorem r27Put_any (a : Bool) (f : Int) (A : Option Addr) (c : Nat) (L : List Int) (b0 : Bool) (n0 : Int) (b1 : Bool) (n1 : Int) (b2 : Bool) (n2 : Int) (w : World) (hs : Ints w w.heap.size A L) (hm : L.length ≤ 1000000) : Calls Tryd.prog 23 #[gsaV a f A L.length c b0 n0 b1 n1 b2 n2] w (PutPost (putGsa ⟨a, f, L, (b0, n0), (b1, n1), (b2, n2)⟩) w) := by
  by_cases h : 12 < L.length
  · have : putGsa ⟨a, f, L, (b0, n0), (b1, n1), (b2, n2)⟩ = ([], 7) := if_pos h
    rw [this]
    exact r27Put_long a f A L.length c b0 n0 b1 n1 b2 n2 w (by omega) hm
  · exact r27Put_ok a f A L.length c L b0 n0 b1 n1 b2 n2 w rfl hs (by omega)
end Go.Proofs.YtkjmcgjlkheamaaDoor
