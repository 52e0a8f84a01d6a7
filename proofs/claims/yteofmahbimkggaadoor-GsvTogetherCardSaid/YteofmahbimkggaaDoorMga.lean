/- Layer 29, plain: digits, views, messages. -/
import Derived.Test.YteofmahbimkggaaDoorMvs
import Derived.Test.YteofmahbimkggaaDoorMva
namespace Go.Proofs.YteofmahbimkggaaDoor
set_option linter.unusedVariables false
open Go.RowKit

/-- Is a text one digit? -/
def dgB (t : ByteArray) : Bool := decide (t.size = 1) && decide (48 ≤ (t[0]?.getD 0).toNat) && decide ((t[0]?.getD 0).toNat ≤ 57)
def dgN (t : ByteArray) : Int := ((t[0]?.getD 0).toNat : Int) - 48
def digT (n : Int) : ByteArray := ⟨#[UInt8.ofNat (48 + n).toNat]⟩
def rdDig (lo hi : Int) (s : Rd) : Int × Rd :=
  if dgB (rdText s).1 = true then (dgN (rdText s).1, if dgN (rdText s).1 < lo ∨ hi < dgN (rdText s).1 then rdFail 5 (rdText s).2 else (rdText s).2) else (0, rdFail 3 (rdText s).2)
def wrDig (lo hi n : Int) (s : Rd) : Rd := if n < lo ∨ hi < n then wrText ByteArray.empty 5 s else wrText (digT n) 0 s
/-- As the reference writes it: nothing at an error. -/
def wrDigR (lo hi n : Int) (s : Rd) : Rd := if n < lo ∨ hi < n then rdFail 5 s else wrText (digT n) 0 s
theorem digT_size (n : Int) : (digT n).size = 1 := rfl
theorem digT_get (n : Int) : (digT n)[0]? = some (UInt8.ofNat (48 + n).toNat) := rfl
theorem digT_back {n : Int} (h0 : 0 ≤ n) (h9 : n ≤ 9) : dgB (digT n) = true ∧ dgN (digT n) = n := by
  have hv : (UInt8.ofNat (48 + n).toNat).toNat = (48 + n).toNat := by rw [UInt8.toNat_ofNat']; omega
  unfold dgB dgN
  rw [digT_size, digT_get, Option.getD_some, hv]
  refine ⟨?_, by omega⟩
  simp
  omega
theorem dgB_put {t : ByteArray} (h : dgB t = true) : 0 ≤ dgN t ∧ dgN t ≤ 9 ∧ t.size = 1 := by
  unfold dgB at h
  simp at h
  unfold dgN
  omega
theorem rdText_cons (t : ByteArray) (R : List ByteArray) : rdText (0, t :: R) = (t, (0, R)) := by simp [rdText, textE_cons]
theorem wrDig_ok {lo hi n : Int} {s : Rd} (hlo : 0 ≤ lo) (hhi : hi ≤ 9) (h : (wrDig lo hi n s).1 = 0) :
    s.1 = 0 ∧ lo ≤ n ∧ n ≤ hi ∧ (∀ l, wrDig lo hi n (0, l) = (0, l ++ [digT n])) ∧ wrDig lo hi n s = (0, s.2 ++ [digT n]) ∧ ∀ R, rdDig lo hi (0, digT n :: R) = (n, (0, R)) := by
  by_cases hq : n < lo ∨ hi < n
  · unfold wrDig at h
    rw [if_pos hq] at h
    exact absurd (firstE_zero h).2 (by decide)
  · have k : ∀ s, wrDig lo hi n s = wrText (digT n) 0 s := fun s => if_neg hq
    rw [k] at h
    obtain ⟨h1, -⟩ := firstE_zero h
    obtain ⟨d1, d2⟩ := digT_back (n := n) (by omega) (by omega)
    refine ⟨h1, by omega, by omega, fun l => by rw [k]; rfl, by rw [k]; unfold wrText; rw [h1]; rfl, fun R => ?_⟩
    unfold rdDig
    rw [rdText_cons]
    simp only
    rw [if_pos d1, d2, if_neg hq]
theorem rdDig_ok {lo hi : Int} {s : Rd} (hlo : 0 ≤ lo) (hhi : hi ≤ 9) (h : (rdDig lo hi s).2.1 = 0) :
    s.1 = 0 ∧ ∃ t R n, s.2 = t :: R ∧ rdDig lo hi s = (n, (0, R)) ∧ lo ≤ n ∧ n ≤ hi ∧ t.size = 1 ∧ (∀ l, wrDig lo hi n (0, l) = (0, l ++ [digT n])) ∧ ∀ R, rdDig lo hi (0, digT n :: R) = (n, (0, R)) := by
  obtain ⟨e, l⟩ := s
  by_cases hd : dgB (rdText (e, l)).1 = true
  · by_cases hq : dgN (rdText (e, l)).1 < lo ∨ hi < dgN (rdText (e, l)).1
    · unfold rdDig at h
      rw [if_pos hd, if_pos hq] at h
      exact absurd (firstE_zero h).2 (by decide)
    · have hr : rdDig lo hi (e, l) = (dgN (rdText (e, l)).1, (rdText (e, l)).2) := by unfold rdDig; rw [if_pos hd, if_neg hq]
      rw [hr] at h
      obtain ⟨h1, t, R, h2⟩ := textE_zero h
      simp only at h1 h2
      subst h1 h2
      rw [rdText_cons] at hd hq hr
      simp only at hd hq hr
      obtain ⟨d0, d9, d1⟩ := dgB_put hd
      have hw : (wrDig lo hi (dgN t) (0, [])).1 = 0 := by unfold wrDig; rw [if_neg hq]; rfl
      obtain ⟨-, w1, w2, w3, -, w5⟩ := wrDig_ok hlo hhi hw
      exact ⟨rfl, t, R, dgN t, rfl, hr, w1, w2, d1, w3, w5⟩
  · unfold rdDig at h
    rw [if_neg hd] at h
    exact absurd (firstE_zero h).2 (by decide)

/-- A view: four numbers. -/
abbrev V4 := (Bool × Int) × (Bool × Int) × (Bool × Int) × (Bool × Int)
def wrView (v : V4) (s : Rd) : Rd := wrNum 1 2 0 0 99 v.2.2.2 (wrNum 1 3 0 0 359 v.2.2.1 (wrNum 1 2 0 0 90 v.2.1 (wrNum 1 3 0 1 255 v.1 s)))
def rdView (s : Rd) : V4 × Rd :=
  (((rdNum 1 3 0 1 255 s).1, (rdNum 1 2 0 0 90 (rdNum 1 3 0 1 255 s).2).1, (rdNum 1 3 0 0 359 (rdNum 1 2 0 0 90 (rdNum 1 3 0 1 255 s).2).2).1, (rdNum 1 2 0 0 99 (rdNum 1 3 0 0 359 (rdNum 1 2 0 0 90 (rdNum 1 3 0 1 255 s).2).2).2).1),
    (rdNum 1 2 0 0 99 (rdNum 1 3 0 0 359 (rdNum 1 2 0 0 90 (rdNum 1 3 0 1 255 s).2).2).2).2)
def wrViews (l : List V4) (s : Rd) : Rd := l.foldl (fun s v => wrView v s) s
def rdViews : Nat → Rd → List V4 × Rd
  | 0, s => ([], s)
  | k + 1, s => ((rdView s).1 :: (rdViews k (rdView s).2).1, (rdViews k (rdView s).2).2)
theorem wrView_ok {v : V4} {s : Rd} (h : (wrView v s).1 = 0) :
    s.1 = 0 ∧ ∃ T : List ByteArray, T.length = 4 ∧ (∀ l, wrView v (0, l) = (0, l ++ T)) ∧ wrView v s = (0, s.2 ++ T) ∧ ∀ R, rdView (0, T ++ R) = (v, (0, R)) := by
  obtain ⟨d1, t4, d2, d3, d4⟩ := wrNum_ok h
  obtain ⟨c1, t3, c2, c3, c4⟩ := wrNum_ok d1
  obtain ⟨b1, t2, b2, b3, b4⟩ := wrNum_ok c1
  obtain ⟨a1, t1, a2, a3, a4⟩ := wrNum_ok b1
  have hall : ∀ l, wrView v (0, l) = (0, l ++ [t1, t2, t3, t4]) := fun l => by
    unfold wrView
    rw [a2, b2, c2, d2]
    simp
  refine ⟨a1, [t1, t2, t3, t4], rfl, hall, ?_, fun R => ?_⟩
  · have : s = (0, s.2) := Prod.ext a1 rfl
    rw [this]
    exact hall _
  · unfold rdView
    simp only [List.cons_append, List.nil_append, a4, b4, c4, d4]
theorem rdView_ok {s : Rd} (h : (rdView s).2.1 = 0) :
    s.1 = 0 ∧ ∃ T R v T', s.2 = T ++ R ∧ T.length = 4 ∧ T'.length = 4 ∧ rdView s = (v, (0, R)) ∧ (∀ l, wrView v (0, l) = (0, l ++ T')) ∧ NoLonger T' T ∧ ∀ R, rdView (0, T' ++ R) = (v, (0, R)) := by
  obtain ⟨d1, t4, R4, n4, d2, d3, u4, d4, d5, d6⟩ := rdNum_ok h
  obtain ⟨c1, t3, R3, n3, c2, c3, u3, c4, c5, c6⟩ := rdNum_ok d1
  obtain ⟨b1, t2, R2, n2, b2, b3, u2, b4, b5, b6⟩ := rdNum_ok c1
  obtain ⟨a1, t1, R1, n1, a2, a3, u1, a4, a5, a6⟩ := rdNum_ok b1
  rw [a3] at b2 b3 c2 c3 d2 d3
  simp only at b2 b3 c2 c3 d2 d3
  subst b2
  rw [b3] at c2 c3 d2 d3
  simp only at c2 c3 d2 d3
  subst c2
  rw [c3] at d2 d3
  simp only at d2 d3
  subst d2
  refine ⟨a1, [t1, t2, t3, t4], R4, (n1, n2, n3, n4), [u1, u2, u3, u4], a2, rfl, rfl, ?_, fun l => ?_, ?_, fun R => ?_⟩
  · unfold rdView
    rw [a3]
    simp only
    rw [b3]
    simp only
    rw [c3]
    simp only
    rw [d3]
  · unfold wrView
    simp only
    rw [a4, b4, c4, d4]
    simp
  · exact NoLonger.cons (a5 rfl) (NoLonger.cons (b5 rfl) (NoLonger.cons (c5 rfl) (NoLonger.cons (d5 rfl) (NoLonger.nil _))))
  · unfold rdView
    simp only [List.cons_append, List.nil_append, a6, b6, c6, d6]
theorem NoLonger.append {T U T' U' : List ByteArray} (h : NoLonger T U) (hl : T.length = U.length) (k : NoLonger T' U') : NoLonger (T ++ T') (U ++ U') := by
  intro i a b h1 h2
  rcases Nat.lt_or_ge i T.length with q | q
  · rw [List.getElem?_append_left q] at h1
    rw [List.getElem?_append_left (by omega)] at h2
    exact h i a b h1 h2
  · rw [List.getElem?_append_right q] at h1
    rw [List.getElem?_append_right (by omega), ← hl] at h2
    exact k _ a b h1 h2
theorem wrViews_ok : ∀ (l : List V4) (s : Rd), (wrViews l s).1 = 0 →
    s.1 = 0 ∧ ∃ T : List ByteArray, T.length = 4 * l.length ∧ (∀ L, wrViews l (0, L) = (0, L ++ T)) ∧ wrViews l s = (0, s.2 ++ T) ∧ ∀ R, rdViews l.length (0, T ++ R) = (l, (0, R))
  | [], s, h => ⟨h, [], rfl, fun L => by rw [List.append_nil]; rfl, by rw [List.append_nil]; exact Prod.ext h rfl, fun R => rfl⟩
  | v :: l, s, h => by
    obtain ⟨h1, T, h2, h3, h4, h5⟩ := wrViews_ok l (wrView v s) h
    obtain ⟨g1, U, g2, g3, g4, g5⟩ := wrView_ok h1
    refine ⟨g1, U ++ T, by simp [g2, h2]; omega, fun L => ?_, ?_, fun R => ?_⟩
    · show wrViews l (wrView v (0, L)) = _
      rw [g3, h3, List.append_assoc]
    · show wrViews l (wrView v s) = _
      rw [h4, g4, List.append_assoc]
    · show ((rdView (0, U ++ T ++ R)).1 :: (rdViews l.length (rdView (0, U ++ T ++ R)).2).1, (rdViews l.length (rdView (0, U ++ T ++ R)).2).2) = _
      rw [List.append_assoc, g5]
      simp only
      rw [h5]
theorem rdViews_ok : ∀ (k : Nat) (s : Rd), (rdViews k s).2.1 = 0 →
    s.1 = 0 ∧ ∃ T R l T', s.2 = T ++ R ∧ T.length = 4 * k ∧ T'.length = 4 * k ∧ l.length = k ∧ rdViews k s = (l, (0, R)) ∧ (∀ L, wrViews l (0, L) = (0, L ++ T')) ∧ NoLonger T' T ∧ ∀ R, rdViews k (0, T' ++ R) = (l, (0, R))
  | 0, s, h => ⟨h, [], s.2, [], [], rfl, rfl, rfl, rfl, Prod.ext rfl (Prod.ext h rfl), fun L => by rw [List.append_nil]; rfl, NoLonger.nil _, fun R => rfl⟩
  | k + 1, s, h => by
    obtain ⟨h1, T, R, l, T', h2, h3, h4, h5, h6, h7, h8, h9⟩ := rdViews_ok k (rdView s).2 h
    obtain ⟨g1, U, R', v, U', g2, g3, g4, g5, g6, g7, g8⟩ := rdView_ok h1
    rw [g5] at h2 h6
    simp only at h2 h6
    subst h2
    refine ⟨g1, U ++ T, R, v :: l, U' ++ T', by rw [g2, List.append_assoc], by simp [g3, h3]; omega, by simp [g4, h4]; omega, by simp [h5], ?_, fun L => ?_, NoLonger.append g7 (by omega) h8, fun R => ?_⟩
    · show ((rdView s).1 :: (rdViews k (rdView s).2).1, (rdViews k (rdView s).2).2) = _
      rw [g5]
      simp only
      rw [h6]
    · show wrViews l (wrView v (0, L)) = _
      rw [g6, h7, List.append_assoc]
    · show ((rdView (0, U' ++ T' ++ R)).1 :: (rdViews k (rdView (0, U' ++ T' ++ R)).2).1, (rdViews k (rdView (0, U' ++ T' ++ R)).2).2) = _
      rw [List.append_assoc, g8]
      simp only
      rw [h9]

/-- A message: of how many, which one, how many are seen, views. -/
structure GsvD where
  T : Int
  N : Int
  S : Int
  L : List V4
def zeroG : GsvD := ⟨0, 0, 0, []⟩
def putGsv (m : GsvD) : List ByteArray × Int := if 4 < m.L.length then ([], 7) else wrDone (wrViews m.L (wrNum 1 2 0 0 99 (true, m.S) (wrDig 1 (min m.T 9) m.N (wrDig 1 9 m.T (0, [])))))
def rdSeen (s : Rd) : Int × Rd := ((rdNum 1 2 0 0 99 s).1.2, if (rdNum 1 2 0 0 99 s).1.1 = true then (rdNum 1 2 0 0 99 s).2 else rdFail 3 (rdNum 1 2 0 0 99 s).2)
def badG (n : Nat) : Prop := n < 3 ∨ 19 < n ∨ n % 4 ≠ 3
instance (n : Nat) : Decidable (badG n) := by unfold badG; infer_instance
def takeGsv (R : List ByteArray) : GsvD × Int :=
  if badG R.length then (zeroG, 3)
  else if (rdViews ((R.length - 3) / 4) (rdSeen (rdDig 1 (rdDig 1 9 (0, R)).1 (rdDig 1 9 (0, R)).2).2).2).2.1 = 0 then
    (⟨(rdDig 1 9 (0, R)).1, (rdDig 1 (rdDig 1 9 (0, R)).1 (rdDig 1 9 (0, R)).2).1, (rdSeen (rdDig 1 (rdDig 1 9 (0, R)).1 (rdDig 1 9 (0, R)).2).2).1, (rdViews ((R.length - 3) / 4) (rdSeen (rdDig 1 (rdDig 1 9 (0, R)).1 (rdDig 1 9 (0, R)).2).2).2).1⟩, 0)
  else (zeroG, (rdViews ((R.length - 3) / 4) (rdSeen (rdDig 1 (rdDig 1 9 (0, R)).1 (rdDig 1 9 (0, R)).2).2).2).2.1)
theorem rdSeen_ok {s : Rd} (h : (rdSeen s).2.1 = 0) : s.1 = 0 ∧ ∃ t R n, s.2 = t :: R ∧ rdSeen s = (n, (0, R)) ∧ ∃ t', (∀ l, wrNum 1 2 0 0 99 (true, n) (0, l) = (0, l ++ [t'])) ∧ t'.size ≤ t.size ∧ ∀ R, rdSeen (0, t' :: R) = (n, (0, R)) := by
  by_cases hb : (rdNum 1 2 0 0 99 s).1.1 = true
  · have hr : rdSeen s = ((rdNum 1 2 0 0 99 s).1.2, (rdNum 1 2 0 0 99 s).2) := by unfold rdSeen; rw [if_pos hb]
    rw [hr] at h
    obtain ⟨h1, t, R, n, h2, h3, t', h4, h5, h6⟩ := rdNum_ok h
    rw [h3] at hb hr
    obtain ⟨b, n⟩ := n
    simp only at hb hr
    subst hb
    refine ⟨h1, t, R, n, h2, hr, t', h4, h5 rfl, fun R => ?_⟩
    unfold rdSeen
    rw [h6]
    rfl
  · unfold rdSeen at h
    rw [if_neg hb] at h
    exact absurd (firstE_zero h).2 (by decide)
theorem gsv_put_take {m : GsvD} (h : (putGsv m).2 = 0) : takeGsv (putGsv m).1 = (m, 0) ∧ ¬ badG (putGsv m).1.length := by
  by_cases hl : 4 < m.L.length
  · unfold putGsv at h; rw [if_pos hl] at h; exact absurd h (by decide)
  · have hp : putGsv m = wrDone (wrViews m.L (wrNum 1 2 0 0 99 (true, m.S) (wrDig 1 (min m.T 9) m.N (wrDig 1 9 m.T (0, []))))) := if_neg hl
    rw [hp] at h ⊢
    obtain ⟨h1, V, h2, -, h4, h5⟩ := wrViews_ok _ _ h
    obtain ⟨g1, t3, g2, g3, g4⟩ := wrNum_ok h1
    obtain ⟨f1, f2, f3, f4, f5, f6⟩ := wrDig_ok (by omega) (by omega) g1
    obtain ⟨e1, e2, e3, e4, e5, e6⟩ := wrDig_ok (by omega) (by omega) f1
    have hT : min m.T 9 = m.T := by omega
    rw [hT] at f4 f5 f6 g3 h4
    have hR : (wrDone (wrViews m.L (wrNum 1 2 0 0 99 (true, m.S) (wrDig 1 m.T m.N (wrDig 1 9 m.T (0, [])))))).1 = digT m.T :: digT m.N :: t3 :: V := by
      unfold wrDone
      rw [h4, g3, f5, e5]
      simp
    rw [hT, hR]
    have hlen : (digT m.T :: digT m.N :: t3 :: V).length = 3 + 4 * m.L.length := by simp [h2]; omega
    have hbad : ¬ badG (digT m.T :: digT m.N :: t3 :: V).length := by unfold badG; rw [hlen]; omega
    refine ⟨?_, hbad⟩
    have hs : ∀ R, rdSeen (0, t3 :: R) = (m.S, (0, R)) := fun R => by unfold rdSeen; rw [g4]; rfl
    have hv := h5 []
    rw [List.append_nil] at hv
    unfold takeGsv
    rw [if_neg hbad, hlen, e6]
    simp only
    rw [f6]
    simp only
    rw [hs]
    simp only
    rw [show (3 + 4 * m.L.length - 3) / 4 = m.L.length from by omega, hv]
    rfl
theorem gsv_take_put {R : List ByteArray} (h : (takeGsv R).2 = 0) : (takeGsv R).1.L.length ≤ 4 ∧ (putGsv (takeGsv R).1).2 = 0 ∧ (putGsv (takeGsv R).1).1.length = R.length ∧ NoLonger (putGsv (takeGsv R).1).1 R := by
  by_cases hb : badG R.length
  · unfold takeGsv at h; rw [if_pos hb] at h; exact absurd h (by decide)
  · have hb2 := hb
    unfold badG at hb2
    by_cases h0 : (rdViews ((R.length - 3) / 4) (rdSeen (rdDig 1 (rdDig 1 9 (0, R)).1 (rdDig 1 9 (0, R)).2).2).2).2.1 = 0
    · have ht : takeGsv R = (⟨(rdDig 1 9 (0, R)).1, (rdDig 1 (rdDig 1 9 (0, R)).1 (rdDig 1 9 (0, R)).2).1, (rdSeen (rdDig 1 (rdDig 1 9 (0, R)).1 (rdDig 1 9 (0, R)).2).2).1, (rdViews ((R.length - 3) / 4) (rdSeen (rdDig 1 (rdDig 1 9 (0, R)).1 (rdDig 1 9 (0, R)).2).2).2).1⟩, 0) := by
        unfold takeGsv; rw [if_neg hb, if_pos h0]
      obtain ⟨h1, V, R4, L, V', h2, h3, h4, h5, h6, h7, h8, h9⟩ := rdViews_ok _ _ h0
      obtain ⟨g1, t3, R3, n3, g2, g3, u3, g4, g5, g6⟩ := rdSeen_ok h1
      have hT9 : (rdDig 1 9 (0, R)).1 ≤ 9 := by
        unfold rdDig
        split
        · rename_i q; exact (dgB_put q).2.1
        · exact (by decide : (0 : Int) ≤ 9)
      obtain ⟨f1, t2, R2, n2, f2, f3, f4, f5, f6, f7, f8⟩ := rdDig_ok (by omega) hT9 g1
      obtain ⟨e1, t1, R1, n1, e2, e3, e4, e5, e6, e7, e8⟩ := rdDig_ok (by omega) (by omega) f1
      rw [e3] at f2 f3 f5 f7 f8 g2 g3 h2 h6 ht
      simp only at f2 f3 f5 f7 f8 g2 g3 h2 h6 ht
      subst f2
      rw [f3] at g2 g3 h2 h6 ht
      simp only at g2 g3 h2 h6 ht
      subst g2
      rw [g3] at h2 h6 ht
      simp only at h2 h6 ht
      subst h2
      rw [h6] at ht
      simp only at ht e2
      subst e2
      have hlen : ¬ 4 < L.length := by simp only [List.length_cons, List.length_append] at h5 hb2; omega
      have hp : putGsv ⟨n1, n2, n3, L⟩ = (digT n1 :: digT n2 :: u3 :: V', 0) := by
        unfold putGsv
        rw [if_neg hlen]
        simp only
        rw [show min n1 9 = n1 from by omega, e7, f7, g4, h7]
        simp [wrDone]
      rw [ht]
      simp only
      rw [hp]
      have hR4 : R4 = [] := by
        have h10 : (t1 :: t2 :: t3 :: (V ++ R4)).length = 3 + 4 * ((t1 :: t2 :: t3 :: (V ++ R4)).length - 3) / 4 + R4.length - 0 := by
          simp only [List.length_cons, List.length_append] at h3 hb2 ⊢; omega
        exact List.eq_nil_of_length_eq_zero (by simp only [List.length_cons, List.length_append] at h3 hb2; omega)
      subst hR4
      refine ⟨by omega, rfl, ?_, ?_⟩
      · simp only [List.length_cons, List.length_append, List.length_nil] at h3 h4 ⊢; omega
      · rw [List.append_nil]
        exact NoLonger.cons (by rw [digT_size]; omega) (NoLonger.cons (by rw [digT_size]; omega) (NoLonger.cons g5 h8))
    · unfold takeGsv at h
      rw [if_neg hb, if_neg h0] at h
      exact absurd h h0
theorem takeGsv_no {R : List ByteArray} (h : (takeGsv R).2 ≠ 0) : (takeGsv R).1 = zeroG := by
  unfold takeGsv at h ⊢
  split at h
  · rename_i q; rw [if_pos q]
  · rename_i q
    rw [if_neg q]
    split at h
    · exact absurd rfl h
    · rename_i q2; rw [if_neg q2]
/-- The reference's rows: the same error; the same fields, where there is none. -/
def Alike (s t : Rd) : Prop := s.1 = t.1 ∧ (s.1 = 0 → s = t)
theorem Alike.refl (s : Rd) : Alike s s := ⟨rfl, fun _ => rfl⟩
theorem Alike.num {s t : Rd} (h : Alike s t) (W M F L H : Int) (n : Bool × Int) : Alike (wrNum W M F L H n s) (wrNum W M F L H n t) := by
  refine ⟨by unfold wrNum; rw [h.1], fun q => ?_⟩
  rw [h.2 (firstE_zero q).1]
theorem Alike.dig {s t : Rd} (h : Alike s t) (lo hi n : Int) : Alike (wrDig lo hi n s) (wrDigR lo hi n t) := by
  unfold wrDig wrDigR
  by_cases hq : n < lo ∨ hi < n
  · rw [if_pos hq, if_pos hq]
    refine ⟨by unfold wrText rdFail; rw [h.1], fun q => absurd (firstE_zero q).2 (by decide)⟩
  · rw [if_neg hq, if_neg hq]
    refine ⟨by unfold wrText; rw [h.1], fun q => ?_⟩
    rw [h.2 (firstE_zero q).1]
theorem Alike.view {s t : Rd} (h : Alike s t) (v : V4) : Alike (wrView v s) (wrView v t) := (((h.num _ _ _ _ _ _).num _ _ _ _ _ _).num _ _ _ _ _ _).num _ _ _ _ _ _
theorem Alike.done {s t : Rd} (h : Alike s t) : wrDone s = wrDone t := by
  unfold wrDone
  by_cases q : s.1 = 0
  · rw [h.2 q]
  · rw [if_neg q, if_neg (by rw [← h.1]; exact q), h.1]
theorem putGsv_small (m : GsvD) : Small (putGsv m).1 := by
  unfold putGsv
  split
  · exact Small.nil
  · refine wrDone_small ?_
    have hd : ∀ lo hi n s, Small s.2 → Small (wrDig lo hi n s).2 := fun lo hi n s h => by
      unfold wrDig
      split
      · exact wrText_small h (by simp)
      · exact wrText_small h (by rw [digT_size]; omega)
    have hv : ∀ (l : List V4) s, Small s.2 → Small (wrViews l s).2 := fun l => by
      induction l with
      | nil => exact fun s h => h
      | cons v l ih => exact fun s h => ih _ (wrNum_small (wrNum_small (wrNum_small (wrNum_small h))))
    exact hv _ _ (wrNum_small (hd _ _ _ _ (hd _ _ _ _ Small.nil)))
end Go.Proofs.YteofmahbimkggaaDoor

/- Layer 29: columns, digits. -/
namespace Go.Proofs.YteofmahbimkggaaDoor
set_option linter.unusedVariables false
open Go.RowKit

theorem gsvseen_any (w : World) : Calls Tryd.prog 20 #[] w fun e w' => e = .returned (colV 1 2 0 0 99) ∧ Below w.heap.size w w' := by
  go_enter Tryd.func20, Tryd.ntmps20
  go_wp2
  refine bodyPost_ret (v := colV 1 2 0 0 99) (by simp [results, Tryd.results20, go_sem]) rfl ⟨rfl, below_new _ _⟩
theorem gsvid_any (w : World) : Calls Tryd.prog 21 #[] w fun e w' => e = .returned (colV 1 3 0 1 255) ∧ Below w.heap.size w w' := by
  go_enter Tryd.func21, Tryd.ntmps21
  go_wp2
  refine bodyPost_ret (v := colV 1 3 0 1 255) (by simp [results, Tryd.results21, go_sem]) rfl ⟨rfl, below_new _ _⟩
theorem gsvelev_any (w : World) : Calls Tryd.prog 22 #[] w fun e w' => e = .returned (colV 1 2 0 0 90) ∧ Below w.heap.size w w' := by
  go_enter Tryd.func22, Tryd.ntmps22
  go_wp2
  refine bodyPost_ret (v := colV 1 2 0 0 90) (by simp [results, Tryd.results22, go_sem]) rfl ⟨rfl, below_new _ _⟩
theorem gsvazim_any (w : World) : Calls Tryd.prog 23 #[] w fun e w' => e = .returned (colV 1 3 0 0 359) ∧ Below w.heap.size w w' := by
  go_enter Tryd.func23, Tryd.ntmps23
  go_wp2
  refine bodyPost_ret (v := colV 1 3 0 0 359) (by simp [results, Tryd.results23, go_sem]) rfl ⟨rfl, below_new _ _⟩
theorem gsvlevel_any (w : World) : Calls Tryd.prog 24 #[] w fun e w' => e = .returned (colV 1 2 0 0 99) ∧ Below w.heap.size w w' := by
  go_enter Tryd.func24, Tryd.ntmps24
  go_wp2
  refine bodyPost_ret (v := colV 1 2 0 0 99) (by simp [results, Tryd.results24, go_sem]) rfl ⟨rfl, below_new _ _⟩
abbrev colsG : Array Value := #[.int .i64 1, .int .i64 2, .int .i64 0, .int .i64 0, .int .i64 99, .int .i64 1, .int .i64 3, .int .i64 0, .int .i64 1, .int .i64 255, .int .i64 1, .int .i64 2, .int .i64 0, .int .i64 0, .int .i64 90, .int .i64 1, .int .i64 3, .int .i64 0, .int .i64 0, .int .i64 359, .int .i64 1, .int .i64 2, .int .i64 0, .int .i64 0, .int .i64 99]
/-- The text of a digit, and its error. -/
def digS (lo hi n : Int) : ByteArray := if n < lo ∨ hi < n then ByteArray.empty else digT n
def digE (lo hi n : Int) : Int := if n < lo ∨ hi < n then 5 else 0
theorem wrDig_text (lo hi n : Int) (s : Rd) : wrDig lo hi n s = wrText (digS lo hi n) (digE lo hi n) s := by
  unfold wrDig digS digE
  by_cases h : n < lo ∨ hi < n
  · rw [if_pos h, if_pos h, if_pos h]
  · rw [if_neg h, if_neg h, if_neg h]
set_option maxRecDepth 8000 in
set_option maxHeartbeats 1000000 in
theorem gsvdigit_any (n top : Int) (w : World) : Calls Tryd.prog 18 #[.int .i64 n, .int .i64 top] w fun e w' => e = .returned (.tuple #[.string (digS 1 (min top 9) n), .int .i64 (digE 1 (min top 9) n)]) ∧ Below w.heap.size w w' := by
  by_cases h1 : n < 1
  · have e1 : digS 1 (min top 9) n = ByteArray.empty := if_pos (.inl h1)
    have e2 : digE 1 (min top 9) n = 5 := if_pos (.inl h1)
    rw [e1, e2]
    clear e1 e2
    go_enter Tryd.func18, Tryd.ntmps18
    go_wp2
    go_ret2
    exact ⟨rfl, Below.refl _ _⟩
  by_cases h2 : min top 9 < n
  · have e1 : digS 1 (min top 9) n = ByteArray.empty := if_pos (.inr h2)
    have e2 : digE 1 (min top 9) n = 5 := if_pos (.inr h2)
    rw [e1, e2]
    clear e1 e2
    have i1 : 1 ≤ n := by omega
    by_cases h3 : top ≤ 9
    · have i2 : top < n := by omega
      clear h1 h2
      go_enter Tryd.func18, Tryd.ntmps18
      go_wp2
      all_goals go_ret2
      all_goals exact ⟨rfl, Below.refl _ _⟩
    · have i2 : 9 < n := by omega
      have i3 : 9 < top := by omega
      clear h1 h2 h3
      go_enter Tryd.func18, Tryd.ntmps18
      go_wp2
      all_goals go_ret2
      all_goals exact ⟨rfl, Below.refl _ _⟩
  · have e1 : digS 1 (min top 9) n = digT n := if_neg (by omega)
    have e2 : digE 1 (min top 9) n = 0 := if_neg (by omega)
    rw [e1, e2]
    clear e1 e2
    have i1 : 1 ≤ n := by omega
    have i2 : n ≤ top := by omega
    have i3 : n ≤ 9 := by omega
    have kc := run_conv1 (P := Tryd.prog) 69 9 5 Tryd.underlying69 Tryd.underlying5 Tryd.underlying9
    clear h1 h2
    by_cases h3 : top ≤ 9
    · go_enter Tryd.func18, Tryd.ntmps18
      go_wp2
      all_goals go_ret2
      all_goals exact ⟨rfl, below_new _ _⟩
    · have i4 : 9 < top := by omega
      clear h3
      go_enter Tryd.func18, Tryd.ntmps18
      go_wp2
      all_goals go_ret2
      all_goals exact ⟨rfl, below_new _ _⟩
theorem digL_one {n : Int} (h0 : 0 ≤ n) (h9 : n ≤ 9) : toB (digL n.toNat 1) = digT n := by
  rcases (by omega : n = 0 ∨ n = 1 ∨ n = 2 ∨ n = 3 ∨ n = 4 ∨ n = 5 ∨ n = 6 ∨ n = 7 ∨ n = 8 ∨ n = 9) with rfl | rfl | rfl | rfl | rfl | rfl | rfl | rfl | rfl | rfl <;> decide +kernel
end Go.Proofs.YteofmahbimkggaaDoor
