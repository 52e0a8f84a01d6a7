/- Layer 33: plain facts on the reference's list; cells of a flat list that are turned. -/
import Derived.Test.YtloebedipfppeaaGap9
namespace Go.Proofs.Ytloebedipfppeaa
set_option linter.unusedVariables false
open Go.RowKit
set_option linter.unusedSimpArgs false

theorem drop_take {l : List Ln} {p : Ln → Bool} : l.dropWhile p = l.drop (l.takeWhile p).length := by
  induction l with
  | nil => rfl
  | cons x l ih =>
    cases hx : p x with
    | false => simp [List.dropWhile_cons, List.takeWhile_cons, hx]
    | true => simpa [List.dropWhile_cons, List.takeWhile_cons, hx] using ih
theorem take_take {l : List Ln} {p : Ln → Bool} : l.takeWhile p = l.take (l.takeWhile p).length := by
  induction l with
  | nil => rfl
  | cons x l ih =>
    cases hx : p x with
    | false => simp [List.takeWhile_cons, hx]
    | true =>
      simp only [List.takeWhile_cons, hx, if_true, List.length_cons, List.take_succ_cons]
      rw [← ih]
theorem set_mid : ∀ (t : List Ln) (x y : Ln) (r : List Ln), (t ++ x :: r).set t.length y = t ++ y :: r
  | [], x, y, r => rfl
  | a :: t, x, y, r => by
    show a :: (t ++ x :: r).set t.length y = _
    rw [set_mid t x y r]
    rfl
theorem hear_hit_at {l : List Ln} {q s c : Int} {T : Nat} (ho : (octB q && octB s && octB c) = true) (hT : (l.takeWhile (fun x => aheadB x s c)).length = T) (h : T < l.length) (hk : lnKey l[T] = (s, c)) :
    hearL l q s c = (l.set T (heardL l[T] q), lostOf l[T].2.2.1 q, true) := by
  have e : l.dropWhile (fun x => aheadB x s c) = l[T] :: l.drop (T + 1) := by rw [drop_take, hT]; exact List.drop_eq_getElem_cons h
  have e2 : l = l.takeWhile (fun x => aheadB x s c) ++ l[T] :: l.drop (T + 1) := by rw [← e]; exact List.takeWhile_append_dropWhile.symm
  have e3 : l.set T (heardL l[T] q) = l.takeWhile (fun x => aheadB x s c) ++ heardL l[T] q :: l.drop (T + 1) := by
    have h1 := set_mid (l.takeWhile (fun x => aheadB x s c)) l[T] (heardL l[T] q) (l.drop (T + 1))
    rw [← e2, hT] at h1
    exact h1
  unfold hearL
  rw [if_neg (by rw [ho]; simp), e]
  simp only
  rw [if_pos hk, e3]
theorem hear_miss_at {l : List Ln} {q s c : Int} {T : Nat} (ho : (octB q && octB s && octB c) = true) (hT : (l.takeWhile (fun x => aheadB x s c)).length = T) (hk : ∀ h : T < l.length, lnKey l[T] ≠ (s, c)) :
    hearL l q s c = if 16 ≤ l.length then (l, 0, false) else (l.take T ++ [(s, c, q, 1, 0)] ++ l.drop T, 0, true) := by
  unfold hearL
  rw [if_neg (by rw [ho]; simp)]
  have e1 : l.takeWhile (fun x => aheadB x s c) = l.take T := by rw [← hT]; exact take_take
  rcases Nat.lt_or_ge T l.length with h | h
  · have e : l.dropWhile (fun x => aheadB x s c) = l[T] :: l.drop (T + 1) := by rw [drop_take, hT]; exact List.drop_eq_getElem_cons h
    rw [e, e1, List.drop_eq_getElem_cons h]
    simp only
    rw [if_neg (hk h)]
    simp
  · have e : l.dropWhile (fun x => aheadB x s c) = [] := by rw [drop_take, hT]; exact List.drop_eq_nil_of_le h
    rw [e, e1, List.drop_eq_nil_of_le h]
    simp
theorem lnsC_set : ∀ (l : List Ln) (T : Nat) (h : T < l.length) (q : Int),
    (((lnsC l).set (5 * T + 2) (.int .i64 q)).set (5 * T + 3) (.int .i64 (wrap64 (l[T].2.2.2.1 + 1)))).set (5 * T + 4) (.int .i64 (wrap64 (l[T].2.2.2.2 + lostOf l[T].2.2.1 q))) = lnsC (l.set T (heardL l[T] q))
  | x :: l, 0, h, q => rfl
  | x :: l, T + 1, h, q => by
    have h' : T < l.length := by simpa using h
    have ih := lnsC_set l T h' q
    have e : ∀ j, 5 * (T + 1) + j = (5 * T + j) + 1 + 1 + 1 + 1 + 1 := fun j => by omega
    rw [e 2, e 3, e 4]
    show lnL x ++ (((lnsC l).set (5 * T + 2) (.int .i64 q)).set (5 * T + 3) _).set (5 * T + 4) _ = lnL x ++ lnsC (l.set T (heardL l[T] q))
    exact congrArg (lnL x ++ ·) ih
theorem FlatS.set {w : World} {B b off i : Nat} {xs : List Value} {v : Value} (h : FlatS w B (some ⟨b, off, none⟩) xs) : FlatS (w.setCell ⟨b, off + i, none⟩ v) B (some ⟨b, off, none⟩) (xs.set i v) := fun j u hu => by
  by_cases e : i = j
  · subst e
    rw [List.getElem?_set] at hu
    simp only [if_true] at hu
    split at hu
    · next hlt =>
      injection hu with hu
      subst hu
      obtain ⟨b', off', h1, h2, h3⟩ := h i _ (List.getElem?_eq_getElem hlt)
      injection h1 with h1
      injection h1 with e1 e2
      subst e1 e2
      exact ⟨b, off, rfl, h2, World.cell?_setCell_same' _ _ _ (by rw [h3]; rfl)⟩
    · cases hu
  · rw [List.getElem?_set_ne e] at hu
    obtain ⟨b', off', h1, h2, h3⟩ := h j u hu
    injection h1 with h1
    injection h1 with e1 e2
    subst e1 e2
    exact ⟨b, off, rfl, h2, (World.cell?_setCell_other _ _ _ _ (fun q => by injection q with _ q; omega)).trans h3⟩
theorem lnsC_take (l : List Ln) (T : Nat) (h : T ≤ l.length) : lnsC l = lnsC (l.take T) ++ lnsC (l.drop T) := by
  have : l = l.take T ++ l.drop T := (List.take_append_drop T l).symm
  conv => lhs; rw [this]
  unfold lnsC
  rw [List.flatMap_append]
theorem lnsC_app (a b : List Ln) : lnsC (a ++ b) = lnsC a ++ lnsC b := by unfold lnsC; rw [List.flatMap_append]
theorem FlatS.left {w : World} {B : Nat} {A : Option Addr} {xs ys : List Value} (h : FlatS w B A (xs ++ ys)) : FlatS w B A xs := fun j u hu => h j u (by
  have hj : j < xs.length := by
    rcases Nat.lt_or_ge j xs.length with q | q
    · exact q
    · rw [List.getElem?_eq_none q] at hu; cases hu
  rw [List.getElem?_append_left hj]; exact hu)
theorem FlatS.right {w : World} {B b off n : Nat} {xs ys : List Value} (h : FlatS w B (some ⟨b, off, none⟩) (xs ++ ys)) (hn : xs.length = n) : FlatS w B (some ⟨b, off + n, none⟩) ys := fun j u hu => by
  obtain ⟨b', off', h1, h2, h3⟩ := h (n + j) u (by rw [List.getElem?_append_right (by omega), ← hn, Nat.add_sub_cancel_left]; exact hu)
  injection h1 with h1
  injection h1 with e1 e2
  subst e1 e2
  exact ⟨b, off + n, rfl, h2, by rw [Nat.add_assoc]; exact h3⟩
/-- A row of one's own whose address is told. -/
theorem own_at {w : World} {base e' size n c b off : Nat} {xs : List Value} (h : w.ownsRow base e' size (.slice (some ⟨b, off, none⟩) n c) n xs) : off = 0 ∧ base ≤ b ∧ b < w.heap.size ∧ (∀ o, w.frozen? ⟨b, o, none⟩ = false) ∧ n ≤ c := by
  rcases h.2 with ⟨hv, -⟩ | ⟨g, cap, cur, hv, hb, hg, hcap, -⟩
  · cases hv
  · injection hv with hv1 hv2 hv3
    injection hv1 with hv1
    injection hv1 with e1 e2
    subst e1 e2 hv3
    exact ⟨rfl, hb, (Array.getElem?_eq_some_iff.1 hg).1, fun o => by simp [World.frozen?, hg], hcap⟩
end Go.Proofs.Ytloebedipfppeaa
