/- Readers and writers that fit, one behind the other, plain. -/
import Derived.Test.YtfgopmfaeooadaaGreatDoorMza
import Derived.Test.YtfgopmfaeooadaaGreatDoorMga
namespace Go.Proofs.YtfgopmfaeooadaaGreatDoor
set_option linter.unusedVariables false

/-- What is put is taken; what is taken, put, is no longer, and is taken as that once more. -/
structure Codec {α : Type} (rd : Rd → α × Rd) (wr : α → Rd → Rd) (k : Nat) : Prop where
  put : ∀ a s, (wr a s).1 = 0 → s.1 = 0 ∧ ∃ T : List ByteArray, T.length = k ∧ (∀ l, wr a (0, l) = (0, l ++ T)) ∧ wr a s = (0, s.2 ++ T) ∧ ∀ R, rd (0, T ++ R) = (a, (0, R))
  take : ∀ s, (rd s).2.1 = 0 → s.1 = 0 ∧ ∃ T R a T', s.2 = T ++ R ∧ T.length = k ∧ rd s = (a, (0, R)) ∧ T'.length = k ∧ (∀ l, wr a (0, l) = (0, l ++ T')) ∧ NoLonger T' T ∧ ∀ R, rd (0, T' ++ R) = (a, (0, R))
def seqR {α β : Type} (f : Rd → α × Rd) (g : Rd → β × Rd) (s : Rd) : (α × β) × Rd := (((f s).1, (g (f s).2).1), (g (f s).2).2)
def seqW {α β : Type} (f : α → Rd → Rd) (g : β → Rd → Rd) (x : α × β) (s : Rd) : Rd := g x.2 (f x.1 s)
theorem Codec.seq {α β : Type} {f : Rd → α × Rd} {g : Rd → β × Rd} {F : α → Rd → Rd} {G : β → Rd → Rd} {k j : Nat} (h1 : Codec f F k) (h2 : Codec g G j) : Codec (seqR f g) (seqW F G) (k + j) where
  put := fun a s h => by
    obtain ⟨a, b⟩ := a
    obtain ⟨e1, T, e2, e3, e4, e5⟩ := h2.put b (F a s) h
    obtain ⟨d1, U, d2, d3, d4, d5⟩ := h1.put a s e1
    refine ⟨d1, U ++ T, by simp [d2, e2], fun l => ?_, ?_, fun R => ?_⟩
    · show G b (F a (0, l)) = _
      rw [d3, e3, List.append_assoc]
    · show G b (F a s) = _
      rw [e4, d4, List.append_assoc]
    · show (((f (0, U ++ T ++ R)).1, (g (f (0, U ++ T ++ R)).2).1), (g (f (0, U ++ T ++ R)).2).2) = _
      rw [List.append_assoc, d5, e5]
  take := fun s h => by
    obtain ⟨e1, T, R, b, T', e2, e3, e4, e5, e6, e7, e8⟩ := h2.take (f s).2 h
    obtain ⟨d1, U, R1, a, U', d2, d3, d4, d5, d6, d7, d8⟩ := h1.take s e1
    rw [d4] at e2 e4
    simp only at e2
    subst e2
    refine ⟨d1, U ++ T, R, (a, b), U' ++ T', by rw [d2, List.append_assoc], by simp [d3, e3], ?_, by simp [d5, e5], fun l => ?_, d7.append (by omega) e7, fun R => ?_⟩
    · show (((f s).1, (g (f s).2).1), (g (f s).2).2) = _
      rw [d4, e4]
    · show G b (F a (0, l)) = _
      rw [d6, e6, List.append_assoc]
    · show (((f (0, U' ++ T' ++ R)).1, (g (f (0, U' ++ T' ++ R)).2).1), (g (f (0, U' ++ T' ++ R)).2).2) = _
      rw [List.append_assoc, d8, e8]
theorem NoLonger.one {t u : ByteArray} (h : t.size ≤ u.size) : NoLonger [t] [u] := NoLonger.cons h (NoLonger.nil _)
theorem Codec.num {M F L H : Int} : Codec (rdNum 1 M F L H) (wrNum 1 M F L H) 1 where
  put := fun n s h => by
    obtain ⟨e1, t, e2, e3, e4⟩ := wrNum_ok h
    exact ⟨e1, [t], rfl, e2, e3, fun R => e4 R⟩
  take := fun s h => by
    obtain ⟨e1, t, R, n, e2, e3, t', e4, e5, e6⟩ := rdNum_ok h
    exact ⟨e1, [t], R, n, [t'], e2, rfl, e3, rfl, e4, NoLonger.one (e5 rfl), fun R => e6 R⟩
theorem Codec.col (k : Cl) (hk : k.W = 1) : Codec (rdCol k) (wrCol k) 2 where
  put := fun n s h => by
    obtain ⟨e1, t, u, e2, e3, e4⟩ := wrCol_ok h
    exact ⟨e1, [t, u], rfl, e2, e3, fun R => e4 R⟩
  take := fun s h => by
    obtain ⟨e1, t, u, R, n, e2, e3, t', u', e4, e5, e6, e7⟩ := rdCol_ok h
    exact ⟨e1, [t, u], R, n, [t', u'], e2, rfl, e3, rfl, e4, NoLonger.cons (e5 hk) (NoLonger.one e6), fun R => e7 R⟩
theorem Codec.dig {lo hi : Int} (h0 : 0 ≤ lo) (h9 : hi ≤ 9) : Codec (rdDig lo hi) (wrDig lo hi) 1 where
  put := fun n s h => by
    obtain ⟨e1, -, -, e2, e3, e4⟩ := wrDig_ok h0 h9 h
    exact ⟨e1, [digT n], rfl, e2, e3, fun R => e4 R⟩
  take := fun s h => by
    obtain ⟨e1, t, R, n, e2, e3, -, -, e4, e5, e6⟩ := rdDig_ok h0 h9 h
    exact ⟨e1, [t], R, n, [digT n], e2, rfl, e3, rfl, e5, NoLonger.one (by rw [digT_size, e4]; exact Nat.le_refl _), fun R => e6 R⟩
theorem Codec.ang (lat : Bool) : Codec (rdAng lat) (wrAng lat) 2 where
  put := fun n s h => by
    obtain ⟨b, n⟩ := n
    obtain ⟨h1, h2⟩ := firstE_zero h
    have hp := ang_take h2
    simp only at h2 hp
    refine ⟨h1, [(angN b n lat).1, (angN b n lat).2.1], rfl, fun l => ?_, ?_, fun R => ?_⟩
    · unfold wrAng; simp only; rw [h2]; rfl
    · unfold wrAng; simp only; rw [h2, h1]; rfl
    · unfold rdAng
      simp only [List.cons_append, List.nil_append, List.headD_cons, List.tail_cons, textE_cons, hp]
      rfl
  take := fun s h => by
    obtain ⟨h1, h2⟩ := firstE_zero h
    obtain ⟨h3, u, R, h4⟩ := textE_zero h1
    obtain ⟨h5, t, R1, h6⟩ := textE_zero h3
    obtain ⟨e, l⟩ := s
    simp only at h4 h5 h6
    subst h5 h6
    simp only [List.tail_cons] at h4
    subst h4
    simp only [List.headD_cons, List.tail_cons] at h2
    have hT : takeAng t.data.toList u lat = ((takeAng t.data.toList u lat).1, (takeAng t.data.toList u lat).2.1, 0) := by rw [← h2]
    obtain ⟨t', u', h7, h8, h9⟩ := takeAng_put hT
    have h10 : takeAng t'.data.toList u' lat = ((takeAng t.data.toList u lat).1, (takeAng t.data.toList u lat).2.1, 0) := by
      have := ang_take (b := (takeAng t.data.toList u lat).1) (n := (takeAng t.data.toList u lat).2.1) (lat := lat) (by rw [h7])
      rw [h7] at this
      exact this
    refine ⟨rfl, [t, u], R, ((takeAng t.data.toList u lat).1, (takeAng t.data.toList u lat).2.1), [t', u'], rfl, rfl, ?_, rfl, fun l => ?_, NoLonger.cons ?_ (NoLonger.one ?_), fun R => ?_⟩
    · unfold rdAng
      simp only [List.headD_cons, List.tail_cons, h2, textE_cons]
      rfl
    · unfold wrAng
      simp only
      rw [h7]
      rfl
    · exact h8
    · exact h9
    · unfold rdAng
      simp only [List.cons_append, List.nil_append, List.headD_cons, List.tail_cons, textE_cons, h10]
      rfl
/-- A text that says what it was put from. -/
theorem Codec.text {α : Type} {tk : List UInt8 → α × Int} {pt : α → ByteArray × Int} (h1 : ∀ a, (pt a).2 = 0 → tk (pt a).1.data.toList = (a, 0)) (h2 : ∀ l, (tk l).2 = 0 → (pt (tk l).1).2 = 0 ∧ (pt (tk l).1).1.size ≤ l.length) :
    Codec (fun s => ((tk (rdText s).1.data.toList).1, rdFail (tk (rdText s).1.data.toList).2 (rdText s).2)) (fun a s => wrText (pt a).1 (pt a).2 s) 1 where
  put := fun a s h => by
    obtain ⟨e1, e2⟩ := firstE_zero h
    have e3 := h1 a e2
    refine ⟨e1, [(pt a).1], rfl, fun l => ?_, ?_, fun R => ?_⟩
    · show wrText _ _ _ = _
      rw [e2]; rfl
    · show wrText _ _ _ = _
      rw [e2]; unfold wrText; rw [e1]; rfl
    · show ((tk (rdText (0, (pt a).1 :: R)).1.data.toList).1, rdFail (tk (rdText (0, (pt a).1 :: R)).1.data.toList).2 (rdText (0, (pt a).1 :: R)).2) = _
      rw [rdText_cons, e3]
      rfl
  take := fun s h => by
    obtain ⟨e1, e2⟩ := firstE_zero h
    obtain ⟨e3, t, R, e4⟩ := textE_zero e1
    obtain ⟨e, l⟩ := s
    simp only at e3 e4
    subst e3 e4
    rw [rdText_cons] at e2
    simp only at e2
    obtain ⟨d1, d2⟩ := h2 _ e2
    have d3 := h1 _ d1
    refine ⟨rfl, [t], R, (tk t.data.toList).1, [(pt (tk t.data.toList).1).1], rfl, rfl, ?_, rfl, fun l => ?_, NoLonger.one (by simpa using d2), fun R => ?_⟩
    · show ((tk (rdText (0, t :: R)).1.data.toList).1, rdFail (tk (rdText (0, t :: R)).1.data.toList).2 (rdText (0, t :: R)).2) = _
      rw [rdText_cons]
      simp only
      rw [e2]
      rfl
    · show wrText _ _ _ = _
      rw [d1]; rfl
    · show ((tk (rdText (0, (pt (tk t.data.toList).1).1 :: R)).1.data.toList).1, rdFail (tk (rdText (0, (pt (tk t.data.toList).1).1 :: R)).1.data.toList).2 (rdText (0, (pt (tk t.data.toList).1).1 :: R)).2) = _
      rw [rdText_cons]
      simp only
      rw [d3]
      rfl
theorem Codec.clk : Codec rdClk wrClk 1 := Codec.text (fun _ h => clk_put_take h) (fun _ h => clk_take_put h)
theorem Codec.dat : Codec rdDat wrDat 1 := Codec.text (fun _ h => dat_put_take h) (fun _ h => dat_take_put h)

/-- A message of k fields and no more. -/
theorem Codec.message {α : Type} {rd : Rd → α × Rd} {wr : α → Rd → Rd} {k : Nat} (h : Codec rd wr k) {a : α} (ha : (wrDone (wr a (0, []))).2 = 0) : (wrDone (wr a (0, []))).1.length = k ∧ rd (0, (wrDone (wr a (0, []))).1) = (a, (0, [])) := by
  obtain ⟨-, T, e1, e2, -, e3⟩ := h.put a (0, []) ha
  have e4 := e3 []
  rw [List.append_nil] at e4
  rw [e2]
  exact ⟨e1, e4⟩
theorem Codec.read {α : Type} {rd : Rd → α × Rd} {wr : α → Rd → Rd} {k : Nat} (h : Codec rd wr k) {R : List ByteArray} (hR : (rd (0, R)).2.1 = 0) : ∃ a T T' R', rd (0, R) = (a, (0, R')) ∧ R = T ++ R' ∧ T.length = k ∧ wrDone (wr a (0, [])) = (T', 0) ∧ T'.length = k ∧ NoLonger T' T ∧ rd (0, T') = (a, (0, [])) := by
  obtain ⟨-, T, R', a, T', e1, e2, e3, e4, e5, e6, e7⟩ := h.take (0, R) hR
  have e8 := e7 []
  rw [List.append_nil] at e8
  refine ⟨a, T, T', R', e3, e1, e2, ?_, e4, e6, e8⟩
  rw [e5]
  simp [wrDone]
end Go.Proofs.YtfgopmfaeooadaaGreatDoor
