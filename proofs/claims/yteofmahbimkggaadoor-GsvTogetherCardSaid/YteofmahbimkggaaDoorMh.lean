/- Readers and writers of fields, plain. -/
import Derived.Test.YteofmahbimkggaaDoorMg
import Derived.Test.YteofmahbimkggaaDoorMd
import Derived.Test.YteofmahbimkggaaDoorMa
import Derived.Test.YteofmahbimkggaaDoorProg
import Derived.BigQuiet
import Derived.Deep.QuietTactic
namespace Go.Proofs.YteofmahbimkggaaDoor
set_option linter.unusedVariables false

/-- The first error, and the fields. -/
abbrev Rd := Int × List ByteArray
def rdText (s : Rd) : ByteArray × Rd := (s.2.headD ByteArray.empty, (textE s.1 s.2, s.2.tail))
def rdNum (W M F L H : Int) (s : Rd) : (Bool × Int) × Rd :=
  (((takeN (s.2.headD ByteArray.empty).data.toList W M F L H).1, (takeN (s.2.headD ByteArray.empty).data.toList W M F L H).2.1), (firstE (textE s.1 s.2) (takeN (s.2.headD ByteArray.empty).data.toList W M F L H).2.2, s.2.tail))
def rdFail (E : Int) (s : Rd) : Rd := (firstE s.1 E, s.2)
def wrText (t : ByteArray) (E : Int) (s : Rd) : Rd := (firstE s.1 E, s.2 ++ [t])
def wrNum (W M F L H : Int) (n : Bool × Int) (s : Rd) : Rd := (firstE s.1 (putN n.1 n.2 W M F L H).2, s.2 ++ [(putN n.1 n.2 W M F L H).1])
def wrDone (s : Rd) : List ByteArray × Int := (if s.1 = 0 then s.2 else [], s.1)

theorem firstE_zero {e E : Int} (h : firstE e E = 0) : e = 0 ∧ E = 0 := by
  unfold firstE at h
  by_cases he : e = 0
  · rw [if_pos he] at h; exact ⟨he, h⟩
  · rw [if_neg he] at h; exact absurd h he
theorem firstE_none (e : Int) : firstE e 0 = e := by unfold firstE; split <;> simp_all
theorem firstE_first (E : Int) : firstE 0 E = E := rfl
theorem textE_zero {e : Int} {R : List ByteArray} (h : textE e R = 0) : e = 0 ∧ ∃ t R', R = t :: R' := by
  unfold textE at h
  cases R with
  | nil => rw [if_pos rfl] at h; exact absurd (firstE_zero h).2 (by decide)
  | cons t R' => rw [if_neg (by simp)] at h; exact ⟨h, t, R', rfl⟩
theorem textE_cons (e : Int) (t : ByteArray) (R : List ByteArray) : textE e (t :: R) = e := if_neg (by simp)

/-- What a number's text was put from is taken from it. -/
theorem wrNum_ok {W M F L H : Int} {n : Bool × Int} {s : Rd} (h : (wrNum W M F L H n s).1 = 0) :
    s.1 = 0 ∧ ∃ t, (∀ l, wrNum W M F L H n (0, l) = (0, l ++ [t])) ∧ wrNum W M F L H n s = (0, s.2 ++ [t]) ∧ ∀ R, rdNum W M F L H (0, t :: R) = (n, (0, R)) := by
  obtain ⟨h1, h2⟩ := firstE_zero h
  refine ⟨h1, (putN n.1 n.2 W M F L H).1, fun l => ?_, ?_, fun R => ?_⟩
  · unfold wrNum; rw [h2]; rfl
  · unfold wrNum; rw [h2, h1]; rfl
  · have hp := put_take h2
    unfold rdNum
    rw [textE_cons]
    simp only [List.headD_cons, List.tail_cons, hp]
    rfl
/-- A number that is taken is put, no longer, and taken again. -/
theorem rdNum_ok {W M F L H : Int} {s : Rd} (h : (rdNum W M F L H s).2.1 = 0) :
    s.1 = 0 ∧ ∃ t R n, s.2 = t :: R ∧ rdNum W M F L H s = (n, (0, R)) ∧ ∃ t', (∀ l, wrNum W M F L H n (0, l) = (0, l ++ [t'])) ∧ (W = 1 → t'.size ≤ t.size) ∧ ∀ R, rdNum W M F L H (0, t' :: R) = (n, (0, R)) := by
  obtain ⟨h1, h2⟩ := firstE_zero h
  obtain ⟨h3, t, R, h4⟩ := textE_zero h1
  obtain ⟨e, l⟩ := s
  simp only at h3 h4
  subst h3 h4
  simp only [List.headD_cons] at h2
  obtain ⟨b, n, E⟩ : Bool × Int × Int := takeN t.data.toList W M F L H
  have hT : takeN t.data.toList W M F L H = ((takeN t.data.toList W M F L H).1, (takeN t.data.toList W M F L H).2.1, 0) := by rw [← h2]
  obtain ⟨t', h5, h6⟩ := take_put hT
  refine ⟨rfl, t, R, ((takeN t.data.toList W M F L H).1, (takeN t.data.toList W M F L H).2.1), rfl, ?_, t', fun l => ?_, fun hW => ?_, fun R => ?_⟩
  · unfold rdNum
    simp only [List.headD_cons, List.tail_cons, h2, textE_cons]
    rfl
  · unfold wrNum
    rw [h5]
    rfl
  · have := h6 hW
    simpa using this
  · have h7 := put_take (by rw [h5] : (putN (takeN t.data.toList W M F L H).1 (takeN t.data.toList W M F L H).2.1 W M F L H).2 = 0)
    rw [h5] at h7
    unfold rdNum
    rw [textE_cons]
    simp only [List.headD_cons, List.tail_cons] at h7 ⊢
    rw [h7]
    rfl

/-- A column with a letter behind it. -/
structure Cl where
  W : Int
  M : Int
  F : Int
  L : Int
  H : Int
  c : ByteArray
def unitT (b : Bool) (c : ByteArray) : ByteArray := if b = true then c else ByteArray.empty
def rdUnit (c : ByteArray) (b : Bool) (s : Rd) : Rd := if (rdText s).1 ≠ c ∧ (b = true ∨ (rdText s).1 ≠ ByteArray.empty) then rdFail 3 (rdText s).2 else (rdText s).2
def rdCol (k : Cl) (s : Rd) : (Bool × Int) × Rd := ((rdNum k.W k.M k.F k.L k.H s).1, rdUnit k.c (rdNum k.W k.M k.F k.L k.H s).1.1 (rdNum k.W k.M k.F k.L k.H s).2)
def wrCol (k : Cl) (n : Bool × Int) (s : Rd) : Rd := wrText (unitT n.1 k.c) 0 (wrNum k.W k.M k.F k.L k.H n s)
theorem rdUnit_put (c : ByteArray) (b : Bool) (R : List ByteArray) : rdUnit c b (0, unitT b c :: R) = (0, R) := by
  unfold rdUnit rdText unitT
  cases b <;> simp [textE_cons]
theorem rdUnit_ok {c : ByteArray} {b : Bool} {s : Rd} (h : (rdUnit c b s).1 = 0) : s.1 = 0 ∧ ∃ u R, s.2 = u :: R ∧ rdUnit c b s = (0, R) ∧ (unitT b c).size ≤ u.size := by
  obtain ⟨e, l⟩ := s
  by_cases hq : (rdText (e, l)).1 ≠ c ∧ (b = true ∨ (rdText (e, l)).1 ≠ ByteArray.empty)
  · unfold rdUnit at h
    rw [if_pos hq] at h
    exact absurd (firstE_zero h).2 (by decide)
  · have h0 := h
    unfold rdUnit at h0 ⊢
    rw [if_neg hq] at h0 ⊢
    obtain ⟨h1, u, R, h2⟩ := textE_zero h0
    simp only at h1 h2
    subst h1 h2
    refine ⟨rfl, u, R, rfl, by simp [rdText, textE_cons], ?_⟩
    unfold unitT
    cases b with
    | false => simp
    | true =>
      have : u = c := Classical.byContradiction fun q => hq ⟨by simpa [rdText] using q, .inl rfl⟩
      rw [this]; simp
theorem wrCol_ok {k : Cl} {n : Bool × Int} {s : Rd} (h : (wrCol k n s).1 = 0) :
    s.1 = 0 ∧ ∃ t u, (∀ l, wrCol k n (0, l) = (0, l ++ [t, u])) ∧ wrCol k n s = (0, s.2 ++ [t, u]) ∧ ∀ R, rdCol k (0, t :: u :: R) = (n, (0, R)) := by
  obtain ⟨h1, -⟩ := firstE_zero h
  obtain ⟨h2, t, h3, h4, h5⟩ := wrNum_ok h1
  refine ⟨h2, t, unitT n.1 k.c, fun l => ?_, ?_, fun R => ?_⟩
  · unfold wrCol; rw [h3]; simp [wrText, firstE]
  · unfold wrCol; rw [h4]; simp [wrText, firstE]
  · unfold rdCol
    rw [h5]
    simp only
    rw [rdUnit_put]
theorem rdCol_ok {k : Cl} {s : Rd} (h : (rdCol k s).2.1 = 0) :
    s.1 = 0 ∧ ∃ t u R n, s.2 = t :: u :: R ∧ rdCol k s = (n, (0, R)) ∧ ∃ t' u', (∀ l, wrCol k n (0, l) = (0, l ++ [t', u'])) ∧ (k.W = 1 → t'.size ≤ t.size) ∧ u'.size ≤ u.size ∧ ∀ R, rdCol k (0, t' :: u' :: R) = (n, (0, R)) := by
  obtain ⟨h1, u, R, h2, h3, h4⟩ := rdUnit_ok h
  obtain ⟨h5, t, R', n, h6, h7, t', h8, h9, h10⟩ := rdNum_ok h1
  rw [h7] at h2
  simp only at h2
  subst h2
  refine ⟨h5, t, u, R, n, h6, ?_, t', unitT n.1 k.c, fun l => ?_, h9, ?_, fun R => ?_⟩
  · unfold rdCol; rw [h3, h7]
  · unfold wrCol; rw [h8]; simp [wrText, firstE]
  · rw [h7] at h4; exact h4
  · unfold rdCol
    rw [h10]
    simp only
    rw [rdUnit_put]

/-- Columns, one behind the other. -/
def wrCols : List Cl → List (Bool × Int) → Rd → Rd
  | k :: K, n :: N, s => wrCols K N (wrCol k n s)
  | _, _, s => s
def rdCols : List Cl → Rd → List (Bool × Int) × Rd
  | [], s => ([], s)
  | k :: K, s => ((rdCol k s).1 :: (rdCols K (rdCol k s).2).1, (rdCols K (rdCol k s).2).2)
theorem wrCols_ok : ∀ (K : List Cl) (N : List (Bool × Int)) (s : Rd), N.length = K.length → (wrCols K N s).1 = 0 →
    s.1 = 0 ∧ ∃ T : List ByteArray, T.length = 2 * K.length ∧ wrCols K N s = (0, s.2 ++ T) ∧ ∀ R, rdCols K (0, T ++ R) = (N, (0, R))
  | [], [], s, _, h => ⟨h, [], rfl, by rw [List.append_nil]; exact Prod.ext h rfl, fun _ => rfl⟩
  | k :: K, n :: N, s, hl, h => by
    obtain ⟨h1, T, h2, h3, h4⟩ := wrCols_ok K N (wrCol k n s) (by simpa using hl) h
    obtain ⟨h5, t, u, h6, h7, h8⟩ := wrCol_ok h1
    refine ⟨h5, t :: u :: T, by simp [h2]; omega, ?_, fun R => ?_⟩
    · show wrCols K N (wrCol k n s) = _
      rw [h3, h7]; simp
    · show ((rdCol k (0, t :: u :: (T ++ R))).1 :: (rdCols K (rdCol k (0, t :: u :: (T ++ R))).2).1, (rdCols K (rdCol k (0, t :: u :: (T ++ R))).2).2) = _
      rw [h8, h4]
  | [], n :: N, s, hl, _ => by simp at hl
  | k :: K, [], s, hl, _ => by simp at hl
/-- Each of two lists' texts is no longer than the other's. -/
def NoLonger (T U : List ByteArray) : Prop := ∀ (i : Nat) (t u : ByteArray), T[i]? = some t → U[i]? = some u → t.size ≤ u.size
theorem NoLonger.cons {t u : ByteArray} {T U : List ByteArray} (h : t.size ≤ u.size) (k : NoLonger T U) : NoLonger (t :: T) (u :: U) := by
  intro i a b h1 h2
  cases i with
  | zero => simp at h1 h2; subst h1 h2; exact h
  | succ i => exact k i a b (by simpa using h1) (by simpa using h2)
theorem NoLonger.nil (U : List ByteArray) : NoLonger [] U := fun i t u h => by simp at h
theorem rdCols_ok : ∀ (K : List Cl) (s : Rd), (∀ k ∈ K, k.W = 1) → (rdCols K s).2.1 = 0 →
    s.1 = 0 ∧ ∃ T R N T', s.2 = T ++ R ∧ T.length = 2 * K.length ∧ N.length = K.length ∧ T'.length = 2 * K.length ∧ rdCols K s = (N, (0, R)) ∧ (∀ l, wrCols K N (0, l) = (0, l ++ T')) ∧ NoLonger T' T ∧ ∀ R, rdCols K (0, T' ++ R) = (N, (0, R))
  | [], s, _, h => ⟨h, [], s.2, [], [], rfl, rfl, rfl, rfl, Prod.ext rfl (Prod.ext h rfl), fun l => by rw [List.append_nil]; rfl, NoLonger.nil _, fun _ => rfl⟩
  | k :: K, s, hK, h => by
    obtain ⟨h1, T, R, N, T', h2, h3, h4, h5, h6, h7, h8, h9⟩ := rdCols_ok K (rdCol k s).2 (fun j hj => hK j (List.mem_cons_of_mem _ hj)) h
    obtain ⟨g1, t, u, R', n, g2, g3, t', u', g4, g5, g6, g7⟩ := rdCol_ok h1
    rw [g3] at h2
    simp only at h2
    subst h2
    refine ⟨g1, t :: u :: T, R, n :: N, t' :: u' :: T', by rw [g2]; rfl, by simp [h3]; omega, by simp [h4], by simp [h5]; omega, ?_, fun l => ?_, ?_, fun R => ?_⟩
    · show ((rdCol k s).1 :: (rdCols K (rdCol k s).2).1, (rdCols K (rdCol k s).2).2) = _
      rw [h6, g3]
    · show wrCols K N (wrCol k n (0, l)) = _
      rw [g4, h7]; simp
    · exact NoLonger.cons (g5 (hK k (List.mem_cons_self ..))) (NoLonger.cons g6 h8)
    · show ((rdCol k (0, t' :: u' :: (T' ++ R))).1 :: (rdCols K (rdCol k (0, t' :: u' :: (T' ++ R))).2).1, (rdCols K (rdCol k (0, t' :: u' :: (T' ++ R))).2).2) = _
      rw [g7, h9]

/-- The chapter's columns (layer 28). -/
def vtgK : List Cl := [⟨1, 3, 2, 0, 36000, ⟨#[84]⟩⟩, ⟨1, 3, 2, 0, 36000, ⟨#[77]⟩⟩, ⟨1, 4, 2, 0, 999999, ⟨#[78]⟩⟩, ⟨1, 4, 2, 0, 999999, ⟨#[75]⟩⟩]
def putVtg (N : List (Bool × Int)) : List ByteArray × Int := wrDone (wrCols vtgK N (0, []))
/-- The letter at the end. -/
def capB (s : ByteArray) : Bool := decide (s.size = 1) && decide (65 ≤ (s[0]?.getD 0).toNat) && decide ((s[0]?.getD 0).toNat ≤ 90)
def rdMode (s : Rd) : Rd := if s.2 = [] then s else if (rdText s).1 ≠ ByteArray.empty ∧ capB (rdText s).1 = false then rdFail 3 (rdText s).2 else (rdText s).2
def zeros4 : List (Bool × Int) := [(false, 0), (false, 0), (false, 0), (false, 0)]
def takeVtg (R : List ByteArray) : List (Bool × Int) × Int :=
  if R.length ≠ 8 ∧ R.length ≠ 9 then (zeros4, 3)
  else if (rdMode (rdCols vtgK (0, R)).2).1 = 0 then ((rdCols vtgK (0, R)).1, 0) else (zeros4, (rdMode (rdCols vtgK (0, R)).2).1)
theorem rdMode_zero {s : Rd} (h : (rdMode s).1 = 0) : s.1 = 0 := by
  unfold rdMode at h
  split at h
  · exact h
  · split at h
    · exact absurd (firstE_zero h).2 (by decide)
    · exact (textE_zero h).1
theorem vtgK_one : ∀ k ∈ vtgK, k.W = 1 := by simp [vtgK]
theorem vtg_put_take {N : List (Bool × Int)} (hN : N.length = 4) (h : (putVtg N).2 = 0) : takeVtg (putVtg N).1 = (N, 0) ∧ (putVtg N).1.length = 8 := by
  obtain ⟨-, T, h1, h2, h3⟩ := wrCols_ok vtgK N (0, []) hN h
  have hT : (putVtg N).1 = T := by unfold putVtg wrDone; rw [h2]; simp
  have h4 := h3 []
  rw [List.append_nil] at h4
  have h5 : T.length = 8 := h1
  rw [hT]
  refine ⟨?_, h5⟩
  unfold takeVtg
  rw [if_neg (by rw [h5]; simp), h4]
  rfl
theorem vtg_take_put {R : List ByteArray} (h : (takeVtg R).2 = 0) : (takeVtg R).1.length = 4 ∧ (putVtg (takeVtg R).1).2 = 0 ∧ NoLonger (putVtg (takeVtg R).1).1 R := by
  unfold takeVtg at h ⊢
  by_cases hl : R.length ≠ 8 ∧ R.length ≠ 9
  · rw [if_pos hl] at h; exact absurd h (by decide)
  · rw [if_neg hl] at h ⊢
    by_cases h0 : (rdMode (rdCols vtgK (0, R)).2).1 = 0
    · rw [if_pos h0]
      obtain ⟨-, T, R', N, T', h1, h2, h3, h4, h5, h6, h7, h8⟩ := rdCols_ok vtgK (0, R) vtgK_one (rdMode_zero h0)
      rw [h5]
      refine ⟨h3, ?_⟩
      unfold putVtg
      rw [h6]
      refine ⟨rfl, fun i t u ht hu => ?_⟩
      have ht' : T'[i]? = some t := by simpa [wrDone] using ht
      have hi : i < T'.length := (List.getElem?_eq_some_iff.1 ht').1
      have hu' : R[i]? = some u := hu
      rw [show R = T ++ R' from h1, List.getElem?_append_left (by omega)] at hu'
      exact h7 i t u ht' hu'
    · rw [if_neg h0] at h
      exact absurd h h0
theorem takeVtg_no {R : List ByteArray} (h : (takeVtg R).2 ≠ 0) : (takeVtg R).1 = zeros4 := by
  unfold takeVtg at h ⊢
  split at h
  · rename_i q; rw [if_pos q]
  · rename_i q
    rw [if_neg q]
    split at h
    · exact absurd rfl h
    · rename_i q2; rw [if_neg q2]
theorem takeVtg_len (R : List ByteArray) : (takeVtg R).1.length = 4 := by
  by_cases h : (takeVtg R).2 = 0
  · exact (vtg_take_put h).1
  · rw [takeVtg_no h]; rfl
end Go.Proofs.YteofmahbimkggaaDoor

/- Layers 25 to 29: pens, rows and eyes as plain states. -/
namespace Go.Proofs.YteofmahbimkggaaDoor
set_option linter.unusedVariables false
open Go.RowKit

/-- Of the blocks of a kind none has turned but block g. -/
structure Kept (S : Nat → Prop) (g : Nat) (w w' : World) : Prop where
  os : w'.os = w.os
  tape : w'.tape = w.tape
  output : w'.output = w.output
  size : w.heap.size ≤ w'.heap.size
  block : ∀ k, S k → k ≠ g → w'.heap[k]? = w.heap[k]?
theorem Kept.refl (S : Nat → Prop) (g : Nat) (w : World) : Kept S g w w := ⟨rfl, rfl, rfl, Nat.le_refl _, fun _ _ _ => rfl⟩
theorem Kept.trans {S : Nat → Prop} {g : Nat} {w w1 w2 : World} (h : Kept S g w w1) (k : Kept S g w1 w2) : Kept S g w w2 :=
  ⟨k.os.trans h.os, k.tape.trans h.tape, k.output.trans h.output, Nat.le_trans h.size k.size, fun i h1 h2 => (k.block i h1 h2).trans (h.block i h1 h2)⟩
theorem Kept.less {S T : Nat → Prop} {g : Nat} {w w' : World} (h : Kept S g w w') (hT : ∀ k, T k → S k) : Kept T g w w' :=
  ⟨h.os, h.tape, h.output, h.size, fun k h1 h2 => h.block k (hT k h1) h2⟩
theorem Kept.frm {S : Nat → Prop} {g : Nat} {v : Value} {w w' : World} (h : Frm g v w w') (hv : ∀ k, v.ownBlock = some k → ¬ S k) (hb : ∀ k, S k → k < w.heap.size) : Kept S g w w' :=
  ⟨h.os, h.tape, h.output, h.size, fun k h1 h2 => h.block k (hb k h1) h2 (fun q => hv k q h1)⟩
theorem Kept.of_below {S : Nat → Prop} {g : Nat} {w w' : World} (h : Below w.heap.size w w') (hb : ∀ k, S k → k < w.heap.size) : Kept S g w w' :=
  ⟨h.os, h.tape, h.output, h.size, fun k h1 _ => h.block k (hb k h1)⟩
theorem Kept.cell {S : Nat → Prop} {g : Nat} {w w' : World} (h : Kept S g w w') {b o : Nat} (hb : S b) (hg : b ≠ g) : w'.cell? ⟨b, o, none⟩ = w.cell? ⟨b, o, none⟩ := World.cell?_of_block (a := ⟨b, o, none⟩) (h.block b hb hg)
theorem Kept.frozen {S : Nat → Prop} {g : Nat} {w w' : World} (h : Kept S g w w') {b o : Nat} (hb : S b) (hg : b ≠ g) : w'.frozen? ⟨b, o, none⟩ = w.frozen? ⟨b, o, none⟩ := World.frozen?_of_block (a := ⟨b, o, none⟩) (h.block b hb hg)
theorem Kept.below {S : Nat → Prop} {g B : Nat} {w w' : World} (h : Kept S g w w') (hg : B ≤ g) (hb : ∀ k, k < B → S k) : Below B w w' :=
  ⟨h.os, h.tape, h.output, h.size, fun k hk => h.block k (hb k hk) (by omega)⟩
/-- A kind, and what was laid since. -/
def Also (S : Nat → Prop) (w w' : World) (k : Nat) : Prop := S k ∨ (w.heap.size ≤ k ∧ k < w'.heap.size)

/-- A pen that a call made; what it owns is of no block of the kind. -/
def PenI (S : Nat → Prop) (g : Nat) (s : Rd) (w : World) : Prop :=
  ∃ v, PenOk w g s.1 v s.2 ∧ (∀ k, S k → k < w.heap.size) ∧ ∀ k, v.ownBlock = some k → ¬ S k
def RowI (S : Nat → Prop) (g : Nat) (s : Rd) (w : World) : Prop :=
  ∃ v, RowW w g s.1 v s.2 ∧ (∀ k, S k → k < w.heap.size) ∧ ∀ k, v.ownBlock = some k → ¬ S k
theorem PenI.keep {S : Nat → Prop} {g : Nat} {s : Rd} {w w' : World} (h : PenI S g s w) (hb : Below w.heap.size w w') : PenI S g s w' := by
  obtain ⟨v, h1, h3, h4⟩ := h
  exact ⟨v, h1.keep hb, fun k hk => Nat.lt_of_lt_of_le (h3 k hk) hb.size, h4⟩
theorem RowI.keep {S : Nat → Prop} {g : Nat} {s : Rd} {w w' : World} (h : RowI S g s w) (hb : Below w.heap.size w w') : RowI S g s w' := by
  obtain ⟨v, h1, h3, h4⟩ := h
  exact ⟨v, h1.keep hb, fun k hk => Nat.lt_of_lt_of_le (h3 k hk) hb.size, h4⟩
theorem PenI.also {S : Nat → Prop} {g : Nat} {s : Rd} {w w' : World} (h : PenI S g s w) (hb : Below w.heap.size w w') : PenI (Also S w w') g s w' := by
  obtain ⟨v, h1, h3, h4⟩ := h
  refine ⟨v, h1.keep hb, fun k hk => ?_, fun k hk q => ?_⟩
  · have := hb.size
    rcases hk with hk | hk
    · have := h3 k hk; omega
    · exact hk.2
  · rcases q with q | q
    · exact h4 k hk q
    · have := (h1.2.2.2.2.2.lt k hk).2; omega
theorem RowI.also {S : Nat → Prop} {g : Nat} {s : Rd} {w w' : World} (h : RowI S g s w) (hb : Below w.heap.size w w') : RowI (Also S w w') g s w' := by
  obtain ⟨v, h1, h3, h4⟩ := h
  refine ⟨v, h1.keep hb, fun k hk => ?_, fun k hk q => ?_⟩
  · have := hb.size
    rcases hk with hk | hk
    · have := h3 k hk; omega
    · exact hk.2
  · rcases q with q | q
    · exact h4 k hk q
    · have := (h1.2.2.2.2.lt k hk).2; omega
theorem PenI.less {S T : Nat → Prop} {g : Nat} {s : Rd} {w : World} (h : PenI S g s w) (hT : ∀ k, T k → S k) : PenI T g s w := by
  obtain ⟨v, h1, h3, h4⟩ := h
  exact ⟨v, h1, fun k hk => h3 k (hT k hk), fun k hk q => h4 k hk (hT k q)⟩
theorem RowI.less {S T : Nat → Prop} {g : Nat} {s : Rd} {w : World} (h : RowI S g s w) (hT : ∀ k, T k → S k) : RowI T g s w := by
  obtain ⟨v, h1, h3, h4⟩ := h
  exact ⟨v, h1, fun k hk => h3 k (hT k hk), fun k hk q => h4 k hk (hT k q)⟩
theorem PenI.bd {S : Nat → Prop} {g : Nat} {s : Rd} {w : World} (h : PenI S g s w) : ∀ k, S k → k < w.heap.size := h.choose_spec.2.1
theorem RowI.bd {S : Nat → Prop} {g : Nat} {s : Rd} {w : World} (h : RowI S g s w) : ∀ k, S k → k < w.heap.size := h.choose_spec.2.1
theorem PenI.post {S : Nat → Prop} {g : Nat} {s : Rd} {E : Int} {T : List ByteArray} {w w' : World} {v : Value} {r : Ending} (h3 : ∀ k, S k → k < w.heap.size) (h4 : ∀ k, v.ownBlock = some k → ¬ S k) (h : PutPost23 g s.1 E v s.2 T w r w') :
    r = .returned (.tuple #[]) ∧ PenI S g (firstE s.1 E, s.2 ++ T) w' ∧ Kept S g w w' := by
  obtain ⟨rfl, v', p1, p2, p3⟩ := h
  refine ⟨rfl, ⟨v', p1, fun k hk => Nat.lt_of_lt_of_le (h3 k hk) p2.size, fun k hk q => ?_⟩, Kept.frm p2 h4 h3⟩
  rcases p3 with p3 | p3
  · exact h4 k (p3 ▸ hk) q
  · have := p3 k hk; have := h3 k q; omega
theorem RowI.post {S : Nat → Prop} {g : Nat} {s : Rd} {E : Int} {T : List ByteArray} {w w' : World} {v : Value} {r : Ending} (h3 : ∀ k, S k → k < w.heap.size) (h4 : ∀ k, v.ownBlock = some k → ¬ S k) (h : RowPost g s.1 E v s.2 T w r w') :
    r = .returned (.tuple #[]) ∧ RowI S g (firstE s.1 E, s.2 ++ T) w' ∧ Kept S g w w' := by
  obtain ⟨rfl, v', p1, p2, p3⟩ := h
  refine ⟨rfl, ⟨v', p1, fun k hk => Nat.lt_of_lt_of_le (h3 k hk) p2.size, fun k hk q => ?_⟩, Kept.frm p2 h4 h3⟩
  rcases p3 with p3 | p3
  · exact h4 k (p3 ▸ hk) q
  · have := p3 k hk; have := h3 k q; omega

/-- What a step of a pen leaves. -/
def PenStep (S : Nat → Prop) (g : Nat) (s : Rd) (w : World) (r : Ending) (w' : World) : Prop := r = .returned (.tuple #[]) ∧ PenI S g s w' ∧ Kept S g w w'
def RowStep (S : Nat → Prop) (g : Nat) (s : Rd) (w : World) (r : Ending) (w' : World) : Prop := r = .returned (.tuple #[]) ∧ RowI S g s w' ∧ Kept S g w w'
theorem penNum {S : Nat → Prop} {g : Nat} {s t : Rd} {w : World} {b : Bool} {n W M F L H : Int} (ht : Hid (wrNum W M F L H (b, n) s = t)) (hp : PenI S g s w) (hl : s.2.length + 2 ≤ 1000000) :
    Calls Tryd.prog 19 #[.pointer (some ⟨g, 0, none⟩), numV b n, colV W M F L H] w (PenStep S g t w) := by
  have ht := ht.out
  subst ht
  obtain ⟨v, h1, h3, h4⟩ := hp
  exact (PenNum_any g s.1 v s.2 b n W M F L H w h1 hl).mono fun r w' h => PenI.post h3 h4 h
theorem penText {S : Nat → Prop} {g : Nat} {s t : Rd} {w : World} {a : ByteArray} {E : Int} (ht : Hid (wrText a E s = t)) (hp : PenI S g s w) (hl : s.2.length + 2 ≤ 1000000) :
    Calls Tryd.prog 17 #[.pointer (some ⟨g, 0, none⟩), .string a, .int .i64 E] w (PenStep S g t w) := by
  have ht := ht.out
  subst ht
  obtain ⟨v, h1, h3, h4⟩ := hp
  exact (PenText_any g s.1 E v s.2 a w h1 hl).mono fun r w' h => PenI.post h3 h4 h
theorem penDone {S : Nat → Prop} {g : Nat} {s : Rd} {w : World} (hp : PenI S g s w) (hl : s.2.length ≤ 1000000) :
    Calls Tryd.prog 25 #[.pointer (some ⟨g, 0, none⟩)] w (DonePost s.1 s.2 w) := by
  obtain ⟨v, h1, h3, h4⟩ := hp
  exact PenDone_any g s.1 v s.2 w h1 hl
/-- An eye, or a row that is read, whose texts lie ahead of it, and are not too long. -/
def EyeI (g : Nat) (s : Rd) (w : World) : Prop := ∃ Q, EyeR Q w g s.1 s.2 ∧ (∀ b, Q b → b < g) ∧ ∀ t ∈ s.2, t.size ≤ 1000000
def RowRI (g : Nat) (s : Rd) (w : World) : Prop := ∃ Q, RowR Q w g s.1 s.2 ∧ (∀ b, Q b → b < g) ∧ ∀ t ∈ s.2, t.size ≤ 1000000
theorem EyeI.keep {g : Nat} {s : Rd} {w w' : World} (h : EyeI g s w) (hb : Below w.heap.size w w') : EyeI g s w' := by
  obtain ⟨Q, h1, h2, h3⟩ := h; exact ⟨Q, h1.keep hb, h2, h3⟩
theorem RowRI.keep {g : Nat} {s : Rd} {w w' : World} (h : RowRI g s w) (hb : Below w.heap.size w w') : RowRI g s w' := by
  obtain ⟨Q, h1, h2, h3⟩ := h; exact ⟨Q, h1.keep hb, h2, h3⟩
theorem EyeI.far {g G o : Nat} {s : Rd} {w : World} {u : Value} (h : EyeI g s w) (hG : g < G) : EyeI g s (w.setCell ⟨G, o, none⟩ u) := by
  obtain ⟨Q, h1, h2, h3⟩ := h; exact ⟨Q, h1.far (fun q => by have := h2 _ q; omega) (by omega), h2, h3⟩
theorem RowRI.far {g G o : Nat} {s : Rd} {w : World} {u : Value} (h : RowRI g s w) (hG : g < G) : RowRI g s (w.setCell ⟨G, o, none⟩ u) := by
  obtain ⟨Q, h1, h2, h3⟩ := h; exact ⟨Q, h1.far (fun q => by have := h2 _ q; omega) (by omega), h2, h3⟩
theorem EyeI.lt {g : Nat} {s : Rd} {w : World} (h : EyeI g s w) : g < w.heap.size := by
  obtain ⟨Q, ⟨A, c, h0, h1, h2, h3, h4, -⟩, -⟩ := h; exact h4
theorem RowRI.lt {g : Nat} {s : Rd} {w : World} (h : RowRI g s w) : g < w.heap.size := by
  obtain ⟨Q, ⟨A, c, fs, at_, h0, h1, h2, h3, h4, -⟩, -⟩ := h; exact h4
theorem RowRI.err {g : Nat} {s : Rd} {w : World} (h : RowRI g s w) : w.cell? ⟨g, 2, none⟩ = some (.int .i64 s.1) := by
  obtain ⟨Q, ⟨A, c, fs, at_, h0, h1, h2, -⟩, -⟩ := h; exact h2
theorem tail_small {l : List ByteArray} {N : Nat} (h : ∀ t ∈ l, t.size ≤ N) : ∀ t ∈ l.tail, t.size ≤ N := fun t ht => h t (List.mem_of_mem_tail ht)
theorem headD_small {l : List ByteArray} {N : Nat} (h : ∀ t ∈ l, t.size ≤ N) : (l.headD ByteArray.empty).size ≤ N := by
  cases l with
  | nil => simp
  | cons a l => exact h a (List.mem_cons_self ..)

/-- What a step of an eye leaves. -/
def EyeStep (g : Nat) (x : Value) (s : Rd) (w : World) (r : Ending) (w' : World) : Prop := r = .returned x ∧ EyeI g s w' ∧ Frm g nilV w w'
def RowRStep (g : Nat) (x : Value) (s : Rd) (w : World) (r : Ending) (w' : World) : Prop := r = .returned x ∧ RowRI g s w' ∧ Frm g nilV w w'
theorem EyeI.post {Q : Nat → Prop} {g : Nat} {x : Value} {s : Rd} {w w' : World} {r : Ending} (h2 : ∀ b, Q b → b < g) (h3 : ∀ t ∈ s.2, t.size ≤ 1000000) (h : EyePost Q g x s.1 s.2 w r w') : EyeStep g x s w r w' :=
  ⟨h.1, ⟨Q, h.2.1, h2, h3⟩, h.2.2⟩
theorem RowRI.post {Q : Nat → Prop} {g : Nat} {x : Value} {s : Rd} {w w' : World} {r : Ending} (h2 : ∀ b, Q b → b < g) (h3 : ∀ t ∈ s.2, t.size ≤ 1000000) (h : RowRPost Q g x s.1 s.2 w r w') : RowRStep g x s w r w' :=
  ⟨h.1, ⟨Q, h.2.1, h2, h3⟩, h.2.2⟩
/-- New: a pen, an eye. -/
theorem penRow {w : World} : Calls Tryd.prog 16 #[] w fun r w' => r = .returned (.pointer (some ⟨w.heap.size, 0, none⟩)) ∧ PenI (fun k => k < w.heap.size + 1) w.heap.size (0, []) w' ∧ Below w.heap.size w w' ∧ w'.heap.size = w.heap.size + 1 :=
  (Row_any w).mono fun r w' ⟨h1, h2, h3, h4⟩ => ⟨h1, ⟨_, h2, fun k hk => by omega, fun k hk => by simp [Value.ownBlock] at hk⟩, h3, h4⟩
end Go.Proofs.YteofmahbimkggaaDoor

/- Contracts of the reference's Texts and Same of layer 22. -/
namespace Go.Proofs.YteofmahbimkggaaDoor
set_option linter.unusedVariables false
open Go.RowKit

theorem toList_inj {a b : ByteArray} (h : a.toList = b.toList) : a = b := by
  rw [ByteArray.toList_eq, ByteArray.toList_eq] at h
  obtain ⟨⟨l⟩⟩ := a
  obtain ⟨⟨m⟩⟩ := b
  simp at h
  rw [h]
theorem beq_text (a b : ByteArray) : (a.toList == b.toList) = decide (a = b) := by
  by_cases h : a = b
  · subst h; simp
  · rw [decide_eq_false h, beq_eq_false_iff_ne]
    exact fun k => h (toList_inj k)

/-- A sentence as a value. -/
abbrev senV (t y : ByteArray) (A : Option Addr) (n c : Nat) : Value := .agg #[.string t, .string y, .slice A n c]

end Go.Proofs.YteofmahbimkggaaDoor
