/- Layer 33: GapsPlays. -/
import Derived.Test.YtloebedipfppeaaGapE
import Derived.Test.YtloebedipfppeaaGapO
import Derived.StillTailTactics
namespace Go.Proofs.Ytloebedipfppeaa
set_option linter.unusedVariables false
open Go.RowKit

theorem BookOf.keep {S : Nat → Prop} {g : Nat} {l : List Ln} {w w' : World} (h : BookOf S g l w) (hb : Below w.heap.size w w') : BookOf S g l w' := by
  obtain ⟨h1, h2, L, h3, h4⟩ := h
  exact ⟨h1, h2, L, h3.keep hb, h4⟩
theorem BookOf.also {S : Nat → Prop} {g : Nat} {l : List Ln} {w w' : World} (h : BookOf S g l w) (hb : Below w.heap.size w w') : BookOf (fun k => S k ∨ (w.heap.size ≤ k ∧ k < w'.heap.size)) g l w' := by
  obtain ⟨h1, h2, L, h3, h4⟩ := h
  exact ⟨h1, h2, L, h3.also hb, h4⟩
theorem below_drew (w : World) : Below w.heap.size w w.drew := bdrew (Below.refl _ _)
/-- What a play keeps: the book and the document's lines. -/
def PlayI (w : World) (g : Nat) (B : Option Addr) (c : Nat) (l : List Ln) (wr : World) : Prop :=
  ∃ S : Nat → Prop, BookOf S g l wr ∧ (∀ k, k < w.heap.size → S k) ∧ (0 < l.length → ∀ a, B = some a → S a.block) ∧ Lns wr wr.heap.size B l ∧ (B = none → l.length = 0 ∧ c = 0) ∧ (∀ x ∈ l, octB x.2.2.1 = true) ∧ Below w.heap.size w wr
theorem PlayI.start {w w1 : World} {g : Nat} (h : BookOf (fun k => k < w.heap.size) g [] w1) (hb : Below w.heap.size w w1) : PlayI w g none 0 [] w1 :=
  ⟨fun k => k < w.heap.size, h, fun k hk => hk, fun h => absurd h (Nat.lt_irrefl 0), fun k hk => absurd hk (Nat.not_lt_zero _), fun _ => ⟨rfl, rfl⟩, ⟨fun x hx => absurd hx List.not_mem_nil, hb⟩⟩
theorem PlayI.keep {w wr w' : World} {g : Nat} {B : Option Addr} {c : Nat} {l : List Ln} (h : PlayI w g B c l wr) (hb : Below wr.heap.size wr w') : PlayI w g B c l w' := by
  obtain ⟨S, h1, h2, h3, h4, h5, h6, h7⟩ := h
  exact ⟨S, h1.keep hb, h2, h3, (h4.below hb (Nat.le_refl _)).more hb.size, h5, h6, h7.trans (hb.mono h7.size)⟩
theorem PlayI.below {w wr : World} {g : Nat} {B : Option Addr} {c : Nat} {l : List Ln} (h : PlayI w g B c l wr) : Below w.heap.size w wr := by
  obtain ⟨S, -, -, -, -, -, -, h⟩ := h
  exact h
theorem PlayI.lines {w wr : World} {g : Nat} {B : Option Addr} {c : Nat} {l : List Ln} (h : PlayI w g B c l wr) : Lns wr wr.heap.size B l ∧ l.length ≤ 16 := by
  obtain ⟨S, h1, -, -, h, -, -, -⟩ := h
  exact ⟨h, h1.2.1⟩
theorem PlayI.all {w wr : World} {g : Nat} {B : Option Addr} {c : Nat} {l : List Ln} (h : PlayI w g B c l wr) :
    Calls Try.prog 9 #[.pointer (some ⟨g, 0, none⟩)] wr fun e w' => ∃ A c, e = .returned (.slice A l.length c) ∧ Lns w' w'.heap.size A l ∧ Below wr.heap.size wr w' := by
  obtain ⟨S, h1, -⟩ := h
  exact all_of h1
theorem PlayI.sums {w wr : World} {g : Nat} {B : Option Addr} {c : Nat} {l : List Ln} (h : PlayI w g B c l wr) : Calls Try.prog 13 #[.pointer (some ⟨g, 0, none⟩)] wr (SumsPost wr l) := by
  obtain ⟨S, h1, -⟩ := h
  exact sums_any h1
/-- A call's two answers. -/
theorem PlayI.heard {w wr : World} {g : Nat} {B : Option Addr} {c : Nat} {l : List Ln} (h : PlayI w g B c l wr) (q s cc : Int) :
    Calls Try.prog 8 #[.pointer (some ⟨g, 0, none⟩), .int .i64 q, .int .i64 s, .int .i64 cc] wr fun e w1 => e = .returned (.tuple #[.int .i64 (hearL l q s cc).2.1, .bool (hearL l q s cc).2.2]) ∧ Below w.heap.size w w1 ∧
      ∀ w2, Below w1.heap.size w1 w2 → Calls Try.prog 10 #[.slice B l.length c, .int .i64 q, .int .i64 s, .int .i64 cc] w2 fun e w3 => ∃ B' c', e = .returned (.tuple #[.slice B' (hearL l q s cc).1.length c', .int .i64 (hearL l q s cc).2.1, .bool (hearL l q s cc).2.2]) ∧ PlayI w g B' c' (hearL l q s cc).1 w3 := by
  obtain ⟨S, h1, h2, h3, h4, h5, h6, h7⟩ := h
  refine (hear_any h1 q s cc).mono ?_
  rintro e w1 ⟨rfl, hk1, hk2⟩
  have hbw1 : Below w.heap.size w w1 := h7.trans (hk2.below (fun k hk => h2 k hk))
  have hl1 : Lns w1 w1.heap.size B l := fun k hk => by
    obtain ⟨b, off, e1, e2, e3⟩ := h4 k hk
    have hS := h3 (by omega) _ e1
    exact ⟨b, off, e1, Nat.lt_of_lt_of_le e2 hk2.size, fun j u hu => (hk2.cell hS).trans (e3 j u hu)⟩
  refine ⟨rfl, hbw1, fun w2 hb2 => ?_⟩
  refine (r33Hear_any B l.length c l q s cc w2 rfl h1.2.1 h5 ((hl1.below hb2 (Nat.le_refl _)).more hb2.size) h6).mono ?_
  rintro e w3 ⟨B', c', rfl, hn, hl3, hb3, hwh⟩
  refine ⟨B', c', rfl, fun k => S k ∨ (w2.heap.size ≤ k ∧ k < w3.heap.size), (hk1.keep hb2).also hb3, fun k hk => .inl (h2 k hk), fun hz a ha => ?_, hl3, hn, octs_heard h6 q s cc, (hbw1.trans (hb2.mono hbw1.size)).trans (hb3.mono (Nat.le_trans hbw1.size hb2.size))⟩
  obtain ⟨b, off, e1, e2, -⟩ := hl3 0 hz
  rw [e1] at ha
  injection ha with ha
  subst ha
  rcases hwh _ e1 with h | h
  · rw [hear_false h.2] at hz
    exact .inl (h3 hz _ h.1)
  · exact .inr ⟨h, e2⟩
/-- Behind Hear of the book: what the document's Hear will tell. -/
def HeardI (w : World) (g : Nat) (B : Option Addr) (c : Nat) (l : List Ln) (q s cc : Int) (l' : List Ln) (lost : Int) (ok : Bool) (w1 : World) : Prop :=
  Below w.heap.size w w1 ∧ ∀ w2, Below w1.heap.size w1 w2 → Calls Try.prog 10 #[.slice B l.length c, .int .i64 q, .int .i64 s, .int .i64 cc] w2 fun e w3 => ∃ B' c', e = .returned (.tuple #[.slice B' l'.length c', .int .i64 lost, .bool ok]) ∧ PlayI w g B' c' l' w3
end Go.Proofs.Ytloebedipfppeaa
