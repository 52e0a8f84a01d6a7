/- Layer 23: pens. -/
import Derived.Test.YtpaejoikfnmdhaaDoorLaw23c
import Derived.OwnWalk
import Derived.Deep.AppendLies
import Derived.KernelRfl
namespace Go.Proofs.YtpaejoikfnmdhaaDoor
set_option linter.unusedVariables false
open Go.RowKit

/-- Nothing but block g and the slice's own block has turned. -/
structure Frm (g : Nat) (v : Value) (w w' : World) : Prop where
  os : w'.os = w.os
  tape : w'.tape = w.tape
  output : w'.output = w.output
  size : w.heap.size ≤ w'.heap.size
  block : ∀ k, k < w.heap.size → k ≠ g → v.ownBlock ≠ some k → w'.heap[k]? = w.heap[k]?
theorem Frm.of_below {g : Nat} {v : Value} {w w' : World} (h : Below w.heap.size w w') : Frm g v w w' := ⟨h.os, h.tape, h.output, h.size, fun k hk _ _ => h.block k hk⟩
theorem Frm.set {g : Nat} {v : Value} {w w' : World} (h : Frm g v w w') (o : Nat) (u : Value) : Frm g v w (w'.setCell ⟨g, o, none⟩ u) :=
  ⟨h.os, h.tape, h.output, by simpa using h.size, fun k hk h1 h2 => (Below.heap_setCell _ _ _ _ h1).trans (h.block k hk h1 h2)⟩
theorem Frm.then_below {g : Nat} {v : Value} {w w1 w2 : World} (h : Frm g v w w1) (hb : Below w1.heap.size w1 w2) : Frm g v w w2 :=
  ⟨hb.os.trans h.os, hb.tape.trans h.tape, hb.output.trans h.output, Nat.le_trans h.size hb.size, fun k hk h1 h2 => (hb.block k (Nat.lt_of_lt_of_le hk h.size)).trans (h.block k hk h1 h2)⟩
/-- The slice's block is the old one, or a new one. -/
def Moved (w : World) (v v' : Value) : Prop := v'.ownBlock = v.ownBlock ∨ ∀ k, v'.ownBlock = some k → w.heap.size ≤ k
theorem Frm.trans {g : Nat} {v v' : Value} {w w1 w2 : World} (h : Frm g v w w1) (k : Frm g v' w1 w2) (hm : Moved w v v') : Frm g v w w2 :=
  ⟨k.os.trans h.os, k.tape.trans h.tape, k.output.trans h.output, Nat.le_trans h.size k.size, fun i hi h1 h2 => (k.block i (Nat.lt_of_lt_of_le hi h.size) h1 (by
    rcases hm with hm | hm
    · rw [hm]; exact h2
    · intro e; have := hm i e; omega)).trans (h.block i hi h1 h2)⟩
theorem Moved.trans {w w1 : World} {v v1 v2 : Value} (h : Moved w v v1) (k : Moved w1 v1 v2) (hz : w.heap.size ≤ w1.heap.size) : Moved w v v2 := by
  rcases k with k | k
  · rcases h with h | h
    · exact .inl (k.trans h)
    · exact .inr fun i hi => h i (k ▸ hi)
  · exact .inr fun i hi => Nat.le_trans hz (k i hi)
theorem Frm.cell {g : Nat} {v : Value} {w w' : World} (h : Frm g v w w') {b o : Nat} (hb : b < w.heap.size) (h1 : b ≠ g) (h2 : v.ownBlock ≠ some b) : w'.cell? ⟨b, o, none⟩ = w.cell? ⟨b, o, none⟩ := World.cell?_of_block (a := ⟨b, o, none⟩) (h.block b hb h1 h2)
theorem Frm.below {g B : Nat} {v : Value} {w w' : World} (h : Frm g v w w') (hg : B ≤ g) (hv : ∀ k, v.ownBlock = some k → B ≤ k) (hB : B ≤ w.heap.size) : Below B w w' :=
  ⟨h.os, h.tape, h.output, h.size, fun k hk => h.block k (by omega) (by omega) (fun e => by have := hv k e; omega)⟩

theorem ownP_below {w w' : World} {B : Nat} {e : TypeId} {size n : Nat} {v : Value} {xs : List Value} (h : w.ownsRow B e size v n xs) (hb : Below w.heap.size w w') : w'.ownsRow B e size v n xs :=
  h.kept (row := none) ⟨hb.os, hb.tape, hb.output, hb.size, fun i hi _ => hb.block i hi⟩ (Classical.em _)

/-- A pen that a call made: its error, and its texts. -/
def PenOk (w : World) (g : Nat) (e : Int) (v : Value) (L : List ByteArray) : Prop :=
  w.cell? ⟨g, 0, none⟩ = some (.bool true) ∧ w.cell? ⟨g, 1, none⟩ = some (.int .i64 e) ∧ w.cell? ⟨g, 2, none⟩ = some v ∧ (∀ o, w.frozen? ⟨g, o, none⟩ = false) ∧ g < w.heap.size ∧ w.ownsRow (g + 1) 9 1 v L.length (L.map Value.string)
theorem PenOk.keep {w w' : World} {g : Nat} {e : Int} {v : Value} {L : List ByteArray} (h : PenOk w g e v L) (hb : Below w.heap.size w w') : PenOk w' g e v L := by
  obtain ⟨h0, h1, h2, h3, h4, h5⟩ := h
  obtain ⟨c, f⟩ := bcell hb
  exact ⟨(c g 0 h4).trans h0, (c g 1 h4).trans h1, (c g 2 h4).trans h2, fun o => (f g o h4).trans (h3 o), Nat.lt_of_lt_of_le h4 hb.size, ownP_below h5 hb⟩
/-- Another pen is as it was. -/
theorem PenOk.other {w w' : World} {g g' : Nat} {e : Int} {v v' : Value} {L : List ByteArray} (h : PenOk w g e v L) (hf : Frm g' v' w w') (h1 : g ≠ g') (h2 : v'.ownBlock ≠ some g) (h3 : v.ownBlock ≠ some g') (h4 : ∀ k, v.ownBlock = some k → v'.ownBlock ≠ some k) : PenOk w' g e v L := by
  obtain ⟨p0, p1, p2, p3, p4, p5⟩ := h
  refine ⟨(hf.cell p4 h1 h2).trans p0, (hf.cell p4 h1 h2).trans p1, (hf.cell p4 h1 h2).trans p2, fun o => (World.frozen?_of_block (a := ⟨g, o, none⟩) (hf.block g p4 h1 h2)).trans (p3 o), Nat.lt_of_lt_of_le p4 hf.size, ?_⟩
  refine ⟨p5.1, ?_⟩
  rcases p5.2 with hn | ⟨k, cap, cur, rfl, hb, hg, rest⟩
  · exact .inl hn
  · have hk := (Array.getElem?_eq_some_iff.1 hg).1
    exact .inr ⟨k, cap, cur, rfl, hb, (hf.block k hk (fun e => h3 (by rw [← e]; rfl)) (h4 k rfl)).trans hg, rest⟩

/-- The first error. -/
def firstE (e E : Int) : Int := if e = 0 then E else e

set_option maxHeartbeats 1000000 in
theorem note_any (g : Nat) (e E : Int) (w : World) (h1 : w.cell? ⟨g, 1, none⟩ = some (.int .i64 e)) (hf : w.frozen? ⟨g, 1, none⟩ = false) :
    Calls Tryd.prog 58 #[.pointer (some ⟨g, 0, none⟩), .int .i64 E] w fun r w' => r = .returned (.tuple #[]) ∧ w' = if e = 0 then w.setCell ⟨g, 1, none⟩ (.int .i64 E) else w := by
  by_cases h : e = 0
  · subst h
    go_enter Tryd.func58, Tryd.ntmps58
    go_wp2
    go_end0
    exact ⟨rfl, rfl⟩
  · have hne : (e == 0) = false := by rw [beq_eq_false_iff_ne]; exact h
    rw [if_neg h]
    clear h
    go_enter Tryd.func58, Tryd.ntmps58
    go_wp2
    go_end0
    exact ⟨rfl, rfl⟩

theorem PenOk.noted {w : World} {g : Nat} {e E : Int} {v : Value} {L : List ByteArray} (h : PenOk w g e v L) : PenOk (if e = 0 then w.setCell ⟨g, 1, none⟩ (.int .i64 E) else w) g (firstE e E) v L := by
  unfold firstE
  by_cases he : e = 0
  · rw [if_pos he, if_pos he]
    obtain ⟨h0, h1, h2, h3, h4, h5⟩ := h
    refine ⟨?_, World.cell?_setCell_same _ _ _ h1, ?_, fun o => by simpa using h3 o, by simpa using h4, ?_⟩
    · rw [World.cell?_setCell_other _ _ _ _ (by simp)]; exact h0
    · rw [World.cell?_setCell_other _ _ _ _ (by simp)]; exact h2
    · refine h5.kept (row := some g) ⟨rfl, rfl, rfl, by simp, fun k _ hk => Below.heap_setCell _ _ _ _ (fun e => hk (by rw [e]))⟩ (.inr fun e => ?_)
      have := (h5.lt g e).1
      omega
  · rw [if_neg he, if_neg he]; exact h
theorem frm_noted (w : World) (g : Nat) (e E : Int) (v : Value) : Frm g v w (if e = 0 then w.setCell ⟨g, 1, none⟩ (.int .i64 E) else w) := by
  split
  · exact (Frm.of_below (Below.refl _ _)).set _ _
  · exact Frm.of_below (Below.refl _ _)

theorem str_infoP : (Tryd.prog.info? 9).map (fun i => (i.zero, i.size, i.bytes)) = some (some (.string ByteArray.empty), 1, 16) := by kernel_rfl
theorem info_partsP {P : Program} {t : TypeId} {z : Value} {s b : Nat} (h : (P.info? t).map (fun i => (i.zero, i.size, i.bytes)) = some (some z, s, b)) : ∃ i, P.info? t = some i ∧ i.zero = some z ∧ i.size = s ∧ i.bytes = b := by
  cases hi : P.info? t with
  | none => rw [hi] at h; cases h
  | some i =>
    rw [hi] at h
    injection h with h
    injection h with h1 h2
    injection h2 with h2 h3
    exact ⟨i, rfl, h1, h2, h3⟩

/-- The new texts stand in a block. -/
def News (w : World) (h : Nat) (S : List ByteArray) : Prop := ∀ j (hj : j < S.length), w.cell? ⟨h, j, none⟩ = some (.string S[j])

def PutPost23 (g : Nat) (e E : Int) (v : Value) (L S : List ByteArray) (w : World) (r : Ending) (w' : World) : Prop :=
  r = .returned (.tuple #[]) ∧ ∃ v', PenOk w' g (firstE e E) v' (L ++ S) ∧ Frm g v w w' ∧ Moved w v v'

set_option maxRecDepth 8000 in
set_option maxHeartbeats 2000000 in
theorem Penput_any (g h m : Nat) (e E : Int) (v : Value) (L S : List ByteArray) (w : World) (hp : PenOk w g e v L) (hS : S.length = m) (hh : g < h) (hn : News w h S) (hvh : v.ownBlock ≠ some h) (hL : L.length + m ≤ 1000000) (hm : 0 < m) :
    Calls Tryd.prog 57 #[.pointer (some ⟨g, 0, none⟩), .int .i64 E, .slice (some ⟨h, 0, none⟩) m m] w (PutPost23 g e E v L S w) := by
  subst hS
  have HP := Lib.hid hp
  obtain ⟨p0, p1, p2, p3, p4, p5⟩ := hp
  have HN := Lib.hid (note_any g e E w p1 (p3 1))
  have HP1 := Lib.hid (HP.out.noted (E := E))
  have HF1 := Lib.hid (frm_noted w g e E v)
  have hnn : News (if e = 0 then w.setCell ⟨g, 1, none⟩ (.int .i64 E) else w) h S := fun j hj => by
    split
    · rw [World.cell?_setCell_other _ _ _ _ (fun q => by injection q with q; omega)]; exact hn j hj
    · exact hn j hj
  have HNN := Lib.hid hnn
  clear hnn hn p1 p2 p3 p5
  generalize (if e = 0 then w.setCell ⟨g, 1, none⟩ (.int .i64 E) else w) = W1 at *
  obtain ⟨i0, hi, hz0, hz1, hz2⟩ := info_partsP str_infoP
  go_enter Tryd.func57, Tryd.ntmps57
  go_wp2_with fail
  refine (HN.out).mono ?_
  rintro e w' ⟨rfl, rfl⟩
  obtain ⟨q0, q1, q2, q3, q4, q5⟩ := HP1.out
  have HQ5 := Lib.hid q5
  have z2 := q3 2
  clear q0 q1 q3 q5 HN p0
  go_wp2_with (at_builtin; refine wpList_append_lies _ rfl _ _ 47 rfl (g + 1) 9 i0 (.string ByteArray.empty) 1 16 Tryd.underlying47 hi hz0 hz1 hz2 rfl (by decide) _ _ _ rfl HQ5.out ⟨h, 0, none⟩ S.length S.length (S.map Value.string) rfl (by simp) ?c1 ?c2 hm ?c3 ?c4 ?c5 _ rfl ?_)
  case c1 =>
    intro j u hu
    rw [List.getElem?_map] at hu
    have hj : j < S.length := by
      rcases Nat.lt_or_ge j S.length with k | k
      · exact k
      · rw [List.getElem?_eq_none k] at hu; cases hu
    rw [List.getElem?_eq_getElem hj] at hu
    injection hu with hu
    have e1 : (⟨h, 0, none⟩ : Addr).add j = ⟨h, j, none⟩ := by unfold Addr.add; split <;> simp_all
    rw [e1, HNN.out j hj, ← hu]
  case c2 => intro u hu; obtain ⟨s, -, rfl⟩ := List.mem_map.1 hu; rfl
  case c3 => unfold maxLen; omega
  case c4 => omega
  case c5 => omega
  intro g2 cap w2 hown' hgrow hlies hg2
  obtain ⟨p0, p1, p2, p3, p4', p5⟩ := HP1.out
  have hne : some g ≠ v.ownBlock := fun q => by have := (p5.lt g q.symm).1; omega
  have hc : ∀ o, w2.cell? ⟨g, o, none⟩ = w'.cell? ⟨g, o, none⟩ := fun o => World.cell?_of_block (a := ⟨g, o, none⟩) (hgrow.block g p4' hne)
  have hfz : ∀ o, w2.frozen? ⟨g, o, none⟩ = false := fun o => (World.frozen?_of_block (a := ⟨g, o, none⟩) (hgrow.block g p4' hne)).trans (p3 o)
  have hz2' : w2.frozen? ⟨g, 2, none⟩ = false := hfz 2
  have hc2 : w2.cell? ⟨g, 2, none⟩ = some v := (hc 2).trans p2
  have hsz2 := hgrow.size
  have hgg : g + 1 ≤ g2 := by
    rcases hlies with q | q
    · exact (p5.lt g2 q).1
    · omega
  have HPOST : Hid (PutPost23 g e E v L S w (.returned (.tuple #[])) (w2.setCell ⟨g, 2, none⟩ (.slice (some ⟨g2, 0, none⟩) (L.length + S.length) cap))) := by
    refine ⟨rfl, .slice (some ⟨g2, 0, none⟩) (L.length + S.length) cap, ⟨?_, ?_, World.cell?_setCell_same _ _ _ hc2, fun o => by simpa using hfz o, by simp; omega, ?_⟩, ?_, ?_⟩
    · rw [World.cell?_setCell_other _ _ _ _ (by simp), hc]; exact p0
    · rw [World.cell?_setCell_other _ _ _ _ (by simp), hc]; exact p1
    · rw [List.length_append, List.map_append]
      refine hown'.kept (row := some g) ⟨rfl, rfl, rfl, by simp, fun k _ hk => Below.heap_setCell _ _ _ _ (fun e => hk (by rw [e]))⟩ (.inr fun q => ?_)
      have : g2 = g := by simpa [Value.ownBlock] using q
      omega
    · refine Frm.set ?_ _ _
      exact ⟨hgrow.os.trans HF1.out.os, hgrow.tape.trans HF1.out.tape, hgrow.output.trans HF1.out.output, Nat.le_trans HF1.out.size hgrow.size, fun k hk h1 h2 => (hgrow.block k (Nat.lt_of_lt_of_le hk HF1.out.size) (fun q => h2 q.symm)).trans (HF1.out.block k hk h1 h2)⟩
    · rcases hlies with q | q
      · exact .inl (by rw [q]; rfl)
      · refine .inr fun k hk => ?_
        have : g2 = k := by simpa [Value.ownBlock] using hk
        have := HF1.out.size
        omega
  clear hown' hgrow hlies hg2 p0 p1 p2 p3 p5 hne hc hfz HP1 HF1 HNN HQ5 q2 z2
  go_wp2_with fail
  go_end0
  exact HPOST.out

end Go.Proofs.YtpaejoikfnmdhaaDoor
