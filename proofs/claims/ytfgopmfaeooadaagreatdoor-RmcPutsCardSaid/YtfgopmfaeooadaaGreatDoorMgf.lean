/- Layer 23: pens, eyes and rows side by side. -/
import Derived.Test.YtfgopmfaeooadaaGreatDoorMg
import Derived.Test.YtfgopmfaeooadaaGreatDoorMga
import Derived.Test.YtfgopmfaeooadaaGreatDoorMvd
import Derived.Deep.LoopGhost
namespace Go.Proofs.YtfgopmfaeooadaaGreatDoor
set_option linter.unusedVariables false
open Go.RowKit
variable {Q : Nat → Prop}

theorem EyeR.other {w w' : World} {g g' : Nat} {e : Int} {R : List ByteArray} {v : Value} (h : EyeR Q w g e R) (hf : Frm g' v w w') (h1 : g ≠ g') (h2 : v.ownBlock ≠ some g) (h3 : ∀ b, Q b → b ≠ g' ∧ v.ownBlock ≠ some b) : EyeR Q w' g e R := by
  obtain ⟨A, c, p0, p1, p2, p3, p4, p5, hB, p6, p7, p8⟩ := h
  refine ⟨A, c, (hf.cell p4 h1 h2).trans p0, (hf.cell p4 h1 h2).trans p1, (hf.cell p4 h1 h2).trans p2, fun o => (World.frozen?_of_block (a := ⟨g, o, none⟩) (hf.block g p4 h1 h2)).trans (p3 o), Nat.lt_of_lt_of_le p4 hf.size, fun k hk => ?_, fun b q => Nat.lt_of_lt_of_le (hB b q) hf.size, p6, p7, p8⟩
  obtain ⟨b, off, e1, e2, e3⟩ := p5 k hk
  exact ⟨b, off, e1, e2, (hf.cell (hB b e2) (h3 b e2).1 (h3 b e2).2).trans e3⟩
theorem RowR.other {w w' : World} {g g' : Nat} {e : Int} {R : List ByteArray} {v : Value} (h : RowR Q w g e R) (hf : Frm g' v w w') (h1 : g ≠ g') (h2 : v.ownBlock ≠ some g) (h3 : ∀ b, Q b → b ≠ g' ∧ v.ownBlock ≠ some b) : RowR Q w' g e R := by
  obtain ⟨A, c, fs, at_, p0, p1, p2, p3, p4, p5, hB, p6, p7, p8, p9⟩ := h
  refine ⟨A, c, fs, at_, (hf.cell p4 h1 h2).trans p0, (hf.cell p4 h1 h2).trans p1, (hf.cell p4 h1 h2).trans p2, fun o => (World.frozen?_of_block (a := ⟨g, o, none⟩) (hf.block g p4 h1 h2)).trans (p3 o), Nat.lt_of_lt_of_le p4 hf.size, fun k hk => ?_, fun b q => Nat.lt_of_lt_of_le (hB b q) hf.size, p6, p7, p8, p9⟩
  obtain ⟨b, off, e1, e2, e3⟩ := p5 k hk
  exact ⟨b, off, e1, e2, (hf.cell (hB b e2) (h3 b e2).1 (h3 b e2).2).trans e3⟩
/-- A scratch block is written. -/
theorem frm_far (w : World) (G o : Nat) (u : Value) : Frm G nilV w (w.setCell ⟨G, o, none⟩ u) := (Frm.of_below (Below.refl _ _)).set _ _

/-- The blocks of a play: pen, eye, row that is written, row that is read; what lies from base on came later. -/
structure Lay4 (w : World) (Qr Qs : Nat → Prop) (gp gr gq gs base : Nat) : Prop where
  hp : w.heap.size ≤ gp
  hr : gp < gr
  hq : gr < gq
  hs : gq < gs
  hb : gs < base
  qr : ∀ b, Qr b → gp < b ∧ b < gr
  qs : ∀ b, Qs b → b < w.heap.size

/-- All four, and that they lie apart. -/
def Mix (w : World) (Qr Qs : Nat → Prop) (gp gr gq gs base : Nat) (ep : Int) (vp : Value) (Lp : List ByteArray) (eq : Int) (vq : Value) (Lq : List ByteArray) (er : Int) (R : List ByteArray) (es : Int) (S : List ByteArray) (wx : World) : Prop :=
  PenOk wx gp ep vp Lp ∧ RowW wx gq eq vq Lq ∧ EyeR Qr wx gr er R ∧ RowR Qs wx gs es S ∧ (∀ k, vp.ownBlock = some k → base ≤ k ∧ vq.ownBlock ≠ some k) ∧ (∀ k, vq.ownBlock = some k → base ≤ k) ∧ Below w.heap.size w wx ∧ base ≤ wx.heap.size

section
variable {w wx w' : World} {Qr Qs : Nat → Prop} {gp gr gq gs base : Nat} {ep eq er es : Int} {vp vq : Value} {Lp Lq R S : List ByteArray}

theorem Mix.keep (hm : Mix w Qr Qs gp gr gq gs base ep vp Lp eq vq Lq er R es S wx) (hb : Below wx.heap.size wx w') : Mix w Qr Qs gp gr gq gs base ep vp Lp eq vq Lq er R es S w' := by
  obtain ⟨m1, m2, m3, m4, m5, m6, m7, m8⟩ := hm
  exact ⟨m1.keep hb, m2.keep hb, m3.keep hb, m4.keep hb, m5, m6, bthen m7 hb, Nat.le_trans m8 hb.size⟩
theorem Mix.pen (l : Lay4 w Qr Qs gp gr gq gs base) (hm : Mix w Qr Qs gp gr gq gs base ep vp Lp eq vq Lq er R es S wx) {E : Int} {X : List ByteArray} {r : Ending} (h : PutPost23 gp ep E vp Lp X wx r w') :
    r = .returned (.tuple #[]) ∧ ∃ v', Mix w Qr Qs gp gr gq gs base (firstE ep E) v' (Lp ++ X) eq vq Lq er R es S w' ∧ Frm gp vp wx w' ∧ Moved wx vp v' := by
  obtain ⟨m1, m2, m3, m4, m5, m6, m7, m8⟩ := hm
  obtain ⟨rfl, v', h1, h2, h3⟩ := h
  have a1 := l.hp; have a2 := l.hr; have a3 := l.hq; have a4 := l.hs; have a5 := l.hb
  have o1 : ∀ b, b < base → vp.ownBlock ≠ some b := fun b hb q => by have := (m5 b q).1; omega
  have n1 : ∀ k, v'.ownBlock = some k → base ≤ k ∧ vq.ownBlock ≠ some k := fun k hk => by
    rcases h3 with h3 | h3
    · exact m5 k (h3 ▸ hk)
    · have h4 := h3 k hk
      refine ⟨by omega, fun q => ?_⟩
      have := (m2.2.2.2.2.lt k q).2
      omega
  refine ⟨rfl, v', ⟨h1, m2.other h2 (by omega) (o1 _ (by omega)) (fun q => by have := m6 _ q; omega) (fun k hk q => (m5 k q).2 hk), m3.other h2 (by omega) (o1 _ (by omega)) (fun b hb => ⟨by have := l.qr b hb; omega, o1 _ (by have := l.qr b hb; omega)⟩), m4.other h2 (by omega) (o1 _ (by omega)) (fun b hb => ⟨by have := l.qs b hb; omega, o1 _ (by have := l.qs b hb; omega)⟩), n1, m6, ?_, Nat.le_trans m8 h2.size⟩, h2, h3⟩
  exact (Below.trans m7 (h2.below a1 (fun k hk => by have := (m5 k hk).1; omega) m7.size))
theorem Mix.row (l : Lay4 w Qr Qs gp gr gq gs base) (hm : Mix w Qr Qs gp gr gq gs base ep vp Lp eq vq Lq er R es S wx) {E : Int} {X : List ByteArray} {r : Ending} (h : RowPost gq eq E vq Lq X wx r w') :
    r = .returned (.tuple #[]) ∧ ∃ v', Mix w Qr Qs gp gr gq gs base ep vp Lp (firstE eq E) v' (Lq ++ X) er R es S w' ∧ Frm gq vq wx w' ∧ Moved wx vq v' := by
  obtain ⟨m1, m2, m3, m4, m5, m6, m7, m8⟩ := hm
  obtain ⟨rfl, v', h1, h2, h3⟩ := h
  have a1 := l.hp; have a2 := l.hr; have a3 := l.hq; have a4 := l.hs; have a5 := l.hb
  have o1 : ∀ b, b < base → vq.ownBlock ≠ some b := fun b hb q => by have := m6 b q; omega
  have n1 : ∀ k, vp.ownBlock = some k → base ≤ k ∧ v'.ownBlock ≠ some k := fun k hk => by
    refine ⟨(m5 k hk).1, fun q => ?_⟩
    rcases h3 with h3 | h3
    · exact (m5 k hk).2 (h3 ▸ q)
    · have h4 := h3 k q
      have := (m1.2.2.2.2.2.lt k hk).2
      omega
  have n2 : ∀ k, v'.ownBlock = some k → base ≤ k := fun k hk => by
    rcases h3 with h3 | h3
    · exact m6 k (h3 ▸ hk)
    · have := h3 k hk; omega
  refine ⟨rfl, v', ⟨m1.other h2 (by omega) (o1 _ (by omega)) (fun q => by have := (m5 _ q).1; omega) (fun k hk q => (m5 k hk).2 q), h1, m3.other h2 (by omega) (o1 _ (by omega)) (fun b hb => ⟨by have := l.qr b hb; omega, o1 _ (by have := l.qr b hb; omega)⟩), m4.other h2 (by omega) (o1 _ (by omega)) (fun b hb => ⟨by have := l.qs b hb; omega, o1 _ (by have := l.qs b hb; omega)⟩), n1, n2, ?_, Nat.le_trans m8 h2.size⟩, h2, h3⟩
  exact (Below.trans m7 (h2.below (by omega) (fun k hk => by have := m6 k hk; omega) m7.size))
theorem Mix.eye (l : Lay4 w Qr Qs gp gr gq gs base) (hm : Mix w Qr Qs gp gr gq gs base ep vp Lp eq vq Lq er R es S wx) {x : Value} {e2 : Int} {R2 : List ByteArray} {r : Ending} (h : EyePost Qr gr x e2 R2 wx r w') :
    r = .returned x ∧ Mix w Qr Qs gp gr gq gs base ep vp Lp eq vq Lq e2 R2 es S w' ∧ Frm gr nilV wx w' := by
  obtain ⟨m1, m2, m3, m4, m5, m6, m7, m8⟩ := hm
  obtain ⟨rfl, h1, h2⟩ := h
  have a1 := l.hp; have a2 := l.hr; have a3 := l.hq; have a4 := l.hs; have a5 := l.hb
  have o1 : ∀ b, nilV.ownBlock ≠ some b := fun b => by simp [Value.ownBlock]
  refine ⟨rfl, ⟨m1.other h2 (by omega) (o1 _) (fun q => by have := (m5 _ q).1; omega) (fun k _ => o1 _), m2.other h2 (by omega) (o1 _) (fun q => by have := m6 _ q; omega) (fun k _ => o1 _), h1, m4.other h2 (by omega) (o1 _) (fun b hb => ⟨by have := l.qs b hb; omega, o1 _⟩), m5, m6, ?_, Nat.le_trans m8 h2.size⟩, h2⟩
  exact (Below.trans m7 (h2.below (by omega) (fun k hk => absurd hk (o1 _)) m7.size))
theorem Mix.rowR (l : Lay4 w Qr Qs gp gr gq gs base) (hm : Mix w Qr Qs gp gr gq gs base ep vp Lp eq vq Lq er R es S wx) {x : Value} {e2 : Int} {R2 : List ByteArray} {r : Ending} (h : RowRPost Qs gs x e2 R2 wx r w') :
    r = .returned x ∧ Mix w Qr Qs gp gr gq gs base ep vp Lp eq vq Lq er R e2 R2 w' ∧ Frm gs nilV wx w' := by
  obtain ⟨m1, m2, m3, m4, m5, m6, m7, m8⟩ := hm
  obtain ⟨rfl, h1, h2⟩ := h
  have a1 := l.hp; have a2 := l.hr; have a3 := l.hq; have a4 := l.hs; have a5 := l.hb
  have o1 : ∀ b, nilV.ownBlock ≠ some b := fun b => by simp [Value.ownBlock]
  refine ⟨rfl, ⟨m1.other h2 (by omega) (o1 _) (fun q => by have := (m5 _ q).1; omega) (fun k _ => o1 _), m2.other h2 (by omega) (o1 _) (fun q => by have := m6 _ q; omega) (fun k _ => o1 _), m3.other h2 (by omega) (o1 _) (fun b hb => ⟨by have := l.qr b hb; omega, o1 _⟩), h1, m5, m6, ?_, Nat.le_trans m8 h2.size⟩, h2⟩
  exact (Below.trans m7 (h2.below (by omega) (fun k hk => absurd hk (o1 _)) m7.size))
/-- A scratch block, of which none of the four knows, is written. -/
theorem Mix.set (l : Lay4 w Qr Qs gp gr gq gs base) (hm : Mix w Qr Qs gp gr gq gs base ep vp Lp eq vq Lq er R es S wx) {G : Nat} (hG : base ≤ G) (h1 : vp.ownBlock ≠ some G) (h2 : vq.ownBlock ≠ some G) (o : Nat) (u : Value) :
    Mix w Qr Qs gp gr gq gs base ep vp Lp eq vq Lq er R es S (wx.setCell ⟨G, o, none⟩ u) := by
  obtain ⟨m1, m2, m3, m4, m5, m6, m7, m8⟩ := hm
  have a1 := l.hp; have a2 := l.hr; have a3 := l.hq; have a4 := l.hs; have a5 := l.hb
  have hf := frm_far wx G o u
  have o1 : ∀ b, nilV.ownBlock ≠ some b := fun b => by simp [Value.ownBlock]
  refine ⟨m1.other hf (by omega) (o1 _) h1 (fun k _ => o1 _), m2.other hf (by omega) (o1 _) h2 (fun k _ => o1 _), m3.other hf (by omega) (o1 _) (fun b hb => ⟨by have := l.qr b hb; omega, o1 _⟩), m4.other hf (by omega) (o1 _) (fun b hb => ⟨by have := l.qs b hb; omega, o1 _⟩), m5, m6, ?_, Nat.le_trans m8 hf.size⟩
  exact Below.trans m7 (hf.below (by omega) (fun k hk => absurd hk (o1 _)) m7.size)
end
end Go.Proofs.YtfgopmfaeooadaaGreatDoor

/- Layer 29: a digit is read. -/
namespace Go.Proofs.YtfgopmfaeooadaaGreatDoor
set_option linter.unusedVariables false
open Go.RowKit

theorem dig_ways (a : ByteArray) : (dgB a = false ∧ a.size ≠ 1) ∨ (∃ hz : 0 < a.size, a.size = 1 ∧ (a[0].toNat < 48 ∧ dgB a = false ∨ 57 < a[0].toNat ∧ dgB a = false ∨ 48 ≤ a[0].toNat ∧ a[0].toNat ≤ 57 ∧ dgB a = true ∧ dgN a = (a[0].toNat : Int) - 48)) := by
  by_cases h1 : a.size = 1
  · refine .inr ⟨by omega, h1, ?_⟩
    have hg : (a[0]?.getD 0) = a[0] := by rw [getElem?_pos a 0 (by omega)]; rfl
    unfold dgB dgN
    rw [hg, decide_eq_true h1]
    by_cases h2 : a[0].toNat < 48
    · exact .inl ⟨h2, by simp; omega⟩
    · by_cases h3 : 57 < a[0].toNat
      · exact .inr (.inl ⟨h3, by simp; omega⟩)
      · exact .inr (.inr ⟨by omega, by omega, by simp; omega, rfl⟩)
  · exact .inl ⟨by unfold dgB; simp [h1], h1⟩
/-- What a digit's reading comes to. -/
theorem rdDig_ways {lo hi : Int} {s s1 : Rd} {a : ByteArray} (h : rdText s = (a, s1)) :
    (dgB a = false → rdDig lo hi s = (0, rdFail 3 s1)) ∧ (dgB a = true → (dgN a < lo ∨ hi < dgN a) → rdDig lo hi s = (dgN a, rdFail 5 s1)) ∧ (dgB a = true → ¬(dgN a < lo ∨ hi < dgN a) → rdDig lo hi s = (dgN a, s1)) := by
  unfold rdDig
  rw [h]
  simp only
  refine ⟨fun q => ?_, fun q r => ?_, fun q r => ?_⟩
  · rw [if_neg (by rw [q]; decide)]
  · rw [if_pos q, if_pos r]
  · rw [if_pos q, if_neg r]
end Go.Proofs.YtfgopmfaeooadaaGreatDoor

/- Layer 29: what a reader of views keeps. -/
namespace Go.Proofs.YtfgopmfaeooadaaGreatDoor
set_option linter.unusedVariables false
open Go.RowKit

theorem takeN_is {l : List UInt8} {W M F L H : Int} (h : (takeN l W M F L H).1 = false) : (takeN l W M F L H).2.1 = 0 := by
  unfold takeN at h ⊢
  by_cases h1 : rightB W M F L H = false
  · rw [if_pos h1]
  · rw [if_neg h1] at h ⊢
    by_cases h2 : l = []
    · rw [if_pos h2]
    · rw [if_neg h2] at h ⊢
      cases hp : parseN (bodyL l) 1 M.toNat F.toNat with
      | none => rfl
      | some n =>
        rw [hp] at h
        simp only at h ⊢
        generalize (if negL l = true then -(n : Int) else (n : Int)) = x at *
        by_cases hq : fitsB true x L H = true
        · rw [if_pos hq] at h; exact absurd h (by simp)
        · rw [if_neg hq]
theorem rdNum_is {W M F L H : Int} {s t : Rd} {n : Int} (h : rdNum W M F L H s = ((false, n), t)) : n = 0 := by
  have h1 : (rdNum W M F L H s).1 = (false, n) := by rw [h]
  have h2 : (takeN (s.2.headD ByteArray.empty).data.toList W M F L H).1 = false := congrArg Prod.fst h1
  have h3 : (takeN (s.2.headD ByteArray.empty).data.toList W M F L H).2.1 = n := congrArg Prod.snd h1
  rw [← h3]
  exact takeN_is h2

theorem TkI.put {X Y : World → Prop} {g M o : Nat} {C : Array Value} {W w : World} {u : Value} (h : TkI X g M C W w) (ho : o < C.size) (hy : Y (w.setCell ⟨M, o, none⟩ u)) : TkI Y g M (C.setIfInBounds o u) W (w.setCell ⟨M, o, none⟩ u) := by
  refine ⟨hy, ?_, fun j => by simpa using h.z j, h.gm, by simpa using h.mz, h.os, h.tape, h.output, by simpa using h.size, fun k k1 k2 k3 => ?_⟩
  · exact AtC.set (show AtC w M C from h.c) o u ho
  · exact (Below.heap_setCell _ _ _ _ k3).trans (h.block k k1 k2 k3)
theorem TkI.grow {X Y : World → Prop} {g M : Nat} {C : Array Value} {W w w' : World} {v : Value} (h : TkI X g M C W w) (hM : M < W.heap.size) (hf : Frm g v w w') (hv : ∀ k, v.ownBlock = some k → W.heap.size ≤ k) (hy : Y w') : TkI Y g M C W w' := by
  have gm := h.gm
  have o1 : v.ownBlock ≠ some M := fun q => by have := hv M q; omega
  refine ⟨hy, fun j => (hf.cell h.mz (by omega) o1).trans (h.c j), fun j => (World.frozen?_of_block (a := ⟨M, j, none⟩) (hf.block M h.mz (by omega) o1)).trans (h.z j), gm, Nat.lt_of_lt_of_le h.mz hf.size, hf.os.trans h.os, hf.tape.trans h.tape, hf.output.trans h.output, Nat.le_trans h.size hf.size, fun k k1 k2 k3 => ?_⟩
  exact (hf.block k (Nat.lt_of_lt_of_le k1 h.size) k2 (fun q => by have := hv k q; omega)).trans (h.block k k1 k2 k3)
/-- All that was there ahead of a new block, but block g, is as it was. -/
theorem frm_of_tk {X : World → Prop} {g : Nat} {C : Array Value} {o : Obj} {wr z : World} (h : TkI X g wr.heap.size C (wr.alloc o) z) : Frm g nilV wr z := by
  have hb := below_new wr o
  exact ⟨h.os.trans hb.os, h.tape.trans hb.tape, h.output.trans hb.output, Nat.le_trans hb.size h.size, fun k hk h1 _ => (h.block k (by simp; omega) h1 (by omega)).trans (hb.block k hk)⟩
theorem own_after {w w' : World} {B g : Nat} {e : TypeId} {size n : Nat} {v : Value} {xs : List Value} (h : w.ownsRow B e size v n xs) (hf : Frm g nilV w w') (hg : v.ownBlock ≠ some g) : w'.ownsRow B e size v n xs :=
  h.kept (row := some g) ⟨hf.os, hf.tape, hf.output, hf.size, fun i hi hk => hf.block i hi (fun e => hk (by rw [e])) (by simp [Value.ownBlock])⟩ (.inr hg)
theorem EyeI.grow {g g' : Nat} {s : Rd} {v : Value} {w w' : World} (h : EyeI g s w) (hf : Frm g' v w w') (h1 : g < g') (h2 : ∀ k, v.ownBlock = some k → g < k) : EyeI g s w' := by
  obtain ⟨Q, q1, q2, q3⟩ := h
  exact ⟨Q, q1.other hf (by omega) (fun q => by have := h2 _ q; omega) (fun b hb => ⟨by have := q2 b hb; omega, fun q => by have := h2 _ q; have := q2 b hb; omega⟩), q2, q3⟩
theorem RowRI.grow {g g' : Nat} {s : Rd} {v : Value} {w w' : World} (h : RowRI g s w) (hf : Frm g' v w w') (h1 : g < g') (h2 : ∀ k, v.ownBlock = some k → g < k) : RowRI g s w' := by
  obtain ⟨Q, q1, q2, q3⟩ := h
  exact ⟨Q, q1.other hf (by omega) (fun q => by have := h2 _ q; omega) (fun b hb => ⟨by have := q2 b hb; omega, fun q => by have := h2 _ q; have := q2 b hb; omega⟩), q2, q3⟩
theorem frm_grown {g : Nat} {v : Value} {w w' : World} (h : w.grownBy w' v.ownBlock) : Frm g v w w' := ⟨h.os, h.tape, h.output, h.size, fun k hk _ h2 => h.block k hk (fun q => h2 q.symm)⟩

/-- The cells of views. -/
def viewsC (D : List V4) : List Value := D.flatMap viewC
theorem viewsC_snoc (D : List V4) (v : V4) : viewsC (D ++ [v]) = viewsC D ++ viewC v := by simp [viewsC]
theorem viewsC_len (D : List V4) : (viewsC D).length = D.length * 8 := by
  unfold viewsC
  induction D with
  | nil => rfl
  | cons v D ih => rw [List.flatMap_cons, List.length_append, ih, List.length_cons]; simp [viewC]; omega
theorem viewsC_get : ∀ (D : List V4) (k j : Nat) (hk : k < D.length), j < 8 → (viewsC D)[8 * k + j]? = (viewC D[k])[j]?
  | [], k, j, hk, _ => absurd hk (Nat.not_lt_zero _)
  | v :: D, 0, j, hk, hj => by
    show (viewC v ++ viewsC D)[8 * 0 + j]? = _
    rw [List.getElem?_append_left (by simp [viewC]; omega)]
    simp
  | v :: D, k + 1, j, hk, hj => by
    show (viewC v ++ viewsC D)[8 * (k + 1) + j]? = _
    rw [List.getElem?_append_right (by simp [viewC]; omega)]
    have e : 8 * (k + 1) + j - (viewC v).length = 8 * k + j := by simp [viewC]; omega
    rw [e]
    exact viewsC_get D k j (by simpa using hk) hj
theorem vws_of_own {w : World} {B : Nat} {e : TypeId} {v : Value} {D : List V4} (h : w.ownsRow B e 8 v D.length (viewsC D)) : ∃ A c, v = .slice A D.length c ∧ Vws w w.heap.size A D ∧ FreshA B A ∧ (A = none → c = 0) := by
  rcases h.2 with ⟨hv, h0⟩ | ⟨g, cap, cur, hv, hb, hg, -⟩
  · exact ⟨none, 0, by rw [hv, h0], fun k hk => by omega, FreshA.none_, fun _ => rfl⟩
  · subst hv
    refine ⟨some ⟨g, 0, none⟩, cap, rfl, fun k hk => ⟨g, 0, rfl, (Array.getElem?_eq_some_iff.1 hg).1, fun j u hu => ?_⟩, fun a ha => by injection ha with ha; rw [← ha]; exact hb, fun q => by cases q⟩
    have hj : j < 8 := by
      rcases Nat.lt_or_ge j 8 with q | q
      · exact q
      · rw [List.getElem?_eq_none (by show 8 ≤ j; exact q)] at hu; cases hu
    have hc := h.cells (g := g) rfl (8 * k + j) u (by rw [viewsC_get D k j hk hj]; exact hu)
    have : (⟨g, 0, none⟩ : Addr).add (8 * k + j) = ⟨g, 0 + 8 * k + j, none⟩ := by unfold Addr.add; split <;> simp_all <;> omega
    rw [← this]
    exact hc
/-- What Take hands back. -/
def GsvPost (x : GsvD × Int) (w : World) (r : Ending) (w' : World) : Prop :=
  ∃ A c, r = .returned (.tuple #[gsvV x.1.T x.1.N x.1.S A x.1.L.length c, .int .i64 x.2]) ∧ Vws w' w'.heap.size A x.1.L ∧ Below w.heap.size w w'
theorem gsv_taken {R : List ByteArray} {T N S : Int} {b : Bool} {k : Nat} {u1 u2 u3 u4 u5 : Rd} {L : List V4} (hb : ¬ badG R.length) (hk : (R.length - 3) / 4 = k) (h1 : Hid (rdDig 1 9 (0, R) = (T, u1))) (h2 : Hid (rdDig 1 T u1 = (N, u2))) (h3 : Hid (rdNum 1 2 0 0 99 u2 = ((b, S), u3))) (h4 : Hid (u4 = if b = true then u3 else rdFail 3 u3)) (h5 : Hid (rdViews k u4 = (L, u5))) :
    takeGsv R = if u5.1 = 0 then (⟨T, N, S, L⟩, 0) else (zeroG, u5.1) := by
  have hs : rdSeen u2 = (S, u4) := by unfold rdSeen; rw [h3.out, h4.out]
  unfold takeGsv
  rw [if_neg hb, hk, h1.out]
  simp only
  rw [h2.out]
  simp only
  rw [hs]
  simp only
  rw [h5.out]
theorem rdNum_tl {W M F L H : Int} {s t : Rd} {x : Bool × Int} (h : rdNum W M F L H s = (x, t)) : t.2 = s.2.tail := by
  have : (rdNum W M F L H s).2.2 = s.2.tail := rfl
  rw [h] at this
  exact this
theorem rdDig_tail {lo hi : Int} {s t : Rd} {n : Int} (h : rdDig lo hi s = (n, t)) : t.2 = s.2.tail := by
  have : (rdDig lo hi s).2.2 = s.2.tail := by
    unfold rdDig
    split
    · simp only
      split <;> rfl
    · rfl
  rw [h] at this
  exact this
theorem rdView_tail {s t : Rd} {v : V4} (h : rdView s = (v, t)) : t.2.length = s.2.length - 4 := by
  have : (rdView s).2.2 = s.2.tail.tail.tail.tail := rfl
  rw [h] at this
  rw [this]
  simp
  omega
end Go.Proofs.YtfgopmfaeooadaaGreatDoor
