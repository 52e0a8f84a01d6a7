/- Layer 23: pens, eyes and rows side by side. -/
import Derived.Test.YtpaejoikfnmdhaaDoorLook23
namespace Go.Proofs.YtpaejoikfnmdhaaDoor
set_option linter.unusedVariables false
open Go.RowKit
variable {Q : Nat → Prop}

theorem EyeR.other {w w' : World} {g g' : Nat} {e : Int} {R : List ByteArray} {v : Value} (h : EyeR Q w g e R) (hf : Frm g' v w w') (h1 : g ≠ g') (h2 : v.ownBlock ≠ some g) (h3 : ∀ b, Q b → b ≠ g' ∧ v.ownBlock ≠ some b) : EyeR Q w' g e R := by
  obtain ⟨A, c, p0, p1, p2, p3, p4, p5, hB, p6, p7, p8⟩ := h
  refine ⟨A, c, (hf.cell p4 h1 h2).trans p0, (hf.cell p4 h1 h2).trans p1, (hf.cell p4 h1 h2).trans p2, fun o => (World.frozen?_of_block (a := ⟨g, o, none⟩) (hf.block g p4 h1 h2)).trans (p3 o), Nat.lt_of_lt_of_le p4 hf.size, fun k hk => ?_, fun b q => Nat.lt_of_lt_of_le (hB b q) hf.size, p6, p7, p8⟩
  obtain ⟨b, off, e1, e2, e3⟩ := p5 k hk
  exact ⟨b, off, e1, e2, (hf.cell (hB b e2) (h3 b e2).1 (h3 b e2).2).trans e3⟩
theorem RowR.other {w w' : World} {g g' : Nat} {e : Int} {R : List ByteArray} {v : Value} (h : RowR Q w g e R) (hf : Frm g' v w w') (h1 : g ≠ g') (h2 : v.ownBlock ≠ some g) (h3 : ∀ b, Q b → b ≠ g' ∧ v.ownBlock ≠ some b) : RowR Q w' g e R := by
  obtain ⟨A, c, fs, at_, p0, p1, p2, p3, p4, p5, hB, p6, p7, p8, p9⟩ := h
  refine ⟨A, c, fs, at_, (hf.cell p4 h1 h2).trans p0, (hf.cell p4 h1 h2).trans p1, (hf.cell p4 h1 h2).trans p2, fun o => (World.frozen?_of_block (a := ⟨g, o, none⟩) (hf.block g p4 h1 h2)).trans (p3 o), Nat.lt_of_lt_of_le p4 hf.size, fun k hk => ?_, fun b q => Nat.lt_of_lt_of_le (hB b q) hf.size, p6, p7, p8, p9⟩
  obtain ⟨b, off, e1, e2, e3⟩ := p5 k hk
  exact ⟨b, off, e1, e2, (hf.cell (hB b e2) (h3 b e2).1 (h3 b e2).2).trans e3⟩
/-- A scratch block is written. -/
theorem frm_far (w : World) (G o : Nat) (u : Value) : Frm G nilV w (w.setCell ⟨G, o, none⟩ u) := (Frm.of_below (Below.refl _ _)).set _ _

/-- The blocks of a play: pen, eye, row that is written, row that is read; what lies from base on came later. -/
structure Lay4 (w : World) (Qr Qs : Nat → Prop) (gp gr gq gs base : Nat) : Prop where
  hp : w.heap.size ≤ gp
  hr : gp < gr
  hq : gr < gq
  hs : gq < gs
  hb : gs < base
  qr : ∀ b, Qr b → gp < b ∧ b < gr
  qs : ∀ b, Qs b → b < w.heap.size

/-- All four, and that they lie apart. -/
def Mix (w : World) (Qr Qs : Nat → Prop) (gp gr gq gs base : Nat) (ep : Int) (vp : Value) (Lp : List ByteArray) (eq : Int) (vq : Value) (Lq : List ByteArray) (er : Int) (R : List ByteArray) (es : Int) (S : List ByteArray) (wx : World) : Prop :=
  PenOk wx gp ep vp Lp ∧ RowW wx gq eq vq Lq ∧ EyeR Qr wx gr er R ∧ RowR Qs wx gs es S ∧ (∀ k, vp.ownBlock = some k → base ≤ k ∧ vq.ownBlock ≠ some k) ∧ (∀ k, vq.ownBlock = some k → base ≤ k) ∧ Below w.heap.size w wx ∧ base ≤ wx.heap.size

section
variable {w wx w' : World} {Qr Qs : Nat → Prop} {gp gr gq gs base : Nat} {ep eq er es : Int} {vp vq : Value} {Lp Lq R S : List ByteArray}

theorem Mix.keep (hm : Mix w Qr Qs gp gr gq gs base ep vp Lp eq vq Lq er R es S wx) (hb : Below wx.heap.size wx w') : Mix w Qr Qs gp gr gq gs base ep vp Lp eq vq Lq er R es S w' := by
  obtain ⟨m1, m2, m3, m4, m5, m6, m7, m8⟩ := hm
  exact ⟨m1.keep hb, m2.keep hb, m3.keep hb, m4.keep hb, m5, m6, bthen m7 hb, Nat.le_trans m8 hb.size⟩
theorem Mix.pen (l : Lay4 w Qr Qs gp gr gq gs base) (hm : Mix w Qr Qs gp gr gq gs base ep vp Lp eq vq Lq er R es S wx) {E : Int} {X : List ByteArray} {r : Ending} (h : PutPost23 gp ep E vp Lp X wx r w') :
    r = .returned (.tuple #[]) ∧ ∃ v', Mix w Qr Qs gp gr gq gs base (firstE ep E) v' (Lp ++ X) eq vq Lq er R es S w' ∧ Frm gp vp wx w' ∧ Moved wx vp v' := by
  obtain ⟨m1, m2, m3, m4, m5, m6, m7, m8⟩ := hm
  obtain ⟨rfl, v', h1, h2, h3⟩ := h
  have a1 := l.hp; have a2 := l.hr; have a3 := l.hq; have a4 := l.hs; have a5 := l.hb
  have o1 : ∀ b, b < base → vp.ownBlock ≠ some b := fun b hb q => by have := (m5 b q).1; omega
  have n1 : ∀ k, v'.ownBlock = some k → base ≤ k ∧ vq.ownBlock ≠ some k := fun k hk => by
    rcases h3 with h3 | h3
    · exact m5 k (h3 ▸ hk)
    · have h4 := h3 k hk
      refine ⟨by omega, fun q => ?_⟩
      have := (m2.2.2.2.2.lt k q).2
      omega
  refine ⟨rfl, v', ⟨h1, m2.other h2 (by omega) (o1 _ (by omega)) (fun q => by have := m6 _ q; omega) (fun k hk q => (m5 k q).2 hk), m3.other h2 (by omega) (o1 _ (by omega)) (fun b hb => ⟨by have := l.qr b hb; omega, o1 _ (by have := l.qr b hb; omega)⟩), m4.other h2 (by omega) (o1 _ (by omega)) (fun b hb => ⟨by have := l.qs b hb; omega, o1 _ (by have := l.qs b hb; omega)⟩), n1, m6, ?_, Nat.le_trans m8 h2.size⟩, h2, h3⟩
  exact (Below.trans m7 (h2.below a1 (fun k hk => by have := (m5 k hk).1; omega) m7.size))
theorem Mix.row (l : Lay4 w Qr Qs gp gr gq gs base) (hm : Mix w Qr Qs gp gr gq gs base ep vp Lp eq vq Lq er R es S wx) {E : Int} {X : List ByteArray} {r : Ending} (h : RowPost gq eq E vq Lq X wx r w') :
    r = .returned (.tuple #[]) ∧ ∃ v', Mix w Qr Qs gp gr gq gs base ep vp Lp (firstE eq E) v' (Lq ++ X) er R es S w' ∧ Frm gq vq wx w' ∧ Moved wx vq v' := by
  obtain ⟨m1, m2, m3, m4, m5, m6, m7, m8⟩ := hm
  obtain ⟨rfl, v', h1, h2, h3⟩ := h
  have a1 := l.hp; have a2 := l.hr; have a3 := l.hq; have a4 := l.hs; have a5 := l.hb
  have o1 : ∀ b, b < base → vq.ownBlock ≠ some b := fun b hb q => by have := m6 b q; omega
  have n1 : ∀ k, vp.ownBlock = some k → base ≤ k ∧ v'.ownBlock ≠ some k := fun k hk => by
    refine ⟨(m5 k hk).1, fun q => ?_⟩
    rcases h3 with h3 | h3
    · exact (m5 k hk).2 (h3 ▸ q)
    · have h4 := h3 k q
      have := (m1.2.2.2.2.2.lt k hk).2
      omega
  have n2 : ∀ k, v'.ownBlock = some k → base ≤ k := fun k hk => by
    rcases h3 with h3 | h3
    · exact m6 k (h3 ▸ hk)
    · have := h3 k hk; omega
  refine ⟨rfl, v', ⟨m1.other h2 (by omega) (o1 _ (by omega)) (fun q => by have := (m5 _ q).1; omega) (fun k hk q => (m5 k hk).2 q), h1, m3.other h2 (by omega) (o1 _ (by omega)) (fun b hb => ⟨by have := l.qr b hb; omega, o1 _ (by have := l.qr b hb; omega)⟩), m4.other h2 (by omega) (o1 _ (by omega)) (fun b hb => ⟨by have := l.qs b hb; omega, o1 _ (by have := l.qs b hb; omega)⟩), n1, n2, ?_, Nat.le_trans m8 h2.size⟩, h2, h3⟩
  exact (Below.trans m7 (h2.below (by omega) (fun k hk => by have := m6 k hk; omega) m7.size))
theorem Mix.eye (l : Lay4 w Qr Qs gp gr gq gs base) (hm : Mix w Qr Qs gp gr gq gs base ep vp Lp eq vq Lq er R es S wx) {x : Value} {e2 : Int} {R2 : List ByteArray} {r : Ending} (h : EyePost Qr gr x e2 R2 wx r w') :
    r = .returned x ∧ Mix w Qr Qs gp gr gq gs base ep vp Lp eq vq Lq e2 R2 es S w' ∧ Frm gr nilV wx w' := by
  obtain ⟨m1, m2, m3, m4, m5, m6, m7, m8⟩ := hm
  obtain ⟨rfl, h1, h2⟩ := h
  have a1 := l.hp; have a2 := l.hr; have a3 := l.hq; have a4 := l.hs; have a5 := l.hb
  have o1 : ∀ b, nilV.ownBlock ≠ some b := fun b => by simp [Value.ownBlock]
  refine ⟨rfl, ⟨m1.other h2 (by omega) (o1 _) (fun q => by have := (m5 _ q).1; omega) (fun k _ => o1 _), m2.other h2 (by omega) (o1 _) (fun q => by have := m6 _ q; omega) (fun k _ => o1 _), h1, m4.other h2 (by omega) (o1 _) (fun b hb => ⟨by have := l.qs b hb; omega, o1 _⟩), m5, m6, ?_, Nat.le_trans m8 h2.size⟩, h2⟩
  exact (Below.trans m7 (h2.below (by omega) (fun k hk => absurd hk (o1 _)) m7.size))
theorem Mix.rowR (l : Lay4 w Qr Qs gp gr gq gs base) (hm : Mix w Qr Qs gp gr gq gs base ep vp Lp eq vq Lq er R es S wx) {x : Value} {e2 : Int} {R2 : List ByteArray} {r : Ending} (h : RowRPost Qs gs x e2 R2 wx r w') :
    r = .returned x ∧ Mix w Qr Qs gp gr gq gs base ep vp Lp eq vq Lq er R e2 R2 w' ∧ Frm gs nilV wx w' := by
  obtain ⟨m1, m2, m3, m4, m5, m6, m7, m8⟩ := hm
  obtain ⟨rfl, h1, h2⟩ := h
  have a1 := l.hp; have a2 := l.hr; have a3 := l.hq; have a4 := l.hs; have a5 := l.hb
  have o1 : ∀ b, nilV.ownBlock ≠ some b := fun b => by simp [Value.ownBlock]
  refine ⟨rfl, ⟨m1.other h2 (by omega) (o1 _) (fun q => by have := (m5 _ q).1; omega) (fun k _ => o1 _), m2.other h2 (by omega) (o1 _) (fun q => by have := m6 _ q; omega) (fun k _ => o1 _), m3.other h2 (by omega) (o1 _) (fun b hb => ⟨by have := l.qr b hb; omega, o1 _⟩), h1, m5, m6, ?_, Nat.le_trans m8 h2.size⟩, h2⟩
  exact (Below.trans m7 (h2.below (by omega) (fun k hk => absurd hk (o1 _)) m7.size))
/-- A scratch block, of which none of the four knows, is written. -/
theorem Mix.set (l : Lay4 w Qr Qs gp gr gq gs base) (hm : Mix w Qr Qs gp gr gq gs base ep vp Lp eq vq Lq er R es S wx) {G : Nat} (hG : base ≤ G) (h1 : vp.ownBlock ≠ some G) (h2 : vq.ownBlock ≠ some G) (o : Nat) (u : Value) :
    Mix w Qr Qs gp gr gq gs base ep vp Lp eq vq Lq er R es S (wx.setCell ⟨G, o, none⟩ u) := by
  obtain ⟨m1, m2, m3, m4, m5, m6, m7, m8⟩ := hm
  have a1 := l.hp; have a2 := l.hr; have a3 := l.hq; have a4 := l.hs; have a5 := l.hb
  have hf := frm_far wx G o u
  have o1 : ∀ b, nilV.ownBlock ≠ some b := fun b => by simp [Value.ownBlock]
  refine ⟨m1.other hf (by omega) (o1 _) h1 (fun k _ => o1 _), m2.other hf (by omega) (o1 _) h2 (fun k _ => o1 _), m3.other hf (by omega) (o1 _) (fun b hb => ⟨by have := l.qr b hb; omega, o1 _⟩), m4.other hf (by omega) (o1 _) (fun b hb => ⟨by have := l.qs b hb; omega, o1 _⟩), m5, m6, ?_, Nat.le_trans m8 hf.size⟩
  exact Below.trans m7 (hf.below (by omega) (fun k hk => absurd hk (o1 _)) m7.size)
end
end Go.Proofs.YtpaejoikfnmdhaaDoor
