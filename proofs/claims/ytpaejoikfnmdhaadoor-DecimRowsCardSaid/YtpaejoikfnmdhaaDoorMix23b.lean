/- Layer 23: one call of a play: the four, and the call's own three blocks. -/
import Derived.Test.YtpaejoikfnmdhaaDoorMix23
import Derived.Test.YtpaejoikfnmdhaaDoorOpenOps
namespace Go.Proofs.YtpaejoikfnmdhaaDoor
set_option linter.unusedVariables false
open Go.RowKit

/-- A value's own block is none of three. -/
def Off3 (v : Value) (G : Nat) : Prop := ∀ k, v.ownBlock = some k → k ≠ G ∧ k ≠ G + 1 ∧ k ≠ G + 2
/-- The call, and what the two readers told. -/
def Scr (G : Nat) (d : OpD) (X1 : Bool) (X2 : Int) (Y1 : Bool) (Y2 : Int) (w : World) : Prop :=
  (∀ j u, d.vals[j]? = some u → w.cell? ⟨G, j, none⟩ = some u) ∧ w.cell? ⟨G + 1, 0, none⟩ = some (.bool X1) ∧ w.cell? ⟨G + 1, 1, none⟩ = some (.int .i64 X2) ∧ w.cell? ⟨G + 2, 0, none⟩ = some (.bool Y1) ∧ w.cell? ⟨G + 2, 1, none⟩ = some (.int .i64 Y2) ∧
  (∀ o, w.frozen? ⟨G + 1, o, none⟩ = false) ∧ (∀ o, w.frozen? ⟨G + 2, o, none⟩ = false) ∧ G + 2 < w.heap.size
theorem Scr.frm {G g : Nat} {v : Value} {d : OpD} {X1 Y1 : Bool} {X2 Y2 : Int} {w w' : World} (h : Scr G d X1 X2 Y1 Y2 w) (hf : Frm g v w w') (hg : g < G) (ho : Off3 v G) : Scr G d X1 X2 Y1 Y2 w' := by
  obtain ⟨h1, h2, h3, h4, h5, h6, h7, h8⟩ := h
  have z := hf.size
  have c : ∀ b, G ≤ b → b ≤ G + 2 → ∀ o, w'.cell? ⟨b, o, none⟩ = w.cell? ⟨b, o, none⟩ := fun b hb1 hb2 o => hf.cell (by omega) (by omega) (fun q => by have := ho b q; omega)
  have f : ∀ b, G ≤ b → b ≤ G + 2 → ∀ o, w'.frozen? ⟨b, o, none⟩ = w.frozen? ⟨b, o, none⟩ := fun b hb1 hb2 o => World.frozen?_of_block (a := ⟨b, o, none⟩) (hf.block b (by omega) (by omega) (fun q => by have := ho b q; omega))
  exact ⟨fun j u hu => (c G (by omega) (by omega) j).trans (h1 j u hu), (c _ (by omega) (by omega) 0).trans h2, (c _ (by omega) (by omega) 1).trans h3, (c _ (by omega) (by omega) 0).trans h4, (c _ (by omega) (by omega) 1).trans h5, fun o => (f _ (by omega) (by omega) o).trans (h6 o), fun o => (f _ (by omega) (by omega) o).trans (h7 o), by omega⟩
theorem off3_nil (G : Nat) : Off3 nilV G := fun k hk => absurd hk (by simp [Value.ownBlock])
theorem Off3.moved {G : Nat} {v v' : Value} {w : World} (h : Off3 v G) (hm : Moved w v v') (hz : G + 2 < w.heap.size) : Off3 v' G := fun k hk => by
  rcases hm with hm | hm
  · exact h k (hm ▸ hk)
  · have := hm k hk; omega

/-- The state amid a call. -/
def St (w : World) (Qr Qs : Nat → Prop) (gp gr gq gs base G : Nat) (d : OpD) (ep : Int) (vp : Value) (Lp : List ByteArray) (eq : Int) (vq : Value) (Lq : List ByteArray) (er : Int) (R : List ByteArray) (es : Int) (S : List ByteArray) (X1 : Bool) (X2 : Int) (Y1 : Bool) (Y2 : Int) (wx : World) : Prop :=
  Mix w Qr Qs gp gr gq gs base ep vp Lp eq vq Lq er R es S wx ∧ Scr G d X1 X2 Y1 Y2 wx ∧ Off3 vp G ∧ Off3 vq G ∧ base ≤ G

section
variable {w wx w' : World} {Qr Qs : Nat → Prop} {gp gr gq gs base G : Nat} {d : OpD} {ep eq er es : Int} {vp vq : Value} {Lp Lq R S : List ByteArray} {X1 Y1 : Bool} {X2 Y2 : Int}
theorem St.pen (l : Lay4 w Qr Qs gp gr gq gs base) (hm : St w Qr Qs gp gr gq gs base G d ep vp Lp eq vq Lq er R es S X1 X2 Y1 Y2 wx) {E : Int} {X : List ByteArray} {r : Ending} (h : PutPost23 gp ep E vp Lp X wx r w') :
    r = .returned (.tuple #[]) ∧ ∃ v', St w Qr Qs gp gr gq gs base G d (firstE ep E) v' (Lp ++ X) eq vq Lq er R es S X1 X2 Y1 Y2 w' := by
  obtain ⟨m1, m2, m3, m4, m5⟩ := hm
  obtain ⟨h1, v', h2, h3, h4⟩ := m1.pen l h
  have a2 := l.hr; have a3 := l.hq; have a4 := l.hs; have a5 := l.hb
  exact ⟨h1, v', h2, m2.frm h3 (by omega) m3, m3.moved h4 m2.2.2.2.2.2.2.2, m4, m5⟩
theorem St.row (l : Lay4 w Qr Qs gp gr gq gs base) (hm : St w Qr Qs gp gr gq gs base G d ep vp Lp eq vq Lq er R es S X1 X2 Y1 Y2 wx) {E : Int} {X : List ByteArray} {r : Ending} (h : RowPost gq eq E vq Lq X wx r w') :
    r = .returned (.tuple #[]) ∧ ∃ v', St w Qr Qs gp gr gq gs base G d ep vp Lp (firstE eq E) v' (Lq ++ X) er R es S X1 X2 Y1 Y2 w' := by
  obtain ⟨m1, m2, m3, m4, m5⟩ := hm
  obtain ⟨h1, v', h2, h3, h4⟩ := m1.row l h
  have a2 := l.hr; have a3 := l.hq; have a4 := l.hs; have a5 := l.hb
  exact ⟨h1, v', h2, m2.frm h3 (by omega) m4, m3, m4.moved h4 m2.2.2.2.2.2.2.2, m5⟩
theorem St.eye (l : Lay4 w Qr Qs gp gr gq gs base) (hm : St w Qr Qs gp gr gq gs base G d ep vp Lp eq vq Lq er R es S X1 X2 Y1 Y2 wx) {x : Value} {e2 : Int} {R2 : List ByteArray} {r : Ending} (h : EyePost Qr gr x e2 R2 wx r w') :
    r = .returned x ∧ St w Qr Qs gp gr gq gs base G d ep vp Lp eq vq Lq e2 R2 es S X1 X2 Y1 Y2 w' := by
  obtain ⟨m1, m2, m3, m4, m5⟩ := hm
  obtain ⟨h1, h2, h3⟩ := m1.eye l h
  have a2 := l.hr; have a3 := l.hq; have a4 := l.hs; have a5 := l.hb
  exact ⟨h1, h2, m2.frm h3 (by omega) (off3_nil G), m3, m4, m5⟩
theorem St.rowR (l : Lay4 w Qr Qs gp gr gq gs base) (hm : St w Qr Qs gp gr gq gs base G d ep vp Lp eq vq Lq er R es S X1 X2 Y1 Y2 wx) {x : Value} {e2 : Int} {R2 : List ByteArray} {r : Ending} (h : RowRPost Qs gs x e2 R2 wx r w') :
    r = .returned x ∧ St w Qr Qs gp gr gq gs base G d ep vp Lp eq vq Lq er R e2 R2 X1 X2 Y1 Y2 w' := by
  obtain ⟨m1, m2, m3, m4, m5⟩ := hm
  obtain ⟨h1, h2, h3⟩ := m1.rowR l h
  have a2 := l.hr; have a3 := l.hq; have a4 := l.hs; have a5 := l.hb
  exact ⟨h1, h2, m2.frm h3 (by omega) (off3_nil G), m3, m4, m5⟩
theorem St.setA (l : Lay4 w Qr Qs gp gr gq gs base) (hm : St w Qr Qs gp gr gq gs base G d ep vp Lp eq vq Lq er R es S X1 X2 Y1 Y2 wx) (a : Bool) (b : Int) :
    St w Qr Qs gp gr gq gs base G d ep vp Lp eq vq Lq er R es S a b Y1 Y2 ((wx.setCell ⟨G + 1, 0, none⟩ (.bool a)).setCell ⟨G + 1, 1, none⟩ (.int .i64 b)) := by
  obtain ⟨m1, ⟨s1, s2, s3, s4, s5, s6, s7, s8⟩, m3, m4, m5⟩ := hm
  obtain ⟨p0, p1⟩ := two_cells wx (G + 1) (.bool a) (.int .i64 b) _ _ s2 s3
  have k : ∀ g o, g ≠ G + 1 → ((wx.setCell ⟨G + 1, 0, none⟩ (.bool a)).setCell ⟨G + 1, 1, none⟩ (.int .i64 b)).cell? ⟨g, o, none⟩ = wx.cell? ⟨g, o, none⟩ := fun g o hg => by
    rw [World.cell?_setCell_other _ _ _ _ (fun q => by injection q with q; exact hg q.symm), World.cell?_setCell_other _ _ _ _ (fun q => by injection q with q; exact hg q.symm)]
  refine ⟨(m1.set l (by omega) (fun q => (m3 _ q).2.1 rfl) (fun q => (m4 _ q).2.1 rfl) 0 _).set l (by omega) (fun q => (m3 _ q).2.1 rfl) (fun q => (m4 _ q).2.1 rfl) 1 _, ⟨fun j u hu => (k G j (by omega)).trans (s1 j u hu), p0, p1, (k _ 0 (by omega)).trans s4, (k _ 1 (by omega)).trans s5, fun o => by simpa using s6 o, fun o => by simpa using s7 o, by simpa using s8⟩, m3, m4, m5⟩
theorem St.setB (l : Lay4 w Qr Qs gp gr gq gs base) (hm : St w Qr Qs gp gr gq gs base G d ep vp Lp eq vq Lq er R es S X1 X2 Y1 Y2 wx) (a : Bool) (b : Int) :
    St w Qr Qs gp gr gq gs base G d ep vp Lp eq vq Lq er R es S X1 X2 a b ((wx.setCell ⟨G + 2, 0, none⟩ (.bool a)).setCell ⟨G + 2, 1, none⟩ (.int .i64 b)) := by
  obtain ⟨m1, ⟨s1, s2, s3, s4, s5, s6, s7, s8⟩, m3, m4, m5⟩ := hm
  obtain ⟨p0, p1⟩ := two_cells wx (G + 2) (.bool a) (.int .i64 b) _ _ s4 s5
  have k : ∀ g o, g ≠ G + 2 → ((wx.setCell ⟨G + 2, 0, none⟩ (.bool a)).setCell ⟨G + 2, 1, none⟩ (.int .i64 b)).cell? ⟨g, o, none⟩ = wx.cell? ⟨g, o, none⟩ := fun g o hg => by
    rw [World.cell?_setCell_other _ _ _ _ (fun q => by injection q with q; exact hg q.symm), World.cell?_setCell_other _ _ _ _ (fun q => by injection q with q; exact hg q.symm)]
  refine ⟨(m1.set l (by omega) (fun q => (m3 _ q).2.2 rfl) (fun q => (m4 _ q).2.2 rfl) 0 _).set l (by omega) (fun q => (m3 _ q).2.2 rfl) (fun q => (m4 _ q).2.2 rfl) 1 _, ⟨fun j u hu => (k G j (by omega)).trans (s1 j u hu), (k _ 0 (by omega)).trans s2, (k _ 1 (by omega)).trans s3, p0, p1, fun o => by simpa using s6 o, fun o => by simpa using s7 o, by simpa using s8⟩, m3, m4, m5⟩
/-- A call begins: its three blocks. -/
theorem St.start (hm : Mix w Qr Qs gp gr gq gs base ep vp Lp eq vq Lq er R es S wx) {o : Array Value} {T : TypeId} (ho : ∀ (j : Nat) (u : Value), d.vals[j]? = some u → o[j]? = some u) :
    St w Qr Qs gp gr gq gs base wx.heap.size d ep vp Lp eq vq Lq er R es S false 0 false 0 (((wx.alloc (.cells o T)).alloc (numO false 0)).alloc (numO false 0)) := by
  have z1 : (wx.alloc (.cells o T)).heap.size = wx.heap.size + 1 := by simp
  have z2 : ((wx.alloc (.cells o T)).alloc (numO false 0)).heap.size = wx.heap.size + 2 := by simp
  have hb : Below wx.heap.size wx (((wx.alloc (.cells o T)).alloc (numO false 0)).alloc (numO false 0)) := bthen (bthen (below_new _ _) (below_new _ _)) (below_new _ _)
  have lt : ∀ v : Value, ∀ xs n B, wx.ownsRow B 9 1 v n xs → Off3 v wx.heap.size := fun v xs n B h k hk => by have := (h.lt k hk).2; omega
  refine ⟨hm.keep hb, ⟨fun j u hu => ?_, ?_, ?_, ?_, ?_, fun k => ?_, fun k => ?_, by simp⟩, lt _ _ _ _ hm.1.2.2.2.2.2, lt _ _ _ _ hm.2.1.2.2.2.2, hm.2.2.2.2.2.2.2⟩
  · rw [World.cell?_alloc_past _ _ _ (by omega), World.cell?_alloc_past _ _ _ (by omega), World.cell?_alloc_at _ _ _ _ rfl]; exact ho j u hu
  · rw [World.cell?_alloc_past _ _ _ (by omega), World.cell?_alloc_at _ _ _ _ z1.symm]; rfl
  · rw [World.cell?_alloc_past _ _ _ (by omega), World.cell?_alloc_at _ _ _ _ z1.symm]; rfl
  · rw [World.cell?_alloc_at _ _ _ _ z2.symm]; rfl
  · rw [World.cell?_alloc_at _ _ _ _ z2.symm]; rfl
  · rw [frozen?_alloc_cells, frozen?_alloc_cells, frozen?_alloc_cells]; exact frozen_past _ _ _ (by omega)
  · rw [frozen?_alloc_cells, frozen?_alloc_cells, frozen?_alloc_cells]; exact frozen_past _ _ _ (by omega)
end
end Go.Proofs.YtpaejoikfnmdhaaDoor
