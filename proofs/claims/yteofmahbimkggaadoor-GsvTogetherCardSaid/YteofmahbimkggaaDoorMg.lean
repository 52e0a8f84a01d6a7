/- Layer 23: Num and Angle of an eye, of a row that is read. -/
import Derived.Test.YteofmahbimkggaaDoorMf
import Derived.Deep.RegionWith
import Derived.Deep.DeepCutAuto
namespace Go.Proofs.YteofmahbimkggaaDoor
set_option linter.unusedVariables false
open Go.RowKit
variable {Q : Nat → Prop}

abbrev colO (W M F L H : Int) : Obj := .cells #[.int .i64 W, .int .i64 M, .int .i64 F, .int .i64 L, .int .i64 H] 61
abbrev numO (b : Bool) (n : Int) : Obj := .cells #[.bool b, .int .i64 n] 51
theorem Frm.step {g : Nat} {w w1 w2 : World} (h : Frm g nilV w w1) (k : Frm g nilV w1 w2) : Frm g nilV w w2 := h.trans k (.inl rfl)
theorem Frm.draw {g : Nat} {v : Value} {w w1 : World} (h : Frm g v w w1) : Frm g v w w1.drew := ⟨h.os, h.tape, h.output, h.size, h.block⟩
/-- What stays of the memory behind a text was read: cells and bounds. -/
theorem frm_cells {g : Nat} {w w' : World} (h : Frm g nilV w w') {b : Nat} (hb : b < w.heap.size) (hg : b ≠ g) : ∀ o, w'.cell? ⟨b, o, none⟩ = w.cell? ⟨b, o, none⟩ := fun o => h.cell hb hg (by simp [Value.ownBlock])
theorem frm_frozen {g : Nat} {w w' : World} (h : Frm g nilV w w') {b : Nat} (hb : b < w.heap.size) (hg : b ≠ g) : ∀ o, w'.frozen? ⟨b, o, none⟩ = w.frozen? ⟨b, o, none⟩ := fun o => World.frozen?_of_block (a := ⟨b, o, none⟩) (h.block b hb hg (by simp [Value.ownBlock]))

theorem EyeR.far {w : World} {g G o : Nat} {e : Int} {R : List ByteArray} {u : Value} (h : EyeR Q w g e R) (hG : ¬ Q G) (hg : G ≠ g) : EyeR Q (w.setCell ⟨G, o, none⟩ u) g e R := by
  obtain ⟨A, c, h0, h1, h2, h3, h4, h5, hB, h6, h7, h8⟩ := h
  have k : ∀ j, (w.setCell ⟨G, o, none⟩ u).cell? ⟨g, j, none⟩ = w.cell? ⟨g, j, none⟩ := fun j => World.cell?_setCell_other _ _ _ _ (fun q => by injection q with q; exact hg q)
  refine ⟨A, c, (k 0).trans h0, (k 1).trans h1, (k 2).trans h2, fun o => by simpa using h3 o, by simpa using h4, fun j hj => ?_, by simpa using hB, h6, h7, h8⟩
  obtain ⟨b, off, e1, e2, e3⟩ := h5 j hj
  exact ⟨b, off, e1, e2, (World.cell?_setCell_other _ _ _ _ (fun q => hG (by injection q with q; rw [q]; exact e2))).trans e3⟩
theorem RowR.far {w : World} {g G o : Nat} {e : Int} {R : List ByteArray} {u : Value} (h : RowR Q w g e R) (hG : ¬ Q G) (hg : G ≠ g) : RowR Q (w.setCell ⟨G, o, none⟩ u) g e R := by
  obtain ⟨A, c, fs, at_, h0, h1, h2, h3, h4, h5, hB, h6, h7, h8, h9⟩ := h
  have k : ∀ j, (w.setCell ⟨G, o, none⟩ u).cell? ⟨g, j, none⟩ = w.cell? ⟨g, j, none⟩ := fun j => World.cell?_setCell_other _ _ _ _ (fun q => by injection q with q; exact hg q)
  refine ⟨A, c, fs, at_, (k 0).trans h0, (k 1).trans h1, (k 2).trans h2, fun o => by simpa using h3 o, by simpa using h4, fun j hj => ?_, by simpa using hB, h6, h7, h8, h9⟩
  obtain ⟨b, off, e1, e2, e3⟩ := h5 j hj
  exact ⟨b, off, e1, e2, (World.cell?_setCell_other _ _ _ _ (fun q => hG (by injection q with q; rw [q]; exact e2))).trans e3⟩
theorem Frm.put {g G o : Nat} {w w1 : World} {u : Value} (h : Frm g nilV w w1) (hG : w.heap.size ≤ G) : Frm g nilV w (w1.setCell ⟨G, o, none⟩ u) :=
  ⟨h.os, h.tape, h.output, by simpa using h.size, fun k hk h1 h2 => (Below.heap_setCell _ _ _ _ (by show k ≠ G; omega)).trans (h.block k hk h1 h2)⟩

/-- A new number's block beside. -/
def TextE (w : World) (w' : World) : Prop := w'.cell? ⟨w.heap.size + 1 + 1, 0, none⟩ = some (.bool false) ∧ w'.cell? ⟨w.heap.size + 1 + 1, 1, none⟩ = some (.int .i64 0) ∧ w'.frozen? ⟨w.heap.size + 1 + 1, 0, none⟩ = false ∧ w'.frozen? ⟨w.heap.size + 1 + 1, 1, none⟩ = false ∧ w.heap.size + 1 + 1 < w'.heap.size

/-- Behind the text. -/
def TextLEye (Q : Nat → Prop) (w : World) (g : Nat) (e1 : Int) (R1 : List ByteArray) (W M F L H : Int) (w' : World) : Prop :=
  Hid (EyeR Q w' g e1 R1) ∧ Hid (Frm g nilV w w') ∧ w'.cell? ⟨w.heap.size, 0, none⟩ = some (.int .i64 W) ∧ w'.cell? ⟨w.heap.size, 1, none⟩ = some (.int .i64 M) ∧ w'.cell? ⟨w.heap.size, 2, none⟩ = some (.int .i64 F) ∧ w'.cell? ⟨w.heap.size, 3, none⟩ = some (.int .i64 L) ∧ w'.cell? ⟨w.heap.size, 4, none⟩ = some (.int .i64 H) ∧ Hid (∀ o, w'.cell? ⟨w.heap.size + 1, o, none⟩ = (#[Value.bool false, .int .i64 0] : Array Value)[o]?) ∧ Hid (∀ o, w'.frozen? ⟨w.heap.size + 1, o, none⟩ = false) ∧ w.heap.size + 1 < w'.heap.size ∧ w.heap.size < w'.heap.size
/-- Behind the statement that draws its order. -/
def NumAtEye (Q : Nat → Prop) (w : World) (g : Nat) (e1 : Int) (R1 : List ByteArray) (b : Bool) (n E : Int) (s5 s6 : Value) (wx : World) : Prop :=
  ∃ G, s5 = .pointer (some ⟨G, 0, none⟩) ∧ s6 = .int .i64 E ∧ wx.cell? ⟨G, 0, none⟩ = some (.bool b) ∧ wx.cell? ⟨G, 1, none⟩ = some (.int .i64 n) ∧ (∀ o, wx.cell? ⟨w.heap.size + 1, o, none⟩ = (#[Value.bool false, .int .i64 0] : Array Value)[o]?) ∧ Hid (Frm g nilV w wx) ∧ G < wx.heap.size ∧ w.heap.size + 1 < G ∧ (∀ o, wx.frozen? ⟨w.heap.size + 1, o, none⟩ = false) ∧ Hid (EyeR Q wx g e1 R1)
theorem numAtEye_late {w W0 w1 : World} {g : Nat} {e1 : Int} {R1 : List ByteArray} {b : Bool} {n E : Int} (hb : Below W0.heap.size W0 w1) (h0 : ∀ o, W0.cell? ⟨w.heap.size + 1, o, none⟩ = (#[Value.bool false, .int .i64 0] : Array Value)[o]?) (hz : w.heap.size + 1 < W0.heap.size) (hfz : ∀ o, W0.frozen? ⟨w.heap.size + 1, o, none⟩ = false) (hf : Frm g nilV w W0) (hr : EyeR Q W0 g e1 R1) :
    NumAtEye Q w g e1 R1 b n E (.pointer (some ⟨w1.heap.size, 0, none⟩)) (.int .i64 E) (w1.alloc (numO b n)) := by
  have hz1 := hb.size
  exact ⟨w1.heap.size, rfl, rfl, by simp [World.cell?_alloc_at], by simp [World.cell?_alloc_at], fun o => (World.cell?_alloc_past _ _ _ (by omega)).trans (((bcell hb).1 _ o hz).trans (h0 o)), Lib.hid ((hf.then_below hb).then_below (below_new _ _)), by simp, by omega, fun o => by rw [frozen?_alloc_cells, (bcell hb).2 _ o hz, hfz], Lib.hid ((hr.keep hb).keep (below_new _ _))⟩
theorem numAtEye_early {w W0 w1 : World} {g : Nat} {e1 : Int} {R1 : List ByteArray} {b : Bool} {n E : Int} {G : Nat} (hb : Below W0.heap.size W0 w1) (hBw : ∀ b, Q b → b < w.heap.size) (hg : g < w.heap.size) (g0 : W0.cell? ⟨G, 0, none⟩ = some (.bool false)) (g1 : W0.cell? ⟨G, 1, none⟩ = some (.int .i64 0)) (hG : w.heap.size + 1 < G) (hG2 : G < W0.heap.size) (h0 : ∀ o, W0.cell? ⟨w.heap.size + 1, o, none⟩ = (#[Value.bool false, .int .i64 0] : Array Value)[o]?) (hfz : ∀ o, W0.frozen? ⟨w.heap.size + 1, o, none⟩ = false) (hf : Frm g nilV w W0) (hr : EyeR Q W0 g e1 R1) :
    NumAtEye Q w g e1 R1 b n E (.pointer (some ⟨G, 0, none⟩)) (.int .i64 E) ((w1.setCell ⟨G, 0, none⟩ (.bool b)).setCell ⟨G, 1, none⟩ (.int .i64 n)) := by
  have hz1 := hb.size
  obtain ⟨p0, p1⟩ := two_cells w1 G (.bool b) (.int .i64 n) _ _ (((bcell hb).1 G 0 hG2).trans g0) (((bcell hb).1 G 1 hG2).trans g1)
  have hne : ∀ o j, (⟨G, j, none⟩ : Addr) ≠ ⟨w.heap.size + 1, o, none⟩ := fun o j e => by injection e with e; omega
  have k : ∀ o, ((w1.setCell ⟨G, 0, none⟩ (.bool b)).setCell ⟨G, 1, none⟩ (.int .i64 n)).cell? ⟨w.heap.size + 1, o, none⟩ = w1.cell? ⟨w.heap.size + 1, o, none⟩ := fun o => by
    rw [World.cell?_setCell_other _ _ _ _ (hne o 1), World.cell?_setCell_other _ _ _ _ (hne o 0)]
  refine ⟨G, rfl, rfl, p0, p1, fun o => (k o).trans (((bcell hb).1 _ o (by omega)).trans (h0 o)), Lib.hid (((hf.then_below hb).put (by omega)).put (by omega)), by simp; omega, hG, fun o => ?_, Lib.hid (((hr.keep hb).far (fun q => by have := hBw _ q; omega) (by omega)).far (fun q => by have := hBw _ q; omega) (by omega))⟩
  simp only [World.frozen?_setCell]
  rw [(bcell hb).2 _ o (by omega), hfz]

/-- Behind the text. -/
def TextLRowT (Q : Nat → Prop) (w : World) (g : Nat) (e1 : Int) (R1 : List ByteArray) (W M F L H : Int) (w' : World) : Prop :=
  Hid (RowR Q w' g e1 R1) ∧ Hid (Frm g nilV w w') ∧ w'.cell? ⟨w.heap.size, 0, none⟩ = some (.int .i64 W) ∧ w'.cell? ⟨w.heap.size, 1, none⟩ = some (.int .i64 M) ∧ w'.cell? ⟨w.heap.size, 2, none⟩ = some (.int .i64 F) ∧ w'.cell? ⟨w.heap.size, 3, none⟩ = some (.int .i64 L) ∧ w'.cell? ⟨w.heap.size, 4, none⟩ = some (.int .i64 H) ∧ Hid (∀ o, w'.cell? ⟨w.heap.size + 1, o, none⟩ = (#[Value.bool false, .int .i64 0] : Array Value)[o]?) ∧ Hid (∀ o, w'.frozen? ⟨w.heap.size + 1, o, none⟩ = false) ∧ w.heap.size + 1 < w'.heap.size ∧ w.heap.size < w'.heap.size
/-- Behind the statement that draws its order. -/
def NumAtRowT (Q : Nat → Prop) (w : World) (g : Nat) (e1 : Int) (R1 : List ByteArray) (b : Bool) (n E : Int) (s5 s6 : Value) (wx : World) : Prop :=
  ∃ G, s5 = .pointer (some ⟨G, 0, none⟩) ∧ s6 = .int .i64 E ∧ wx.cell? ⟨G, 0, none⟩ = some (.bool b) ∧ wx.cell? ⟨G, 1, none⟩ = some (.int .i64 n) ∧ (∀ o, wx.cell? ⟨w.heap.size + 1, o, none⟩ = (#[Value.bool false, .int .i64 0] : Array Value)[o]?) ∧ Hid (Frm g nilV w wx) ∧ G < wx.heap.size ∧ w.heap.size + 1 < G ∧ (∀ o, wx.frozen? ⟨w.heap.size + 1, o, none⟩ = false) ∧ Hid (RowR Q wx g e1 R1)
theorem numAtRowT_late {w W0 w1 : World} {g : Nat} {e1 : Int} {R1 : List ByteArray} {b : Bool} {n E : Int} (hb : Below W0.heap.size W0 w1) (h0 : ∀ o, W0.cell? ⟨w.heap.size + 1, o, none⟩ = (#[Value.bool false, .int .i64 0] : Array Value)[o]?) (hz : w.heap.size + 1 < W0.heap.size) (hfz : ∀ o, W0.frozen? ⟨w.heap.size + 1, o, none⟩ = false) (hf : Frm g nilV w W0) (hr : RowR Q W0 g e1 R1) :
    NumAtRowT Q w g e1 R1 b n E (.pointer (some ⟨w1.heap.size, 0, none⟩)) (.int .i64 E) (w1.alloc (numO b n)) := by
  have hz1 := hb.size
  exact ⟨w1.heap.size, rfl, rfl, by simp [World.cell?_alloc_at], by simp [World.cell?_alloc_at], fun o => (World.cell?_alloc_past _ _ _ (by omega)).trans (((bcell hb).1 _ o hz).trans (h0 o)), Lib.hid ((hf.then_below hb).then_below (below_new _ _)), by simp, by omega, fun o => by rw [frozen?_alloc_cells, (bcell hb).2 _ o hz, hfz], Lib.hid ((hr.keep hb).keep (below_new _ _))⟩
theorem numAtRowT_early {w W0 w1 : World} {g : Nat} {e1 : Int} {R1 : List ByteArray} {b : Bool} {n E : Int} {G : Nat} (hb : Below W0.heap.size W0 w1) (hBw : ∀ b, Q b → b < w.heap.size) (hg : g < w.heap.size) (g0 : W0.cell? ⟨G, 0, none⟩ = some (.bool false)) (g1 : W0.cell? ⟨G, 1, none⟩ = some (.int .i64 0)) (hG : w.heap.size + 1 < G) (hG2 : G < W0.heap.size) (h0 : ∀ o, W0.cell? ⟨w.heap.size + 1, o, none⟩ = (#[Value.bool false, .int .i64 0] : Array Value)[o]?) (hfz : ∀ o, W0.frozen? ⟨w.heap.size + 1, o, none⟩ = false) (hf : Frm g nilV w W0) (hr : RowR Q W0 g e1 R1) :
    NumAtRowT Q w g e1 R1 b n E (.pointer (some ⟨G, 0, none⟩)) (.int .i64 E) ((w1.setCell ⟨G, 0, none⟩ (.bool b)).setCell ⟨G, 1, none⟩ (.int .i64 n)) := by
  have hz1 := hb.size
  obtain ⟨p0, p1⟩ := two_cells w1 G (.bool b) (.int .i64 n) _ _ (((bcell hb).1 G 0 hG2).trans g0) (((bcell hb).1 G 1 hG2).trans g1)
  have hne : ∀ o j, (⟨G, j, none⟩ : Addr) ≠ ⟨w.heap.size + 1, o, none⟩ := fun o j e => by injection e with e; omega
  have k : ∀ o, ((w1.setCell ⟨G, 0, none⟩ (.bool b)).setCell ⟨G, 1, none⟩ (.int .i64 n)).cell? ⟨w.heap.size + 1, o, none⟩ = w1.cell? ⟨w.heap.size + 1, o, none⟩ := fun o => by
    rw [World.cell?_setCell_other _ _ _ _ (hne o 1), World.cell?_setCell_other _ _ _ _ (hne o 0)]
  refine ⟨G, rfl, rfl, p0, p1, fun o => (k o).trans (((bcell hb).1 _ o (by omega)).trans (h0 o)), Lib.hid (((hf.then_below hb).put (by omega)).put (by omega)), by simp; omega, hG, fun o => ?_, Lib.hid (((hr.keep hb).far (fun q => by have := hBw _ q; omega) (by omega)).far (fun q => by have := hBw _ q; omega) (by omega))⟩
  simp only [World.frozen?_setCell]
  rw [(bcell hb).2 _ o (by omega), hfz]

end Go.Proofs.YteofmahbimkggaaDoor

/- Layer 23: Angle of an eye, of a row that is read. -/
namespace Go.Proofs.YteofmahbimkggaaDoor
set_option linter.unusedVariables false
open Go.RowKit
variable {Q : Nat → Prop}

end Go.Proofs.YteofmahbimkggaaDoor

/- Layer 23: Look. -/
namespace Go.Proofs.YteofmahbimkggaaDoor
set_option linter.unusedVariables false
open Go.RowKit

/-- A slice of texts that the call made. -/
def TextsPost2 (fs : List ByteArray) (w : World) (v : Value) (w' : World) : Prop :=
  ∃ A c, v = .slice A fs.length c ∧ fs.length ≤ c ∧ (∀ a, A = some a → a.block < w'.heap.size) ∧ (A = none → c = 0) ∧ Strs w' w'.heap.size A fs ∧ FreshA w.heap.size A ∧ Below w.heap.size w w'
set_option maxRecDepth 8000 in
set_option maxHeartbeats 2000000 in
theorem Clone2_any (A : Option Addr) (fs : List ByteArray) (c : Nat) (w : World) (hA : A = none → c = 0) (hs : Strs w w.heap.size A fs) (hn : fs.length ≤ 1000000) :
    Calls Tryd.prog 28 #[.slice A fs.length c] w fun e w' => ∃ v, e = .returned v ∧ TextsPost2 fs w v w' := by
  cases A with
  | none =>
    obtain rfl := hA rfl
    have hl : fs = [] := by
      cases fs with
      | nil => rfl
      | cons a l => obtain ⟨b, off, hA, -⟩ := hs 0 (by simp); cases hA
    subst hl
    clear hs hA
    change Calls Tryd.prog 28 #[.slice none 0 0] w _
    have EQ : ∀ W : World, (binOp .eql 41 (.slice none 0 0) (.slice none 0 0)).run Tryd.prog W = .ok (.bool true) W := fun W => Lib.run_eql_slice_nil W 41 9 none 0 0 0 0 Tryd.underlying41
    go_enter Tryd.func28, Tryd.ntmps28
    go_wp2
    go_ret
    exact ⟨_, rfl, none, 0, rfl, Nat.le_refl _, (fun a h => by cases h), fun _ => rfl, fun k hk => absurd hk (by simp), FreshA.none_, Below.refl _ _⟩
  | some a =>
    obtain ⟨i0, hi, hz0, hz1, hz2⟩ := info_partsP str_infoP
    obtain ⟨n, hln⟩ : ∃ n, fs.length = n := ⟨_, rfl⟩
    have HLN := Lib.hid hln
    have HS := Lib.hid hs
    rw [hln] at hn ⊢
    clear hs hA hln
    have hown : (w.alloc (.cells #[] 9)).ownsRow w.heap.size 9 1 (.slice (some ⟨w.heap.size, 0, none⟩) 0 0) 0 [] := World.ownsRow_made w #[] 0 (Nat.le_refl _) (by decide) rfl
    have HO := Lib.hid hown
    clear hown
    have EQ : ∀ W : World, (binOp .eql 41 (.slice (some a) n c) (.slice none 0 0)).run Tryd.prog W = .ok (.bool false) W := fun W => Lib.run_eql_slice_nil W 41 9 (some a) n c 0 0 Tryd.underlying41
    go_enter Tryd.func28, Tryd.ntmps28
    go_wp2_with (at_builtin; refine wpList_append_own _ rfl _ _ 41 rfl w.heap.size 9 i0 (.string ByteArray.empty) 1 16 Tryd.underlying41 hi hz0 hz1 hz2 rfl (by decide) _ _ _ rfl HO.out a n c (fs.map Value.string) rfl (by simp [HLN.out]) ?c1 ?c2 ?c3 ?c4 ?c5 ?_)
    case c1 =>
      intro j u hu
      rw [List.getElem?_map] at hu
      have hj : j < fs.length := by
        rcases Nat.lt_or_ge j fs.length with k | k
        · exact k
        · rw [List.getElem?_eq_none k] at hu; cases hu
      rw [List.getElem?_eq_getElem hj] at hu
      injection hu with hu
      obtain ⟨b, off, hA, hb, hc⟩ := HS.out j hj
      injection hA with hA
      subst hA
      have e1 : (⟨b, off, none⟩ : Addr).add j = ⟨b, off + j, none⟩ := by unfold Addr.add; split <;> simp_all
      rw [e1, World.cell?_alloc_past _ _ _ hb, hc, ← hu]
    case c2 => intro u hu; obtain ⟨s, -, rfl⟩ := List.mem_map.1 hu; rfl
    case c3 => unfold maxLen; omega
    case c4 => omega
    case c5 => simp
    intro v' w2 hown' hgrow _
    have HPOST : Hid (TextsPost2 fs w v' w2) := by
      obtain ⟨A, c', rfl⟩ := own_formP hown'
      obtain ⟨h1, h2, h3⟩ := strs_of_ownP hown'
      have hcap : fs.length ≤ c' := by
        rw [h1]
        rcases hown'.2 with ⟨_, h0⟩ | ⟨g, cap, cur, hv, _, _, hn, _⟩
        · omega
        · injection hv with _ _ hv; omega
      have hblk : ∀ a, A = some a → a.block < w2.heap.size := fun a ha => by
        subst ha
        rcases hown'.2 with ⟨hv, _⟩ | ⟨g, cap, cur, hv, _, hg, _⟩
        · injection hv with hv; cases hv
        · injection hv with hv
          injection hv with hv
          rw [hv]
          exact (Array.getElem?_eq_some_iff.1 hg).1
      refine ⟨A, c', by rw [h1], hcap, hblk, fun hA => ?_, h2, h3, ((below_new w _).grown hgrow (by simp) (fun k hk => (HO.out.lt k hk).1))⟩
      subst hA
      rcases hown'.2 with ⟨hv, _⟩ | ⟨g, cap, cur, hv, _⟩
      · injection hv
      · cases hv
    clear hown' hgrow HO HS
    go_wp2_with fail
    go_ret
    exact ⟨_, rfl, HPOST.out⟩


/-- A new eye. -/
def LookPost (fs : List ByteArray) (w : World) (r : Ending) (w' : World) : Prop :=
  ∃ g, r = .returned (.pointer (some ⟨g, 0, none⟩)) ∧ EyeR (fun b => w.heap.size ≤ b ∧ b < g) w' g 0 fs ∧ w.heap.size ≤ g ∧ w'.heap.size = g + 1 ∧ Below w.heap.size w w'
end Go.Proofs.YteofmahbimkggaaDoor
