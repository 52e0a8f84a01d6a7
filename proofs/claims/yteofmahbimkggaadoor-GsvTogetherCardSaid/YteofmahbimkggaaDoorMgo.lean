/- Layer 29: the law GsvBooks, walked. -/
import Derived.Test.YteofmahbimkggaaDoorMgn
namespace Go.Proofs.YteofmahbimkggaaDoor
set_option linter.unusedVariables false
open Go.RowKit

/-- Messages that came in. -/
def Msgs (Q : Nat → Prop) (w : World) (A : Option Addr) (n : Nat) : Prop :=
  ∀ i, i < n → ∃ (b off : Nat) (T N S : Int) (Ai : Option Addr) (ci : Nat) (L : List V4), A = some ⟨b, off, none⟩ ∧ Q b ∧ L.length ≤ maxLen ∧ (∀ (j : Nat) u, (gsvC T N S Ai L.length ci)[j]? = some u → w.cell? ⟨b, off + i * 4 + j, none⟩ = some u) ∧ FlatQ Q w Ai (vsC L)
theorem Msgs.keep {Q : Nat → Prop} {w w' : World} {A : Option Addr} {n : Nat} (h : Msgs Q w A n) (hk : ∀ b, Q b → w'.heap[b]? = w.heap[b]?) : Msgs Q w' A n := fun i hi => by
  obtain ⟨b, off, T, N, S, Ai, ci, L, h1, h2, h3, h4, h5⟩ := h i hi
  exact ⟨b, off, T, N, S, Ai, ci, L, h1, h2, h3, fun j u hu => (World.cell?_of_block (a := ⟨b, off + i * 4 + j, none⟩) (hk b h2)).trans (h4 j u hu), h5.keep hk⟩
theorem addK_len (k : Bk) (m : GsvD) : (addK k m).L.length ≤ k.L.length + 4 := by
  unfold addK
  split
  · rename_i h
    unfold fitB fitK at h
    split
    · unfold fitK
      split
      · rename_i h1 h2
        simp [h2] at h
      · rename_i h1 h2
        have hb : ¬ (m.T < 1 ∨ 9 < m.T ∨ m.N < 1 ∨ m.T < m.N ∨ 4 < m.L.length) := h2
        split <;> simp <;> omega
    · exact Nat.zero_le _
  · exact Nat.zero_le _
theorem addO_len (k : Bk) (m : GsvD) : (addO k m).length ≤ k.L.length + 4 := by
  unfold addO
  split
  · rename_i h
    unfold fitB fitK at h
    split
    · exact Nat.zero_le _
    · unfold fitK
      split
      · rename_i h1 h2
        simp [h2] at h
      · rename_i h1 h2
        have hb : ¬ (m.T < 1 ∨ 9 < m.T ∨ m.N < 1 ∨ m.T < m.N ∨ 4 < m.L.length) := h2
        split <;> simp <;> omega
  · exact Nat.zero_le _
theorem gsvNew_bk (w : World) : Calls Tryd.prog 6 #[] w fun e w' => e = .returned (.pointer (some ⟨w.heap.size, 0, none⟩)) ∧ BkP (fun b => b < w.heap.size) w.heap.size ⟨0, 0, []⟩ w' ∧ Below w.heap.size w w' ∧ w'.heap.size = w.heap.size + 1 := by
  go_enter Tryd.func6, Tryd.ntmps6
  go_wp2
  go_ret
  refine ⟨rfl, ⟨.slice none 0 0, by simp [World.cell?_alloc_at], by simp [World.cell?_alloc_at], by simp [World.cell?_alloc_at], by simp [World.cell?_alloc_at], .inl ⟨rfl, none, rfl⟩, fun o => ?_, Nat.lt_irrefl _, fun k hk => by simp; omega⟩, below_new _ _, by simp⟩
  rw [frozen?_alloc_cells]
  exact frozen_past _ _ _ (Nat.le_refl _)
set_option maxRecDepth 8000 in
theorem gsvBooks_many (A : Option Addr) (n c : Nat) (w : World) (h : (60 : Int) < (n : Int)) (hm : n ≤ maxLen) : Calls Tryd.prog 3 #[.slice A n c] w fun e w' => e = .returned (.bool true) ∧ Below w.heap.size w w' := by
  unfold maxLen at hm
  have HK := fun W => Lib.hid (knows29_any W)
  go_enter Tryd.func3, Tryd.ntmps3
  go_wp2_with fail
  refine ((HK _).out).mono ?_
  rintro e w1 ⟨rfl, hb1⟩
  go_wp2_with fail
  go_ret
  exact ⟨rfl, hb1⟩
/-- Both books, side by side. -/
structure Two (w : World) (g h j : Nat) (wr : World) (S : Nat → Prop) (k : Bk) (Aq : Option Addr) (cq : Nat) : Prop where
  bk : BkP S g k wr
  old : ∀ b, b < w.heap.size → S b
  q : ∀ o, wr.cell? ⟨h, o, none⟩ = (rbkC k.T k.N Aq k.L.length cq)[o]?
  sh : S h
  fz : ∀ o, wr.frozen? ⟨h, o, none⟩ = false
  fl : FlatQ S wr Aq (vsC k.L)
  ln : k.L.length ≤ 4 * j
  kp : Below w.heap.size w wr
theorem BkI.grown {S : Nat → Prop} {g : Nat} {T N : Int} {L : List V4} {w w' : World} (h : BkI S g T N L w) (hs : w.heap.size ≤ w'.heap.size) (hk : ∀ b, ¬ S b → b < w.heap.size → w'.heap[b]? = w.heap[b]?) : BkI (fun k => S k ∨ (w.heap.size ≤ k ∧ k < w'.heap.size)) g T N L w' := let ⟨v, a⟩ := h; ⟨v, a.grown hs hk⟩
theorem Two.drewN {w : World} {g h j : Nat} {wr : World} {S : Nat → Prop} {k : Bk} {Aq : Option Addr} {cq : Nat} (t : Two w g h j wr S k Aq cq) (m : Nat) : Two w g h j (wr.drewN m) S k Aq cq :=
  ⟨let ⟨v, a⟩ := t.bk; ⟨v, a.drewN m⟩, t.old, t.q, t.sh, t.fz, t.fl.keep fun _ _ => rfl, t.ln, bdrewN t.kp m⟩
/-- The next round's books. -/
theorem two_next {w : World} {g h j : Nat} {wr w3 wc : World} {S : Nat → Prop} {k K2 : Bk} {Aq B2 : Option Addr} {cq d2 nl : Nat} {T0 N0 : Int} {v0 : Value} (t : Two w g h j wr S k Aq cq) (hz : w.heap.size ≤ h) (hk : BkP S g K2 w3) (hkp : KeptS S wr w3) (hb : Below w3.heap.size w3 wc)
    (hf : FlatQ (fun b => w3.heap.size ≤ b ∧ b < wc.heap.size) wc B2 (vsC K2.L)) (hnl : K2.L.length = nl) (hle : K2.L.length ≤ 4 * (j + 1)) (q0 : wc.cell? ⟨h, 0, none⟩ = some (.int .i64 T0)) (q1 : wc.cell? ⟨h, 1, none⟩ = some (.int .i64 N0)) (q2 : wc.cell? ⟨h, 2, none⟩ = some v0) (zq : ∀ o, wc.frozen? ⟨h, o, none⟩ = false) :
    ∃ S, Two w g h (j + 1) (((wc.setCell ⟨h, 0, none⟩ (.int .i64 K2.T)).setCell ⟨h, 1, none⟩ (.int .i64 K2.N)).setCell ⟨h, 2, none⟩ (.slice B2 nl d2)) S K2 B2 d2 := by
  subst hnl
  have hh : h < w3.heap.size := Nat.lt_of_lt_of_le (t.bk.lt h t.sh) hkp.size
  have h1 := BkI.also hk hb
  have e : ∀ (W : World) (o b : Nat) (v : Value), b ≠ h → (W.setCell ⟨h, o, none⟩ v).heap[b]? = W.heap[b]? := fun W o b v q => Below.heap_setCell _ _ _ _ q
  have ek : ∀ b, b ≠ h → (((wc.setCell ⟨h, 0, none⟩ (.int .i64 K2.T)).setCell ⟨h, 1, none⟩ (.int .i64 K2.N)).setCell ⟨h, 2, none⟩ (.slice B2 K2.L.length d2)).heap[b]? = wc.heap[b]? := fun b q => by rw [e _ _ _ _ q, e _ _ _ _ q, e _ _ _ _ q]
  have h2 := (BkI.grown h1 (w' := ((wc.setCell ⟨h, 0, none⟩ (.int .i64 K2.T)).setCell ⟨h, 1, none⟩ (.int .i64 K2.N)).setCell ⟨h, 2, none⟩ (.slice B2 K2.L.length d2)) (by simp) (fun b q _ => ek b (fun q2 => q (.inl (q2 ▸ t.sh))))).less (fun b q => Or.inl q)
  have o : ∀ (W : World) (i j : Nat) (v : Value), i ≠ j → (W.setCell ⟨h, i, none⟩ v).cell? ⟨h, j, none⟩ = W.cell? ⟨h, j, none⟩ := fun W i j v q => World.cell?_setCell_other _ _ _ _ (fun q' => by injection q' with _ q'; exact q q')
  have hq3 : ∀ j, 3 ≤ j → wc.cell? ⟨h, j, none⟩ = none := fun j hj => by
    have := (bcell hb).1 h j hh
    rw [this, hkp.cell t.sh, t.q j]
    exact Array.getElem?_eq_none (by simpa using hj)
  refine ⟨_, h2, fun b q => .inl (t.old b q), fun j => ?_, .inl t.sh, fun o => by rw [World.frozen?_setCell, World.frozen?_setCell, World.frozen?_setCell]; exact zq o, ?_, hle, ?_⟩
  · rcases (by omega : j = 0 ∨ j = 1 ∨ j = 2 ∨ 3 ≤ j) with rfl | rfl | rfl | hj
    · rw [o _ _ _ _ (by omega), o _ _ _ _ (by omega)]; exact World.cell?_setCell_same _ _ _ q0
    · rw [o _ _ _ _ (by omega)]; exact World.cell?_setCell_same _ _ _ ((o _ _ _ _ (by omega)).trans q1)
    · exact World.cell?_setCell_same _ _ _ ((o _ _ _ _ (by omega)).trans ((o _ _ _ _ (by omega)).trans q2))
    · rw [o _ _ _ _ (by omega), o _ _ _ _ (by omega), o _ _ _ _ (by omega), hq3 j hj]
      exact (Array.getElem?_eq_none (by simpa using hj)).symm
  · exact (hf.keep fun b q => ek b (by omega)).less fun b q => .inr q
  · have hs1 := hkp.below t.old
    have hs2 := t.kp.trans hs1
    have hs3 := hs2.trans (hb.mono hs2.size)
    exact ((hs3.setCell hz _).setCell hz _).setCell hz _
/-- What the reference's Add hands back, stored. -/
def RegP (w3 : World) (T2 N2 : Int) (L2 O2 : List V4) (nl no : Nat) (F2 : Bool) (t9 t10 t11 : Value) (wx : World) : Prop :=
  ∃ p B2 d2 C2 c2, t9 = .pointer (some ⟨p, 0, none⟩) ∧ t10 = .slice C2 no c2 ∧ t11 = .bool F2 ∧ (∀ o, wx.cell? ⟨p, o, none⟩ = (rbkC T2 N2 B2 nl d2)[o]?) ∧ FlatQ (fun b => w3.heap.size ≤ b ∧ b < wx.heap.size) wx B2 (vsC L2) ∧ FlatQ (fun b => w3.heap.size ≤ b ∧ b < wx.heap.size) wx C2 (vsC O2) ∧ Below w3.heap.size w3 wx
theorem regP_late {w3 w4 W : World} {T2 N2 : Int} {L2 O2 : List V4} {nl no : Nat} {F2 : Bool} {B2 C2 : Option Addr} {d2 c2 : Nat} (hb : Below w3.heap.size w3 W) (h2 : FlatQ (fun b => W.heap.size ≤ b ∧ b < w4.heap.size) w4 B2 (vsC L2)) (h3 : FlatQ (fun b => W.heap.size ≤ b ∧ b < w4.heap.size) w4 C2 (vsC O2)) (h4 : Below W.heap.size W w4) :
    RegP w3 T2 N2 L2 O2 nl no F2 (.pointer (some ⟨w4.heap.size, 0, none⟩)) (.slice C2 no c2) (.bool F2) (w4.alloc (.cells (rbkC T2 N2 B2 nl d2) 30)) := by
  have hs := hb.size
  have k : ∀ b, W.heap.size ≤ b ∧ b < w4.heap.size → w3.heap.size ≤ b ∧ b < (w4.alloc (.cells (rbkC T2 N2 B2 nl d2) 30)).heap.size := fun b h => ⟨by omega, by simp; omega⟩
  exact ⟨_, B2, d2, C2, c2, rfl, rfl, rfl, fun o => World.cell?_alloc_at _ _ _ _ (by simp), (h2.below (below_new _ _) fun b h => h.2).less k, (h3.below (below_new _ _) fun b h => h.2).less k, (hb.trans (h4.mono hs)).trans ((below_new _ _).mono (Nat.le_trans hs h4.size))⟩
theorem regP_early {w3 w4 W : World} {T2 N2 : Int} {L2 O2 : List V4} {nl no : Nat} {F2 : Bool} {B2 C2 : Option Addr} {d2 c2 : Nat} (hbW : Below w3.heap.size w3 W) (hw : w3.heap.size < W.heap.size) (h2 : FlatQ (fun b => W.heap.size ≤ b ∧ b < w4.heap.size) w4 B2 (vsC L2)) (h3 : FlatQ (fun b => W.heap.size ≤ b ∧ b < w4.heap.size) w4 C2 (vsC O2)) (h4' : Below W.heap.size W w4)
    (hc : ∀ o, w4.cell? ⟨w3.heap.size, o, none⟩ = (rbkC 0 0 none 0 0)[o]?) :
    RegP w3 T2 N2 L2 O2 nl no F2 (.pointer (some ⟨w3.heap.size, 0, none⟩)) (.slice C2 no c2) (.bool F2) (((w4.setCell ⟨w3.heap.size, 0, none⟩ (.int .i64 T2)).setCell ⟨w3.heap.size, 1, none⟩ (.int .i64 N2)).setCell ⟨w3.heap.size, 2, none⟩ (.slice B2 nl d2)) := by
  have h4 : Below w3.heap.size w3 w4 := hbW.trans (h4'.mono hbW.size)
  have e : ∀ (W : World) (o b : Nat) (v : Value), w3.heap.size + 1 ≤ b → (W.setCell ⟨w3.heap.size, o, none⟩ v).heap[b]? = W.heap[b]? := fun W o b v h => Below.heap_setCell _ _ _ _ (by simp only; omega)
  have hk : ∀ b, W.heap.size ≤ b ∧ b < w4.heap.size → (((w4.setCell ⟨w3.heap.size, 0, none⟩ (.int .i64 T2)).setCell ⟨w3.heap.size, 1, none⟩ (.int .i64 N2)).setCell ⟨w3.heap.size, 2, none⟩ (.slice B2 nl d2)).heap[b]? = w4.heap[b]? := fun b h => by
    rw [e _ _ _ _ (by omega), e _ _ _ _ (by omega), e _ _ _ _ (by omega)]
  have o : ∀ (W : World) (i j : Nat) (v : Value), i ≠ j → (W.setCell ⟨w3.heap.size, i, none⟩ v).cell? ⟨w3.heap.size, j, none⟩ = W.cell? ⟨w3.heap.size, j, none⟩ := fun W i j v h => World.cell?_setCell_other _ _ _ _ (fun q => by injection q with _ q; exact h q)
  refine ⟨_, B2, d2, C2, c2, rfl, rfl, rfl, fun j => ?_, (h2.keep hk).less fun b h => ⟨by omega, by simpa using h.2⟩, (h3.keep hk).less fun b h => ⟨by omega, by simpa using h.2⟩, ((h4.setCell (Nat.le_refl _) _).setCell (Nat.le_refl _) _).setCell (Nat.le_refl _) _⟩
  rcases (by omega : j = 0 ∨ j = 1 ∨ j = 2 ∨ 3 ≤ j) with rfl | rfl | rfl | h
  · rw [o _ _ _ _ (by omega), o _ _ _ _ (by omega)]; exact World.cell?_setCell_same _ _ _ (hc 0)
  · rw [o _ _ _ _ (by omega)]; exact World.cell?_setCell_same _ _ _ ((o _ _ _ _ (by omega)).trans (hc 1))
  · exact World.cell?_setCell_same _ _ _ ((o _ _ _ _ (by omega)).trans ((o _ _ _ _ (by omega)).trans (hc 2)))
  · rw [o _ _ _ _ (by omega), o _ _ _ _ (by omega), o _ _ _ _ (by omega), hc j]
    show (rbkC 0 0 none 0 0)[j]? = (rbkC T2 N2 B2 nl d2)[j]?
    rw [Array.getElem?_eq_none (by simpa using h), Array.getElem?_eq_none (by simpa using h)]
set_option maxRecDepth 8000 in
set_option maxHeartbeats 8000000 in
theorem gsvBooks_few (A : Option Addr) (n c : Nat) (w : World) (hn : n ≤ 60) (hs : Hid (Msgs (fun b => b < w.heap.size) w A n)) : Calls Tryd.prog 3 #[.slice A n c] w fun e w' => e = .returned (.bool true) ∧ Below w.heap.size w w' := by
  have HK := fun W => Lib.hid (knows29_any W)
  have hM : ∀ W, Below w.heap.size w W → Hid (Msgs (fun b => b < w.heap.size) W A n) := fun W hb => hs.out.keep fun b h => hb.block b h
  have hn' : (n : Int) ≤ 60 := by omega
  clear hs
  go_enter Tryd.func3, Tryd.ntmps3
  go_wp2_with fail
  refine ((HK _).out).mono ?_
  rintro e w1 ⟨rfl, hb1⟩
  have HB1 := Lib.hid hb1
  clear hb1
  go_wp2_with fail
  go_loopw [3] (fun i wr => ∃ k : Nat, i = .int .i64 (k : Int) ∧ k ≤ n ∧ Hid (Below w.heap.size w wr)) (fun i _ => n - (intOf i).toNat)
  case atStart => exact ⟨0, rfl, Nat.zero_le _, HB1⟩
  case round =>
    obtain ⟨k, rfl, hk, HB⟩ := hrel
    clear HB1
    by_cases hlt : k < n
    · obtain ⟨b, off, T, N, S, Ai, ci, L, hA, hb, hL, hc, hf⟩ := (hM _ HB.out).out k hlt
      subst hA
      have x3 := hc 3 _ rfl
      have i0 : (0 : Int) ≤ (k : Int) := Int.natCast_nonneg _
      have i1 : (k : Int) < (n : Int) := by omega
      clear hc hf hM
      unfold maxLen at hL
      generalize L.length = m at *
      by_cases h20 : (20 : Int) < (m : Int)
      · go_wp2_with fail
        refine (HK _).out.mono ?_
        rintro r w2 ⟨rfl, hb2⟩
        go_wp2_with fail
        go_ret
        exact ⟨rfl, bthen HB.out hb2⟩
      · have h20' : (m : Int) ≤ 20 := by omega
        go_wp2_with fail
        go_roundw
        case rel => exact ⟨k + 1, by go_num, by omega, HB⟩
        case measure => simp [intOf]; omega
    · obtain rfl : n = k := by omega
      clear HK hlt hk
      go_wp2_with fail
      refine (gsvNew_bk _).mono ?_
      rintro e w2 ⟨rfl, hk2, hb2, hz2⟩
      have HI0 : Hid (∃ S k Aq cq, Two w wr.heap.size w2.heap.size 0 (w2.alloc (.cells (rbkC 0 0 none 0 0) 30)) S k Aq cq) := by
        have hb3 := below_new w2 (.cells (rbkC 0 0 none 0 0) 30)
        have h3 := BkI.also hk2 hb3
        have hs1 := HB.out.size
        refine ⟨_, ⟨0, 0, []⟩, none, 0, ⟨h3, fun b h => .inl (by omega), fun o => World.cell?_alloc_at _ _ _ _ (by simp), .inr ⟨Nat.le_refl _, by simp⟩, fun o => ?_, FlatQ.nil _ _ _, Nat.zero_le _, bthen (bthen HB.out hb2) hb3⟩⟩
        rw [frozen?_alloc_cells]
        exact frozen_past _ _ _ (Nat.le_refl _)
      have HZQ : Hid (w.heap.size ≤ w2.heap.size) := Nat.le_trans HB.out.size hb2.size
      generalize wr.heap.size = g at *
      clear hk2 hb2 hz2 HB
      go_wp2_with fail
      go_loopw [6] (fun i wr => ∃ j : Nat, i = .int .i64 (j : Int) ∧ j ≤ n ∧ Hid (∃ S k Aq cq, Two w g w2.heap.size j wr S k Aq cq)) (fun i _ => n - (intOf i).toNat)
      case atStart => exact ⟨0, rfl, Nat.zero_le _, HI0⟩
      case round =>
        obtain ⟨j, rfl, hj, HI⟩ := hrel
        obtain ⟨S, k, Aq, cq, hT⟩ := HI.out
        clear HI HI0
        by_cases hlt : j < n
        · obtain ⟨b, off, T, N, S', Ai, ci, L, hA, hb, hL, hc, hfl⟩ := (hM _ hT.kp).out j hlt
          subst hA
          have x0 : wr.cell? ⟨b, off + j * 4, none⟩ = some (.int .i64 T) := hc 0 _ rfl
          have x1 : wr.cell? ⟨b, off + j * 4 + 1, none⟩ = some (.int .i64 N) := hc 1 _ rfl
          have x2 : wr.cell? ⟨b, off + j * 4 + 2, none⟩ = some (.int .i64 S') := hc 2 _ rfl
          have x3 : wr.cell? ⟨b, off + j * 4 + 3, none⟩ = some (.slice Ai L.length ci) := hc 3 _ rfl
          have i0 : (0 : Int) ≤ (j : Int) := Int.natCast_nonneg _
          have i1 : (j : Int) < (n : Int) := by omega
          have HADD := Lib.hid (gsvAdd_any T N S' Ai ci L hT.bk (hfl.less fun b h => hT.old b h) hL (by have := hT.ln; omega))
          have HT := Lib.hid hT
          have HFL := Lib.hid hfl
          have HLL := Lib.hid hL
          clear hT hfl hM
          generalize hln : L.length = m at *
          have HLN := Lib.hid hln
          clear hln hL
          go_wp2_with fail
          refine HADD.out.mono ?_
          rintro r w3 ⟨B, d, rfl, hfo, hk3, hkp3⟩
          have hT := HT.out
          have y0 : w3.cell? ⟨b, off + j * 4, none⟩ = some (.int .i64 T) := (hkp3.cell (hT.old b hb)).trans x0
          have y1 : w3.cell? ⟨b, off + j * 4 + 1, none⟩ = some (.int .i64 N) := (hkp3.cell (hT.old b hb)).trans x1
          have y2 : w3.cell? ⟨b, off + j * 4 + 2, none⟩ = some (.int .i64 S') := (hkp3.cell (hT.old b hb)).trans x2
          have y3 : w3.cell? ⟨b, off + j * 4 + 3, none⟩ = some (.slice Ai m ci) := (hkp3.cell (hT.old b hb)).trans x3
          have q0 : w3.cell? ⟨w2.heap.size, 0, none⟩ = some (.int .i64 k.T) := (hkp3.cell hT.sh).trans (hT.q 0)
          have q1 : w3.cell? ⟨w2.heap.size, 1, none⟩ = some (.int .i64 k.N) := (hkp3.cell hT.sh).trans (hT.q 1)
          have q2 : w3.cell? ⟨w2.heap.size, 2, none⟩ = some (.slice Aq k.L.length cq) := (hkp3.cell hT.sh).trans (hT.q 2)
          have zq : ∀ o, w3.frozen? ⟨w2.heap.size, o, none⟩ = false := fun o => (hkp3.frozen hT.sh).trans (hT.fz o)
          have hsl : ∀ b, S b → b < w3.heap.size := hk3.lt
          have hO := addO_len k ⟨T, N, S', L⟩
          have hK := addK_len k ⟨T, N, S', L⟩
          have hll := HLL.out
          have hln := HLN.out
          have HRA : ∀ W, Below w3.heap.size w3 W → Hid (Calls Tryd.prog 8 #[.agg (rbkC k.T k.N Aq k.L.length cq), gsvV T N S' Ai m ci] W (RAddPost k ⟨T, N, S', L⟩ W)) := by
            intro W hbW
            subst hln
            exact r29Add_any (Q := S) (R := S) (w := W) Aq cq T N S' Ai ci L ((hT.fl.kept hkp3 fun _ q => q).below hbW hsl) (((HFL.out.less fun b h => hT.old b h).kept hkp3 fun _ q => q).below hbW hsl) hll (by have := hT.ln; omega)
          have HLE : Hid ((addO k ⟨T, N, S', L⟩).length ≤ 4 * j + 4 ∧ (addK k ⟨T, N, S', L⟩).L.length ≤ 4 * (j + 1)) := by
            have := hT.ln
            show _ ∧ _
            omega
          unfold RAddPost at HRA
          generalize addK k ⟨T, N, S', L⟩ = K2 at *
          generalize addO k ⟨T, N, S', L⟩ = O2 at *
          generalize addF k ⟨T, N, S', L⟩ = F2 at *
          obtain ⟨T2, N2, L2⟩ := K2
          simp only at HRA HLE
          obtain ⟨nl, hnl⟩ : ∃ nl, L2.length = nl := ⟨_, rfl⟩
          obtain ⟨no, hno⟩ : ∃ no, O2.length = no := ⟨_, rfl⟩
          simp only [hnl, hno] at HRA
          rw [hno]
          have HNL := Lib.hid hnl
          have HNO := Lib.hid hno
          have HK3 := Lib.hid hk3
          have HKP3 := Lib.hid hkp3
          have HFO := Lib.hid hfo
          have HSL := Lib.hid hsl
          clear hT hk3 hkp3 hfo hsl hO hK hll hln HADD x0 x1 x2 x3 hc hnl hno HLL HFL
          have HW3 : Hid (∀ w4, Below w3.heap.size w3 w4 → w4.cell? ⟨w2.heap.size, 0, none⟩ = some (.int .i64 k.T) ∧ w4.cell? ⟨w2.heap.size, 1, none⟩ = some (.int .i64 k.N) ∧ w4.cell? ⟨w2.heap.size, 2, none⟩ = some (.slice Aq k.L.length cq) ∧ w4.cell? ⟨b, off + j * 4, none⟩ = some (.int .i64 T) ∧ w4.cell? ⟨b, off + j * 4 + 1, none⟩ = some (.int .i64 N) ∧ w4.cell? ⟨b, off + j * 4 + 2, none⟩ = some (.int .i64 S') ∧ w4.cell? ⟨b, off + j * 4 + 3, none⟩ = some (.slice Ai m ci)) := by
            intro w4 h4
            have c1 := fun o => (bcell h4).1 w2.heap.size o (lt_of_cellQ q0)
            have c2 := fun o => (bcell h4).1 b o (lt_of_cellQ y0)
            exact ⟨(c1 _).trans q0, (c1 _).trans q1, (c1 _).trans q2, (c2 _).trans y0, (c2 _).trans y1, (c2 _).trans y2, (c2 _).trans y3⟩
          have HBa := Lib.hid (bdrew (Below.refl w3.heap.size w3))
          have HBb := Lib.hid (bdrew (below_new w3 (.cells (rbkC 0 0 none 0 0) 30)))
          have HZb : Hid (∀ w4, Below (w3.alloc (.cells (rbkC 0 0 none 0 0) 30)).drew.heap.size (w3.alloc (.cells (rbkC 0 0 none 0 0) 30)).drew w4 → (∀ o, w4.cell? ⟨w3.heap.size, o, none⟩ = (rbkC 0 0 none 0 0)[o]?) ∧ ∀ o, w4.frozen? ⟨w3.heap.size, o, none⟩ = false) := by
            intro w4 h4
            have hl : w3.heap.size < (w3.alloc (.cells (rbkC 0 0 none 0 0) 30)).drew.heap.size := by show _ < (World.alloc _ _).heap.size; simp
            refine ⟨fun o => ((bcell h4).1 _ o hl).trans (World.cell?_alloc_at (w := w3) _ _ _ _ (by simp)), fun o => ((bcell h4).2 _ o hl).trans ?_⟩
            show (w3.alloc _).frozen? _ = _
            rw [frozen?_alloc_cells]
            exact frozen_past _ _ _ (Nat.le_refl _)
          have HWb : Hid (w3.heap.size < (w3.alloc (.cells (rbkC 0 0 none 0 0) 30)).drew.heap.size) := by show _ < (World.alloc _ _).heap.size; simp
          go_upto_region 14 with fail
          go_cut [9, 10, 11] (fun t9 t10 t11 wx => RegP w3 T2 N2 L2 O2 nl no F2 t9 t10 t11 wx)
          case first =>
            go_region_held3 (fun W => W.cell? ⟨w2.heap.size, 0, none⟩ = some (.int .i64 k.T) ∧ W.cell? ⟨w2.heap.size, 1, none⟩ = some (.int .i64 k.N) ∧ W.cell? ⟨w2.heap.size, 2, none⟩ = some (.slice Aq k.L.length cq) ∧ W.cell? ⟨b, off + j * 4, none⟩ = some (.int .i64 T) ∧ W.cell? ⟨b, off + j * 4 + 1, none⟩ = some (.int .i64 N) ∧ W.cell? ⟨b, off + j * 4 + 2, none⟩ = some (.int .i64 S') ∧ W.cell? ⟨b, off + j * 4 + 3, none⟩ = some (.slice Ai m ci))
              (first | go_keep | exact HS4.out | exact HS5.out)
              ((first
                | (go_at_call 8; (with_reducible refine (HRA _ HBa.out).out.mono ?_); rintro r w4 ⟨B2, d2, C2, c2, rfl, hf2, hf3, hb4⟩; have HS4 := Lib.hid (HW3.out w4 (HBa.out.trans (hb4.mono HBa.out.size))); have HS5 := Lib.hid (HW3.out (w4.alloc (.cells (rbkC T2 N2 B2 nl d2) 30)) (bthen (HBa.out.trans (hb4.mono HBa.out.size)) (below_new _ _))); have HRE := Lib.hid (regP_late (T2 := T2) (N2 := N2) (nl := nl) (no := no) (F2 := F2) (d2 := d2) (c2 := c2) HBa.out hf2 hf3 hb4))
                | (go_at_call 8; (with_reducible refine (HRA _ HBb.out).out.mono ?_); rintro r w4 ⟨B2, d2, C2, c2, rfl, hf2, hf3, hb4⟩; obtain ⟨hz, hzf⟩ := HZb.out w4 hb4; have HS4 := Lib.hid (HW3.out w4 (HBb.out.trans (hb4.mono HBb.out.size))); have hz0 := hz 0; have hz1 := hz 1; have hz2 := hz 2; have HRE := Lib.hid (regP_early (T2 := T2) (N2 := N2) (nl := nl) (no := no) (F2 := F2) (d2 := d2) (c2 := c2) HBb.out HWb.out hf2 hf3 hb4 hz); have HS5 := Lib.hid (HW3.out (((w4.setCell ⟨w3.heap.size, 0, none⟩ (.int .i64 T2)).setCell ⟨w3.heap.size, 1, none⟩ (.int .i64 N2)).setCell ⟨w3.heap.size, 2, none⟩ (.slice B2 nl d2)) ((((HBb.out.trans (hb4.mono HBb.out.size)).setCell (Nat.le_refl _) _).setCell (Nat.le_refl _) _).setCell (Nat.le_refl _) _)))))
            all_goals go_wp2_with fail
            all_goals go_meet
            all_goals exact HRE.out
          case rest =>
          obtain ⟨p, B2, d2, C2, c2, rfl, rfl, rfl, hp, hf2, hf3, hb4⟩ := hcut
          obtain ⟨q0', q1', q2', -, -, -, -⟩ := HW3.out wc hb4
          have hqw : w2.heap.size < w3.heap.size := lt_of_cellQ q0
          have zq' : ∀ o, wc.frozen? ⟨w2.heap.size, o, none⟩ = false := fun o => ((bcell hb4).2 _ o hqw).trans (zq o)
          have p0 : wc.cell? ⟨p, 0, none⟩ = some (.int .i64 T2) := hp 0
          have p1 : wc.cell? ⟨p, 1, none⟩ = some (.int .i64 N2) := hp 1
          have p2 : wc.cell? ⟨p, 2, none⟩ = some (.slice B2 nl d2) := hp 2
          have hN := two_next (d2 := d2) HT.out HZQ.out HK3.out HKP3.out hb4 hf2 HNL.out HLE.out.2 q0' q1' q2' zq'
          have hqr : w2.heap.size < wr.heap.size := lt_of_cellQ (HT.out.q 0)
          have e : ∀ (W : World) (o b : Nat) (v : Value), w2.heap.size < b → (W.setCell ⟨w2.heap.size, o, none⟩ v).heap[b]? = W.heap[b]? := fun W o b v h => Below.heap_setCell _ _ _ _ (by simp only; omega)
          have hV1 := (HFO.out.below hb4 fun b h => h.2).keep (w' := ((wc.setCell ⟨w2.heap.size, 0, none⟩ (.int .i64 T2)).setCell ⟨w2.heap.size, 1, none⟩ (.int .i64 N2)).setCell ⟨w2.heap.size, 2, none⟩ (.slice B2 nl d2)) fun b h => by
            rw [e _ _ _ _ (by omega), e _ _ _ _ (by omega), e _ _ _ _ (by omega)]
          have hV2 := hf3.keep (w' := ((wc.setCell ⟨w2.heap.size, 0, none⟩ (.int .i64 T2)).setCell ⟨w2.heap.size, 1, none⟩ (.int .i64 N2)).setCell ⟨w2.heap.size, 2, none⟩ (.slice B2 nl d2)) fun b h => by
            rw [e _ _ _ _ (by omega), e _ _ _ _ (by omega), e _ _ _ _ (by omega)]
          have HV1 := Lib.hid hV1
          have HV2 := Lib.hid hV2
          have HN := Lib.hid hN
          obtain ⟨S3, hN2⟩ := hN
          have r0 := hN2.q 0
          have r1 := hN2.q 1
          have HWT : Hid (Calls Tryd.prog 9 #[.pointer (some ⟨g, 0, none⟩)] (((wc.setCell ⟨w2.heap.size, 0, none⟩ (.int .i64 T2)).setCell ⟨w2.heap.size, 1, none⟩ (.int .i64 N2)).setCell ⟨w2.heap.size, 2, none⟩ (.slice B2 nl d2)) fun e w' => e = .returned (.tuple #[.int .i64 T2, .int .i64 N2]) ∧ ∃ m, w' = (((wc.setCell ⟨w2.heap.size, 0, none⟩ (.int .i64 T2)).setCell ⟨w2.heap.size, 1, none⟩ (.int .i64 N2)).setCell ⟨w2.heap.size, 2, none⟩ (.slice B2 nl d2)).drewN m) := gsvWait_any hN2.bk
          have HN2 := Lib.hid hN2
          clear hN2
          clear hp hf2 hf3 hb4 hqr e hV1 hV2 HW3 HBa HBb HZb HWb HRA y0 y1 y2 y3 q0 q1 q2 zq
          go_wp2_with fail
          refine HWT.out.mono ?_
          rintro r w6 ⟨rfl, m1, rfl⟩
          generalize ((wc.setCell ⟨w2.heap.size, 0, none⟩ (.int .i64 T2)).setCell ⟨w2.heap.size, 1, none⟩ (.int .i64 N2)).setCell ⟨w2.heap.size, 2, none⟩ (.slice B2 nl d2) = W5 at *
          have HVW : Hid (Calls Tryd.prog 10 #[.slice B no d, .slice C2 no c2] (W5.drewN m1) fun e w' => e = .returned (.bool true) ∧ ∃ m, w' = (W5.drewN m1).drewN m) := by
            have := HNO.out
            subst this
            exact views_equal (HV1.out.keep fun _ _ => rfl) (HV2.out.keep fun _ _ => rfl) (by have := HLE.out.1; omega)
          go_wp2_with fail
          refine HVW.out.mono ?_
          rintro r w7 ⟨rfl, m2, rfl⟩
          have HNX := Lib.hid (HN2.out.drewN (m1 + m2))
          clear HV1 HV2 HN2 HVW HWT q0' q1' q2' zq' p0 p1 p2
          cases F2
          all_goals
            go_wp2_with fail
            go_roundw
            case rel => exact ⟨j + 1, by go_num, by omega, ⟨_, _, _, _, HNX.out⟩⟩
            case measure => simp [intOf]; omega
        · obtain rfl : n = j := by omega
          have HB := Lib.hid hT.kp
          clear hT
          go_wp2_with fail
          go_ret
          exact ⟨rfl, HB.out⟩
theorem gsvBooks_any (A : Option Addr) (n c : Nat) (w : World) (hm : n ≤ maxLen) (hs : Msgs (fun b => b < w.heap.size) w A n) : Calls Tryd.prog 3 #[.slice A n c] w fun e w' => e = .returned (.bool true) ∧ Below w.heap.size w w' := by
  by_cases h : n ≤ 60
  · exact gsvBooks_few A n c w h hs
  · exact gsvBooks_many A n c w (by omega) hm
end Go.Proofs.YteofmahbimkggaaDoor
