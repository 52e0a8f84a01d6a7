/- Layer 43: row.Push, row.Pop, row.Len, walked. -/
import Derived.Test.YtcageojgfnihpaaDue5
namespace Go.Proofs.Ytcageojgfnihpaa
set_option linter.unusedVariables false
open Go.RowKit

theorem RowV.keep {S T : Nat → Prop} {q n : Nat} {f : Nat → Tm} {v : Value} {w w' : World} (h : RowV S q n f v w) (hk : KeptS T w w') (hq : T q) (hB : ∀ B, v.ownBlock = some B → T B) (hx : ∀ i, i < n → T (f i).b) : RowV S q n f v w' := by
  rcases h with ⟨rfl, rfl, h⟩ | ⟨B, c, rfl, h⟩
  · exact .inl ⟨rfl, rfl, (hk.cell hq).trans h⟩
  · exact .inr ⟨B, c, rfl, h.keep hk hq (hB B rfl) hx⟩
theorem RowV.form {S : Nat → Prop} {q n : Nat} {f : Nat → Tm} {v : Value} {w : World} (h : RowV S q n f v w) : ∃ a c, v = .slice a n c := by
  rcases h with ⟨rfl, rfl, h⟩ | ⟨B, c, rfl, h⟩
  · exact ⟨_, _, rfl⟩
  · exact ⟨_, _, rfl⟩
theorem RowV.blocks {S : Nat → Prop} {q n : Nat} {f : Nat → Tm} {v : Value} {w : World} (h : RowV S q n f v w) : q < w.heap.size ∧ (∀ B, v.ownBlock = some B → B < w.heap.size) ∧ (∀ i, i < n → (f i).b < w.heap.size) := by
  refine ⟨lt_of_cell h.cell, ?_, ?_⟩
  · rcases h with ⟨rfl, rfl, h⟩ | ⟨B, c, rfl, h⟩
    · intro B e; cases e
    · intro B' e
      injection e with e
      obtain ⟨cur, h1, -⟩ := h.blk
      have e' : B = B' := e
      subst e'
      exact (Array.getElem?_eq_some_iff.1 h1).1
  · rcases h with ⟨rfl, rfl, h⟩ | ⟨B, c, rfl, h⟩
    · intro i hi; omega
    · exact fun i hi => lt_of_cell (h.tim i hi).id
theorem RowV.alloc {S : Nat → Prop} {q n : Nat} {f : Nat → Tm} {v : Value} {w : World} (h : RowV S q n f v w) (o : Obj) : RowV S q n f v (w.alloc o) :=
  h.keep (T := fun k => k < w.heap.size) (KeptS.of_below (below_new w o) (fun _ h => h)) h.blocks.1 h.blocks.2.1 h.blocks.2.2
theorem NewT.alloc {S : Nat → Prop} {q n : Nat} {f : Nat → Tm} {v : Value} {x : Tm} {w : World} (h : NewT S q n f v x w) (o : Obj) : NewT S q n f v x (w.alloc o) := by
  have hk : KeptS (fun k => k < w.heap.size) w (w.alloc o) := KeptS.of_below (below_new w o) (fun _ h => h)
  have hl := lt_of_cell h.id
  obtain ⟨p, hp⟩ := h.place
  exact ⟨(hk.cell hl).trans h.id, (hk.cell hl).trans h.t, (hk.cell hl).trans h.ev, ⟨p, (hk.cell hl).trans hp⟩, fun o => (hk.frozen hl).trans (h.fro o), h.neq, h.out, h.apart, h.neB⟩
theorem NewT.placed {S : Nat → Prop} {q n : Nat} {f : Nat → Tm} {v : Value} {x : Tm} {w : World} (h : NewT S q n f v x w) (u : Value) : NewT S q n f v x (w.setCell ⟨x.b, 3, none⟩ u) ∧ (w.setCell ⟨x.b, 3, none⟩ u).cell? ⟨x.b, 3, none⟩ = some u := by
  obtain ⟨p, hp⟩ := h.place
  have hc : ∀ o, o ≠ 3 → (w.setCell ⟨x.b, 3, none⟩ u).cell? ⟨x.b, o, none⟩ = w.cell? ⟨x.b, o, none⟩ := fun o ho => World.cell?_setCell_other _ _ _ _ (fun e => by injection e with _ e; exact ho e.symm)
  have h3 := World.cell?_setCell_same w ⟨x.b, 3, none⟩ u hp
  exact ⟨⟨(hc 0 (by decide)).trans h.id, (hc 1 (by decide)).trans h.t, (hc 2 (by decide)).trans h.ev, ⟨_, h3⟩, fun o => by rw [World.frozen?_setCell]; exact h.fro o, h.neq, h.out, h.apart, h.neB⟩, h3⟩
theorem RowV.placed {S : Nat → Prop} {q n : Nat} {f : Nat → Tm} {v : Value} {x : Tm} {w : World} (h : RowV S q n f v w) (hx : NewT S q n f v x w) (u : Value) : RowV S q n f v (w.setCell ⟨x.b, 3, none⟩ u) :=
  h.keep (T := fun k => k ≠ x.b) ((KeptS.refl _ w).set (fun e => e rfl) _ _) (fun e => hx.neq e.symm) (fun B hB e => hx.neB (by rw [hB, e])) (fun i hi e => hx.apart i hi e.symm)
theorem assert_tim (b : Nat) (w : World) : (Instr.typeAssert (.iface 56 (.pointer (some ⟨b, 0, none⟩))) 20 56 true).run Try.prog w = .ok (.tuple #[.pointer (some ⟨b, 0, none⟩), .bool true]) w := by kernel_rfl
set_option maxRecDepth 8000 in
set_option maxHeartbeats 1000000 in
theorem rowPush_any {S : Nat → Prop} {q n : Nat} {f : Nat → Tm} {v : Value} {x : Tm} {w : World} (h : RowV S q n f v w) (hx : NewT S q n f v x w) (hS : ∀ k, S k → k < w.heap.size) (hSq : ¬ S q) (hqf : w.frozen? ⟨q, 0, none⟩ = false) (hn : n ≤ 1000) :
    Calls Try.prog 68 #[.pointer (some ⟨q, 0, none⟩), .iface 56 (.pointer (some ⟨x.b, 0, none⟩))] w fun e w' => e = .returned (.tuple #[]) ∧ ∃ g cap, RowI S q g cap (n + 1) (pushF f n x) w' ∧ KeptS S w w' ∧ QKeep q w w' := by
  obtain ⟨a, c, rfl⟩ := h.form
  have HV := Lib.hid (h.placed hx (.int .i64 (n : Int)))
  have HX := Lib.hid (hx.placed (.int .i64 (n : Int)))
  have cq := h.cell
  obtain ⟨p, cp⟩ := hx.place
  have fp := hx.fro 3
  have HK : Hid (KeptS S w (w.setCell ⟨x.b, 3, none⟩ (.int .i64 (n : Int)))) := (KeptS.refl S w).set hx.out _ _
  have HQK : Hid (QKeep q w (w.setCell ⟨x.b, 3, none⟩ (.int .i64 (n : Int)))) := QKeep.of (T := fun k => k ≠ x.b) ((KeptS.refl _ w).set (fun e => e rfl) _ _) (fun e => hx.neq e.symm)
  have HSZ : Hid ((w.setCell ⟨x.b, 3, none⟩ (.int .i64 (n : Int))).heap.size = w.heap.size) := by show _ = _; simp
  have hn3 : n + 1 ≤ maxLen := by unfold maxLen; omega
  have HSQ := Lib.hid hSq
  have hqf1 : (w.setCell ⟨x.b, 3, none⟩ (.int .i64 (n : Int))).frozen? ⟨q, 0, none⟩ = false := by rw [World.frozen?_setCell]; exact hqf
  have HSS := Lib.hid hS
  clear h hx hS hSq hqf
  obtain ⟨i0, hi, hz0, hz1, hz2⟩ := info_partsP tim_info
  have has := fun W => assert_tim x.b W
  go_enter Try.func68, Try.ntmps68
  go_upto_region 3 with fail
  have cq1 := HV.out.cell
  generalize w.setCell ⟨x.b, 3, none⟩ (.int .i64 (n : Int)) = W1 at *
  clear cq cp fp
  go_wp2_with (at_builtin; refine wpList_append_lies _ rfl _ _ 51 rfl 0 56 i0 (.pointer none) 1 8 Try.underlying51 hi hz0 hz1 hz2 rfl (by decide) _ _ _ rfl (HV.out.alloc _).owns ⟨W1.heap.size, 0, none⟩ 1 1 [.pointer (some ⟨x.b, 0, none⟩)] rfl rfl ?c1 ?c2 (by decide) hn3 ?c4 (Nat.zero_le _) _ rfl ?_)
  case c1 =>
    intro j u hu
    match j, hu with
    | 0, hu => injection hu with hu; subst hu; exact World.cell?_alloc_at _ _ _ _ rfl
    | j + 1, hu => cases hu
  case c2 => intro u hu; rw [List.mem_singleton.1 hu]; rfl
  case c4 => omega
  intro g cap w2 hown hgrow hlies hg2
  have hp3 : (W1.alloc (.cells #[.pointer (some ⟨x.b, 0, none⟩)] 56)).cell? ⟨x.b, 3, none⟩ = some (.int .i64 (n : Int)) := (World.cell?_alloc_past _ _ _ (lt_of_cell HX.out.2)).trans HX.out.2
  have HP := Lib.hid ((HV.out.alloc (.cells #[.pointer (some ⟨x.b, 0, none⟩)] 56)).pushed (H := W1.heap.size + 1) (HX.out.1.alloc _) hp3 (by simp) (fun k hk => by have := HSS.out k hk; have := HSZ.out; omega) HSQ.out (by have := HV.out.blocks.1; simp; omega) hown hgrow hlies)
  have hqo : some q ≠ (Value.slice a n c).ownBlock := fun e => by
    rcases HV.out with ⟨-, e2, -⟩ | ⟨B, c', e2, hI⟩
    · rw [e2] at e; cases e
    · rw [e2] at e; injection e with e; exact hI.neq e.symm
  have hvq : w2.cell? ⟨q, 0, none⟩ = some (.slice a n c) := by
    exact (hgrow.cell_far ⟨q, 0, none⟩ (by have := HV.out.blocks.1; simp; omega) hqo).trans (HV.out.alloc _).cell
  have hvf : w2.frozen? ⟨q, 0, none⟩ = false := by
    refine (hgrow.frozen_far ⟨q, 0, none⟩ (by have := HV.out.blocks.1; simp; omega) hqo).trans ?_
    rw [frozen?_alloc_cells]; exact hqf1
  have HQA : Hid (QKeep q w (W1.alloc (.cells #[.pointer (some ⟨x.b, 0, none⟩)] 56))) := HQK.out.trans (QKeep.of (T := fun k => k < W1.heap.size) (KeptS.of_below (below_new _ _) (fun _ h => h)) HV.out.blocks.1)
  have HKA : Hid (KeptS S w (W1.alloc (.cells #[.pointer (some ⟨x.b, 0, none⟩)] 56))) := HK.out.trans (KeptS.of_below (below_new _ _) (fun k hk => by have := HSS.out k hk; have := HSZ.out; omega))
  clear hown hgrow hlies hg2 hp3 cq1 hqo hqf1
  go_wp2_with fail
  go_end0
  exact ⟨rfl, g, cap, HP.out.1, HKA.out.trans HP.out.2.1, HQA.out.trans HP.out.2.2⟩
theorem rowLen_any (a : Option Addr) (n c : Nat) (w : World) : Calls Try.prog 24 #[.slice a n c] w fun e w' => e = .returned (.int .i64 (n : Int)) ∧ w = w' := by
  go_enter Try.func24, Try.ntmps24
  go_wp2
  go_ret
  exact ⟨rfl, rfl⟩
set_option maxRecDepth 8000 in
theorem rowPop_any {S : Nat → Prop} {q B c n : Nat} {f : Nat → Tm} {w : World} (h : RowI S q B c (n + 1) f w) (hSq : ¬ S q) (hqf : w.frozen? ⟨q, 0, none⟩ = false) (hn : n ≤ 1000) :
    Calls Try.prog 67 #[.pointer (some ⟨q, 0, none⟩)] w fun e w' => e = .returned (.iface 56 (.pointer (some ⟨(f n).b, 0, none⟩))) ∧ RowI S q B c n f w' ∧ KeptS (fun k => k ≠ q) w w' ∧ QKeep q w w' := by
  have HH := Lib.hid h
  have cq := h.sl
  have ct := (h.tim n (by omega)).row
  have w1 : IntKind.i64.wrap (((n + 1 : Nat) : Int) - 1) = (n : Int) := by rw [IntWalk.i64_in _ (by omega)]; omega
  have w2 : IntKind.i64.wrap ((n : Int) + 1 - 1) = (n : Int) := by rw [IntWalk.i64_in _ (by omega)]; omega
  have hle : n + 1 ≤ c := h.le
  have HP : Hid (RowI S q B c n f (w.setCell ⟨q, 0, none⟩ (.slice (some ⟨B, 0, none⟩) n c)) ∧ KeptS (fun k => k ≠ q) w (w.setCell ⟨q, 0, none⟩ (.slice (some ⟨B, 0, none⟩) n c))) := by
    have hk : KeptS (fun k => k ≠ q) w (w.setCell ⟨q, 0, none⟩ (.slice (some ⟨B, 0, none⟩) n c)) := (KeptS.refl _ w).set (fun e => e rfl) _ _
    refine ⟨⟨World.cell?_setCell_same _ _ _ h.sl, fun i hi => (h.tim i (by omega)).keep hk h.neq (h.tim i (by omega)).neq, fun i j hi hj => h.inj i j (by omega) (by omega), h.neq, h.out, by omega, h.blk.set _ _ _⟩, hk⟩
  clear h
  go_enter Try.func67, Try.ntmps67
  go_wp2_with fail
  go_ret
  exact ⟨rfl, HP.out.1, HP.out.2, QKeep.set0 q w _⟩
end Go.Proofs.Ytcageojgfnihpaa
