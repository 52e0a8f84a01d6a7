/- Layer 43: arrays beside a queue; a queue that is asked. -/
import Derived.Test.YtcageojgfnihpaaDueF
import Derived.Test.YtcageojgfnihpaaDueO
namespace Go.Proofs.Ytcageojgfnihpaa
set_option linter.unusedVariables false
open Go.RowKit

theorem QueI.setS {S : Nat → Prop} {q N : Nat} {r : List Tr} {w : World} (h : QueI S q N r w) {g : Nat} (hg : S g) (o : Nat) (v : Value) : QueI S q N r (w.setCell ⟨g, o, none⟩ v) := by
  obtain ⟨n, f, sv, mb, a⟩ := h
  refine ⟨n, f, sv, mb, a.keep (T := fun k => k ≠ g) ((KeptS.refl _ w).set (fun e => e rfl) _ _) (fun e => a.outq (e ▸ hg)) (fun e => a.outm (e ▸ hg)) (fun B hB e => ?_) (fun i hi e => ?_)⟩
  · rcases a.row with ⟨-, e2, -⟩ | ⟨B', c, e2, h⟩
    · rw [e2] at hB; cases hB
    · rw [e2] at hB
      injection hB with hB
      have e3 : B' = B := hB
      exact h.out (.inl (by rw [e3, e]; exact hg))
  · obtain ⟨B, c, -, h⟩ := a.rowI (by omega)
    exact (h.tim i hi).out (.inl (by rw [e]; exact hg))
theorem QueI.more {S : Nat → Prop} {q N : Nat} {r : List Tr} {w : World} (h : QueI S q N r w) : QueI S q (N + 1) r w := by
  obtain ⟨n, f, v, mb, a⟩ := h
  exact ⟨n, f, v, mb, { a with pm := a.pm.mono (by omega) }⟩
/-- An array of 16. -/
def ArrI (w : World) (b : Nat) (f : Nat → Value) : Prop := ∀ j, j < 16 → w.cell? ⟨b, j, none⟩ = some (f j) ∧ w.frozen? ⟨b, j, none⟩ = false
theorem ArrI.new (w : World) (v : Value) (T : TypeId) : ArrI (w.alloc (.cells (Array.replicate 16 v) T)) w.heap.size (fun _ => v) := fun j hj => by
  refine ⟨?_, by rw [frozen?_alloc_cells]; exact frozen_past _ _ _ (Nat.le_refl _)⟩
  rw [World.cell?_alloc_at _ _ _ _ rfl, Array.getElem?_replicate, if_pos hj]
theorem ArrI.lt {w : World} {b : Nat} {f : Nat → Value} (h : ArrI w b f) : b < w.heap.size := lt_of_cell (h 0 (by decide)).1
theorem ArrI.kept {T : Nat → Prop} {w w' : World} {b : Nat} {f : Nat → Value} (h : ArrI w b f) (hk : KeptS T w w') (hb : T b) : ArrI w' b f := fun j hj => ⟨(hk.cell hb).trans (h j hj).1, (hk.frozen hb).trans (h j hj).2⟩
theorem ArrI.below {w w' : World} {b : Nat} {f : Nat → Value} (h : ArrI w b f) (hb : Below w.heap.size w w') : ArrI w' b f := h.kept (T := fun k => k < w.heap.size) (KeptS.of_below hb (fun _ h => h)) h.lt
theorem ArrI.far {w : World} {b g : Nat} {f : Nat → Value} (h : ArrI w b f) (hne : b ≠ g) (o : Nat) (v : Value) : ArrI (w.setCell ⟨g, o, none⟩ v) b f := h.kept (T := fun k => k ≠ g) ((KeptS.refl _ w).set (fun e => e rfl) _ _) hne
theorem ArrI.set {w : World} {b : Nat} {f : Nat → Value} (h : ArrI w b f) {j : Nat} (hj : j < 16) (v : Value) : ArrI (w.setCell ⟨b, j, none⟩ v) b (setF f j v) := fun k hk => by
  refine ⟨?_, by rw [World.frozen?_setCell]; exact (h k hk).2⟩
  by_cases e : k = j
  · subst e
    rw [setF_at, World.cell?_setCell_same _ _ _ (h k hk).1]
  · rw [setF_ne _ _ e, World.cell?_setCell_other _ _ _ _ (fun q => by injection q with _ q; exact e q.symm)]
    exact (h k hk).1
abbrev vI (f : Nat → Int) : Nat → Value := fun j => .int .i64 (f j)
abbrev vB (f : Nat → Bool) : Nat → Value := fun j => .bool (f j)
theorem setF_vI (f : Nat → Int) (j : Nat) (n : Int) : setF (vI f) j (.int .i64 n) = vI (setF f j n) := by funext k; by_cases h : k = j <;> simp [setF, h]
theorem setF_vB (f : Nat → Bool) (j : Nat) (b : Bool) : setF (vB f) j (.bool b) = vB (setF f j b) := by funext k; by_cases h : k = j <;> simp [setF, h]
/-- A queue, and what was set. -/
structure ArrS (S : Nat → Prop) (q g N : Nat) (r : List Tr) (At Ev : Nat → Int) (St : Nat → Bool) (w0 w : World) : Prop where
  que : QueI S q N r w
  a : ArrI w g (vI At)
  e : ArrI w (g + 1) (vI Ev)
  s : ArrI w (g + 1 + 1) (vB St)
  sa : S g
  se : S (g + 1)
  ss : S (g + 1 + 1)
  s0 : ∀ k, k < w0.heap.size → S k
  gl : w0.heap.size ≤ g
  bel : Below w0.heap.size w0 w
theorem ArrS.kept {S : Nat → Prop} {q g N N' : Nat} {r r' : List Tr} {At Ev : Nat → Int} {St : Nat → Bool} {w0 w w' : World} (h : ArrS S q g N r At Ev St w0 w) (hk : KeptS S w w') (hq : QueI S q N' r' w') : ArrS S q g N' r' At Ev St w0 w' :=
  ⟨hq, h.a.kept hk h.sa, h.e.kept hk h.se, h.s.kept hk h.ss, h.sa, h.se, h.ss, h.s0, h.gl, Below.trans h.bel (hk.below h.s0)⟩
theorem ArrS.below {S : Nat → Prop} {q g N : Nat} {r : List Tr} {At Ev : Nat → Int} {St : Nat → Bool} {w0 w w' : World} (h : ArrS S q g N r At Ev St w0 w) (hb : Below w.heap.size w w') : ArrS S q g N r At Ev St w0 w' :=
  ⟨h.que.below hb, h.a.below hb, h.e.below hb, h.s.below hb, h.sa, h.se, h.ss, h.s0, h.gl, bthen h.bel hb⟩
theorem ArrS.setA {S : Nat → Prop} {q g N : Nat} {r : List Tr} {At Ev : Nat → Int} {St : Nat → Bool} {w0 w : World} (h : ArrS S q g N r At Ev St w0 w) {j : Nat} (hj : j < 16) (n : Int) : ArrS S q g N r (setF At j n) Ev St w0 (w.setCell ⟨g, j, none⟩ (.int .i64 n)) :=
  { h with que := h.que.setS h.sa _ _, a := by rw [← setF_vI]; exact h.a.set hj _, e := h.e.far (by omega) _ _, s := h.s.far (by omega) _ _, bel := h.bel.setCell h.gl _ }
theorem ArrS.setE {S : Nat → Prop} {q g N : Nat} {r : List Tr} {At Ev : Nat → Int} {St : Nat → Bool} {w0 w : World} (h : ArrS S q g N r At Ev St w0 w) {j : Nat} (hj : j < 16) (n : Int) : ArrS S q g N r At (setF Ev j n) St w0 (w.setCell ⟨g + 1, j, none⟩ (.int .i64 n)) :=
  { h with que := h.que.setS h.se _ _, a := h.a.far (by omega) _ _, e := by rw [← setF_vI]; exact h.e.set hj _, s := h.s.far (by omega) _ _, bel := h.bel.setCell (by have := h.gl; show _ ≤ g + 1; omega) _ }
theorem ArrS.setS {S : Nat → Prop} {q g N : Nat} {r : List Tr} {At Ev : Nat → Int} {St : Nat → Bool} {w0 w : World} (h : ArrS S q g N r At Ev St w0 w) {j : Nat} (hj : j < 16) (b : Bool) : ArrS S q g N r At Ev (setF St j b) w0 (w.setCell ⟨g + 1 + 1, j, none⟩ (.bool b)) :=
  { h with que := h.que.setS h.ss _ _, a := h.a.far (by omega) _ _, e := h.e.far (by omega) _ _, s := by rw [← setF_vB]; exact h.s.set hj _, bel := h.bel.setCell (by have := h.gl; show _ ≤ g + 1 + 1; omega) _ }
abbrev zI : Array Value := #[.int .i64 0, .int .i64 0, .int .i64 0, .int .i64 0, .int .i64 0, .int .i64 0, .int .i64 0, .int .i64 0, .int .i64 0, .int .i64 0, .int .i64 0, .int .i64 0, .int .i64 0, .int .i64 0, .int .i64 0, .int .i64 0]
abbrev zB : Array Value := #[.bool false, .bool false, .bool false, .bool false, .bool false, .bool false, .bool false, .bool false, .bool false, .bool false, .bool false, .bool false, .bool false, .bool false, .bool false, .bool false]
theorem ArrS.start {q : Nat} {w0 w1 w2 : World} (h : QueI (fun k => k < w1.heap.size) q 0 [] w2) (hb1 : w0.heap.size ≤ w1.heap.size) (hb2 : w1.heap.size ≤ w2.heap.size) (hb : Below w0.heap.size w0 w2) :
    ∃ S, ArrS S q w2.heap.size 0 [] (fun _ => 0) (fun _ => 0) (fun _ => false) w0 (((w2.alloc (.cells zI 26)).alloc (.cells zI 26)).alloc (.cells zB 27)) := by
  have b1 := below_new w2 (.cells zI 26)
  have b2 := below_new (w2.alloc (.cells zI 26)) (.cells zI 26)
  have b3 := below_new ((w2.alloc (.cells zI 26)).alloc (.cells zI 26)) (.cells zB 27)
  have bb := bthen (bthen b1 b2) b3
  have a1 : ArrI (w2.alloc (.cells zI 26)) w2.heap.size (vI fun _ => 0) := ArrI.new w2 (.int .i64 0) 26
  have a2 : ArrI ((w2.alloc (.cells zI 26)).alloc (.cells zI 26)) (w2.heap.size + 1) (vI fun _ => 0) := by
    have := ArrI.new (w2.alloc (.cells zI 26)) (.int .i64 0) 26
    rw [show (w2.alloc (.cells zI 26)).heap.size = w2.heap.size + 1 by simp] at this
    exact this
  have a3 : ArrI (((w2.alloc (.cells zI 26)).alloc (.cells zI 26)).alloc (.cells zB 27)) (w2.heap.size + 1 + 1) (vB fun _ => false) := by
    have := ArrI.new ((w2.alloc (.cells zI 26)).alloc (.cells zI 26)) (.bool false) 27
    rw [show ((w2.alloc (.cells zI 26)).alloc (.cells zI 26)).heap.size = w2.heap.size + 1 + 1 by simp] at this
    exact this
  have hsz : (((w2.alloc (.cells zI 26)).alloc (.cells zI 26)).alloc (.cells zB 27)).heap.size = w2.heap.size + 1 + 1 + 1 := by simp
  refine ⟨_, h.also bb, (a1.below b2).below b3, a2.below b3, a3, .inr ?_, .inr ?_, .inr ?_, fun k hk => .inl (by omega), by omega, bthen hb bb⟩
  all_goals omega
theorem exists_least : ∀ {r : List Tr}, r ≠ [] → ∃ x, Least x r
  | [], h => absurd rfl h
  | [x], _ => ⟨x, least_one x⟩
  | x :: y :: r, _ => by
    obtain ⟨z, hz1, hz2⟩ := exists_least (r := y :: r) (by simp)
    cases hb : befR z x with
    | true =>
      refine ⟨z, List.mem_cons_of_mem _ hz1, fun u hu => ?_⟩
      rcases List.mem_cons.1 hu with rfl | hu
      · rw [befR_iff] at hb; rw [befR_no]; omega
      · exact hz2 u hu
    | false =>
      refine ⟨x, List.mem_cons_self, fun u hu => ?_⟩
      rcases List.mem_cons.1 hu with rfl | hu
      · rw [befR_no]; omega
      · have := hz2 u hu
        rw [befR_no] at *; omega
/-- A queue that is asked. -/
structure AskS (S : Nat → Prop) (q g cb N : Nat) (r : List Tr) (At Ev : Nat → Int) (St : Nat → Bool) (Cm : Nat → Int) (now was : Int) (w0 w : World) : Prop where
  arr : ArrS S q g N r At Ev St w0 w
  c : ArrI w cb (vI Cm)
  sc : S cb
  gc : g + 1 + 1 < cb
  ask : AskI r At Ev St Cm now was
theorem AskS.start {S : Nat → Prop} {q g N : Nat} {r : List Tr} {At Ev : Nat → Int} {St : Nat → Bool} {w0 w : World} (h : ArrS S q g N r At Ev St w0 w) (hs : SetI r At Ev St) {now : Int} (hn : 0 ≤ now ∧ now ≤ 10000) :
    ∃ S, AskS S q g w.heap.size N r At Ev St (fun _ => 0) now 0 w0 (w.alloc (.cells zI 26)) := by
  have b := below_new w (.cells zI 26)
  have h2 := h.below b
  refine ⟨_, ⟨{ h2 with que := h.que.also b, sa := .inl h.sa, se := .inl h.se, ss := .inl h.ss, s0 := fun k hk => .inl (h.s0 k hk) }, ArrI.new w (.int .i64 0) 26, .inr ⟨Nat.le_refl _, by simp⟩, h.s.lt, AskI.start hs hn⟩⟩
theorem AskS.noneDue {S : Nat → Prop} {q g cb N : Nat} {r : List Tr} {At Ev Cm : Nat → Int} {St : Nat → Bool} {now was : Int} {w0 w : World} (h : AskS S q g cb N r At Ev St Cm now was w0 w) (hl : ∀ x ∈ r, now < x.2.1) :
    Calls Try.prog 9 #[.pointer (some ⟨q, 0, none⟩), .int .i64 now] w fun e w' => e = .returned (.tuple #[.int .i64 0, .int .i64 0, .bool false]) ∧ w = w' := by
  have hn := h.ask.now0
  by_cases hr : r = []
  · subst hr
    exact next_empty h.arr.que now
  · obtain ⟨x, hx⟩ := exists_least hr
    refine next_late h.arr.que hx now ?_
    rw [if_neg (by omega)]
    exact hl x hx.1
theorem AskS.oneDue {S : Nat → Prop} {q g cb N : Nat} {r : List Tr} {At Ev Cm : Nat → Int} {St : Nat → Bool} {now was : Int} {w0 w : World} (h : AskS S q g cb N r At Ev St Cm now was w0 w) (hl : ¬ ∀ x ∈ r, now < x.2.1) :
    ∃ (j : Nat) (r' : List Tr), j < 16 ∧ St j = true ∧ was ≤ At j + Cm j * Ev j ∧ At j + Cm j * Ev j ≤ now ∧ 0 ≤ At j ∧ 0 ≤ Cm j * Ev j ∧ 0 ≤ Cm j ∧ Cm j ≤ 101 ∧ AskI r' At Ev St (setF Cm j (Cm j + 1)) now (At j + Cm j * Ev j) ∧
      Calls Try.prog 9 #[.pointer (some ⟨q, 0, none⟩), .int .i64 now] w fun e w' => e = .returned (.tuple #[.int .i64 (j : Int), .int .i64 (At j + Cm j * Ev j), .bool true]) ∧ ArrS S q g N r' At Ev St w0 w' ∧ ArrI w' cb (vI Cm) := by
  have hn := h.ask.now0
  obtain ⟨y, hyn⟩ := Classical.not_forall.1 hl
  obtain ⟨hy, hyt⟩ := Classical.not_imp.1 hyn
  obtain ⟨x, hx⟩ := exists_least (r := r) (fun e => by subst e; cases hy)
  have hxt : x.2.1 ≤ now := by have := hx.2 y hy; rw [befR_no] at this; omega
  obtain ⟨j, hj, e, hs, hw, hA, hB⟩ := h.ask.step hx hxt
  have hlim : ¬ (if 1099511627776 < now then 1099511627776 else now) < x.2.1 := by rw [if_neg (by omega)]; omega
  have hc := (h.ask.came j hj).1
  have hok := h.ask.ok j hj hs
  have hm : 0 ≤ Cm j * Ev j := Int.mul_nonneg hc (by omega)
  have hc101 : Cm j ≤ 101 := by
    rcases hok.2 with h0 | h0
    · have := (h.ask.came j hj).2.2 h0; omega
    · have h3 : Cm j * 100 ≤ Cm j * Ev j := Int.mul_le_mul_of_nonneg_left h0 hc
      rw [e] at hxt
      have hxt : At j + Cm j * Ev j ≤ now := hxt
      omega
  by_cases h0 : x.2.2 = 0
  · refine ⟨j, _, hj, hs, by rw [e] at hw; exact hw, by rw [e] at hxt; exact hxt, hok.1, hm, hc, hc101, by have := hA h0; rw [e] at this; exact this, ?_⟩
    refine (next_once h.arr.que hx now hlim h0).mono fun e' w' ⟨q1, q2, q3⟩ => ⟨by rw [q1, e], ?_, h.c.kept q3 h.sc⟩
    rw [e] at q2
    exact h.arr.kept q3 q2
  · refine ⟨j, _, hj, hs, by rw [e] at hw; exact hw, by rw [e] at hxt; exact hxt, hok.1, hm, hc, hc101, by have := hB h0; rw [e] at this; exact this, ?_⟩
    refine (next_again h.arr.que hx now hlim h0).mono fun e' w' ⟨q1, q2, q3⟩ => ⟨by rw [q1, e], ?_, h.c.kept q3 h.sc⟩
    rw [e] at q2
    exact h.arr.kept q3 q2
theorem AskS.next {S : Nat → Prop} {q g cb N j : Nat} {r : List Tr} {At Ev Cm : Nat → Int} {St : Nat → Bool} {now was n : Int} {w0 w : World} (hr : ArrS S q g N r At Ev St w0 w) (hc : ArrI w cb (vI Cm)) (hs : S cb) (hg : g + 1 + 1 < cb) (hj : j < 16) (ha : AskI r At Ev St (setF Cm j n) now was) (k : Nat) :
    AskS S q g cb N r At Ev St (setF Cm j n) now was w0 ((w.drewN k).setCell ⟨cb, j, none⟩ (.int .i64 n)) := by
  have h2 := hr.below (bdrewN (Below.refl _ w) k)
  have c2 := hc.below (bdrewN (Below.refl _ w) k)
  exact ⟨{ h2 with que := h2.que.setS hs _ _, a := h2.a.far (by omega) _ _, e := h2.e.far (by omega) _ _, s := h2.s.far (by omega) _ _, bel := h2.bel.setCell (by have := hr.gl; show _ ≤ cb; omega) _ }, by rw [← setF_vI]; exact c2.set hj _, hs, hg, ha⟩
end Go.Proofs.Ytcageojgfnihpaa
