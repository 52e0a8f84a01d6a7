/- Layer 43: a queue and the reference's list side by side; same. -/
import Derived.Test.YtcageojgfnihpaaDueK
namespace Go.Proofs.Ytcageojgfnihpaa
set_option linter.unusedVariables false
open Go.RowKit

theorem allC_get : ∀ (D : List Tr) (k : Nat) (hk : k < D.length), (allC D)[2 * k]? = some (.int .i64 (D[k]).1) ∧ (allC D)[2 * k + 1]? = some (.int .i64 (D[k]).2.1)
  | x :: D, 0, _ => ⟨rfl, rfl⟩
  | x :: D, k + 1, hk => by
    have h := allC_get D k (by simpa using hk)
    exact h
theorem without_sorted {r : List Tr} (h : SortedR r) (id : Int) : SortedR (without r id) := h.sublist List.filter_sublist
theorem without_head {x : Tr} {r : List Tr} (h : (x :: r).Pairwise (fun a b => a.1 ≠ b.1)) : without (x :: r) x.1 = r := by
  obtain ⟨h1, -⟩ := List.pairwise_cons.1 h
  have h2 : ∀ y ∈ r, decide (y.1 ≠ x.1) = true := fun y hy => decide_eq_true (fun e => h1 y hy e.symm)
  unfold without
  rw [List.filter_cons_of_neg (by simp)]
  exact List.filter_eq_self.2 h2
theorem least_head {x : Tr} {r : List Tr} (h : SortedR (x :: r)) : Least x (x :: r) := by
  obtain ⟨h1, -⟩ := List.pairwise_cons.1 h
  refine ⟨List.mem_cons_self, fun y hy => ?_⟩
  rcases List.mem_cons.1 hy with rfl | hy
  · rw [befR_no]; omega
  · have := h1 y hy
    rw [befR_iff] at this
    rw [befR_no]; omega
theorem QueI.ids {S : Nat → Prop} {q N : Nat} {r : List Tr} {w : World} (h : QueI S q N r w) : r.Pairwise (fun x y => x.1 ≠ y.1) ∧ r.length ≤ 16 ∧ ∀ x ∈ r, okT x := by
  obtain ⟨n, f, v, mb, a⟩ := h
  exact ⟨a.ids, by rw [a.len]; exact a.few, a.ok⟩
set_option maxRecDepth 100000 in
set_option maxHeartbeats 2000000 in
theorem same_any {S : Nat → Prop} {q N : Nat} {r : List Tr} {w : World} (h : QueI S q N r w) (hs : SortedR r) (A : Option Addr) (c : Nat) (ht : Tms w w.heap.size A r) :
    Calls Try.prog 14 #[.pointer (some ⟨q, 0, none⟩), .slice A r.length c] w fun e w' => e = .returned (.bool true) ∧ Below w.heap.size w w' := by
  obtain ⟨n, hn⟩ : ∃ n, r.length = n := ⟨_, rfl⟩
  have hn16 : n ≤ 16 := hn ▸ h.ids.2.1
  have HA := Lib.hid (all_any h hs)
  have HN := Lib.hid hn
  have HL : Hid (∀ W, Below w.heap.size w W → Calls Try.prog 16 #[.pointer (some ⟨q, 0, none⟩)] W fun e w' => e = .returned (.int .i64 (n : Int)) ∧ W = w') := fun W hW => by
    have := queLen_any (h.below hW)
    rwa [hn] at this
  have HW : Hid (∀ W, Below w.heap.size w W → ∀ k (hk : k < r.length), Calls Try.prog 15 #[.pointer (some ⟨q, 0, none⟩), .int .i64 (r[k]).1] W fun e w' => e = .returned (.tuple #[.int .i64 (r[k]).2.1, .bool true]) ∧ W = w') := fun W hW k hk => when_hit (h.below hW) (List.getElem_mem hk)
  have HT := Lib.hid ht
  rw [hn] at HA ⊢
  clear h hs ht hn
  go_enter Try.func14, Try.ntmps14
  go_wp2_with fail
  refine HA.out.mono ?_
  rintro e w1 ⟨v, rfl, hown, hb1⟩
  have HL1 := Lib.hid (HL.out w1 hb1)
  have hform : ∃ A2 c2, v = .slice A2 n c2 ∧ n ≤ c2 ∧ ∀ k (hk : k < r.length), ∃ g, A2 = some ⟨g, 0, none⟩ ∧ w1.cell? ⟨g, 2 * k, none⟩ = some (.int .i64 (r[k]).1) ∧ w1.cell? ⟨g, 2 * k + 1, none⟩ = some (.int .i64 (r[k]).2.1) := by
    rcases hown.2 with ⟨e, e0⟩ | ⟨g, cap, cur, e, h1, h2, h3, -⟩
    · exact ⟨none, 0, by rw [e, e0], by omega, fun k hk => by have := HN.out; omega⟩
    · subst e
      have hc := fun k u (hu : (allC r)[k]? = some u) => hown.cells (g := g) rfl k u hu
      have e1 : ∀ j, (⟨g, 0, none⟩ : Addr).add j = ⟨g, j, none⟩ := fun j => by unfold Addr.add; split <;> simp_all
      refine ⟨some ⟨g, 0, none⟩, cap, rfl, h3, fun k hk => ⟨g, rfl, ?_, ?_⟩⟩
      · have := hc _ _ (allC_get r k hk).1
        rwa [e1] at this
      · have := hc _ _ (allC_get r k hk).2
        rwa [e1] at this
  obtain ⟨A2, c2, rfl, hle2, hcells⟩ := hform
  have HC := Lib.hid hcells
  have HB1 := Lib.hid hb1
  clear hcells hown hb1 HL HA
  go_wp2_with fail
  refine HL1.out.mono ?_
  rintro e w' ⟨rfl, rfl⟩
  go_wp2_with fail
  go_loopw [6] (fun kv wr => ∃ k : Nat, kv = .int .i64 (k : Int) ∧ k ≤ n ∧ Hid (Below w1.heap.size w1 wr)) (fun kv _ => n - (intOf kv).toNat)
  case atStart => exact ⟨0, rfl, Nat.zero_le _, Below.refl _ _⟩
  case round =>
    obtain ⟨k, rfl, hk, HBR⟩ := hrel
    have HBW := Lib.hid (bthen HB1.out HBR.out)
    by_cases hlt : k < n
    · have hk' : k < r.length := by rw [HN.out]; exact hlt
      obtain ⟨g, rfl, p1, p2⟩ := HC.out k hk'
      obtain ⟨b, off, rfl, hbw, x1, x2, x3⟩ := tms_at HT.out hk'
      have HW1 := Lib.hid (HW.out wr HBW.out k hk')
      have hb := HBW.out
      have y1 := (hb.cell (p := ⟨b, off + k * 3, none⟩) hbw).trans x1
      have y2 := (hb.cell (p := ⟨b, off + k * 3 + 1, none⟩) hbw).trans x2
      have z1 : wr.cell? ⟨g, k * 2, none⟩ = some (.int .i64 (r[k]).1) := by rw [Nat.mul_comm]; exact (HBR.out.cell (p := ⟨g, 2 * k, none⟩) (lt_of_cell p1)).trans p1
      have z2 : wr.cell? ⟨g, k * 2 + 1, none⟩ = some (.int .i64 (r[k]).2.1) := by rw [Nat.mul_comm]; exact (HBR.out.cell (p := ⟨g, 2 * k + 1, none⟩) (lt_of_cell p2)).trans p2
      have HNX : Hid (∀ j, Below w1.heap.size w1 (wr.drewN j)) := fun j => bdrewN HBR.out j
      clear x1 x2 x3 p1 p2 hb HC HT HW HB1 HBR
      generalize r[k] = x at *
      obtain ⟨xi, xt, xe⟩ := x
      dsimp only at y1 y2 z1 z2
      have HW2 : Hid (Calls Try.prog 15 #[.pointer (some ⟨q, 0, none⟩), .int .i64 xi] wr fun e w' => e = .returned (.tuple #[.int .i64 xt, .bool true]) ∧ wr = w') := HW1.out
      clear HW1 hk'
      have b1 : (xi != xi) = false := by rw [bne_eq_false_iff_eq]
      have b2 : (xt != xt) = false := by rw [bne_eq_false_iff_eq]
      go_wp2_with fail
      refine HW2.out.mono ?_
      rintro e w' ⟨rfl, rfl⟩
      go_wp2_with fail
      go_quiet (fail)
      go_wp2_with fail
      go_roundw
      case rel => exact ⟨k + 1, by go_num, by omega, HNX.out _⟩
      case measure => simp [intOf]; omega
    · obtain rfl : k = n := by omega
      go_wp2_with fail
      go_ret
      exact ⟨rfl, HBW.out⟩
/-- A queue and the reference's list, side by side; P: the blocks that no call turns. -/
def PlayS (P : Nat → Prop) (w0 : World) (q N : Nat) (r : List Tr) (v : Value) (w : World) : Prop :=
  ∃ (S : Nat → Prop) (A : Option Addr) (c : Nat), v = .slice A r.length c ∧ QueI S q N r w ∧ SortedR r ∧ Tms w w.heap.size A r ∧ (∀ a, A = some a → S a.block) ∧ r.length ≤ c ∧ (∀ k, P k → S k) ∧ (∀ k, k < w0.heap.size → P k) ∧ Below w0.heap.size w0 w
section
variable {P : Nat → Prop} {w0 w w' : World} {q N : Nat} {r : List Tr} {v : Value}
theorem tms_in {B : Nat} {S : Nat → Prop} {A : Option Addr} (h : Tms w B A r) (hs : ∀ a, A = some a → S a.block) {B' : Nat} (hk : KeptS S w w') (hB : B ≤ B') : Tms w' B' A r := fun k hk' => by
  obtain ⟨b, off, h1, h2, h3⟩ := h k hk'
  exact ⟨b, off, h1, by omega, fun j u hu => (hk.cell (hs _ h1)).trans (h3 j u hu)⟩
/-- The reference has laid its answer. -/
theorem PlayS.mk {S : Nat → Prop} {w1 w2 : World} (hq : QueI S q N r w1) (hs : SortedR r) (hP : ∀ k, P k → S k) (h0 : ∀ k, k < w0.heap.size → P k) (hb : Below w0.heap.size w0 w1) (ho : OwnT w1 v r w2) : PlayS P w0 q N r v w2 := by
  obtain ⟨A, c, rfl, ht, -, hc⟩ := tms_of_own ho.1
  refine ⟨_, A, c, rfl, hq.also ho.2, hs, ht, fun a ha => ?_, hc, fun k hk => .inl (hP k hk), h0, bthen hb ho.2⟩
  rcases ho.1.2 with ⟨e, -⟩ | ⟨g, cap, cur, e, h1, h2, -⟩
  · injection e with e
    rw [e] at ha; cases ha
  · injection e with e
    rw [e] at ha
    injection ha with ha
    rw [← ha]
    exact .inr ⟨h1, (Array.getElem?_eq_some_iff.1 h2).1⟩
theorem PlayS.below (h : PlayS P w0 q N r v w) (b : Below w.heap.size w w') : PlayS P w0 q N r v w' := by
  obtain ⟨S, A, c, rfl, h1, h2, h3, h4, h5, h6, h7, h8⟩ := h
  exact ⟨S, A, c, rfl, h1.below b, h2, (h3.below b (Nat.le_refl _)).more b.size, h4, h5, h6, h7, bthen h8 b⟩
theorem PlayS.box (h : PlayS P w0 q N r v w) (o : Obj) : PlayS (fun k => P k ∨ k = w.heap.size) w0 q N r v (w.alloc o) := by
  obtain ⟨S, A, c, rfl, h1, h2, h3, h4, h5, h6, h7, h8⟩ := h
  have b := below_new w o
  refine ⟨_, A, c, rfl, h1.also b, h2, (h3.below b (Nat.le_refl _)).more b.size, fun a ha => .inl (h4 a ha), h5, fun k hk => ?_, fun k hk => .inl (h7 k hk), bthen h8 b⟩
  rcases hk with hk | rfl
  · exact .inl (h6 k hk)
  · exact .inr ⟨Nat.le_refl _, by simp⟩
theorem PlayS.weaken {P' : Nat → Prop} (h : PlayS P w0 q N r v w) (hP : ∀ k, P' k → P k) (h0 : ∀ k, k < w0.heap.size → P' k) : PlayS P' w0 q N r v w := by
  obtain ⟨S, A, c, e, h1, h2, h3, h4, h5, h6, h7, h8⟩ := h
  exact ⟨S, A, c, e, h1, h2, h3, h4, h5, fun k hk => h6 k (hP k hk), h0, h8⟩
theorem PlayS.same (h : PlayS P w0 q N r v w) : Calls Try.prog 14 #[.pointer (some ⟨q, 0, none⟩), v] w fun e w' => e = .returned (.bool true) ∧ PlayS P w0 q N r v w' := by
  obtain ⟨S, A, c, rfl, h1, h2, h3, h4, h5, h6, h7, h8⟩ := h
  exact (same_any h1 h2 A c h3).mono fun e w' ⟨a, b⟩ => ⟨a, PlayS.below ⟨S, A, c, rfl, h1, h2, h3, h4, h5, h6, h7, h8⟩ b⟩
theorem PlayS.bel (h : PlayS P w0 q N r v w) : Below w0.heap.size w0 w := by
  obtain ⟨S, A, c, rfl, h1, h2, h3, h4, h5, h6, h7, h8⟩ := h
  exact h8
theorem QueI.more {S : Nat → Prop} (h : QueI S q N r w) : QueI S q (N + 1) r w := by
  obtain ⟨n, f, v, mb, a⟩ := h
  exact ⟨n, f, v, mb, { a with pm := a.pm.mono (by omega) }⟩
theorem PlayS.more (h : PlayS P w0 q N r v w) : PlayS P w0 q (N + 1) r v w := by
  obtain ⟨S, A, c, rfl, h1, h2, h3, h4, h5, h6, h7, h8⟩ := h
  exact ⟨S, A, c, rfl, h1.more, h2, h3, h4, h5, h6, h7, h8⟩
theorem PlayS.set (h : PlayS P w0 q N r v w) (id t ev : Int) (hN : N < 1000000) :
    ∃ b : Bool, Calls Try.prog 8 #[.pointer (some ⟨q, 0, none⟩), .int .i64 id, .int .i64 t, .int .i64 ev] w fun e w1 => e = .returned (.bool b) ∧ KeptS P w w1 ∧
      Calls Try.prog 10 #[v, .int .i64 id, .int .i64 t, .int .i64 ev] w1 fun e w2 => ∃ v2, e = .returned (.tuple #[v2, .bool b]) ∧ ∃ r2, PlayS P w0 q (N + 1) r2 v2 w2 := by
  obtain ⟨S, A, c, rfl, h1, h2, h3, h4, h5, h6, h7, h8⟩ := h
  have hl : r.length ≤ 1000 := by have := h1.ids.2.1; omega
  cases hb : setB id t ev with
  | false =>
    refine ⟨false, (set_bad h1 hb).mono fun e w1 ⟨e1, e2⟩ => ⟨e1, e2 ▸ KeptS.refl P w, ?_⟩⟩
    subst e2
    exact (r43Set_bad A r.length c id t ev w hb).mono fun e w2 ⟨e1, e2⟩ => ⟨_, e1, r, e2 ▸ PlayS.more ⟨S, A, c, rfl, h1, h2, h3, h4, h5, h6, h7, h8⟩⟩
  | true =>
    refine ⟨true, (set_ok h1 hb hN).mono fun e w1 ⟨e1, e2, e3⟩ => ⟨e1, e3.less h6, ?_⟩⟩
    have ht := tms_in h3 h4 e3 e3.size
    refine (r43Set_ok A c r id t ev w1 hl ht hb).mono fun e w2 ⟨v2, f1, f2⟩ => ⟨v2, f1, _, PlayS.mk (e2.perm (putL_perm _ _).symm) (putL_sorted (without_sorted h2 id) fun x hx => of_decide_eq_true (List.mem_filter.1 hx).2) h6 h7 (Below.trans h8 (e3.below fun k hk => h6 k (h7 k hk))) f2⟩
theorem PlayS.unset (h : PlayS P w0 q N r v w) (id : Int) (hw : (Lit.int .i64 id).wf = true) :
    ∃ b : Bool, Calls Try.prog 11 #[.pointer (some ⟨q, 0, none⟩), .int .i64 id] w fun e w1 => e = .returned (.bool b) ∧ KeptS P w w1 ∧
      Calls Try.prog 12 #[v, .int .i64 id] w1 fun e w2 => ∃ v2, e = .returned (.tuple #[v2, .bool b]) ∧ ∃ r2, PlayS P w0 q N r2 v2 w2 := by
  obtain ⟨S, A, c, rfl, h1, h2, h3, h4, h5, h6, h7, h8⟩ := h
  have hl : r.length ≤ 1000 := by have := h1.ids.2.1; omega
  refine ⟨_, (unset_any h1 hw).mono fun e w1 ⟨e1, e2, e3⟩ => ⟨e1, e3.less h6, ?_⟩⟩
  have ht := tms_in h3 h4 e3 e3.size
  exact (r43Unset_any A c r id w1 hl ht).mono fun e w2 ⟨v2, f1, f2⟩ => ⟨v2, f1, _, PlayS.mk e2 (without_sorted h2 id) h6 h7 (Below.trans h8 (e3.below fun k hk => h6 k (h7 k hk))) f2⟩
theorem PlayS.next (h : PlayS P w0 q N r v w) (now : Int) :
    ∃ (i t ev : Int) (b : Bool), Calls Try.prog 9 #[.pointer (some ⟨q, 0, none⟩), .int .i64 now] w fun e w1 => e = .returned (.tuple #[.int .i64 i, .int .i64 t, .bool b]) ∧ KeptS P w w1 ∧
      Calls Try.prog 13 #[v, .int .i64 now] w1 fun e w2 => ∃ v2, e = .returned (.tuple #[v2, refV (i, t, ev), .bool b]) ∧ ∃ r2, PlayS P w0 q N r2 v2 w2 := by
  obtain ⟨S, A, c, rfl, h1, h2, h3, h4, h5, h6, h7, h8⟩ := h
  have hl : r.length ≤ 1000 := by have := h1.ids.2.1; omega
  have hnone : (∀ h : 0 < r.length, limI now < (r[0]).2.1) → ∃ (i t ev : Int) (b : Bool), Calls Try.prog 9 #[.pointer (some ⟨q, 0, none⟩), .int .i64 now] w fun e w1 => e = .returned (.tuple #[.int .i64 i, .int .i64 t, .bool b]) ∧ KeptS P w w1 ∧
      Calls Try.prog 13 #[.slice A r.length c, .int .i64 now] w1 fun e w2 => ∃ v2, e = .returned (.tuple #[v2, refV (i, t, ev), .bool b]) ∧ ∃ r2, PlayS P w0 q N r2 v2 w2 := fun hn => by
    have hq : Calls Try.prog 9 #[.pointer (some ⟨q, 0, none⟩), .int .i64 now] w fun e w' => e = .returned (.tuple #[.int .i64 0, .int .i64 0, .bool false]) ∧ w = w' := by
      cases r with
      | nil => exact next_empty h1 now
      | cons x r => exact next_late h1 (least_head h2) now (hn (by simp))
    refine ⟨0, 0, 0, false, hq.mono fun e w1 ⟨e1, e2⟩ => ⟨e1, e2 ▸ KeptS.refl P w, ?_⟩⟩
    subst e2
    exact (r43Next_none A c r now w hl h3 hn).mono fun e w2 ⟨e1, e2⟩ => ⟨_, e1, r, PlayS.below ⟨S, A, c, rfl, h1, h2, h3, h4, h5, h6, h7, h8⟩ e2⟩
  cases r with
  | nil => exact hnone (fun h => absurd h (by simp))
  | cons x r =>
    by_cases hlt : limI now < x.2.1
    · exact hnone (fun _ => hlt)
    · obtain ⟨xi, xt, xe⟩ := x
      have hids := h1.ids.1
      have hok := h1.ids.2.2 _ List.mem_cons_self
      have hwo : without ((xi, xt, xe) :: r) xi = r := without_head hids
      obtain ⟨b, off, hA, hbw, -⟩ := tms_at h3 (k := 0) (by simp)
      have hsr := (List.pairwise_cons.1 h2).2
      have hl1 : r.length ≤ 1000 := by simp at hl; omega
      have hc1 : r.length + 1 ≤ c := by simpa using h5
      have hx : 0 ≤ xe ∧ xe ≤ 1099511627776 ∧ 0 ≤ xt := ⟨hok.2.2.2.2.1, hok.2.2.2.2.2, hok.2.2.1⟩
      refine ⟨xi, xt, xe, true, ?_⟩
      by_cases he : xe = 0
      · refine (next_once h1 (least_head h2) now hlt he).mono fun e w1 ⟨e1, e2, e3⟩ => ⟨e1, e3.less h6, ?_⟩
        have ht := tms_in h3 h4 e3 e3.size
        subst hA
        have hbw1 : b < w1.heap.size := Nat.lt_of_lt_of_le hbw e3.size
        refine (r43Next_some b off c xi xt xe r now w1 hl1 hbw1 hc1 ht hlt hx).mono fun e w2 ⟨v2, f1, f2⟩ => ⟨v2, f1, r, ?_⟩
        rw [if_pos he] at f2
        rw [hwo] at e2
        exact PlayS.mk e2 hsr h6 h7 (Below.trans h8 (e3.below fun k hk => h6 k (h7 k hk))) f2
      · refine (next_again h1 (least_head h2) now hlt he).mono fun e w1 ⟨e1, e2, e3⟩ => ⟨e1, e3.less h6, ?_⟩
        have ht := tms_in h3 h4 e3 e3.size
        subst hA
        have hbw1 : b < w1.heap.size := Nat.lt_of_lt_of_le hbw e3.size
        refine (r43Next_some b off c xi xt xe r now w1 hl1 hbw1 hc1 ht hlt hx).mono fun e w2 ⟨v2, f1, f2⟩ => ⟨v2, f1, putL (xi, xt + xe, xe) r, ?_⟩
        rw [if_neg he] at f2
        rw [hwo] at e2
        have e4 : QueI S q N (putL (xi, xt + xe, xe) r) w1 := QueI.perm e2 (putL_perm (xi, xt + xe, xe) r).symm
        have e5 : SortedR (putL (xi, xt + xe, xe) r) := putL_sorted hsr fun y hy => (fun e => (List.pairwise_cons.1 hids).1 y hy e.symm)
        exact PlayS.mk e4 e5 h6 h7 (Below.trans h8 (e3.below fun k hk => h6 k (h7 k hk))) f2
end
end Go.Proofs.Ytcageojgfnihpaa
