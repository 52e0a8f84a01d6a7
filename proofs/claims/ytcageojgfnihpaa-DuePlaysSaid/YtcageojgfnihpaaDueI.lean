/- Layer 43: the reference's timers in memory; its Unset. -/
import Derived.Test.YtcageojgfnihpaaDueE
namespace Go.Proofs.Ytcageojgfnihpaa
set_option linter.unusedVariables false
open Go.RowKit

def trC (x : Tr) : List Value := [.int .i64 x.1, .int .i64 x.2.1, .int .i64 x.2.2]
def trsC (l : List Tr) : List Value := l.flatMap trC
theorem trsC_snoc (l : List Tr) (x : Tr) : trsC (l ++ [x]) = trsC l ++ trC x := by simp [trsC]
theorem trsC_len (l : List Tr) : (trsC l).length = l.length * 3 := by
  induction l with
  | nil => rfl
  | cons x l ih => show (trC x ++ trsC l).length = _; rw [List.length_append, ih]; show 3 + _ = _; simp; omega
theorem trsC_get : ∀ (D : List Tr) (k j : Nat) (hk : k < D.length), j < 3 → (trsC D)[3 * k + j]? = (trC D[k])[j]?
  | x :: D, 0, j, _, hj => by
    show (trC x ++ trsC D)[3 * 0 + j]? = _
    rw [List.getElem?_append_left (by show 3 * 0 + j < 3; omega)]
    simp
  | x :: D, k + 1, j, hk, hj => by
    show (trC x ++ trsC D)[3 * (k + 1) + j]? = _
    rw [List.getElem?_append_right (by show 3 ≤ _; omega)]
    have e : 3 * (k + 1) + j - (trC x).length = 3 * k + j := by show 3 * (k + 1) + j - 3 = _; omega
    rw [e, trsC_get D k j (by simpa using hk) hj]
    rfl
/-- A slice of timers, read as a list. -/
def Tms (w : World) (B : Nat) (A : Option Addr) (l : List Tr) : Prop :=
  ∀ k (hk : k < l.length), ∃ b off, A = some ⟨b, off, none⟩ ∧ b < B ∧ ∀ (j : Nat) u, (trC l[k])[j]? = some u → w.cell? ⟨b, off + 3 * k + j, none⟩ = some u
theorem Tms.below {w w' : World} {B B' : Nat} {A : Option Addr} {l : List Tr} (h : Tms w B A l) (hb : Below B' w w') (hB : B ≤ B') : Tms w' B A l := by
  intro k hk
  obtain ⟨b, off, h1, h2, h3⟩ := h k hk
  exact ⟨b, off, h1, h2, fun j u hu => (hb.cell (p := ⟨b, off + 3 * k + j, none⟩) (by show b < B'; omega)).trans (h3 j u hu)⟩
theorem Tms.more {w : World} {B B' : Nat} {A : Option Addr} {l : List Tr} (h : Tms w B A l) (hB : B ≤ B') : Tms w B' A l := by
  intro k hk
  obtain ⟨b, off, h1, h2, h3⟩ := h k hk
  exact ⟨b, off, h1, by omega, h3⟩
theorem Tms.kept {T : Nat → Prop} {w w' : World} {B : Nat} {A : Option Addr} {l : List Tr} (h : Tms w B A l) (hk : KeptS T w w') (hT : ∀ b, b < B → T b) : Tms w' B A l := by
  intro k hk'
  obtain ⟨b, off, h1, h2, h3⟩ := h k hk'
  exact ⟨b, off, h1, h2, fun j u hu => (hk.cell (hT b h2)).trans (h3 j u hu)⟩
theorem tms_of_own {w : World} {B : Nat} {e : TypeId} {v : Value} {D : List Tr} (h : w.ownsRow B e 3 v D.length (trsC D)) : ∃ A c, v = .slice A D.length c ∧ Tms w w.heap.size A D ∧ (A = none → c = 0) ∧ D.length ≤ c := by
  rcases h.2 with ⟨hv, h0⟩ | ⟨g, cap, cur, hv, hb, hg, hle, -⟩
  · exact ⟨none, 0, by rw [hv, h0], fun k hk => by omega, fun _ => rfl, by omega⟩
  · subst hv
    refine ⟨some ⟨g, 0, none⟩, cap, rfl, fun k hk => ⟨g, 0, rfl, (Array.getElem?_eq_some_iff.1 hg).1, fun j u hu => ?_⟩, (fun q => by cases q), hle⟩
    have hj : j < 3 := by
      rcases Nat.lt_or_ge j 3 with q | q
      · exact q
      · rw [List.getElem?_eq_none (by show 3 ≤ j; exact q)] at hu; cases hu
    have hc := h.cells (g := g) rfl (3 * k + j) u (by rw [trsC_get D k j hk hj]; exact hu)
    have : (⟨g, 0, none⟩ : Addr).add (3 * k + j) = ⟨g, 0 + 3 * k + j, none⟩ := by unfold Addr.add; split <;> simp_all <;> omega
    rw [← this]
    exact hc
theorem tms_at {w : World} {B : Nat} {A : Option Addr} {l : List Tr} (h : Tms w B A l) {k : Nat} (hk : k < l.length) : ∃ b off, A = some ⟨b, off, none⟩ ∧ b < B ∧ w.cell? ⟨b, off + k * 3, none⟩ = some (.int .i64 (l[k]).1) ∧ w.cell? ⟨b, off + k * 3 + 1, none⟩ = some (.int .i64 (l[k]).2.1) ∧ w.cell? ⟨b, off + k * 3 + 2, none⟩ = some (.int .i64 (l[k]).2.2) := by
  obtain ⟨b, off, h1, h2, h3⟩ := h k hk
  have e : off + k * 3 = off + 3 * k := by omega
  exact ⟨b, off, h1, h2, by rw [e]; exact h3 0 _ rfl, by rw [e]; exact h3 1 _ rfl, by rw [e]; exact h3 2 _ rfl⟩
theorem ref_info : (Try.prog.info? 40).map (fun i => (i.zero, i.size, i.bytes)) = some (some (.agg #[.int .i64 0, .int .i64 0, .int .i64 0]), 3, 24) := by kernel_rfl
abbrev refO (x : Tr) : Obj := .cells #[.int .i64 x.1, .int .i64 x.2.1, .int .i64 x.2.2] 40
theorem news_ref (w : World) (x : Tr) : ∀ j u, (trC x)[j]? = some u → (w.alloc (refO x)).cell? ((⟨w.heap.size, 0, none⟩ : Addr).add j) = some u := fun j u hu => by
  have e1 : (⟨w.heap.size, 0, none⟩ : Addr).add j = ⟨w.heap.size, j, none⟩ := by unfold Addr.add; split <;> simp_all
  rw [e1, World.cell?_alloc_at _ _ _ _ rfl]
  simpa [trC] using hu
theorem trC_one (x : Tr) : ∀ u ∈ trC x, u.oneCell' = true := fun u hu => by
  simp only [trC, List.mem_cons, List.not_mem_nil, or_false] at hu
  rcases hu with rfl | rfl | rfl <;> rfl
/-- Timers that a call has laid. -/
def OwnT (w0 : World) (v : Value) (D : List Tr) (w : World) : Prop := w.ownsRow w0.heap.size 40 3 v D.length (trsC D) ∧ Below w0.heap.size w0 w
theorem OwnT.nil (w : World) : OwnT w (.slice none 0 0) [] w := ⟨World.ownsRow_nil _ _ _ _, Below.refl _ _⟩
theorem OwnT.alloc {w0 w : World} {v : Value} {D : List Tr} (h : OwnT w0 v D w) (o : Obj) : OwnT w0 v D (w.alloc o) := ⟨h.1.alloc o, bthen h.2 (below_new _ _)⟩
theorem OwnT.drewN {w0 w : World} {v : Value} {D : List Tr} (h : OwnT w0 v D w) (k : Nat) : OwnT w0 v D (w.drewN k) := ⟨h.1, bdrewN h.2 k⟩
theorem OwnT.grown {w0 w w' : World} {v v' : Value} {D : List Tr} {x : Tr} (h : OwnT w0 v D w) (ho : w'.ownsRow w0.heap.size 40 3 v' (D.length + 1) (trsC D ++ trC x)) (hg : w.grownBy w' v.ownBlock) : OwnT w0 v' (D ++ [x]) w' := by
  refine ⟨?_, h.2.grown hg h.2.size (fun j hj => (h.1.lt j hj).1)⟩
  rw [trsC_snoc, List.length_append]
  exact ho
theorem without_snoc (l : List Tr) (x : Tr) (id : Int) : without (l ++ [x]) id = without l id ++ if x.1 = id then [] else [x] := by
  unfold without
  rw [List.filter_append]
  by_cases h : x.1 = id
  · rw [if_pos h]; simp [h]
  · rw [if_neg h]; simp [h]
theorem without_le (l : List Tr) (id : Int) : (without l id).length ≤ l.length := List.length_filter_le _ _
set_option maxRecDepth 100000 in
set_option maxHeartbeats 2000000 in
theorem r43Unset_any (A : Option Addr) (c : Nat) (l : List Tr) (id : Int) (w : World) (hl : l.length ≤ 1000) (hs : Tms w w.heap.size A l) :
    Calls Try.prog 12 #[.slice A l.length c, .int .i64 id] w fun e w' => ∃ v, e = .returned (.tuple #[v, .bool (l.any fun x => x.1 == id)]) ∧ OwnT w v (without l id) w' := by
  obtain ⟨n, hn⟩ : ∃ n, l.length = n := ⟨_, rfl⟩
  have HN := Lib.hid hn
  have HS := Lib.hid hs
  rw [hn] at hl ⊢
  clear hn hs
  go_enter Try.func12, Try.ntmps12
  go_wp2_with fail
  go_loopw [6, 7, 8] (fun v hv kv wr => ∃ (k : Nat) (hb : Bool), kv = .int .i64 (k : Int) ∧ k ≤ n ∧ hv = .bool hb ∧ Hid (hb = ((l.take k).any fun x => x.1 == id)) ∧ Hid (OwnT w v (without (l.take k) id) wr)) (fun _ _ kv _ => n - (intOf kv).toNat)
  case atStart => exact ⟨0, false, rfl, Nat.zero_le _, rfl, rfl, OwnT.nil w⟩
  case round =>
    obtain ⟨k, hb, rfl, hk, rfl, HB, HO⟩ := hrel
    by_cases hlt : k < n
    · have hk' : k < l.length := by rw [HN.out]; exact hlt
      obtain ⟨b, off, hA, hbw, x1, x2, x3⟩ := tms_at HS.out hk'
      have y1 := (HO.out.2.cell (p := ⟨b, off + k * 3, none⟩) hbw).trans x1
      have y2 := (HO.out.2.cell (p := ⟨b, off + k * 3 + 1, none⟩) hbw).trans x2
      have y3 := (HO.out.2.cell (p := ⟨b, off + k * 3 + 2, none⟩) hbw).trans x3
      subst hA
      have HT : Hid (l.take (k + 1) = l.take k ++ [l[k]]) := List.take_succ_eq_append_getElem hk'
      have HLE : Hid ((without (l.take k) id).length ≤ k) := by
        have := without_le (l.take k) id
        rw [List.length_take] at this
        show _ ≤ _; omega
      clear x1 x2 x3
      generalize l[k] = x at *
      clear hk'
      obtain ⟨xi, xt, xe⟩ := x
      dsimp only at y1 y2 y3
      by_cases he : xi = id
      · subst he
        have hbe : (xi == xi) = true := by simp
        have HB2 : Hid (true = ((l.take (k + 1)).any fun x => x.1 == xi)) := by show _ = _; rw [HT.out, List.any_append]; simp
        have HO2 : Hid (OwnT w u6 (without (l.take (k + 1)) xi) wr) := by show OwnT _ _ _ _; rw [HT.out, without_snoc, if_pos rfl, List.append_nil]; exact HO.out
        clear HO HB HT HLE
        go_wp2_with fail
        go_roundw
        case rel => exact ⟨k + 1, true, by go_num, by omega, rfl, HB2, HO2⟩
        case measure => simp [intOf]; omega
      · have hbe : (xi == id) = false := by rw [beq_eq_false_iff_ne]; exact he
        have HB2 : Hid (hb = ((l.take (k + 1)).any fun x => x.1 == id)) := by show _ = _; rw [HT.out, List.any_append, ← HB.out]; simp [hbe]
        have HE : Hid (without (l.take (k + 1)) id = without (l.take k) id ++ [(xi, xt, xe)]) := by show _ = _; rw [HT.out, without_snoc, if_neg he]
        generalize without (l.take k) id = D at *
        have HL := HLE.out
        have hm3 : D.length + 1 ≤ maxLen := by unfold maxLen; omega
        have hby : (D.length + 1) * 24 ≤ 140737488355328 := by omega
        have HOA := Lib.hid (HO.out.alloc (refO (xi, xt, xe)))
        have HNW := Lib.hid (news_ref wr (xi, xt, xe))
        have HD := Lib.hid HL
        obtain ⟨i0, hi, hz0, hz1, hz2⟩ := info_partsP ref_info
        clear HO HB HT HLE HL he
        generalize hdl : D.length = dl at *
        have HDL := Lib.hid hdl
        have HOW : Hid ((wr.alloc (refO (xi, xt, xe))).ownsRow w.heap.size 40 3 u6 dl (trsC D)) := by show World.ownsRow _ _ _ _ _ _ _; rw [← hdl]; exact HOA.out.1
        clear hdl
        go_wp2_with (at_builtin; refine wpList_append_lies _ rfl _ _ 34 rfl w.heap.size 40 i0 (.agg #[.int .i64 0, .int .i64 0, .int .i64 0]) 3 24 Try.underlying34 hi hz0 hz1 hz2 rfl (by decide) _ _ _ rfl HOW.out ⟨wr.heap.size, 0, none⟩ 1 1 (trC (xi, xt, xe)) rfl rfl HNW.out (trC_one _) (by decide) hm3 hby HOA.out.2.size _ rfl ?_)
        intro g2 cap2 w6 hown' hgrow hlies hg2
        have HF : Hid (OwnT w (.slice (some ⟨g2, 0, none⟩) (dl + 1) cap2) (without (l.take (k + 1)) id) w6) := by
          show OwnT _ _ _ _
          rw [HE.out]
          refine HOA.out.grown ?_ hgrow
          rw [HDL.out]
          exact hown'
        clear hown' hgrow hlies hg2 HOA HNW HOW hi hz0 hz1 hz2
        go_wp2_with fail
        go_roundw
        case rel => exact ⟨k + 1, hb, by go_num, by omega, rfl, HB2, HF⟩
        case measure => simp [intOf]; omega
    · obtain rfl : k = n := by omega
      have HTK : Hid (l.take k = l) := List.take_of_length_le (by rw [HN.out]; exact Nat.le_refl _)
      rw [HTK.out] at HB HO
      go_wp2_with fail
      go_ret2
      exact ⟨_, by rw [HB.out]; rfl, HO.out⟩
end Go.Proofs.Ytcageojgfnihpaa
