/- Layer 43: the reference's put. -/
import Derived.Test.YtcageojgfnihpaaDueI
import Derived.Deep.DeepCutAuto
import Derived.Deep.CutBlock
namespace Go.Proofs.Ytcageojgfnihpaa
set_option linter.unusedVariables false
open Go.RowKit

/-- In its place. -/
def putL (t : Tr) : List Tr → List Tr
  | [] => [t]
  | x :: l => if befR t x = true then t :: x :: l else x :: putL t l
/-- As far as it has come. -/
def insT (t : Tr) : List Tr → List Tr
  | [] => []
  | x :: l => if befR t x = true then t :: x :: l else x :: insT t l
theorem insT_snoc (t x : Tr) : ∀ l : List Tr, insT t (l ++ [x]) = if l.any (befR t) = true then insT t l ++ [x] else if befR t x = true then l ++ [t] ++ [x] else l ++ [x]
  | [] => by by_cases h : befR t x = true <;> simp [insT, h]
  | y :: l => by
    show (if befR t y = true then t :: y :: (l ++ [x]) else y :: insT t (l ++ [x])) = _
    rw [insT_snoc t x l]
    by_cases h : befR t y = true
    · simp [insT, h]
    · by_cases h2 : l.any (befR t) = true
      · rw [if_pos h2]; simp [insT, h, h2]
      · have h3 : ((y :: l).any (befR t)) = false := by simp only [List.any_cons, Bool.or_eq_false_iff]; exact ⟨by simpa using h, by simpa using h2⟩
        rw [if_neg h2, if_neg h, h3]
        by_cases h4 : befR t x = true
        · rw [if_pos h4, if_neg (by simp), if_pos h4]; rfl
        · rw [if_neg h4, if_neg (by simp), if_neg h4]; rfl
theorem insT_no (t : Tr) : ∀ {l : List Tr}, l.any (befR t) = false → insT t l = l
  | [], _ => rfl
  | y :: l, h => by
    simp only [List.any_cons, Bool.or_eq_false_iff] at h
    show (if befR t y = true then _ else _) = _
    rw [if_neg (by simp [h.1]), insT_no t h.2]
theorem putL_ins (t : Tr) : ∀ l : List Tr, putL t l = if l.any (befR t) = true then insT t l else l ++ [t]
  | [] => by simp [putL]
  | y :: l => by
    show (if befR t y = true then _ else y :: putL t l) = _
    rw [putL_ins t l]
    by_cases h : befR t y = true
    · simp [insT, h]
    · by_cases h2 : l.any (befR t) = true
      · simp [insT, h, h2]
      · have h3 : ((y :: l).any (befR t)) = false := by simp only [List.any_cons, Bool.or_eq_false_iff]; exact ⟨by simpa using h, by simpa using h2⟩
        rw [if_neg h, if_neg h2, h3, if_neg (by simp)]
        rfl
theorem putL_perm (t : Tr) : ∀ l : List Tr, (putL t l).Perm (t :: l)
  | [] => List.Perm.refl _
  | y :: l => by
    show (if befR t y = true then _ else y :: putL t l).Perm _
    by_cases h : befR t y = true
    · rw [if_pos h]
    · rw [if_neg h]
      exact ((putL_perm t l).cons y).trans (List.Perm.swap t y l)
theorem putL_len (t : Tr) (l : List Tr) : (putL t l).length = l.length + 1 := (putL_perm t l).length_eq
theorem putL_sorted {t : Tr} : ∀ {l : List Tr}, SortedR l → (∀ x ∈ l, x.1 ≠ t.1) → SortedR (putL t l)
  | [], _, _ => List.pairwise_singleton _ _
  | y :: l, h, hne => by
    obtain ⟨h1, h2⟩ := List.pairwise_cons.1 h
    show SortedR (if befR t y = true then _ else y :: putL t l)
    by_cases hb : befR t y = true
    · rw [if_pos hb]
      refine List.Pairwise.cons (fun z hz => ?_) h
      rcases List.mem_cons.1 hz with rfl | hz
      · exact hb
      · have := h1 z hz
        rw [befR_iff] at *
        omega
    · rw [if_neg hb]
      refine List.Pairwise.cons (fun z hz => ?_) (putL_sorted h2 fun x hx => hne x (List.mem_cons_of_mem _ hx))
      rcases List.mem_cons.1 ((putL_perm t l).mem_iff.1 hz) with rfl | hz
      · have := hne y List.mem_cons_self
        have hb : befR z y = false := by simpa using hb
        rw [befR_no] at hb
        rw [befR_iff]
        omega
      · exact h1 z hz
abbrev refV (x : Tr) : Value := .agg #[.int .i64 x.1, .int .i64 x.2.1, .int .i64 x.2.2]
theorem insT_le (t : Tr) (l : List Tr) : (insT t l).length ≤ l.length + 1 := by
  by_cases h : l.any (befR t) = true
  · have := putL_ins t l
    rw [if_pos h] at this
    rw [← this, putL_len]
    exact Nat.le_refl _
  · rw [insT_no t (by simpa using h)]; omega
theorem small_ok {x : Nat} (h : x ≤ 2000) : x ≤ maxLen ∧ x * 24 ≤ 140737488355328 := ⟨by unfold maxLen; omega, by omega⟩
theorem put_ways (hb : Bool) (ti tt te xi xt xe : Int) : (hb = true) ∨ (hb = false ∧ befR (ti, tt, te) (xi, xt, xe) = true ∧ decide (tt < xt) = true) ∨ (hb = false ∧ befR (ti, tt, te) (xi, xt, xe) = true ∧ decide (tt < xt) = false ∧ (tt == xt) = true ∧ decide (ti < xi) = true) ∨
    (hb = false ∧ befR (ti, tt, te) (xi, xt, xe) = false ∧ decide (tt < xt) = false ∧ (tt == xt) = true ∧ decide (ti < xi) = false) ∨ (hb = false ∧ befR (ti, tt, te) (xi, xt, xe) = false ∧ decide (tt < xt) = false ∧ (tt == xt) = false) := by
  cases hb with
  | true => exact .inl rfl
  | false =>
    refine .inr ?_
    by_cases h1 : tt < xt
    · exact .inl ⟨rfl, befR_iff.2 (.inl h1), decide_eq_true h1⟩
    · by_cases h2 : tt = xt
      · by_cases h3 : ti < xi
        · exact .inr (.inl ⟨rfl, befR_iff.2 (.inr ⟨h2, h3⟩), decide_eq_false h1, beq_iff_eq.2 h2, decide_eq_true h3⟩)
        · exact .inr (.inr (.inl ⟨rfl, befR_no.2 (fun h => h.elim h1 (fun h => h3 h.2)), decide_eq_false h1, beq_iff_eq.2 h2, decide_eq_false h3⟩))
      · exact .inr (.inr (.inr ⟨rfl, befR_no.2 (fun h => h.elim h1 (fun h => h2 h.1)), decide_eq_false h1, beq_eq_false_iff_ne.2 h2⟩))
set_option maxRecDepth 100000 in
set_option maxHeartbeats 1000000 in
theorem r43put_any (A : Option Addr) (c : Nat) (l : List Tr) (ti tt te : Int) (w : World) (hl : l.length ≤ 1000) (hs : Tms w w.heap.size A l) :
    Calls Try.prog 22 #[.slice A l.length c, refV (ti, tt, te)] w fun e w' => ∃ v, e = .returned v ∧ OwnT w v (putL (ti, tt, te) l) w' := by
  obtain ⟨n, hn⟩ : ∃ n, l.length = n := ⟨_, rfl⟩
  have HN := Lib.hid hn
  have HS := Lib.hid (hs.below (below_new w (refO (ti, tt, te))) (Nat.le_refl _))
  rw [hn] at hl ⊢
  clear hn hs
  have HX0 : Hid (∀ o, (w.alloc (refO (ti, tt, te))).cell? ⟨w.heap.size, o, none⟩ = (#[Value.int .i64 ti, .int .i64 tt, .int .i64 te] : Array Value)[o]?) := fun o => World.cell?_alloc_at _ _ _ _ rfl
  have HB0 := Lib.hid (below_new w (refO (ti, tt, te)))
  have HZ0 : Hid (w.heap.size < (w.alloc (refO (ti, tt, te))).heap.size) := by show _ < _; simp
  obtain ⟨i0, hi, hz0, hz1, hz2⟩ := info_partsP ref_info
  go_enter Try.func22, Try.ntmps22
  go_upto_region 1 with fail
  generalize hW0 : w.alloc (refO (ti, tt, te)) = W0 at *
  clear hW0
  have HFIN : Hid (∀ v D W, OwnT W0 v D W → OwnT w v D W) := fun v D W h => ⟨own_base h.1 HB0.out.size, bthen HB0.out h.2⟩
  go_wp2_with fail
  go_loopw [5, 6, 7] (fun v hv kv wr => ∃ (k : Nat) (hb : Bool), kv = .int .i64 (k : Int) ∧ k ≤ n ∧ hv = .bool hb ∧ Hid (hb = (l.take k).any (befR (ti, tt, te))) ∧ Hid (OwnT W0 v (insT (ti, tt, te) (l.take k)) wr)) (fun _ _ kv _ => n - (intOf kv).toNat)
  case atStart => exact ⟨0, false, rfl, Nat.zero_le _, rfl, rfl, OwnT.nil W0⟩
  case round =>
    obtain ⟨k, hb, rfl, hk, rfl, HB, HO⟩ := hrel
    have hbw0 := HO.out.2
    have t0 := ((bcell hbw0).1 w.heap.size 0 HZ0.out).trans (HX0.out 0)
    have t1 := ((bcell hbw0).1 w.heap.size 1 HZ0.out).trans (HX0.out 1)
    have t2 := ((bcell hbw0).1 w.heap.size 2 HZ0.out).trans (HX0.out 2)
    by_cases hlt : k < n
    · have hk' : k < l.length := by rw [HN.out]; exact hlt
      obtain ⟨b, off, hA, hbw, x1, x2, x3⟩ := tms_at HS.out hk'
      have hbW : b < W0.heap.size := by have := HZ0.out; omega
      have y1 := (hbw0.cell (p := ⟨b, off + k * 3, none⟩) hbW).trans x1
      have y2 := (hbw0.cell (p := ⟨b, off + k * 3 + 1, none⟩) hbW).trans x2
      have y3 := (hbw0.cell (p := ⟨b, off + k * 3 + 2, none⟩) hbW).trans x3
      subst hA
      have HT : Hid (l.take (k + 1) = l.take k ++ [l[k]]) := List.take_succ_eq_append_getElem hk'
      have HLE : Hid ((insT (ti, tt, te) (l.take k)).length ≤ k + 1) := by
        have := insT_le (ti, tt, te) (l.take k)
        rw [List.length_take] at this
        show _ ≤ _; omega
      have HC := Lib.hid (And.intro x1 (And.intro x2 x3))
      clear x1 x2 x3
      generalize l[k] = x at *
      clear hk'
      obtain ⟨xi, xt, xe⟩ := x
      dsimp only at y1 y2 y3
      have HIN : Hid (insT (ti, tt, te) (l.take (k + 1)) = if hb = true then insT (ti, tt, te) (l.take k) ++ [(xi, xt, xe)] else if befR (ti, tt, te) (xi, xt, xe) = true then insT (ti, tt, te) (l.take k) ++ [(ti, tt, te)] ++ [(xi, xt, xe)] else insT (ti, tt, te) (l.take k) ++ [(xi, xt, xe)]) := by
        show _ = _
        rw [HT.out, insT_snoc, ← HB.out]
        cases hbb : hb with
        | true => rfl
        | false =>
          have h0 : (l.take k).any (befR (ti, tt, te)) = false := by rw [← HB.out]; exact hbb
          rw [insT_no _ h0]
      have HAN : Hid ((l.take (k + 1)).any (befR (ti, tt, te)) = (hb || befR (ti, tt, te) (xi, xt, xe))) := by show _ = _; rw [HT.out, List.any_append, ← HB.out]; simp
      have HX1 : Hid (∀ W, Below W0.heap.size W0 W → W.cell? ⟨b, off + k * 3, none⟩ = some (.int .i64 xi) ∧ W.cell? ⟨b, off + k * 3 + 1, none⟩ = some (.int .i64 xt) ∧ W.cell? ⟨b, off + k * 3 + 2, none⟩ = some (.int .i64 xe)) := fun W hW =>
        ⟨(hW.cell (p := ⟨b, off + k * 3, none⟩) hbW).trans HC.out.1, (hW.cell (p := ⟨b, off + k * 3 + 1, none⟩) hbW).trans HC.out.2.1, (hW.cell (p := ⟨b, off + k * 3 + 2, none⟩) hbW).trans HC.out.2.2⟩
      clear HC
      generalize insT (ti, tt, te) (l.take k) = D at *
      have hbnd := HLE.out
      have hs1 : D.length + 1 ≤ 2000 := by omega
      have hs2 : D.length + 1 + 1 ≤ 2000 := by omega
      obtain ⟨hm1, hby1⟩ := small_ok hs1
      obtain ⟨hm2, hby2⟩ := small_ok hs2
      clear hs1 hs2
      clear HLE HT HB hbnd hbw0
      generalize hdl : D.length = dl at *
      have HDL := Lib.hid hdl
      clear hdl
      have hways := put_ways hb ti tt te xi xt xe
      go_upto_region 6 with fail
      go_cut [45] (fun v wx => v = .bool (!hb && befR (ti, tt, te) (xi, xt, xe)) ∧ ∃ kk, wx = wr.drewN kk)
      case first =>
        generalize befR (ti, tt, te) (xi, xt, xe) = bf at *
        rcases hways with rfl | ⟨rfl, rfl, d1⟩ | ⟨rfl, rfl, d1, d2, d3⟩ | ⟨rfl, rfl, d1, d2, d3⟩ | ⟨rfl, rfl, d1, d2⟩
        all_goals
          go_wp2_with fail
          go_quiet (fail)
          go_wp2_with fail
          go_meet
          exact ⟨by simp, _, rfl⟩
      case rest =>
      obtain ⟨rfl, kk, rfl⟩ := hcut
      clear hways
      have HO2 := Lib.hid (HO.out.drewN kk)
      have z0 : (wr.drewN kk).cell? ⟨w.heap.size, 0, none⟩ = some (.int .i64 ti) := t0
      have z1 : (wr.drewN kk).cell? ⟨w.heap.size, 1, none⟩ = some (.int .i64 tt) := t1
      have z2 : (wr.drewN kk).cell? ⟨w.heap.size, 2, none⟩ = some (.int .i64 te) := t2
      have v1 : (wr.drewN kk).cell? ⟨b, off + k * 3, none⟩ = some (.int .i64 xi) := y1
      have v2 : (wr.drewN kk).cell? ⟨b, off + k * 3 + 1, none⟩ = some (.int .i64 xt) := y2
      have v3 : (wr.drewN kk).cell? ⟨b, off + k * 3 + 2, none⟩ = some (.int .i64 xe) := y3
      clear t0 t1 t2 y1 y2 y3 HO
      generalize wr.drewN kk = W1 at *
      cases hcase : (!hb && befR (ti, tt, te) (xi, xt, xe)) with
      | true =>
        have e1 : hb = false := by cases hb <;> simp_all
        subst e1
        have e2 : befR (ti, tt, te) (xi, xt, xe) = true := by simpa using hcase
        have HI2 := HIN.out
        have HA2 := HAN.out
        rw [if_neg (by simp), e2, if_pos rfl] at HI2
        rw [e2] at HA2
        have HI3 := Lib.hid HI2
        have HA3 := Lib.hid HA2
        clear HI2 HA2 HIN HAN hcase e2
        have HOA1 := Lib.hid (HO2.out.alloc (refO (ti, tt, te)))
        have HNW1 := Lib.hid (news_ref W1 (ti, tt, te))
        have HOW1 : Hid ((W1.alloc (refO (ti, tt, te))).ownsRow W0.heap.size 40 3 u5 dl (trsC D)) := by have h := HOA1.out.1; rw [HDL.out] at h; exact h
        go_wp2_with (at_builtin; refine wpList_append_lies _ rfl _ _ 34 rfl W0.heap.size 40 i0 (.agg #[.int .i64 0, .int .i64 0, .int .i64 0]) 3 24 Try.underlying34 hi hz0 hz1 hz2 rfl (by decide) _ _ _ rfl HOW1.out ⟨W1.heap.size, 0, none⟩ 1 1 (trC (ti, tt, te)) rfl rfl HNW1.out (trC_one _) (by decide) hm1 hby1 HOA1.out.2.size _ rfl ?_)
        intro g1 cap1 w1 hown' hgrow hlies hg2
        have HF1 : Hid (OwnT W0 (.slice (some ⟨g1, 0, none⟩) (dl + 1) cap1) (D ++ [(ti, tt, te)]) w1) := HOA1.out.grown (by rw [HDL.out]; exact hown') hgrow
        clear hown' hgrow hlies hg2 HOA1 HNW1 HOW1
        have HDL2 : Hid ((D ++ [(ti, tt, te)]).length = dl + 1) := by show _ = _; rw [List.length_append, HDL.out]; rfl
        have hb1 : Below W0.heap.size W0 w1 := HF1.out.2
        have q1 : w1.cell? ⟨b, off + k * 3, none⟩ = some (.int .i64 xi) := (HX1.out w1 hb1).1
        have q2 : w1.cell? ⟨b, off + k * 3 + 1, none⟩ = some (.int .i64 xt) := (HX1.out w1 hb1).2.1
        have q3 : w1.cell? ⟨b, off + k * 3 + 2, none⟩ = some (.int .i64 xe) := (HX1.out w1 hb1).2.2
        clear z0 z1 z2 v1 v2 v3 hb1
        have HOA2 := Lib.hid (HF1.out.alloc (refO (xi, xt, xe)))
        have HNW2 := Lib.hid (news_ref w1 (xi, xt, xe))
        have HOW2 : Hid ((w1.alloc (refO (xi, xt, xe))).ownsRow W0.heap.size 40 3 (.slice (some ⟨g1, 0, none⟩) (dl + 1) cap1) (dl + 1) (trsC (D ++ [(ti, tt, te)]))) := by have h := HOA2.out.1; rw [HDL2.out] at h; exact h
        go_wp2_with (at_builtin; refine wpList_append_lies _ rfl _ _ 34 rfl W0.heap.size 40 i0 (.agg #[.int .i64 0, .int .i64 0, .int .i64 0]) 3 24 Try.underlying34 hi hz0 hz1 hz2 rfl (by decide) _ _ _ rfl HOW2.out ⟨w1.heap.size, 0, none⟩ 1 1 (trC (xi, xt, xe)) rfl rfl HNW2.out (trC_one _) (by decide) hm2 hby2 HOA2.out.2.size _ rfl ?_)
        intro g2 cap2 w2 hown' hgrow hlies hg2
        have HF2 : Hid (OwnT W0 (.slice (some ⟨g2, 0, none⟩) ((dl + 1) + 1) cap2) ((D ++ [(ti, tt, te)]) ++ [(xi, xt, xe)]) w2) := HOA2.out.grown (by rw [HDL2.out]; exact hown') hgrow
        clear hown' hgrow hlies hg2 HOA2 HNW2 HOW2
        have HG : Hid (OwnT W0 (.slice (some ⟨g2, 0, none⟩) (dl + 1 + 1) cap2) (insT (ti, tt, te) (l.take (k + 1))) w2) := by show OwnT _ _ _ _; rw [HI3.out]; exact HF2.out
        have HH : Hid (true = (l.take (k + 1)).any (befR (ti, tt, te))) := by show _ = _; rw [HA3.out]; rfl
        clear HF2 HF1 HI3 HA3
        go_wp2_with fail
        go_roundw
        case rel => exact ⟨k + 1, true, by go_num, by omega, rfl, HH, HG⟩
        case measure => simp [intOf]; omega
      | false =>
        have HI2 : Hid (insT (ti, tt, te) (l.take (k + 1)) = D ++ [(xi, xt, xe)]) := by
          show _ = _
          rw [HIN.out]
          cases hb with
          | true => rw [if_pos rfl]
          | false =>
            have e2 : befR (ti, tt, te) (xi, xt, xe) = false := by simpa using hcase
            rw [if_neg (by simp), e2, if_neg (by simp)]
        have HA2 : Hid (hb = (l.take (k + 1)).any (befR (ti, tt, te))) := by
          show _ = _
          rw [HAN.out]
          cases hb with
          | true => rfl
          | false =>
            have e2 : befR (ti, tt, te) (xi, xt, xe) = false := by simpa using hcase
            rw [e2]; rfl
        clear HIN HAN hcase HX1
        have HOA1 := Lib.hid (HO2.out.alloc (refO (xi, xt, xe)))
        have HNW1 := Lib.hid (news_ref W1 (xi, xt, xe))
        have HOW1 : Hid ((W1.alloc (refO (xi, xt, xe))).ownsRow W0.heap.size 40 3 u5 dl (trsC D)) := by have h := HOA1.out.1; rw [HDL.out] at h; exact h
        go_wp2_with (at_builtin; refine wpList_append_lies _ rfl _ _ 34 rfl W0.heap.size 40 i0 (.agg #[.int .i64 0, .int .i64 0, .int .i64 0]) 3 24 Try.underlying34 hi hz0 hz1 hz2 rfl (by decide) _ _ _ rfl HOW1.out ⟨W1.heap.size, 0, none⟩ 1 1 (trC (xi, xt, xe)) rfl rfl HNW1.out (trC_one _) (by decide) hm1 hby1 HOA1.out.2.size _ rfl ?_)
        intro g1 cap1 w1 hown' hgrow hlies hg2
        have HF1 : Hid (OwnT W0 (.slice (some ⟨g1, 0, none⟩) (dl + 1) cap1) (D ++ [(xi, xt, xe)]) w1) := HOA1.out.grown (by rw [HDL.out]; exact hown') hgrow
        clear hown' hgrow hlies hg2 HOA1 HNW1 HOW1
        have HG : Hid (OwnT W0 (.slice (some ⟨g1, 0, none⟩) (dl + 1) cap1) (insT (ti, tt, te) (l.take (k + 1))) w1) := by show OwnT _ _ _ _; rw [HI2.out]; exact HF1.out
        clear HF1 HI2
        go_wp2_with fail
        go_roundw
        case rel => exact ⟨k + 1, hb, by go_num, by omega, rfl, HA2, HG⟩
        case measure => simp [intOf]; omega
    · obtain rfl : k = n := by omega
      have HTK : Hid (l.take k = l) := List.take_of_length_le (by rw [HN.out]; exact Nat.le_refl _)
      rw [HTK.out] at HB HO
      have HPL := Lib.hid (putL_ins (ti, tt, te) l)
      cases hb with
      | true =>
        have HG : Hid (OwnT w u5 (putL (ti, tt, te) l) wr) := by
          show OwnT _ _ _ _
          rw [HPL.out, if_pos HB.out.symm]
          exact HFIN.out _ _ _ HO.out
        clear HO HB HPL
        go_wp2_with fail
        go_ret
        exact ⟨_, rfl, HG.out⟩
      | false =>
        have h0 : l.any (befR (ti, tt, te)) = false := HB.out.symm
        have HO2 : Hid (OwnT W0 u5 l wr) := by show OwnT _ _ _ _; have := HO.out; rwa [insT_no _ h0] at this
        have HPL2 : Hid (putL (ti, tt, te) l = l ++ [(ti, tt, te)]) := by show _ = _; rw [HPL.out, h0, if_neg (by simp)]
        have hs1 : k + 1 ≤ 2000 := by omega
        obtain ⟨hm1, hby1⟩ := small_ok hs1
        clear hs1
        clear HO HB HPL h0 hbw0
        have HOA1 := Lib.hid (HO2.out.alloc (refO (ti, tt, te)))
        have HNW1 := Lib.hid (news_ref wr (ti, tt, te))
        have HOW1 : Hid ((wr.alloc (refO (ti, tt, te))).ownsRow W0.heap.size 40 3 u5 k (trsC l)) := by have h := HOA1.out.1; rw [HN.out] at h; exact h
        go_wp2_with (at_builtin; refine wpList_append_lies _ rfl _ _ 34 rfl W0.heap.size 40 i0 (.agg #[.int .i64 0, .int .i64 0, .int .i64 0]) 3 24 Try.underlying34 hi hz0 hz1 hz2 rfl (by decide) _ _ _ rfl HOW1.out ⟨wr.heap.size, 0, none⟩ 1 1 (trC (ti, tt, te)) rfl rfl HNW1.out (trC_one _) (by decide) hm1 hby1 HOA1.out.2.size _ rfl ?_)
        intro g1 cap1 w1 hown' hgrow hlies hg2
        have HF1 : Hid (OwnT W0 (.slice (some ⟨g1, 0, none⟩) (k + 1) cap1) (l ++ [(ti, tt, te)]) w1) := HOA1.out.grown (by rw [HN.out]; exact hown') hgrow
        clear hown' hgrow hlies hg2 HOA1 HNW1 HOW1
        have HG : Hid (OwnT w (.slice (some ⟨g1, 0, none⟩) (k + 1) cap1) (putL (ti, tt, te) l) w1) := by show OwnT _ _ _ _; rw [HPL2.out]; exact HFIN.out _ _ _ HF1.out
        clear HF1 HPL2
        go_wp2_with fail
        go_ret
        exact ⟨_, rfl, HG.out⟩
end Go.Proofs.Ytcageojgfnihpaa
