/- Layer 29: the law GsvTogether, walked. -/
import Derived.Test.YteofmahbimkggaaDoorMgp
namespace Go.Proofs.YteofmahbimkggaaDoor
set_option linter.unusedVariables false
open Go.RowKit

/-- The part i of n of a message, added to a book. -/
theorem add_first {k : Bk} {n : Nat} {L : List V4} (hn : 1 ≤ n) (h9 : n ≤ 9) (h4 : L.length ≤ 4) : addK k ⟨n, 1, 0, L⟩ = (if 1 < n then ⟨n, 2, L⟩ else ⟨0, 0, []⟩) ∧ addO k ⟨n, 1, 0, L⟩ = (if 1 < n then [] else L) ∧ addF k ⟨n, 1, 0, L⟩ = !decide (1 < n) := by
  have hb : ¬ badM ⟨n, 1, 0, L⟩ := fun h => by
    have h' : (n : Int) < 1 ∨ 9 < (n : Int) ∨ (1 : Int) < 1 ∨ (n : Int) < 1 ∨ 4 < L.length := h
    omega
  have e : fitK k ⟨n, 1, 0, L⟩ = ⟨n, 1, []⟩ := by unfold fitK; rw [if_neg hb]; rfl
  have f : fitB k ⟨n, 1, 0, L⟩ = true := by unfold fitB; rw [e, decide_eq_false hb]; simp
  unfold addK addO addF
  rw [f, e, if_pos rfl, if_pos rfl]
  have q : (1 : Int) < (n : Int) ↔ 1 < n := by omega
  simp only [List.nil_append, Bool.true_and]
  by_cases h : 1 < n
  · have h' : (1 : Int) < (n : Int) := by omega
    rw [if_pos h', if_pos h, if_pos h', if_pos h, decide_eq_true h', decide_eq_true h]
    exact ⟨rfl, rfl, rfl⟩
  · have h' : ¬ (1 : Int) < (n : Int) := by omega
    rw [if_neg h', if_neg h, if_neg h', if_neg h, decide_eq_false h', decide_eq_false h]
    exact ⟨rfl, rfl, rfl⟩
theorem add_next {W L : List V4} {n i : Nat} (hi : 1 ≤ i) (hin : i < n) (h9 : n ≤ 9) (h4 : L.length ≤ 4) : addK ⟨n, (i : Int) + 1, W⟩ ⟨n, (i : Int) + 1, 0, L⟩ = (if i + 1 < n then ⟨n, (i : Int) + 1 + 1, W ++ L⟩ else ⟨0, 0, []⟩) ∧ addO ⟨n, (i : Int) + 1, W⟩ ⟨n, (i : Int) + 1, 0, L⟩ = (if i + 1 < n then [] else W ++ L) ∧ addF ⟨n, (i : Int) + 1, W⟩ ⟨n, (i : Int) + 1, 0, L⟩ = !decide (i + 1 < n) := by
  have hb : ¬ badM ⟨n, (i : Int) + 1, 0, L⟩ := fun h => by
    have h' : (n : Int) < 1 ∨ 9 < (n : Int) ∨ (i : Int) + 1 < 1 ∨ (n : Int) < (i : Int) + 1 ∨ 4 < L.length := h
    omega
  have e : fitK ⟨n, (i : Int) + 1, W⟩ ⟨n, (i : Int) + 1, 0, L⟩ = ⟨n, (i : Int) + 1, W⟩ := by unfold fitK; rw [if_neg hb, if_neg (by simp only; omega)]
  have f : fitB ⟨n, (i : Int) + 1, W⟩ ⟨n, (i : Int) + 1, 0, L⟩ = true := by unfold fitB; rw [e, decide_eq_false hb]; simp
  unfold addK addO addF
  rw [f, e, if_pos rfl, if_pos rfl]
  simp only [Bool.true_and]
  by_cases h : i + 1 < n
  · have h' : (i : Int) + 1 < (n : Int) := by omega
    rw [if_pos h', if_pos h, if_pos h', if_pos h, decide_eq_true h', decide_eq_true h]
    exact ⟨rfl, rfl, rfl⟩
  · have h' : ¬ (i : Int) + 1 < (n : Int) := by omega
    rw [if_neg h', if_neg h, if_neg h', if_neg h, decide_eq_false h', decide_eq_false h]
    exact ⟨rfl, rfl, rfl⟩
/-- The book ahead of part i, what is wanted up to there being W. -/
def AtPart (n i : Nat) (W : List V4) (k : Bk) : Prop := (i = 0 ∧ W = []) ∨ (1 ≤ i ∧ i < n ∧ k = ⟨n, (i : Int) + 1, W⟩) ∨ (i = n ∧ k = ⟨0, 0, []⟩)
theorem add_part {n i : Nat} {W L : List V4} {k : Bk} (h : AtPart n i W k) (hin : i < n) (h9 : n ≤ 9) (h4 : L.length ≤ 4) :
    AtPart n (i + 1) (W ++ L) (addK k ⟨n, (i : Int) + 1, 0, L⟩) ∧ addO k ⟨n, (i : Int) + 1, 0, L⟩ = (if i + 1 < n then [] else W ++ L) ∧ addF k ⟨n, (i : Int) + 1, 0, L⟩ = !decide (i + 1 < n) := by
  rcases h with ⟨rfl, rfl⟩ | ⟨h1, h2, rfl⟩ | ⟨h1, -⟩
  · obtain ⟨a, b, c⟩ := add_first (k := k) (n := n) (L := L) (by omega) h9 h4
    simp only [Nat.zero_add, List.nil_append]
    rw [show ((0 : Nat) : Int) + 1 = 1 from rfl, a, b, c]
    refine ⟨?_, rfl, rfl⟩
    by_cases q : 1 < n
    · rw [if_pos q]; exact .inr (.inl ⟨by omega, q, rfl⟩)
    · rw [if_neg q]; exact .inr (.inr ⟨by omega, rfl⟩)
  · obtain ⟨a, b, c⟩ := add_next (W := W) (L := L) h1 hin h9 h4
    rw [a, b, c]
    refine ⟨?_, rfl, rfl⟩
    by_cases q : i + 1 < n
    · rw [if_pos q]; exact .inr (.inl ⟨by omega, q, by push_cast; rfl⟩)
    · rw [if_neg q]; exact .inr (.inr ⟨by omega, rfl⟩)
  · omega
theorem addK_zero_len {k : Bk} {n i : Nat} {W : List V4} (h : AtPart n i W k) (h0 : 1 ≤ i) : k.L.length ≤ W.length := by
  rcases h with ⟨rfl, rfl⟩ | ⟨h1, h2, rfl⟩ | ⟨h1, rfl⟩
  · omega
  · exact Nat.le_refl _
  · exact Nat.zero_le _
theorem own_same {w w' : World} {B : Nat} {e : TypeId} {size n : Nat} {v : Value} {xs : List Value} (h : w.ownsRow B e size v n xs) (hk : ∀ b, v.ownBlock = some b → w'.heap[b]? = w.heap[b]?) : w'.ownsRow B e size v n xs := by
  refine ⟨h.1, ?_⟩
  rcases h.2 with h | ⟨g, cap, cur, hv, hb, hg, h1, h2, h3, h4⟩
  · exact .inl h
  · exact .inr ⟨g, cap, cur, hv, hb, (hk g (by rw [hv]; rfl)).trans hg, h1, h2, h3, h4⟩
set_option maxRecDepth 8000 in
theorem gsvTog_many (A B : Option Addr) (n c m d : Nat) (w : World) (h : (20 : Int) < (n : Int) ∨ (m : Int) < 1 ∨ (9 : Int) < (m : Int)) (hn : n ≤ maxLen) (hm : m ≤ maxLen) : Calls Tryd.prog 4 #[.slice A n c, .slice B m d] w fun e w' => e = .returned (.bool true) ∧ Below w.heap.size w w' := by
  unfold maxLen at hn hm
  have HK := fun W => Lib.hid (knows29_any W)
  rcases h with h | h | h
  · go_enter Tryd.func4, Tryd.ntmps4
    go_wp2_with fail
    refine ((HK _).out).mono ?_
    rintro e w1 ⟨rfl, hb1⟩
    go_wp2_with fail
    go_ret
    exact ⟨rfl, hb1⟩
  · by_cases h2 : (20 : Int) < (n : Int)
    all_goals
      go_enter Tryd.func4, Tryd.ntmps4
      go_wp2_with fail
      refine ((HK _).out).mono ?_
      rintro e w1 ⟨rfl, hb1⟩
      go_wp2_with fail
      go_ret
      exact ⟨rfl, hb1⟩
  · by_cases h2 : (20 : Int) < (n : Int)
    all_goals
      go_enter Tryd.func4, Tryd.ntmps4
      go_wp2_with fail
      refine ((HK _).out).mono ?_
      rintro e w1 ⟨rfl, hb1⟩
      go_wp2_with fail
      go_ret
      exact ⟨rfl, hb1⟩
/-- The second loop's books. -/
structure TogS (w : World) (g m i : Nat) (u : Value) (wr : World) (S : Nat → Prop) (k : Bk) (W : List V4) : Prop where
  own : wr.ownsRow w.heap.size 53 8 u W.length (vsC W)
  bk : BkP S g k wr
  old : ∀ b, b < w.heap.size → S b
  row : ∀ b, u.ownBlock = some b → S b
  at_ : AtPart m i W k
  k0 : i = 0 → k.L.length ≤ 80
  ln : W.length ≤ 4 * i
  kp : Below w.heap.size w wr
set_option maxRecDepth 8000 in
set_option maxHeartbeats 8000000 in
theorem gsvTog_few (A B : Option Addr) (n c m d : Nat) (w : World) (hn : n ≤ 20) (hm1 : 1 ≤ m) (hm9 : m ≤ 9) (hs : Hid (Msgs (fun b => b < w.heap.size) w A n)) (hr : Hid (Rows (fun b => b < w.heap.size) w B m)) : Calls Tryd.prog 4 #[.slice A n c, .slice B m d] w fun e w' => e = .returned (.bool true) ∧ Below w.heap.size w w' := by
  have HK := fun W => Lib.hid (knows29_any W)
  have hM : ∀ W, Below w.heap.size w W → Hid (Msgs (fun b => b < w.heap.size) W A n) := fun W hb => hs.out.keep fun b h => hb.block b h
  have hR : ∀ W, Below w.heap.size w W → Hid (Rows (fun b => b < w.heap.size) W B m) := fun W hb => hr.out.keep fun b h => hb.block b h
  have hn' : (n : Int) ≤ 20 := by omega
  have hm1' : (1 : Int) ≤ (m : Int) := by omega
  have hm9' : (m : Int) ≤ 9 := by omega
  clear hs hr
  go_enter Tryd.func4, Tryd.ntmps4
  go_wp2_with fail
  refine ((HK _).out).mono ?_
  rintro e w1 ⟨rfl, hb1⟩
  go_wp2_with fail
  refine (gsvNew_bk _).mono ?_
  rintro e w2 ⟨rfl, hk2, hb2, hz2⟩
  have HI0 : Hid (∃ k, BkP (fun b => b < w1.heap.size) w1.heap.size k w2 ∧ k.L.length ≤ 4 * 0 ∧ Below w.heap.size w w2) := ⟨_, hk2, Nat.le_refl _, bthen hb1 hb2⟩
  have HZ : Hid (w.heap.size ≤ w1.heap.size) := hb1.size
  generalize w1.heap.size = g at *
  clear hb1 hk2 hb2 hz2
  go_wp2_with fail
  go_loopw [6] (fun i wr => ∃ j : Nat, i = .int .i64 (j : Int) ∧ j ≤ n ∧ Hid (∃ k, BkP (fun b => b < g) g k wr ∧ k.L.length ≤ 4 * j ∧ Below w.heap.size w wr)) (fun i _ => n - (intOf i).toNat)
  case atStart => exact ⟨0, rfl, Nat.zero_le _, HI0⟩
  case round =>
    obtain ⟨j, rfl, hj, HI⟩ := hrel
    obtain ⟨k, hk, hkl, hkb⟩ := HI.out
    clear HI0 HI
    by_cases hlt : j < n
    · obtain ⟨b, off, T, N, S', Ai, ci, L, hA, hb, hL, hc, hfl⟩ := (hM _ hkb).out j hlt
      subst hA
      have x0 : wr.cell? ⟨b, off + j * 4, none⟩ = some (.int .i64 T) := hc 0 _ rfl
      have x1 : wr.cell? ⟨b, off + j * 4 + 1, none⟩ = some (.int .i64 N) := hc 1 _ rfl
      have x2 : wr.cell? ⟨b, off + j * 4 + 2, none⟩ = some (.int .i64 S') := hc 2 _ rfl
      have x3 : wr.cell? ⟨b, off + j * 4 + 3, none⟩ = some (.slice Ai L.length ci) := hc 3 _ rfl
      have i0 : (0 : Int) ≤ (j : Int) := Int.natCast_nonneg _
      have i1 : (j : Int) < (n : Int) := by omega
      have HADD := Lib.hid (gsvAdd_any T N S' Ai ci L hk (hfl.less fun b h => Nat.lt_of_lt_of_le h HZ.out) hL (by omega))
      have HLE := Lib.hid (addK_len k ⟨T, N, S', L⟩)
      have HKB := Lib.hid hkb
      have HKL := Lib.hid hkl
      unfold maxLen at hL
      clear hc hfl hM hk hkb hkl
      generalize L.length = ml at *
      by_cases h20 : (20 : Int) < (ml : Int)
      · clear x0 x1 x2
        go_wp2_with fail
        refine (HK _).out.mono ?_
        rintro r w2 ⟨rfl, hb2⟩
        go_wp2_with fail
        go_ret
        exact ⟨rfl, bthen HKB.out hb2⟩
      · have h20' : (ml : Int) ≤ 20 := by omega
        go_wp2_with fail
        refine HADD.out.mono ?_
        rintro r w3 ⟨C, e, rfl, -, hk3, hkp3⟩
        have HN : Hid (∃ k, BkP (fun b => b < g) g k w3 ∧ k.L.length ≤ 4 * (j + 1) ∧ Below w.heap.size w w3) := by
          have h1 := HLE.out
          have h2 := HKL.out
          have h3 := HKB.out
          exact ⟨_, hk3, by omega, h3.trans (hkp3.below fun b h => Nat.lt_of_lt_of_le h HZ.out)⟩
        clear hk3 hkp3 HADD x0 x1 x2 x3
        go_wp2_with fail
        go_roundw
        case rel => exact ⟨j + 1, by go_num, by omega, HN⟩
        case measure => simp [intOf]; omega
    · obtain rfl : n = j := by omega
      have HI0 : Hid (∃ S k W, TogS w g m 0 (.slice none 0 0) wr S k W) := ⟨_, k, [], World.ownsRow_nil _ _ _ _, hk, fun b h => Nat.lt_of_lt_of_le h HZ.out, fun b q => (by cases q), .inl ⟨rfl, rfl⟩, fun _ => by omega, Nat.zero_le _, hkb⟩
      clear hk hkl hkb hM hlt
      go_wp2_with fail
      go_loopw [7, 8] (fun u i wr => ∃ j : Nat, i = .int .i64 (j : Int) ∧ j ≤ m ∧ Hid (∃ S k W, TogS w g m j u wr S k W)) (fun _ i _ => m - (intOf i).toNat)
      case atStart => exact ⟨0, rfl, Nat.zero_le _, HI0⟩
      case round =>
        obtain ⟨j, rfl, hj, HI⟩ := hrel
        obtain ⟨S, k, W, hT⟩ := HI.out
        clear HI HI0
        by_cases hlt : j < m
        · obtain ⟨b, off, Ai, ci, L, hB, hb, hL, hc, hfl⟩ := (hR _ hT.kp).out j hlt
          subst hB
          have i0 : (0 : Int) ≤ (j : Int) := Int.natCast_nonneg _
          have i1 : (j : Int) < (m : Int) := by omega
          by_cases h4 : (4 : Int) < (L.length : Int)
          · have HKB := Lib.hid hT.kp
            unfold maxLen at hL
            clear hR hT hfl
            generalize L.length = ml at *
            go_wp2_with fail
            refine (HK _).out.mono ?_
            rintro r w2 ⟨rfl, hb2⟩
            go_wp2_with fail
            go_ret
            exact ⟨rfl, bthen HKB.out hb2⟩
          · have h4' : L.length ≤ 4 := by omega
            have h4i : (L.length : Int) ≤ 4 := by omega
            obtain ⟨i0', hi, hz0, hz1, hz2⟩ := view_info
            have hWl := hT.ln
            obtain ⟨v', w2, hrun, h8, h9, h10⟩ := run_append_mine (P := Tryd.prog) wr 24 24 53 i0' _ 8 64 Tryd.underlying24 hi hz0 hz1 hz2 rfl (by decide) w.heap.size u7 W.length (vsC W) hT.own Ai L.length ci (vsC L) (vsC_len L) hfl (vsC_one L) (by unfold maxLen; omega) (by omega) hT.kp.size
            have hfar : ∀ b, ¬ S b → b < wr.heap.size → w2.heap[b]? = wr.heap[b]? := fun b q hl => h9.block b hl (fun e => q (hT.row b e.symm))
            have hfar2 : ∀ b, b < w.heap.size → w2.heap[b]? = wr.heap[b]? := fun b hl => h9.block b (Nat.lt_of_lt_of_le hl hT.kp.size) (fun e => by have := (hT.own.lt b e.symm).1; omega)
            have hbk2 := BkI.grown hT.bk h9.size hfar
            have hrow2 : ∀ b, v'.ownBlock = some b → S b ∨ (wr.heap.size ≤ b ∧ b < w2.heap.size) := fun b e => by
              rcases h10 with q | q
              · exact .inl (hT.row b (q ▸ e))
              · exact .inr ⟨by rw [q] at e; injection e with e; omega, (h8.lt b e).2⟩
            have hc2 : w2.cell? ⟨b, off + j, none⟩ = some (.slice Ai L.length ci) := (World.cell?_of_block (a := ⟨b, off + j, none⟩) (hfar2 b hb)).trans hc
            have hfl2 : FlatQ (fun k => S k ∨ (wr.heap.size ≤ k ∧ k < w2.heap.size)) w2 Ai (vsC L) := (hfl.keep fun b hl => hfar2 b hl).less fun b hl => .inl (hT.old b hl)
            obtain ⟨p1, p2, p3⟩ := add_part (L := L) hT.at_ hlt hm9 h4'
            have hkl : k.L.length ≤ 10000 := by
              rcases Nat.eq_zero_or_pos j with q | q
              · have := hT.k0 q; omega
              · have := addK_zero_len hT.at_ q; omega
            have hadd := gsvAdd_any (S := fun k => S k ∨ (wr.heap.size ≤ k ∧ k < w2.heap.size)) (g := g) (k := k) (w := w2) (m : Int) ((j : Int) + 1) 0 Ai ci L hbk2 hfl2 hL hkl
            unfold AddPost at hadd
            have hbel2 : Below w.heap.size w w2 := hT.kp.trans ⟨h9.os, h9.tape, h9.output, h9.size, hfar2⟩
            rw [p2, p3] at hadd
            have hown2 : w2.ownsRow w.heap.size 53 8 v' (W ++ L).length (vsC (W ++ L)) := by rw [List.length_append, vsC_append]; exact h8
            have hold := hT.old
            have HNX : Hid (∀ w3, BkP (fun k => S k ∨ (wr.heap.size ≤ k ∧ k < w2.heap.size)) g (addK k ⟨m, (j : Int) + 1, 0, L⟩) w3 → KeptS (fun k => S k ∨ (wr.heap.size ≤ k ∧ k < w2.heap.size)) w2 w3 → TogS w g m (j + 1) v' w3 (fun k => S k ∨ (wr.heap.size ≤ k ∧ k < w2.heap.size)) (addK k ⟨m, (j : Int) + 1, 0, L⟩) (W ++ L)) := fun w3 q1 q2 =>
              ⟨own_same hown2 (fun b e => q2.block b (hrow2 b e)), q1, fun b hl => .inl (hold b hl), hrow2, p1, fun q => by omega, by rw [List.length_append]; omega, hbel2.trans (q2.below fun b hl => .inl (hold b hl))⟩
            obtain ⟨Bw, dw, hvw, -, hflw, -⟩ := flatq_own hown2
            subst hvw
            have HFW := Lib.hid hflw
            have HRW := Lib.hid hrow2
            have HADD := Lib.hid hadd
            have HRUN := Lib.hid hrun
            have HLL : Hid ((W ++ L).length ≤ 1000000) := by show _ ≤ _; rw [List.length_append]; omega
            clear hT hfl hrun h8 h9 h10 hfar hfar2 hbk2 hrow2 hfl2 p1 p2 p3 hkl hadd hbel2 hown2 hold hi hz0 hz1 hz2 hflw hWl
            generalize hml : L.length = ml at *
            have HML := Lib.hid hml
            clear hml
            by_cases q : j + 1 < m
            · rw [if_pos q, decide_eq_true q] at HADD
              have b1 : ((j : Int) == (m : Int) - 1) = false := by simp; omega
              go_wp2_with (at_builtin; refine wpList_append_known rfl _ _ 24 rfl _ _ _ rfl rfl HRUN.out ?_)
              refine HADD.out.mono ?_
              rintro r w3 ⟨C, e, rfl, -, hk3, hkp3⟩
              have HN := Lib.hid (HNX.out w3 hk3 hkp3)
              clear hk3 hkp3 HADD HNX HRUN HRW HFW hc2 hc
              go_wp2_with fail
              go_roundw
              case rel => exact ⟨j + 1, by go_num, by omega, ⟨_, _, _, by simpa using HN.out⟩⟩
              case measure => simp [intOf]; omega
            · rw [if_neg q, decide_eq_false q] at HADD
              have b1 : ((j : Int) == (m : Int) - 1) = true := by simp; omega
              go_wp2_with (at_builtin; refine wpList_append_known rfl _ _ 24 rfl _ _ _ rfl rfl HRUN.out ?_)
              refine HADD.out.mono ?_
              rintro r w3 ⟨C, e, rfl, hfo, hk3, hkp3⟩
              have hN := HNX.out w3 hk3 hkp3
              have HV : Hid (Calls Tryd.prog 10 #[.slice C (W.length + L.length) e, .slice Bw (W.length + L.length) dw] w3 fun e w' => e = .returned (.bool true) ∧ ∃ m, w' = w3.drewN m) := by
                obtain ⟨B', d', e1, -, e2, -⟩ := flatq_own hN.own
                injection e1 with e1 _ e3
                subst e1 e3
                have := views_equal (c := e) (d := dw) hfo e2 HLL.out
                rw [List.length_append] at this
                exact this
              have HN := Lib.hid hN
              clear hN hfo hk3 hkp3 HADD HNX HRUN HRW HFW hc2 hc
              go_wp2_with fail
              refine HV.out.mono ?_
              rintro r w4 ⟨rfl, m2, rfl⟩
              have HN2 : Hid (TogS w g m (j + 1) (.slice Bw (W.length + L.length) dw) (w3.drewN m2) (fun k => S k ∨ (wr.heap.size ≤ k ∧ k < w2.heap.size)) (addK k ⟨m, (j : Int) + 1, 0, L⟩) (W ++ L)) := by
                obtain ⟨q1, ⟨v, q2⟩, q3, q4, q5, q6, q7, q8⟩ := HN.out
                rw [List.length_append] at q1 q4
                refine ⟨by rw [List.length_append]; exact own_same q1 (fun _ _ => rfl), ⟨v, q2.drewN m2⟩, q3, q4, q5, q6, q7, bdrewN q8 m2⟩
              clear HN HV
              go_wp2_with fail
              go_roundw
              case rel => exact ⟨j + 1, by go_num, by omega, ⟨_, _, _, HN2.out⟩⟩
              case measure => simp [intOf]; omega
        · obtain rfl : m = j := by omega
          have hk0 : k = ⟨0, 0, []⟩ := by
            rcases hT.at_ with ⟨h, -⟩ | ⟨-, h, -⟩ | ⟨-, h⟩
            · omega
            · omega
            · exact h
          subst hk0
          have HW := Lib.hid (gsvWait_any hT.bk)
          have HB := Lib.hid hT.kp
          clear hT
          go_wp2_with fail
          refine HW.out.mono ?_
          rintro r w5 ⟨rfl, m1, rfl⟩
          go_wp2_with fail
          go_ret
          exact ⟨rfl, bdrewN HB.out _⟩
theorem gsvTogether_any (A : Option Addr) (n c : Nat) (B : Option Addr) (m d : Nat) (w : World) (hn : n ≤ maxLen) (hs : Msgs (fun b => b < w.heap.size) w A n) (hm : m ≤ maxLen) (hr : Rows (fun b => b < w.heap.size) w B m) : Calls Tryd.prog 4 #[.slice A n c, .slice B m d] w fun e w' => e = .returned (.bool true) ∧ Below w.heap.size w w' := by
  by_cases h : (20 : Int) < (n : Int) ∨ (m : Int) < 1 ∨ (9 : Int) < (m : Int)
  · exact gsvTog_many A B n c m d w h hn hm
  · exact gsvTog_few A B n c m d w (by omega) (by omega) (by omega) hs hr
end Go.Proofs.YteofmahbimkggaaDoor
