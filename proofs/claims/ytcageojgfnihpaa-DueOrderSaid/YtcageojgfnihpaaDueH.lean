/- Layer 43: the law DueOrder, walked. -/
import Derived.Test.YtcageojgfnihpaaDueG
namespace Go.Proofs.Ytcageojgfnihpaa
set_option linter.unusedVariables false
open Go.RowKit

set_option maxRecDepth 100000 in
set_option maxHeartbeats 2000000 in
theorem dueOrder_any (A : Option Addr) (c : Nat) (L : List Op4) (now : Int) (w : World) (hl : L.length ≤ maxLen) (hL : Op4s w w.heap.size A L) (hnow : -9223372036854775808 ≤ now ∧ now ≤ 9223372036854775807) :
    Calls Try.prog 3 #[.slice A L.length c, .int .i64 now] w fun e w' => e = .returned (.bool true) ∧ Below w.heap.size w w' := by
  have HK := fun W => Lib.hid (knows43_any W)
  obtain ⟨n, hn⟩ : ∃ n, L.length = n := ⟨_, rfl⟩
  have HN := Lib.hid hn
  have HL := Lib.hid hL
  rw [hn] at hl ⊢
  clear hn hL
  by_cases hbad : 40 < n ∨ now < 0 ∨ 10000 < now
  · have hb : (40 < n) ∨ (n ≤ 40 ∧ now < 0) ∨ (n ≤ 40 ∧ 0 ≤ now ∧ 10000 < now) := by omega
    clear hbad hnow
    rcases hb with h1 | ⟨h1, h2⟩ | ⟨h1, h2, h3⟩
    all_goals
      go_enter Try.func3, Try.ntmps3
      go_wp2_with fail
      refine (HK _).out.mono ?_
      rintro e w1 ⟨rfl, hb1⟩
      have HB := Lib.hid hb1
      clear hb1
      go_wp2_with fail
      go_ret
      exact ⟨rfl, HB.out⟩
  · have h1 : n ≤ 40 := by omega
    have h2 : 0 ≤ now := by omega
    have h3 : now ≤ 10000 := by omega
    clear hbad hnow hl
    go_enter Try.func3, Try.ntmps3
    go_wp2_with fail
    refine (HK _).out.mono ?_
    rintro e w1 ⟨rfl, hb1⟩
    have HB1 := Lib.hid hb1
    clear hb1
    go_wp2_with fail
    refine (dueNew_any _).mono ?_
    rintro e w2 ⟨q, rfl, hb2, hq2⟩
    have HB2 := Lib.hid (Below.trans HB1.out (hb2.mono HB1.out.size))
    have HQ2 := Lib.hid hq2
    have HQ2S := Lib.hid hb2.size
    clear hb2 hq2
    have HA0 := Lib.hid (ArrS.start HQ2.out HB1.out.size HQ2S.out HB2.out)
    go_upto_region 6 with fail
    generalize ((w2.alloc (.cells zI 26)).alloc (.cells zI 26)).alloc (.cells zB 27) = W3 at *
    generalize w2.heap.size = g at *
    obtain ⟨S, hA⟩ := HA0.out
    have HA := Lib.hid hA
    clear hA HA0 HQ2 HQ2S HB2 HB1
    go_wp2_with fail
    go_loopw [9] (fun kv wr => ∃ (k N : Nat) (r : List Tr) (At Ev : Nat → Int) (St : Nat → Bool), kv = .int .i64 (k : Int) ∧ k ≤ n ∧ N ≤ k ∧ Hid (ArrS S q g N r At Ev St w wr ∧ SetI r At Ev St)) (fun kv _ => n - (intOf kv).toNat)
    case atStart => exact ⟨0, 0, [], _, _, _, rfl, Nat.zero_le _, Nat.le_refl _, HA.out, SetI.nil _ _⟩
    case round =>
      obtain ⟨k, N, r, At, Ev, St, rfl, hk, hNk, HR⟩ := hrel
      by_cases hlt : k < n
      · obtain ⟨b, off, hA, hbw, hwf, hcl⟩ := HL.out k (by rw [HN.out]; exact hlt)
        subst hA
        generalize L[k]'(by rw [HN.out]; exact hlt) = x at *
        obtain ⟨x0, xi, xa, xe⟩ := x
        have hbb := HR.out.1.bel
        have cl : ∀ j u, (op4C (x0, xi, xa, xe))[j]? = some u → wr.cell? ⟨b, off + k * 4 + j, none⟩ = some u := fun j u hu => by
          rw [show off + k * 4 + j = off + 4 * k + j from by omega]; exact (hbb.cell (p := ⟨b, off + 4 * k + j, none⟩) hbw).trans (hcl j u hu)
        have m0 : wr.cell? ⟨b, off + k * 4, none⟩ = some (.int .i64 x0) := cl 0 _ rfl
        have m1 : wr.cell? ⟨b, off + k * 4 + 1, none⟩ = some (.int .i64 xi) := cl 1 _ rfl
        have m2 : wr.cell? ⟨b, off + k * 4 + 2, none⟩ = some (.int .i64 xa) := cl 2 _ rfl
        have m3 : wr.cell? ⟨b, off + k * 4 + 3, none⟩ = some (.int .i64 xe) := cl 3 _ rfl
        clear hcl cl hbb
        have AR4 := HR.out.1.below (below_new wr (.cells (opC x0 xi xa xe) 29))
        have HX4 : Hid (∀ o, (wr.alloc (.cells (opC x0 xi xa xe) 29)).cell? ⟨wr.heap.size, o, none⟩ = (opC x0 xi xa xe)[o]?) := fun o => World.cell?_alloc_at _ _ _ _ rfl
        have HQA : Hid (QueI (fun k => S k ∨ (wr.heap.size ≤ k ∧ k < (wr.alloc (.cells (opC x0 xi xa xe) 29)).heap.size)) q N r (wr.alloc (.cells (opC x0 xi xa xe) 29))) := HR.out.1.que.also (below_new wr _)
        have HP4 : Hid (wr.heap.size < (wr.alloc (.cells (opC x0 xi xa xe) 29)).heap.size) := by show _ < _; simp
        have HSI := Lib.hid HR.out.2
        have HA4 := Lib.hid AR4
        have hgp : g + 1 + 1 < wr.heap.size := HR.out.1.s.lt
        go_upto_region 10 with fail
        generalize wr.alloc (.cells (opC x0 xi xa xe) 29) = W4 at *
        generalize wr.heap.size = p at *
        clear m0 m1 m2 m3 AR4 HR HL HN hwf
        have x1 : W4.cell? ⟨p, 1, none⟩ = some (.int .i64 xi) := HX4.out 1
        have x2 : W4.cell? ⟨p, 2, none⟩ = some (.int .i64 xa) := HX4.out 2
        have x3 : W4.cell? ⟨p, 3, none⟩ = some (.int .i64 xe) := HX4.out 3
        have X2 := Lib.hid x2
        have hways : ((decide (0 < xe) = true ∧ decide (xe < 100) = true) ∨ (decide (0 < xe) = false ∧ decide (1099511627776 < xa) = true) ∨ (decide (0 < xe) = true ∧ decide (xe < 100) = false ∧ decide (1099511627776 < xa) = true) ∨ (decide (0 < xe) = true ∧ decide (xe < 100) = false ∧ decide (1099511627776 < xa) = false ∧ decide (1099511627776 < xe) = true)) ∨
            (((decide (0 < xe) = false ∧ decide (1099511627776 < xa) = false ∧ decide (1099511627776 < xe) = false) ∨ (decide (0 < xe) = true ∧ decide (xe < 100) = false ∧ decide (1099511627776 < xa) = false ∧ decide (1099511627776 < xe) = false)) ∧
              ((0 ≤ xi ∧ xi < 16 ∧ 0 ≤ xa ∧ 0 ≤ xe) ∨ (decide (0 ≤ xi) = false) ∨ (decide (0 ≤ xi) = true ∧ decide (xi < 16) = false) ∨ (decide (0 ≤ xi) = true ∧ decide (xi < 16) = true ∧ decide (0 ≤ xa) = false) ∨ (decide (0 ≤ xi) = true ∧ decide (xi < 16) = true ∧ decide (0 ≤ xa) = true ∧ decide (0 ≤ xe) = false))) := by
          simp only [decide_eq_true_eq, decide_eq_false_iff_not]
          omega
        rcases hways with hbad | ⟨hgood, hv⟩
        · clear HX4 HQA HP4 HSI x1 x2
          have x2 : W4.cell? ⟨p, 2, none⟩ = some (.int .i64 xa) := X2.out
          rcases hbad with ⟨t1, t2⟩ | ⟨t1, t2⟩ | ⟨t1, t2, t3⟩ | ⟨t1, t2, t3, t4⟩
          all_goals
            go_wp2_with fail
            refine (HK _).out.mono ?_
            rintro e w5 ⟨rfl, hb5⟩
            have HB := Lib.hid (bthen HA4.out.bel hb5)
            clear hb5
            go_wp2_with fail
            go_ret
            exact ⟨rfl, HB.out⟩
        · rcases hv with hv | hv
          · obtain ⟨v1, v2, v3, v4⟩ := hv
            obtain ⟨j, rfl⟩ := Int.eq_ofNat_of_zero_le v1
            have hj : j < 16 := by omega
            have hev : xe = 0 ∨ 100 ≤ xe := by simp only [decide_eq_true_eq, decide_eq_false_iff_not] at hgood; omega
            have hb : setB j xa xe = true := by
              simp only [setB, inB, Bool.and_eq_true, decide_eq_true_eq]
              simp only [decide_eq_true_eq, decide_eq_false_iff_not] at hgood
              omega
            have HSET : Hid (Calls Try.prog 8 #[.pointer (some ⟨q, 0, none⟩), .int .i64 (j : Int), .int .i64 xa, .int .i64 xe] W4.drew fun e w' => e = .returned (.bool true) ∧ ArrS S q g (N + 1) (((j : Int), xa, xe) :: without r (j : Int)) At Ev St w w' ∧ (w'.cell? ⟨p, 1, none⟩ = some (.int .i64 (j : Int)) ∧ w'.cell? ⟨p, 2, none⟩ = some (.int .i64 xa) ∧ w'.cell? ⟨p, 3, none⟩ = some (.int .i64 xe))) := by
              have hA5 := HA4.out.below (bdrewN (Below.refl _ W4) 1)
              refine (set_ok (HQA.out.drewN 1) hb (by omega)).mono fun e w' ⟨q1, q2, q3⟩ => ⟨q1, hA5.kept (q3.less fun _ h => .inl h) (q2.less fun _ h => .inl h), ?_, ?_, ?_⟩
              · exact (q3.cell (.inr ⟨Nat.le_refl _, HP4.out⟩)).trans (HX4.out 1)
              · exact (q3.cell (.inr ⟨Nat.le_refl _, HP4.out⟩)).trans (HX4.out 2)
              · exact (q3.cell (.inr ⟨Nat.le_refl _, HP4.out⟩)).trans (HX4.out 3)
            have HSN := Lib.hid (HSI.out.put hj v3 hev)
            have d1 : decide (0 ≤ (j : Int)) = true := decide_eq_true v1
            have d2 : decide ((j : Int) < 16) = true := decide_eq_true v2
            have d2' : decide (j < 16) = true := decide_eq_true hj
            have d3 : decide (0 ≤ xa) = true := decide_eq_true v3
            have d4 : decide (0 ≤ xe) = true := decide_eq_true v4
            clear HX4 HQA HP4 HSI HA4 hb hev X2
            rcases hgood with ⟨t1, t2, t3⟩ | ⟨t1, t2, t3, t4⟩
            all_goals
              go_upto_region 12 with fail
              go_region_held3 (fun w' => w'.cell? ⟨p, 1, none⟩ = some (.int .i64 (j : Int)) ∧ w'.cell? ⟨p, 2, none⟩ = some (.int .i64 xa) ∧ w'.cell? ⟨p, 3, none⟩ = some (.int .i64 xe))
                (first | go_keep | exact HKX.out)
                ((go_at_call 8; refine HSET.out.mono ?_; rintro e w9 ⟨rfl, h9, hx9⟩; have HA9 := Lib.hid h9; have HKX := Lib.hid hx9; clear h9 hx9))
              clear x1 x2 x3 HSET
              obtain ⟨x1, x2, x3⟩ := HKX.out
              have aj := (HA9.out.a j hj).1
              have af := (HA9.out.a j hj).2
              have far : ∀ (W : World) (G o : Nat) (v u : Value) (i : Nat), G < p → W.cell? ⟨p, i, none⟩ = some u → (W.setCell ⟨G, o, none⟩ v).cell? ⟨p, i, none⟩ = some u := fun W G o v u i hG hu => (World.cell?_setCell_other _ _ _ _ (fun e => by injection e with e _; omega)).trans hu
              have FAR := Lib.hid far
              clear far
              go_upto_region 16 with fail
              have H5 := Lib.hid (HA9.out.setA hj xa)
              have y1 := FAR.out w9 g j (.int .i64 xa) _ 1 (by omega) x1
              have y3 := FAR.out w9 g j (.int .i64 xa) _ 3 (by omega) x3
              generalize w9.setCell ⟨g, j, none⟩ (.int .i64 xa) = W5 at *
              clear x1 x2 x3 aj af HKX HA9
              have ej := (H5.out.e j hj).1
              have ef := (H5.out.e j hj).2
              go_upto_region 17 with fail
              have H6 := Lib.hid (H5.out.setE hj xe)
              have z1 := FAR.out W5 (g + 1) j (.int .i64 xe) _ 1 (by omega) y1
              generalize W5.setCell ⟨g + 1, j, none⟩ (.int .i64 xe) = W6 at *
              clear y1 y3 ej ef H5 FAR
              have sj := (H6.out.s j hj).1
              have sf := (H6.out.s j hj).2
              have HFIN : Hid (ArrS S q g (N + 1) (((j : Int), xa, xe) :: without r (j : Int)) (setF At j xa) (setF Ev j xe) (setF St j true) w (W6.setCell ⟨g + 1 + 1, j, none⟩ (.bool true)) ∧ SetI (((j : Int), xa, xe) :: without r (j : Int)) (setF At j xa) (setF Ev j xe) (setF St j true)) := ⟨H6.out.setS hj true, HSN.out⟩
              clear H6 HSN
              go_wp2_with fail
              go_roundw
              case rel => exact ⟨k + 1, N + 1, _, _, _, _, by go_num, by omega, by omega, HFIN.out⟩
              case measure => simp [intOf]; omega
          · have HSB : Hid (∀ k, Calls Try.prog 8 #[.pointer (some ⟨q, 0, none⟩), .int .i64 xi, .int .i64 xa, .int .i64 xe] (W4.drewN k) fun e w' => e = .returned (.bool false) ∧ w' = W4.drewN k) := fun k =>
              (set_bad (HA4.out.que.drewN k) (id := xi) (t := xa) (ev := xe) (by
                rw [Bool.eq_false_iff]
                intro h
                simp only [setB, inB, Bool.and_eq_true, decide_eq_true_eq] at h
                simp only [decide_eq_true_eq, decide_eq_false_iff_not] at hv
                omega)).mono fun e w' ⟨h1, h2⟩ => ⟨h1, h2.symm⟩
            have HNX : Hid (∀ k, ArrS S q g N r At Ev St w (W4.drewN k) ∧ SetI r At Ev St) := fun k => ⟨HA4.out.below (bdrewN (Below.refl _ _) k), HSI.out⟩
            clear HX4 HQA HP4 HSI HA4
            rcases hgood with ⟨t1, t2, t3⟩ | ⟨t1, t2, t3, t4⟩
            all_goals
              rcases hv with v1 | ⟨v1, v2⟩ | ⟨v1, v2, v3⟩ | ⟨v1, v2, v3, v4⟩
            all_goals
              go_wp2_with fail
              go_quiet ((go_at_call 8; exact Calls.quiet_of_same (HSB.out _)))
              go_wp2_with fail
              go_roundw
              case rel => exact ⟨k + 1, N, r, At, Ev, St, by go_num, by omega, by omega, HNX.out _⟩
              case measure => simp [intOf]; omega
      · obtain rfl : k = n := by omega
        obtain ⟨S2, hA2⟩ := AskS.start HR.out.1 HR.out.2 (now := now) ⟨h2, h3⟩
        have HA2 := Lib.hid hA2
        clear hA2 HL HN HA HR hNk hk hlt
        go_upto_region 19 with fail
        generalize wr.alloc (.cells zI 26) = W5 at *
        generalize wr.heap.size = cb at *
        go_wp2_with fail
        go_loopw [12, 13] (fun wv iv wr => ∃ (i : Nat) (r : List Tr) (Cm : Nat → Int) (was : Int), wv = .int .i64 was ∧ iv = .int .i64 (i : Int) ∧ Hid (AskS S2 q g cb N r At Ev St Cm now was w wr ∧ (i : Int) = sumC Cm 16)) (fun _ iv _ => 2000 - (intOf iv).toNat)
        case atStart => exact ⟨0, _, _, 0, rfl, rfl, HA2.out, by rw [sumC_zero]; rfl⟩
        case round =>
          obtain ⟨i, r', Cm, was, rfl, rfl, HQ⟩ := hrel
          have hi : i ≤ 1616 := by have := HQ.out.1.ask.few; have := HQ.out.2; omega
          clear HA2
          by_cases hl : ∀ x ∈ r', now < x.2.1
          · have HNX := Lib.hid (HQ.out.1.noneDue hl)
            have HD := Lib.hid (fun j hj => HQ.out.1.ask.done hl (j := j) hj)
            have HC := Lib.hid HQ.out.1.c
            have HR2 := Lib.hid HQ.out.1.arr
            have HAK := Lib.hid HQ.out.1.ask
            clear hl HQ
            go_wp2_with fail
            refine HNX.out.mono ?_
            rintro e w' ⟨rfl, rfl⟩
            have HCE : Hid (∀ W, (∃ kk, W = wr.drewN kk) → ∀ j, j < 16 → W.cell? ⟨g + 1 + 1, j, none⟩ = some (.bool (St j)) ∧ W.cell? ⟨g, j, none⟩ = some (.int .i64 (At j)) ∧ W.cell? ⟨g + 1, j, none⟩ = some (.int .i64 (Ev j)) ∧ W.cell? ⟨cb, j, none⟩ = some (.int .i64 (Cm j))) := fun W hW j hj => by
              obtain ⟨kk, rfl⟩ := hW
              exact ⟨(HR2.out.s j hj).1, (HR2.out.a j hj).1, (HR2.out.e j hj).1, (HC.out j hj).1⟩
            have HEB : Hid (∀ W, (∃ kk, W = wr.drewN kk) → Below w.heap.size w W) := fun W hW => by
              obtain ⟨kk, rfl⟩ := hW
              exact bdrewN HR2.out.bel kk
            have HOKJ : Hid (∀ j, j < 16 → 0 ≤ Cm j ∧ Cm j ≤ 101 ∧ (St j = true → 0 ≤ At j ∧ (Ev j = 0 ∨ 100 ≤ Ev j))) := fun j hj => by
              have hc := HAK.out.came j hj
              refine ⟨hc.1, ?_, HAK.out.ok j hj⟩
              rcases Int.lt_or_le (Cm j) 1 with q | q
              · omega
              · obtain ⟨c4, c5⟩ := hc.2.1 q
                obtain ⟨o1, o2⟩ := HAK.out.ok j hj c5
                rcases o2 with o2 | o2
                · have := hc.2.2 o2; omega
                · have h3 : (Cm j - 1) * 100 ≤ (Cm j - 1) * Ev j := Int.mul_le_mul_of_nonneg_left o2 (by omega)
                  omega
            have HW0 : Hid (∃ kk, wr = wr.drewN kk) := ⟨0, rfl⟩
            clear HNX HC HR2 HAK
            go_wp2_with fail
            go_loopw [17] (fun v wy => ∃ j : Nat, v = .int .i64 (j : Int) ∧ j ≤ 16 ∧ Hid (∃ kk, wy = wr.drewN kk)) (fun v _ => 16 - (intOf v).toNat)
            case atStart => exact ⟨0, rfl, by omega, HW0⟩
            case round =>
              obtain ⟨j, rfl, hj, HWK⟩ := hrel
              by_cases hlt : j < 16
              · obtain ⟨l1, l2, l3, l4⟩ := HCE.out _ HWK.out j hlt
                have hd := HD.out j hlt
                obtain ⟨o1, o2, o3⟩ := HOKJ.out j hlt
                unfold wantI at hd
                cases hs : St j with
                | false =>
                  rw [hs] at l1 hd
                  rw [if_neg (by simp)] at hd
                  rw [hd] at l4
                  clear o1 o2 o3 hd hs
                  go_wp2_with fail
                  go_roundw
                  case rel => exact ⟨j + 1, by go_num, by omega, HWK⟩
                  case measure => simp [intOf]; omega
                | true =>
                  rw [hs] at l1 hd
                  obtain ⟨o4, o5⟩ := o3 hs
                  clear o3 hs
                  by_cases ha : At j ≤ now
                  · rw [if_pos ⟨rfl, ha⟩] at hd
                    rcases o5 with o5 | o5
                    · rw [if_neg (by omega)] at hd
                      rw [hd] at l4
                      rw [o5] at l3
                      clear o1 o2 hd o5
                      generalize At j = aj at *
                      go_wp2_with fail
                      go_roundw
                      case rel => exact ⟨j + 1, by go_num, by omega, HWK⟩
                      case measure => simp [intOf]; omega
                    · rw [if_pos (by omega)] at hd
                      have hdiv : (now - At j).tdiv (Ev j) = Cm j - 1 := by rw [Int.tdiv_eq_ediv_of_nonneg (by omega)]; omega
                      have hdiv2 : (now - At j) / (Ev j) = Cm j - 1 := by omega
                      have hpos : 0 < Ev j := by omega
                      have hsum : Cm j - 1 + 1 = Cm j := by omega
                      clear hd
                      generalize At j = aj at *
                      generalize Ev j = ej at *
                      generalize Cm j = cj at *
                      have hw1 : IntKind.i64.wrap (now - aj) = now - aj := IntWalk.i64_in _ (by omega)
                      have hw2 : IntKind.i64.wrap (cj - 1) = cj - 1 := IntWalk.i64_in _ (by omega)
                      have hw3 : IntKind.i64.wrap (cj - 1 + 1) = cj := by rw [hsum]; exact IntWalk.i64_in _ (by omega)
                      have hne : ¬ ej = 0 := by omega
                      have hbn : (cj != cj) = false := by rw [bne_eq_false_iff_eq]
                      go_wp2_with fail
                      go_quiet (fail)
                      go_wp2_with fail
                      go_roundw
                      case rel => exact ⟨j + 1, by go_num, by omega, by obtain ⟨kk, e⟩ := HWK.out; exact ⟨kk + nq, by rw [e]; simp⟩⟩
                      case measure => simp [intOf]; omega
                  · rw [if_neg (fun h => ha h.2)] at hd
                    rw [hd] at l4
                    have ha' : now < At j := by omega
                    clear o1 o2 o4 o5 hd ha
                    generalize At j = aj at *
                    go_wp2_with fail
                    go_roundw
                    case rel => exact ⟨j + 1, by go_num, by omega, HWK⟩
                    case measure => simp [intOf]; omega
              · obtain rfl : j = 16 := by omega
                have HB := Lib.hid (HEB.out _ HWK.out)
                go_wp2_with fail
                go_ret
                exact ⟨rfl, HB.out⟩
          · obtain ⟨j, r2, hj, hs, hw1, hw2, ha0, hm0, hc0, hc1, hask, hcall⟩ := HQ.out.1.oneDue hl
            have HQN := Lib.hid hcall
            have HSK := Lib.hid hask
            have HSC : Hid (S2 cb ∧ g + 1 + 1 < cb) := ⟨HQ.out.1.sc, HQ.out.1.gc⟩
            have HSM : Hid (((i + 1 : Nat) : Int) = sumC (setF Cm j (Cm j + 1)) 16) := by
              show _ = _
              rw [sumC_set, if_pos hj, ← HQ.out.2]
              omega
            clear hcall hask hl HQ
            obtain ⟨M, hM⟩ : ∃ M, Cm j * Ev j = M := ⟨_, rfl⟩
            rw [hM] at hw1 hw2 hm0 HQN HSK
            obtain ⟨T, hT⟩ : ∃ T, At j + M = T := ⟨_, rfl⟩
            have hw3 : IntKind.i64.wrap (Cm j * Ev j) = M := by rw [hM]; exact IntWalk.i64_in _ (by omega)
            have hw4 : IntKind.i64.wrap (At j + M) = T := by rw [IntWalk.i64_in _ (by omega)]; exact hT
            have hw5 : IntKind.i64.wrap (Cm j + 1) = Cm j + 1 := IntWalk.i64_in _ (by omega)
            have HSJ := Lib.hid hs
            clear hs
            rw [hT] at hw1 hw2 HQN HSK
            have hT0 : 0 ≤ T := by omega
            have hT9 : T ≤ 10000 := by omega
            have hM9 : M ≤ 10000 := by omega
            have hw7 : wrap64 M = M := IntWalk.wrap64_in _ (by omega)
            have hw8 : wrap64 T = T := IntWalk.wrap64_in _ (by omega)
            have hw6 := hT
            clear hT
            have l0 : ∀ W, ArrS S2 q g N r2 At Ev St w W → ArrI W cb (vI Cm) → W.cell? ⟨g + 1 + 1, j, none⟩ = some (.bool true) ∧ W.cell? ⟨g, j, none⟩ = some (.int .i64 (At j)) ∧ W.cell? ⟨cb, j, none⟩ = some (.int .i64 (Cm j)) ∧ W.cell? ⟨g + 1, j, none⟩ = some (.int .i64 (Ev j)) ∧ W.frozen? ⟨cb, j, none⟩ = false := fun W q1 q2 =>
              ⟨by rw [(q1.s j hj).1]; show some (Value.bool (St j)) = _; rw [HSJ.out], (q1.a j hj).1, (q2 j hj).1, (q1.e j hj).1, (q2 j hj).2⟩
            have HL0 := Lib.hid l0
            have HSK2 : Hid (∀ W k, ArrS S2 q g N r2 At Ev St w W → ArrI W cb (vI Cm) → AskS S2 q g cb N r2 At Ev St (setF Cm j (Cm j + 1)) now T w ((W.drewN k).setCell ⟨cb, j, none⟩ (.int .i64 (Cm j + 1)))) := fun W k q1 q2 => AskS.next q1 q2 HSC.out.1 HSC.out.2 hj HSK.out k
            clear l0
            generalize hAj : At j = aj at *
            generalize hEj : Ev j = ej at *
            obtain ⟨cj, hCj⟩ : ∃ cj, Cm j = cj := ⟨_, rfl⟩
            rw [hCj] at hw3 hw5 hM HL0 HSK2 hc0 hc1
            have HSM2 : Hid (((i + 1 : Nat) : Int) = sumC (setF Cm j (cj + 1)) 16) := by show _ = _; rw [← hCj]; exact HSM.out
            clear hAj hEj hCj HSM HSC HSK HSJ ha0
            have d1 : decide ((j : Int) < 0) = false := decide_eq_false (by omega)
            have d2 : decide ((15 : Int) < (j : Int)) = false := decide_eq_false (by omega)
            have d2' : decide (15 < j) = false := decide_eq_false (by omega)
            have d3 : decide (T < was) = false := decide_eq_false (by omega)
            have d4 : decide (now < T) = false := decide_eq_false (by omega)
            have d5 : (T != T) = false := by rw [bne_eq_false_iff_eq]
            go_wp2_with fail
            refine HQN.out.mono ?_
            rintro e w6 ⟨rfl, hr6, hc6⟩
            obtain ⟨l1, l2, l3, l4, l5⟩ := HL0.out w6 hr6 hc6
            have HFN := Lib.hid (fun k => HSK2.out w6 k hr6 hc6)
            clear hr6 hc6 HQN HL0 HSK2
            go_wp2_with fail
            go_quiet (fail)
            go_wp2_with fail
            go_roundw
            case rel => exact ⟨i + 1, r2, _, T, rfl, by go_num, HFN.out _, HSM2.out⟩
            case measure => simp [intOf]; omega
end Go.Proofs.Ytcageojgfnihpaa
