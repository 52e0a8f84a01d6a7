/- Layer 33: the reference's Hear. -/
import Derived.Test.YtloebedipfppeaaGapQ
import Derived.OwnWalk
import Derived.Deep.CutBlock
namespace Go.Proofs.Ytloebedipfppeaa
set_option linter.unusedVariables false
open Go.RowKit

theorem results3 {fn : Func} {t u v : Tmp} (h : fn.results = #[.tmp t, .tmp u, .tmp v]) (tmps : Array Value) (P : Program) (w : World) :
    (results fn tmps).run P w = .ok (.tuple #[tmps.getD t undef, tmps.getD u undef, tmps.getD v undef]) w := by
  simp [results, h]
theorem octet_same (n : Int) (w : World) : Calls Try.prog 20 #[.int .i64 n] w fun e w' => e = .returned (.bool (octB n)) ∧ w = w' := (octet_any n w).mono fun _ _ ⟨h1, h2⟩ => ⟨h1, h2.symm⟩
theorem ref_info : (Try.prog.info? 41).map (fun i => (i.zero, i.size, i.bytes)) = some (some (lnV 0 0 0 0 0), 5, 40) := by kernel_rfl
theorem lnL_one (x : Ln) : ∀ u ∈ lnL x, u.oneCell' = true := by intro u hu; simp [lnL] at hu; rcases hu with rfl | rfl | rfl | rfl | rfl <;> rfl
theorem lnsC_one (l : List Ln) : ∀ u ∈ lnsC l, u.oneCell' = true := fun u hu => by
  obtain ⟨x, -, hx⟩ := List.mem_flatMap.1 hu
  exact lnL_one x u hx
set_option maxHeartbeats 1000000 in
theorem r33Hear_bad (A : Option Addr) (n cc : Nat) (q s c : Int) (w : World) (ho : (octB q && octB s && octB c) = false) : Calls Try.prog 10 #[.slice A n cc, .int .i64 q, .int .i64 s, .int .i64 c] w fun e w' => e = .returned (.tuple #[.slice A n cc, .int .i64 0, .bool false]) ∧ w' = w := by
  have H1 := fun W => Lib.hid (octet_same q W)
  have H2 := fun W => Lib.hid (octet_same s W)
  have H3 := fun W => Lib.hid (octet_same c W)
  generalize octB q = x at *
  generalize octB s = y at *
  generalize octB c = z at *
  cases x <;> cases y <;> cases z <;> first | cases ho | skip
  all_goals
    go_enter Try.func10, Try.ntmps10
    go_wp2_with (first | (go_at_call 20; with_reducible refine (H1 _).out.mono ?_; rintro e w' ⟨rfl, rfl⟩) | (go_at_call 20; with_reducible refine (H2 _).out.mono ?_; rintro e w' ⟨rfl, rfl⟩) | (go_at_call 20; with_reducible refine (H3 _).out.mono ?_; rintro e w' ⟨rfl, rfl⟩))
  all_goals try simp only [Exit.inBlock, Exit.then]
  all_goals refine bodyPost_ret (results3 rfl _ _ _) rfl ?_
  all_goals (first | exact ⟨rfl, rfl⟩ | exact ⟨rfl, trivial⟩ | exact ⟨trivial, rfl⟩)
/-- What the reference's Hear tells. -/
def R33Post (A : Option Addr) (X : List Ln × Int × Bool) (w : World) (e : Ending) (w' : World) : Prop :=
  ∃ B cap, e = .returned (.tuple #[.slice B X.1.length cap, .int .i64 X.2.1, .bool X.2.2]) ∧ (B = none → X.1.length = 0 ∧ cap = 0) ∧ Lns w' w'.heap.size B X.1 ∧ Below w.heap.size w w' ∧ ∀ a, B = some a → A = some a ∧ X.2.2 = false ∨ w.heap.size ≤ a.block
/-- What the loop of Hear stands at. -/
theorem r33_cond {l : List Ln} {s c : Int} {k : Nat} (hk : k ≤ (l.takeWhile (fun x => aheadB x s c)).length) (hl : k < l.length) : aheadB l[k] s c = decide (k < (l.takeWhile (fun x => aheadB x s c)).length) := by
  induction l generalizing k with
  | nil => cases hl
  | cons x l ih =>
    cases hx : aheadB x s c with
    | false =>
      simp only [List.takeWhile_cons, hx] at hk ⊢
      obtain rfl : k = 0 := by simpa using hk
      simpa using hx
    | true =>
      simp only [List.takeWhile_cons, hx] at hk ⊢
      cases k with
      | zero => simpa using hx
      | succ k =>
        have := ih (k := k) (by simpa using hk) (by simpa using hl)
        simp only [List.getElem_cons_succ, this]
        simp
set_option maxRecDepth 8000 in
set_option maxHeartbeats 8000000 in
theorem r33Hear_ok (A : Option Addr) (n cc : Nat) (l : List Ln) (q s c : Int) (w : World) (hln : l.length = n) (h16 : n ≤ 16) (hA : A = none → n = 0 ∧ cc = 0) (hl : Lns w w.heap.size A l) (hgood : ∀ x ∈ l, octB x.2.2.1 = true) (ho : (octB q && octB s && octB c) = true) :
    Calls Try.prog 10 #[.slice A n cc, .int .i64 q, .int .i64 s, .int .i64 c] w (R33Post A (hearL l q s c) w) := by
  have H1 := fun W => Lib.hid (octet_same q W)
  have H2 := fun W => Lib.hid (octet_same s W)
  have H3 := fun W => Lib.hid (octet_same c W)
  simp only [Bool.and_eq_true] at ho
  have HOC := Lib.hid ho
  rw [ho.1.1] at H1
  rw [ho.1.2] at H2
  rw [ho.2] at H3
  clear ho
  obtain ⟨i0, hi, hz0', hz1', hz2'⟩ := info_partsP ref_info
  have HF := Lib.hid hl.flat
  have hb0 := below_new w (.cells #[] 41)
  have HF0 : Hid (FlatS (w.alloc (.cells #[] 41)) (w.alloc (.cells #[] 41)).heap.size A (lnsC l)) := (hl.flat.below hb0 (Nat.le_refl _)).more hb0.size
  have HB0 := Lib.hid hb0
  have HLE : Hid ((lnsC l).length = n * 5) := by show _ = _; rw [lnsC_len, hln]
  clear hb0
  go_enter Try.func10, Try.ntmps10
  go_wp2_with (first | (go_at_call 20; with_reducible refine (H1 _).out.mono ?_; rintro e w' ⟨rfl, rfl⟩) | (go_at_call 20; with_reducible refine (H2 _).out.mono ?_; rintro e w' ⟨rfl, rfl⟩) | (go_at_call 20; with_reducible refine (H3 _).out.mono ?_; rintro e w' ⟨rfl, rfl⟩) | (at_builtin; refine wpList_append_full _ rfl _ _ 36 rfl 41 i0 (lnV 0 0 0 0 0) 5 40 Try.underlying36 hi hz0' hz1' hz2' rfl (by decide) (some ⟨w.heap.size, 0, none⟩) 0 0 [] rfl ?c1 (Nat.le_refl _) rfl (FlatS.nil _ _ _) A n cc (lnsC l) rfl HLE.out HF0.out (lnsC_one l) ?c2 ?c3 ?c4 ?_))
  case c2 => omega
  case c3 => unfold maxLen; omega
  case c4 => omega
  intro B cap' w1 hcap hno hfl hor hgrow
  have HB1 := Lib.hid (HB0.out.trans (Below.grown (Below.refl _ _) hgrow (Nat.le_of_lt (by simp)) (fun k hk => by cases hk)))
  have HL := Lib.hid hfl.lns
  have HOR := Lib.hid hor
  have HNO := Lib.hid hno
  have HLN := Lib.hid hln
  have HG := Lib.hid hgood
  have HAN := Lib.hid hA
  have HLL := Lib.hid hl
  obtain ⟨T, hT⟩ : ∃ T, (l.takeWhile (fun x => aheadB x s c)).length = T := ⟨_, rfl⟩
  have HT := Lib.hid hT
  have hTn : T ≤ n := by rw [← hT, ← hln]; exact (List.takeWhile_sublist _).length_le
  clear hfl hor hgrow hno hln hgood hA hl hT HF HF0 HLE HB0 H1 H2 H3 hi hz0' hz1' hz2'
  go_upto_block 0 with fail
  go_cut [12] (fun i wx => i = .int .i64 (T : Int) ∧ wx = w1)
  case first =>
    go_wp2_with fail
    go_loopw [12] (fun i wr => ∃ k : Nat, i = .int .i64 (k : Int) ∧ k ≤ T ∧ wr = w1) (fun i _ => n - (intOf i).toNat)
    case atStart => exact ⟨0, rfl, Nat.zero_le _, rfl⟩
    case round =>
      obtain ⟨k, rfl, hk, rfl⟩ := hrel
      by_cases hkn : k < n
      · have hkl : k < l.length := by rw [HLN.out]; exact hkn
        obtain ⟨b, off, hB, hb, hc⟩ := HL.out k hkl
        have hcond := r33_cond (s := s) (c := c) (by rw [HT.out]; exact hk) hkl
        rw [HT.out] at hcond
        subst hB
        generalize l[k] = x at *
        obtain ⟨x1, x2, x3, x4, x5⟩ := x
        have c0 : wr.cell? ⟨b, off + k * 5, none⟩ = some (.int .i64 x1) := by rw [Nat.mul_comm k 5]; exact hc 0 _ rfl
        have c1 : wr.cell? ⟨b, off + k * 5 + 1, none⟩ = some (.int .i64 x2) := by rw [Nat.mul_comm k 5]; exact hc 1 _ rfl
        have i1 : (k : Int) < (n : Int) := by omega
        have i2 : (0 : Int) ≤ (k : Int) := by omega
        clear hc hkl
        unfold aheadB at hcond
        simp only at hcond
        by_cases h1 : x1 < s
        · have hkT : k < T := by simpa [h1] using hcond.symm
          clear hcond
          go_wp2_with fail
          go_roundw
          case rel => exact ⟨k + 1, by go_num, by omega, by first | rfl | trivial⟩
          case measure => simp [intOf]; omega
        · by_cases h2 : x1 = s
          · subst h2
            by_cases h3 : x2 < c
            · have hkT : k < T := by simpa [h3] using hcond.symm
              clear hcond
              go_wp2_with fail
              go_roundw
              case rel => exact ⟨k + 1, by go_num, by omega, by first | rfl | trivial⟩
              case measure => simp [intOf]; omega
            · have hkT : k = T := by
                have : ¬ k < T := by simpa [h3] using hcond.symm
                omega
              clear hcond
              subst hkT
              go_wp2_with fail
              go_meet
              (first | exact ⟨rfl, rfl⟩ | exact ⟨rfl, trivial⟩ | exact ⟨trivial, rfl⟩)
          · have hkT : k = T := by
              have : ¬ k < T := by simpa [h1, h2] using hcond.symm
              omega
            have h4 : (x1 == s) = false := by rw [beq_eq_false_iff_ne]; exact h2
            clear hcond
            subst hkT
            go_wp2_with fail
            go_meet
            (first | exact ⟨rfl, rfl⟩ | exact ⟨rfl, trivial⟩ | exact ⟨trivial, rfl⟩)
      · obtain rfl : k = n := by omega
        obtain rfl : k = T := by omega
        go_wp2_with fail
        go_meet
        (first | exact ⟨rfl, rfl⟩ | exact ⟨rfl, trivial⟩ | exact ⟨trivial, rfl⟩)
  case rest =>
  obtain ⟨rfl, rfl⟩ := hcut
  have ho : (octB q && octB s && octB c) = true := by have h := HOC.out; simp only [Bool.and_eq_true]; exact h
  have HO := Lib.hid ho
  clear ho
  obtain ⟨b, rfl⟩ : ∃ b, B = some ⟨b, 0, none⟩ := by
    rcases HOR.out with ⟨h1, h2, h3⟩ | ⟨h0, h⟩
    · exact ⟨_, h2⟩
    · rcases h.2 with ⟨h1, h2⟩ | ⟨g, cp, cur, h1, -⟩
      · exact absurd h2 (by omega)
      · injection h1 with h1
        exact ⟨g, h1⟩
  by_cases hhit : ∃ h : T < l.length, lnKey l[T] = (s, c)
  · obtain ⟨hTl, hk⟩ := hhit
    have hTn' : T < n := by have := HLN.out; omega
    have hown : wc.ownsRow (w.heap.size + 1) 41 5 (.slice (some ⟨b, 0, none⟩) n cap') n (lnsC l) := by
      rcases HOR.out with ⟨h1, -⟩ | ⟨-, h⟩
      · omega
      · exact h
    obtain ⟨-, hbl, hbs, hfz, -⟩ := own_at hown
    have hres := hear_hit_at (q := q) HO.out HT.out hTl hk
    have hu : octB l[T].2.2.1 = true := HG.out _ (List.getElem_mem hTl)
    have hset := lnsC_set l T hTl q
    obtain ⟨b', off', hB, hb, hc⟩ := HL.out T hTl
    injection hB with hB
    injection hB with e1 e2
    subst e1 e2
    have k1 : l[T].1 = s := (Prod.ext_iff.1 hk).1
    have k2 : l[T].2.1 = c := (Prod.ext_iff.1 hk).2
    have hx : l[T] = (s, c, l[T].2.2.1, l[T].2.2.2.1, l[T].2.2.2.2) := by rw [← k1, ← k2]
    generalize l[T].2.2.1 = u at *
    generalize l[T].2.2.2.1 = h at *
    generalize l[T].2.2.2.2 = lo at *
    rw [hx] at hc
    have c0 : wc.cell? ⟨b, T * 5, none⟩ = some (.int .i64 s) := by rw [show T * 5 = 0 + 5 * T + 0 from by omega]; exact hc 0 _ rfl
    have c1 : wc.cell? ⟨b, T * 5 + 1, none⟩ = some (.int .i64 c) := by rw [show T * 5 + 1 = 0 + 5 * T + 1 from by omega]; exact hc 1 _ rfl
    have c2 : wc.cell? ⟨b, T * 5 + 2, none⟩ = some (.int .i64 u) := by rw [show T * 5 + 2 = 0 + 5 * T + 2 from by omega]; exact hc 2 _ rfl
    have c3 : wc.cell? ⟨b, T * 5 + 3, none⟩ = some (.int .i64 h) := by rw [show T * 5 + 3 = 0 + 5 * T + 3 from by omega]; exact hc 3 _ rfl
    have c4 : wc.cell? ⟨b, T * 5 + 4, none⟩ = some (.int .i64 lo) := by rw [show T * 5 + 4 = 0 + 5 * T + 4 from by omega]; exact hc 4 _ rfl
    have f2 := hfz (T * 5 + 2)
    have f3 := hfz (T * 5 + 3)
    have f4 := hfz (T * 5 + 4)
    have i1 : (T : Int) < (n : Int) := by omega
    have i2 : (0 : Int) ≤ (T : Int) := by omega
    have hq : octB q = true := HOC.out.1.1
    obtain ⟨q1, q2⟩ := octB_iff.1 hq
    obtain ⟨u1, u2⟩ := octB_iff.1 hu
    have HF := Lib.hid (((HL.out.flat.set (i := 5 * T + 2) (v := .int .i64 q)).set (i := 5 * T + 3) (v := .int .i64 (wrap64 (h + 1)))).set (i := 5 * T + 4) (v := .int .i64 (wrap64 (lo + lostOf u q))))
    rw [hset, show (0 + (5 * T + 2)) = T * 5 + 2 from by omega, show (0 + (5 * T + 3)) = T * 5 + 3 from by omega, show (0 + (5 * T + 4)) = T * 5 + 4 from by omega] at HF
    have HRES := Lib.hid hres
    have HLO : Hid ((q - u + 511) % 256 = lostOf u q) := rfl
    have HLE : Hid ((l.set T (heardL l[T] q)).length = n) := by show _ = _; rw [List.length_set]; exact HLN.out
    clear hres hset hc hx hk k1 k2 hu hq hfz
    generalize l.set T (heardL l[T] q) = l' at *
    go_wp2_with fail
    try simp only [Exit.inBlock, Exit.then]
    refine bodyPost_ret (results3 rfl _ _ _) rfl ?_
    refine ⟨some ⟨b, 0, none⟩, cap', ?_, ?_, ?_, ?_, fun a h => .inr (by injection h with h; subst h; show _ ≤ b; omega)⟩
    · rw [HRES.out, ← HLO.out]
      show Ending.returned (.tuple #[.slice _ n cap', _, _]) = .returned (.tuple #[.slice _ l'.length cap', _, _])
      rw [HLE.out]
      rfl
    · intro hh; cases hh
    · rw [HRES.out, HLO.out]
      exact (HF.out.more (by simp)).lns
    · exact ((HB1.out.setCell (by show _ ≤ b; omega) _).setCell (by show _ ≤ b; omega) _).setCell (by show _ ≤ b; omega) _
  · have hmiss : ∀ h : T < l.length, lnKey l[T] ≠ (s, c) := fun h e => hhit ⟨h, e⟩
    have HRES := Lib.hid (hear_miss_at (q := q) HO.out HT.out hmiss)
    have HMISS := Lib.hid hmiss
    clear hmiss hhit
    try dsimp only
    repeat (fail_if_success (show Code.wp _ (Code.seq (Code.region 7 _ _) _) _ _ _)
            first | go_values | go_skip | go_guarded | go_step | go_upon | go_back | (simp only [Int.not_lt, Int.not_le] at *; go_simp) | (go_ite <;> go_prune <;> (try go_simp)))
    go_cut [] (fun wx => wx = wc)
    case first =>
      by_cases hTn' : T < n
      · have hTl : T < l.length := by rw [HLN.out]; exact hTn'
        have hk := HMISS.out hTl
        obtain ⟨b', off', hB, hb, hc⟩ := HL.out T hTl
        injection hB with hB
        injection hB with e1 e2
        subst e1 e2
        generalize l[T] = x at *
        obtain ⟨x1, x2, x3, x4, x5⟩ := x
        have c0 : wc.cell? ⟨b, T * 5, none⟩ = some (.int .i64 x1) := by rw [show T * 5 = 0 + 5 * T + 0 from by omega]; exact hc 0 _ rfl
        have c1 : wc.cell? ⟨b, T * 5 + 1, none⟩ = some (.int .i64 x2) := by rw [show T * 5 + 1 = 0 + 5 * T + 1 from by omega]; exact hc 1 _ rfl
        have i1 : (T : Int) < (n : Int) := by omega
        have i2 : (0 : Int) ≤ (T : Int) := by omega
        clear hc hTl
        by_cases h1 : x1 = s
        · subst h1
          have h2 : (x2 == c) = false := by
            rw [beq_eq_false_iff_ne]
            intro e
            subst e
            exact hk rfl
          clear hk
          go_wp2_with fail
          go_meet
          first | rfl | trivial
        · have h2 : (x1 == s) = false := by rw [beq_eq_false_iff_ne]; exact h1
          clear hk h1
          go_wp2_with fail
          go_meet
          first | rfl | trivial
      · obtain rfl : T = n := by omega
        clear hTn'
        go_wp2_with fail
        go_meet
        first | rfl | trivial
    case rest =>
    subst hcut
    by_cases hn16 : 16 ≤ n
    · have i1 : (16 : Int) ≤ (n : Int) := by omega
      have HR2 : Hid (hearL l q s c = (l, 0, false)) := by
        show _ = _
        rw [HRES.out, if_pos (by rw [HLN.out]; exact hn16)]
      go_wp2_with fail
      try simp only [Exit.inBlock, Exit.then]
      refine bodyPost_ret (results3 rfl _ _ _) rfl ?_
      refine ⟨A, cc, ?_, ?_, ?_, HB1.out, fun a h => .inl ⟨h, by rw [HR2.out]⟩⟩
      · rw [HR2.out, ← HLN.out]; rfl
      · rw [HR2.out]; exact fun q => ⟨HLN.out.trans (HAN.out q).1, (HAN.out q).2⟩
      · rw [HR2.out]
        exact (HLL.out.below HB1.out (Nat.le_refl _)).more HB1.out.size
    · have i1 : (n : Int) < 16 := by omega
      have HR2 : Hid (hearL l q s c = (l.take T ++ [(s, c, q, 1, 0)] ++ l.drop T, 0, true)) := by
        show _ = _
        rw [HRES.out, if_neg (by rw [HLN.out]; exact hn16)]
      clear hn16
      have i2 : (T : Int) ≤ (n : Int) := by omega
      have i3 : (n : Int) ≤ (cap' : Int) := by omega
      have HLD : Hid ((lnsC (l.drop T)).length = (n - T) * 5) := by show _ = _; rw [lnsC_len, List.length_drop, HLN.out]
      have HFD : Hid (FlatS wc wc.heap.size (some ⟨b, T * 5, none⟩) (lnsC (l.drop T))) := by
        have h1 := HL.out.flat
        rw [lnsC_take l T (by rw [HLN.out]; exact hTn)] at h1
        have h2 := h1.right (n := T * 5) (by rw [lnsC_len, List.length_take, HLN.out, Nat.min_eq_left hTn])
        rw [Nat.zero_add] at h2
        exact h2
      have HFT : Hid (FlatS wc wc.heap.size (some ⟨b, 0, none⟩) (lnsC (l.take T))) := by
        have h1 := HL.out.flat
        rw [lnsC_take l T (by rw [HLN.out]; exact hTn)] at h1
        exact h1.left
      have HLT : Hid ((lnsC (l.take T)).length = T * 5) := by show _ = _; rw [lnsC_len, List.length_take, HLN.out, Nat.min_eq_left hTn]
      have HB3 := Lib.hid (below_new wc (.cells #[] 41))
      have HNIL : T = cap' → Hid (l.drop T = []) := fun e => List.drop_eq_nil_of_le (by rw [HLN.out]; omega)
      obtain ⟨W0, hW0⟩ : ∃ W0, W0 = wc := ⟨wc, rfl⟩
      subst hW0
      go_upto_region 15 with fail
      go_cut [14] (fun v wx => ∃ rb c', v = .slice (some ⟨rb, 0, none⟩) (n - T) c' ∧ Hid (Below W0.heap.size W0 wx) ∧ Hid (FlatS wx wx.heap.size (some ⟨rb, 0, none⟩) (lnsC (l.drop T))))
      case first =>
        obtain ⟨i0, hi, hz0', hz1', hz2'⟩ := info_partsP ref_info
        by_cases hTc : T = cap'
        · have HN := HNIL hTc
          subst hTc
          obtain rfl : n = T := by omega
          clear hcap hTn HNIL i2 i3 hi hz0' hz1' hz2'
          go_wp2_with fail
          go_meet
          exact ⟨W0.heap.size, 0, by rw [Nat.sub_self], HB3.out, by rw [HN.out]; exact FlatS.nil _ _ _⟩
        · have i4 : (T : Int) < (cap' : Int) := by omega
          have HFD2 := Lib.hid ((HFD.out.below HB3.out (Nat.le_refl _)).more HB3.out.size)
          clear hTc
          go_wp2_with (at_builtin; refine wpList_append_full _ rfl _ _ 36 rfl 41 i0 (lnV 0 0 0 0 0) 5 40 Try.underlying36 hi hz0' hz1' hz2' rfl (by decide) (some ⟨W0.heap.size, 0, none⟩) 0 0 [] rfl (fun _ => ⟨rfl, rfl⟩) (Nat.le_refl _) rfl (FlatS.nil _ _ _) _ _ _ (lnsC (l.drop T)) rfl HLD.out HFD2.out (lnsC_one _) ?d2 ?d3 ?d4 ?d5)
          case d2 => omega
          case d3 => unfold maxLen; omega
          case d4 => omega
          intro R c' w3 _ hno hfl hor hgrow
          obtain ⟨rb, rfl⟩ : ∃ rb, R = some ⟨rb, 0, none⟩ := by
            rcases hor with ⟨h1, h2, h3⟩ | ⟨h0, h⟩
            · exact ⟨_, h2⟩
            · rcases h.2 with ⟨h1, h2⟩ | ⟨g, cp, cur, h1, -⟩
              · exact absurd h2 (by omega)
              · injection h1 with h1
                exact ⟨g, h1⟩
          have HZ : Hid (∃ rb' c'', Value.slice (some ⟨rb, 0, none⟩) (n - T) c' = .slice (some ⟨rb', 0, none⟩) (n - T) c'' ∧ Hid (Below W0.heap.size W0 w3) ∧ Hid (FlatS w3 w3.heap.size (some ⟨rb', 0, none⟩) (lnsC (l.drop T)))) :=
            ⟨rb, c', rfl, HB3.out.trans (Below.grown (Below.refl _ _) hgrow HB3.out.size (fun k hk => by cases hk)), hfl⟩
          clear hno hfl hor hgrow
          go_wp2_with fail
          go_meet
          exact HZ.out
      case rest =>
      obtain ⟨rb, c', rfl, HB4, HFR⟩ := hcut
      obtain ⟨i0, hi, hz0', hz1', hz2'⟩ := info_partsP ref_info
      have hbn := below_new wc (.cells #[.int .i64 s, .int .i64 c, .int .i64 q, .int .i64 1, .int .i64 0] 41)
      have HB5 := Lib.hid (bthen HB4.out hbn)
      have HFT2 : Hid (FlatS (wc.alloc (.cells #[.int .i64 s, .int .i64 c, .int .i64 q, .int .i64 1, .int .i64 0] 41)) (wc.alloc (.cells #[.int .i64 s, .int .i64 c, .int .i64 q, .int .i64 1, .int .i64 0] 41)).heap.size (some ⟨b, 0, none⟩) (lnsC (l.take T))) := (HFT.out.below HB5.out (Nat.le_refl _)).more HB5.out.size
      have HFR2 : Hid (FlatS (wc.alloc (.cells #[.int .i64 s, .int .i64 c, .int .i64 q, .int .i64 1, .int .i64 0] 41)) (wc.alloc (.cells #[.int .i64 s, .int .i64 c, .int .i64 q, .int .i64 1, .int .i64 0] 41)).heap.size (some ⟨rb, 0, none⟩) (lnsC (l.drop T))) := (HFR.out.below hbn (Nat.le_refl _)).more hbn.size
      have HNEW : Hid (FlatS (wc.alloc (.cells #[.int .i64 s, .int .i64 c, .int .i64 q, .int .i64 1, .int .i64 0] 41)) (wc.alloc (.cells #[.int .i64 s, .int .i64 c, .int .i64 q, .int .i64 1, .int .i64 0] 41)).heap.size (some ⟨wc.heap.size, 0, none⟩) (lnL (s, c, q, 1, 0))) := fun j u hu =>
        ⟨wc.heap.size, 0, rfl, by simp, by rw [World.cell?_alloc_at _ _ _ _ rfl, Nat.zero_add]; simpa [lnL] using hu⟩
      have HNO2 : Hid (some (⟨b, 0, none⟩ : Addr) = none → T = 0 ∧ T = 0) := fun q => by cases q
      have HSZ : Hid (W0.heap.size ≤ (wc.alloc (.cells #[.int .i64 s, .int .i64 c, .int .i64 q, .int .i64 1, .int .i64 0] 41)).heap.size) := HB5.out.size
      clear hbn HB3 HNIL HFD HOR HRES HMISS HNO
      go_wp2_with (at_builtin; refine wpList_append_full _ rfl _ _ 36 rfl 41 i0 (lnV 0 0 0 0 0) 5 40 Try.underlying36 hi hz0' hz1' hz2' rfl (by decide) (some ⟨b, 0, none⟩) T T (lnsC (l.take T)) rfl HNO2.out (Nat.le_refl _) HLT.out HFT2.out (some ⟨wc.heap.size, 0, none⟩) 1 1 (lnL (s, c, q, 1, 0)) rfl rfl HNEW.out (lnL_one _) ?e2 ?e3 ?e4 ?_)
      case e2 => omega
      case e3 => unfold maxLen; omega
      case e4 => omega
      intro B2 cap2 w2 hc2 hnn hfl2 hown2 hgrow2
      obtain ⟨b2, rfl⟩ : ∃ b2, B2 = some ⟨b2, 0, none⟩ := by
        rcases hown2.2 with ⟨h1, h2⟩ | ⟨g, cp, cur, h1, -⟩
        · exact absurd h2 (by omega)
        · injection h1 with h1
          exact ⟨g, h1⟩
      have hb6 : Below W0.heap.size W0 w2 := HB5.out.trans (Below.grown (Below.refl _ _) hgrow2 HSZ.out (fun k hk => by cases hk))
      have hbx : Below (wc.alloc (.cells #[.int .i64 s, .int .i64 c, .int .i64 q, .int .i64 1, .int .i64 0] 41)).heap.size (wc.alloc (.cells #[.int .i64 s, .int .i64 c, .int .i64 q, .int .i64 1, .int .i64 0] 41)) w2 := Below.grown (Below.refl _ _) hgrow2 (Nat.le_refl _) (fun k hk => by cases hk)
      have HFR3 : Hid (∀ (j : Nat) u, (lnsC (l.drop T))[j]? = some u → w2.cell? ((⟨rb, 0, none⟩ : Addr).add j) = some u) := fun j u hu => by
        obtain ⟨b', off', h1, h2, h3⟩ := (HFR2.out.below hbx (Nat.le_refl _)) j u hu
        injection h1 with h1
        injection h1 with e1 e2
        subst e1 e2
        rw [addr_add]
        exact h3
      have HB6 := Lib.hid hb6
      have HOW2 := Lib.hid hown2
      have HZ2 : Hid (wc.heap.size + 1 ≤ w2.heap.size) := by show _ ≤ _; have := hbx.size; simp at this; omega
      have HZ4 : Hid (W0.heap.size ≤ wc.heap.size) := HB4.out.size
      have HZG : Hid (W0.heap.size ≤ wc.heap.size + 1) := Nat.le_succ_of_le HZ4.out
      have HB2 : Hid (wc.heap.size + 1 ≤ b2) := by have := (own_at hown2).2.1; exact this
      clear hc2 hnn hfl2 hown2 hgrow2 hb6 hbx HNEW HFT2 HFR2 HB5 HSZ
      generalize hG : wc.heap.size + 1 = G at *
      clear hG
      go_wp2_with (at_builtin; refine wpList_append_own _ rfl _ _ 36 rfl G 41 i0 (lnV 0 0 0 0 0) 5 40 Try.underlying36 hi hz0' hz1' hz2' rfl (by decide) (.slice (some ⟨b2, 0, none⟩) (T + 1) cap2) (T + 1) _ rfl HOW2.out ⟨rb, 0, none⟩ (n - T) c' (lnsC (l.drop T)) rfl HLD.out HFR3.out (lnsC_one _) ?f1 ?f2 HZ2.out ?_)
      case f1 => unfold maxLen; omega
      case f2 => omega
      intro v' w3 hown3 hgrow3 hvn
      obtain ⟨A3, c3, rfl, hcc, hfl3, hfr3, hno3⟩ := flat_own hown3
      have hb7 : Below W0.heap.size W0 w3 := Below.grown HB6.out hgrow3 HB6.out.size (fun k hk => by injection hk with hk; have := HB2.out; have := HZG.out; have hk : b2 = k := hk; omega)
      have HP : Hid (R33Post A (l.take T ++ [(s, c, q, 1, 0)] ++ l.drop T, 0, true) w (.returned (.tuple #[.slice A3 (T + 1 + (n - T)) c3, .int .i64 0, .bool true])) w3) := by
        refine ⟨A3, c3, ?_, fun q => ?_, ?_, HB1.out.trans (hb7.mono HB1.out.size), fun a h => .inr (by have h1 := hfr3 a h; have h2 := HZG.out; have h3 := HB1.out.size; omega)⟩
        · have e : (l.take T ++ [(s, c, q, 1, 0)] ++ l.drop T).length = T + 1 + (n - T) := by simp [HLN.out, Nat.min_eq_left hTn]; omega
          show _ = Ending.returned (.tuple #[.slice A3 (l.take T ++ [(s, c, q, 1, 0)] ++ l.drop T).length c3, _, _])
          rw [e]
        · have := (hno3 q).1
          omega
        · refine FlatS.lns ?_
          show FlatS w3 _ A3 (lnsC (l.take T ++ [(s, c, q, 1, 0)] ++ l.drop T))
          rw [lnsC_app, lnsC_app, List.append_assoc]
          exact hfl3
      clear hown3 hgrow3 hvn hcc hfl3 hfr3 hno3 hb7
      go_wp2_with fail
      try simp only [Exit.inBlock, Exit.then]
      refine bodyPost_ret (results3 rfl _ _ _) rfl ?_
      rw [HR2.out]
      exact HP.out
theorem r33Hear_any (A : Option Addr) (n cc : Nat) (l : List Ln) (q s c : Int) (w : World) (hln : l.length = n) (h16 : n ≤ 16) (hA : A = none → n = 0 ∧ cc = 0) (hl : Lns w w.heap.size A l) (hgood : ∀ x ∈ l, octB x.2.2.1 = true) :
    Calls Try.prog 10 #[.slice A n cc, .int .i64 q, .int .i64 s, .int .i64 c] w (R33Post A (hearL l q s c) w) := by
  cases ho : (octB q && octB s && octB c) with
  | false =>
    have e : hearL l q s c = (l, 0, false) := by unfold hearL; rw [if_pos ho]
    refine (r33Hear_bad A n cc q s c w ho).mono ?_
    rintro r w' ⟨rfl, rfl⟩
    rw [e]
    exact ⟨A, cc, by rw [← hln], fun h => ⟨hln.trans (hA h).1, (hA h).2⟩, hl, Below.refl _ _, fun a h => .inl ⟨h, rfl⟩⟩
  | true => exact r33Hear_ok A n cc l q s c w hln h16 hA hl hgood ho
end Go.Proofs.Ytloebedipfppeaa
