/- Layer 1 as layers 23 and 28 use it: Over, to the nearest; Degrees. -/
import Derived.Test.YtpaejoikfnmdhaaDoorDec25
import Derived.Deep.QuietTactic
namespace Go.Proofs.YtpaejoikfnmdhaaDoor
set_option linter.unusedVariables false
open Go.RowKit

/-- A quotient, to the nearest. -/
def overQ (x d : Nat) : Nat := if d ≤ 2 * (x % d) then x / d + 1 else x / d

theorem size_pos_any (x : Nat) (w : World) (hx : x ≤ 10000000000) : Calls Tryd.prog 64 #[.int .i64 (x : Int)] w fun e w' => e = .returned (.int .u64 (x : Int)) ∧ w = w' := by
  have h0 : (0 : Int) ≤ (x : Int) := by omega
  go_enter Tryd.func64, Tryd.ntmps64
  go_wp2
  go_ret
  exact ⟨rfl, rfl⟩
theorem size_neg_any (x : Nat) (w : World) (h0 : 0 < x) (hx : x ≤ 10000000000) : Calls Tryd.prog 64 #[.int .i64 (-(x : Int))] w fun e w' => e = .returned (.int .u64 (x : Int)) ∧ w = w' := by
  have h1 : -(x : Int) < 0 := by omega
  have e : IntKind.u64.wrap (-IntKind.u64.wrap (-(x : Int))) = (x : Int) := by rw [IntKind.wrap_u64, IntKind.wrap_u64]; omega
  go_enter Tryd.func64, Tryd.ntmps64
  go_wp2
  go_ret
  exact ⟨rfl, rfl⟩
theorem sign_any (n : Int) (w : World) : Calls Tryd.prog 65 #[.int .i64 n] w fun e w' => e = .returned (.int .i64 (if n < 0 then -1 else 1)) ∧ w = w' := by
  by_cases h : n < 0
  · rw [if_pos h]
    go_enter Tryd.func65, Tryd.ntmps65
    go_wp2
    go_ret
    exact ⟨rfl, rfl⟩
  · rw [if_neg h]
    go_enter Tryd.func65, Tryd.ntmps65
    go_wp2
    go_ret
    exact ⟨rfl, rfl⟩
theorem r01far_pos (x : Nat) (w : World) (hx : x ≤ 10000000000) : Calls Tryd.prog 66 #[.int .i64 (x : Int)] w fun e w' => e = .returned (.int .u64 (x : Int)) ∧ w = w' := by
  have h0 : (0 : Int) ≤ (x : Int) := by omega
  go_enter Tryd.func66, Tryd.ntmps66
  go_wp2
  go_ret
  exact ⟨rfl, rfl⟩
theorem r01far_neg (x : Nat) (w : World) (h0 : 0 < x) (hx : x ≤ 10000000000) : Calls Tryd.prog 66 #[.int .i64 (-(x : Int))] w fun e w' => e = .returned (.int .u64 (x : Int)) ∧ w = w' := by
  have h1 : -(x : Int) < 0 := by omega
  have e : -(-(x : Int) + 1) + 1 = (x : Int) := by omega
  go_enter Tryd.func66, Tryd.ntmps66
  go_wp2
  go_ret
  exact ⟨rfl, rfl⟩

set_option maxRecDepth 8000 in
set_option maxHeartbeats 2000000 in
theorem Over_walk (n q r sg : Int) (d z : Nat) (w : World) (hd : 1 ≤ d) (hd2 : d ≤ 2000) (hn : n ≤ 10000000000) (hn2 : -10000000000 ≤ n) (hsg : sg = 1 ∨ sg = -1)
    (hq : n.tdiv (d : Int) = q) (hr : n.tmod (d : Int) = r) (hq1 : q ≤ 10000000000) (hq2 : -10000000000 ≤ q) (hz : z ≤ 2000) (hrz : z = 0 ∨ (r != 0) = true)
    (HS : ∀ W, Hid (Calls Tryd.prog 64 #[.int .i64 r] W fun e w' => e = .returned (.int .u64 (z : Int)) ∧ W = w'))
    (HD : ∀ W, Hid (Calls Tryd.prog 64 #[.int .i64 (d : Int)] W fun e w' => e = .returned (.int .u64 (d : Int)) ∧ W = w'))
    (HG : ∀ W, Hid (Calls Tryd.prog 65 #[.int .i64 n] W fun e w' => e = .returned (.int .i64 sg) ∧ W = w'))
    (HE : ∀ W, Hid (Calls Tryd.prog 65 #[.int .i64 (d : Int)] W fun e w' => e = .returned (.int .i64 1) ∧ W = w')) :
    Calls Tryd.prog 55 #[.int .i64 n, .int .i64 (d : Int)] w fun e w' => e = .returned (.int .i64 (if d ≤ 2 * z then q + sg else q)) ∧ ∃ k, w' = w.drewN k := by
  have f0 : ((d : Int) == 0) = false := by rw [beq_eq_false_iff_ne]; omega
  have f1 : ((d : Int) == -1) = false := by rw [beq_eq_false_iff_ne]; omega
  have f2 : ¬ (d : Int) = 0 := by omega
  have f3 : IntKind.i64.wrap q = q := IntWalk.i64_in _ (by omega)
  have f4 : sg * 1 = sg := Int.mul_one sg
  have hsg1 : sg ≤ 1 := by omega
  have hsg2 : -1 ≤ sg := by omega
  clear hsg
  by_cases hu : d ≤ 2 * z
  · rw [if_pos hu]
    have hne : (r != 0) = true := by rcases hrz with h | h; · omega
                                     · exact h
    have hu2 : (d : Int) ≤ 2 * (z : Int) := by omega
    clear hrz hu
    have hD1 : (1 : Int) ≤ (d : Int) := by omega
    have hD2 : (d : Int) ≤ 2000 := by omega
    generalize (d : Int) = D at *
    go_enter Tryd.func55, Tryd.ntmps55
    go_wp2_with fail
    go_quiet (fail)
    go_wp2_with fail
    refine ((HS _).out).mono ?_
    rintro e w' ⟨rfl, rfl⟩
    go_wp2_with fail
    refine ((HD _).out).mono ?_
    rintro e w' ⟨rfl, rfl⟩
    go_wp2_with fail
    refine ((HG _).out).mono ?_
    rintro e w' ⟨rfl, rfl⟩
    go_wp2_with fail
    refine ((HE _).out).mono ?_
    rintro e w' ⟨rfl, rfl⟩
    go_wp2_with fail
    go_ret
    exact ⟨by rfl, _, rfl⟩
  · rw [if_neg hu]
    have hu2 : 2 * (z : Int) < (d : Int) := by omega
    clear hrz hu
    have hD1 : (1 : Int) ≤ (d : Int) := by omega
    have hD2 : (d : Int) ≤ 2000 := by omega
    generalize (d : Int) = D at *
    go_enter Tryd.func55, Tryd.ntmps55
    go_wp2_with fail
    go_quiet (fail)
    go_wp2_with fail
    refine ((HS _).out).mono ?_
    rintro e w' ⟨rfl, rfl⟩
    go_wp2_with fail
    refine ((HD _).out).mono ?_
    rintro e w' ⟨rfl, rfl⟩
    go_wp2_with fail
    go_ret
    exact ⟨by rfl, _, rfl⟩

/-- Over of the program: from 0 on. -/
theorem Over_pos (x d : Nat) (w : World) (hd : 1 ≤ d) (hd2 : d ≤ 2000) (hx : x ≤ 10000000000) :
    Calls Tryd.prog 55 #[.int .i64 (x : Int), .int .i64 (d : Int)] w fun e w' => e = .returned (.int .i64 (overQ x d : Int)) ∧ ∃ k, w' = w.drewN k := by
  have hq : (x : Int).tdiv (d : Int) = ((x / d : Nat) : Int) := by rw [Int.tdiv_eq_ediv_of_nonneg (by omega), Int.natCast_ediv]
  have hr : (x : Int).tmod (d : Int) = ((x % d : Nat) : Int) := by rw [Int.tmod_eq_emod_of_nonneg (by omega), Int.natCast_emod]
  have h1 : x % d < d := Nat.mod_lt _ (by omega)
  have h2 : x / d ≤ x := Nat.div_le_self _ _
  have h3 : (0 : Int) ≤ ((x / d : Nat) : Int) := Int.natCast_nonneg _
  have h := Over_walk (x : Int) _ _ 1 d (x % d) w hd hd2 (by omega) (by omega) (.inl rfl) hq hr (by omega) (by omega) (by omega) (by
    by_cases k : x % d = 0
    · exact .inl k
    · exact .inr (by rw [bne_iff_ne]; omega))
    (fun W => Lib.hid (size_pos_any _ W (by omega))) (fun W => Lib.hid (size_pos_any _ W (by omega)))
    (fun W => Lib.hid (by have := sign_any (x : Int) W; rw [if_neg (by omega)] at this; exact this))
    (fun W => Lib.hid (by have := sign_any (d : Int) W; rw [if_neg (by omega)] at this; exact this))
  have e : (if d ≤ 2 * (x % d) then ((x / d : Nat) : Int) + 1 else ((x / d : Nat) : Int)) = (overQ x d : Int) := by
    unfold overQ
    split <;> omega
  rw [e] at h
  exact h
/-- Below 0. -/
theorem Over_neg (x d : Nat) (w : World) (h0 : 0 < x) (hd : 1 ≤ d) (hd2 : d ≤ 2000) (hx : x ≤ 10000000000) :
    Calls Tryd.prog 55 #[.int .i64 (-(x : Int)), .int .i64 (d : Int)] w fun e w' => e = .returned (.int .i64 (-(overQ x d : Int))) ∧ ∃ k, w' = w.drewN k := by
  have hq : (-(x : Int)).tdiv (d : Int) = -((x / d : Nat) : Int) := by rw [Int.neg_tdiv, Int.tdiv_eq_ediv_of_nonneg (by omega), Int.natCast_ediv]
  have hr : (-(x : Int)).tmod (d : Int) = -((x % d : Nat) : Int) := by rw [Int.neg_tmod, Int.tmod_eq_emod_of_nonneg (by omega), Int.natCast_emod]
  have h1 : x % d < d := Nat.mod_lt _ (by omega)
  have h2 : x / d ≤ x := Nat.div_le_self _ _
  have h3 : (0 : Int) ≤ ((x / d : Nat) : Int) := Int.natCast_nonneg _
  have h := Over_walk (-(x : Int)) _ _ (-1) d (x % d) w hd hd2 (by omega) (by omega) (.inr rfl) hq hr (by omega) (by omega) (by omega) (by
    by_cases k : x % d = 0
    · exact .inl k
    · exact .inr (by rw [bne_iff_ne]; omega))
    (fun W => Lib.hid (by
      by_cases k : x % d = 0
      · rw [k]; exact size_pos_any 0 W (by omega)
      · exact size_neg_any _ W (by omega) (by omega))) (fun W => Lib.hid (size_pos_any _ W (by omega)))
    (fun W => Lib.hid (by have := sign_any (-(x : Int)) W; rw [if_pos (by omega)] at this; exact this))
    (fun W => Lib.hid (by have := sign_any (d : Int) W; rw [if_neg (by omega)] at this; exact this))
  have e : (if d ≤ 2 * (x % d) then -((x / d : Nat) : Int) + -1 else -((x / d : Nat) : Int)) = -(overQ x d : Int) := by
    unfold overQ
    split <;> omega
  rw [e] at h
  exact h

set_option maxRecDepth 8000 in
set_option maxHeartbeats 2000000 in
theorem r01Over_walk (n : Int) (x d q r : Nat) (w : World) (hd : 1 ≤ d) (hd2 : d ≤ 2000) (hx : x ≤ 10000000000) (hn : n = (x : Int) ∨ n = -(x : Int) ∧ 0 < x)
    (hq : (x : Int) / (d : Int) = (q : Int)) (hr : (x : Int) % (d : Int) = (r : Int)) (hq1 : q ≤ 10000000000) (hrd : r < d)
    (HS : ∀ W, Hid (Calls Tryd.prog 66 #[.int .i64 n] W fun e w' => e = .returned (.int .u64 (x : Int)) ∧ W = w'))
    (HD : ∀ W, Hid (Calls Tryd.prog 66 #[.int .i64 (d : Int)] W fun e w' => e = .returned (.int .u64 (d : Int)) ∧ W = w')) :
    Calls Tryd.prog 56 #[.int .i64 n, .int .i64 (d : Int)] w fun e w' => e = .returned (.int .i64 (if n < 0 then -(if d ≤ 2 * r then (q : Int) + 1 else (q : Int)) else (if d ≤ 2 * r then (q : Int) + 1 else (q : Int)))) ∧ w = w' := by
  have f0 : ((d : Int) == 0) = false := by rw [beq_eq_false_iff_ne]; omega
  have f2 : ¬ (d : Int) = 0 := by omega
  have f5 : ¬ (d : Int) < 0 := by omega
  have hr0 : (0 : Int) ≤ (r : Int) := by omega
  have hrd2 : (r : Int) < (d : Int) := by omega
  have hD1 : (1 : Int) ≤ (d : Int) := by omega
  have hD2 : (d : Int) ≤ 2000 := by omega
  have hq2 : (q : Int) ≤ 10000000000 := by omega
  have hq0 : (0 : Int) ≤ (q : Int) := by omega
  by_cases hu : d ≤ 2 * r
  · rw [if_pos hu]
    have hu2 : (d : Int) - (r : Int) ≤ (r : Int) := by omega
    clear hu hrd hd hd2 hq1
    generalize (d : Int) = D at *
    generalize (q : Int) = Q at *
    generalize (r : Int) = R at *
    by_cases hs : n < 0
    · rw [if_pos hs]
      have e0 : (decide (n < 0) == decide (D < 0)) = false := by rw [decide_eq_true hs, decide_eq_false f5]; rfl
      have g0 : ((Q + 1) == 0) = false := by rw [beq_eq_false_iff_ne]; omega
      clear hn
      go_enter Tryd.func56, Tryd.ntmps56
      go_wp2_with fail
      refine ((HS _).out).mono ?_
      rintro e w' ⟨rfl, rfl⟩
      go_wp2_with fail
      refine ((HD _).out).mono ?_
      rintro e w' ⟨rfl, rfl⟩
      go_wp2_with fail
      go_ret
      exact ⟨ret_i64 (by omega), rfl⟩
    · rw [if_neg hs]
      have e0 : (decide (n < 0) == decide (D < 0)) = true := by rw [decide_eq_false hs, decide_eq_false f5]; rfl
      have hs2 : 0 ≤ n := by omega
      clear hn
      go_enter Tryd.func56, Tryd.ntmps56
      go_wp2_with fail
      refine ((HS _).out).mono ?_
      rintro e w' ⟨rfl, rfl⟩
      go_wp2_with fail
      refine ((HD _).out).mono ?_
      rintro e w' ⟨rfl, rfl⟩
      go_wp2_with fail
      go_ret
      exact ⟨by rfl, rfl⟩
  · rw [if_neg hu]
    have hu2 : (r : Int) < (d : Int) - (r : Int) := by omega
    clear hu hrd hd hd2 hq1
    generalize (d : Int) = D at *
    generalize (r : Int) = R at *
    by_cases hs : n < 0
    · rw [if_pos hs]
      have e0 : (decide (n < 0) == decide (D < 0)) = false := by rw [decide_eq_true hs, decide_eq_false f5]; rfl
      clear hn
      by_cases h0 : (q : Int) = 0
      · rw [h0] at hq ⊢
        go_enter Tryd.func56, Tryd.ntmps56
        go_wp2_with fail
        refine ((HS _).out).mono ?_
        rintro e w' ⟨rfl, rfl⟩
        go_wp2_with fail
        refine ((HD _).out).mono ?_
        rintro e w' ⟨rfl, rfl⟩
        go_wp2_with fail
        go_ret
        exact ⟨by rfl, rfl⟩
      · have g0 : ((q : Int) == 0) = false := by rw [beq_eq_false_iff_ne]; exact h0
        generalize (q : Int) = Q at *
        go_enter Tryd.func56, Tryd.ntmps56
        go_wp2_with fail
        refine ((HS _).out).mono ?_
        rintro e w' ⟨rfl, rfl⟩
        go_wp2_with fail
        refine ((HD _).out).mono ?_
        rintro e w' ⟨rfl, rfl⟩
        go_wp2_with fail
        go_ret
        exact ⟨ret_i64 (by omega), rfl⟩
    · rw [if_neg hs]
      have e0 : (decide (n < 0) == decide (D < 0)) = true := by rw [decide_eq_false hs, decide_eq_false f5]; rfl
      have hs2 : 0 ≤ n := by omega
      clear hn
      generalize (q : Int) = Q at *
      go_enter Tryd.func56, Tryd.ntmps56
      go_wp2_with fail
      refine ((HS _).out).mono ?_
      rintro e w' ⟨rfl, rfl⟩
      go_wp2_with fail
      refine ((HD _).out).mono ?_
      rintro e w' ⟨rfl, rfl⟩
      go_wp2_with fail
      go_ret
      exact ⟨by rfl, rfl⟩

theorem r01Over_pos (x d : Nat) (w : World) (hd : 1 ≤ d) (hd2 : d ≤ 2000) (hx : x ≤ 10000000000) :
    Calls Tryd.prog 56 #[.int .i64 (x : Int), .int .i64 (d : Int)] w fun e w' => e = .returned (.int .i64 (overQ x d : Int)) ∧ w = w' := by
  have h1 : x % d < d := Nat.mod_lt _ (by omega)
  have h2 : x / d ≤ x := Nat.div_le_self _ _
  have h := r01Over_walk (x : Int) x d (x / d) (x % d) w hd hd2 hx (.inl rfl) (by rw [Int.natCast_ediv]) (by rw [Int.natCast_emod]) (by omega) h1
    (fun W => Lib.hid (r01far_pos _ W hx)) (fun W => Lib.hid (r01far_pos _ W (by omega)))
  rw [if_neg (by omega)] at h
  have e : (if d ≤ 2 * (x % d) then ((x / d : Nat) : Int) + 1 else ((x / d : Nat) : Int)) = (overQ x d : Int) := by
    unfold overQ
    split <;> omega
  rw [e] at h
  exact h
theorem r01Over_neg (x d : Nat) (w : World) (h0 : 0 < x) (hd : 1 ≤ d) (hd2 : d ≤ 2000) (hx : x ≤ 10000000000) :
    Calls Tryd.prog 56 #[.int .i64 (-(x : Int)), .int .i64 (d : Int)] w fun e w' => e = .returned (.int .i64 (-(overQ x d : Int))) ∧ w = w' := by
  have h1 : x % d < d := Nat.mod_lt _ (by omega)
  have h2 : x / d ≤ x := Nat.div_le_self _ _
  have h := r01Over_walk (-(x : Int)) x d (x / d) (x % d) w hd hd2 hx (.inr ⟨rfl, h0⟩) (by rw [Int.natCast_ediv]) (by rw [Int.natCast_emod]) (by omega) h1
    (fun W => Lib.hid (r01far_neg _ W h0 hx)) (fun W => Lib.hid (r01far_pos _ W (by omega)))
  rw [if_pos (by omega)] at h
  have e : (if d ≤ 2 * (x % d) then ((x / d : Nat) : Int) + 1 else ((x / d : Nat) : Int)) = (overQ x d : Int) := by
    unfold overQ
    split <;> omega
  rw [e] at h
  exact h

/-- The degrees of an angle. -/
def degN (n : Int) : Int :=
  if max (-1080000000) (min n 1080000000) < 0 then -(overQ (5 * (max (-1080000000) (min n 1080000000))).natAbs 3 : Int) else (overQ (5 * (max (-1080000000) (min n 1080000000))).natAbs 3 : Int)

theorem Over5 (c : Int) (w : World) (h1 : -1080000000 ≤ c) (h2 : c ≤ 1080000000) :
    Calls Tryd.prog 55 #[.int .i64 (5 * c), .int .i64 3] w fun e w' => e = .returned (.int .i64 (if c < 0 then -(overQ (5 * c).natAbs 3 : Int) else (overQ (5 * c).natAbs 3 : Int))) ∧ ∃ k, w' = w.drewN k := by
  by_cases h : c < 0
  · rw [if_pos h]
    have := Over_neg (5 * c).natAbs 3 w (by omega) (by omega) (by omega) (by omega)
    rw [show -(((5 * c).natAbs : Nat) : Int) = 5 * c from by omega] at this
    exact this
  · rw [if_neg h]
    have := Over_pos (5 * c).natAbs 3 w (by omega) (by omega) (by omega)
    rw [show (((5 * c).natAbs : Nat) : Int) = 5 * c from by omega] at this
    exact this
theorem r01Over5 (c : Int) (w : World) (h1 : -1080000000 ≤ c) (h2 : c ≤ 1080000000) :
    Calls Tryd.prog 56 #[.int .i64 (5 * c), .int .i64 3] w fun e w' => e = .returned (.int .i64 (if c < 0 then -(overQ (5 * c).natAbs 3 : Int) else (overQ (5 * c).natAbs 3 : Int))) ∧ w = w' := by
  by_cases h : c < 0
  · rw [if_pos h]
    have := r01Over_neg (5 * c).natAbs 3 w (by omega) (by omega) (by omega) (by omega)
    rw [show -(((5 * c).natAbs : Nat) : Int) = 5 * c from by omega] at this
    exact this
  · rw [if_neg h]
    have := r01Over_pos (5 * c).natAbs 3 w (by omega) (by omega) (by omega)
    rw [show (((5 * c).natAbs : Nat) : Int) = 5 * c from by omega] at this
    exact this

set_option maxHeartbeats 2000000 in
theorem Degrees_any (n : Int) (w : World) : Calls Tryd.prog 20 #[.int .i64 n] w fun e w' => e = .returned (.int .i64 (degN n)) ∧ ∃ k, w' = w.drewN k := by
  have HK := fun W' => Lib.hid (kind_any false W')
  have HR : Hid (degN n = if max (-1080000000) (min n 1080000000) < 0 then -(overQ (5 * (max (-1080000000) (min n 1080000000))).natAbs 3 : Int) else (overQ (5 * (max (-1080000000) (min n 1080000000))).natAbs 3 : Int)) := show _ = _ from rfl
  by_cases g1 : n ≤ -1080000000
  · rw [show max (-1080000000) (min n 1080000000) = -1080000000 from by omega] at HR
    have HO : ∀ W', Hid (Calls Tryd.prog 55 #[.int .i64 (-5400000000), .int .i64 3] W' fun e w' => e = .returned (.int .i64 (degN n)) ∧ ∃ k, w' = W'.drewN k) := fun W' => Lib.hid (by rw [HR.out]; exact Over5 (-1080000000) W' (by omega) (by omega))
    generalize degN n = R at *
    clear HR
    go_enter Tryd.func20, Tryd.ntmps20
    go_wp2_with fail
    refine ((HK _).out).mono ?_
    rintro e w' ⟨rfl, rfl⟩
    go_wp2_with fail
    refine ((HO _).out).mono ?_
    rintro e w' ⟨rfl, k, rfl⟩
    go_wp2_with fail
    go_ret
    exact ⟨rfl, _, rfl⟩
  by_cases g2 : 1080000000 < n
  · rw [show max (-1080000000) (min n 1080000000) = 1080000000 from by omega] at HR
    have HO : ∀ W', Hid (Calls Tryd.prog 55 #[.int .i64 5400000000, .int .i64 3] W' fun e w' => e = .returned (.int .i64 (degN n)) ∧ ∃ k, w' = W'.drewN k) := fun W' => Lib.hid (by rw [HR.out]; exact Over5 1080000000 W' (by omega) (by omega))
    generalize degN n = R at *
    clear HR
    go_enter Tryd.func20, Tryd.ntmps20
    go_wp2_with fail
    refine ((HK _).out).mono ?_
    rintro e w' ⟨rfl, rfl⟩
    go_wp2_with fail
    refine ((HO _).out).mono ?_
    rintro e w' ⟨rfl, k, rfl⟩
    go_wp2_with fail
    go_ret
    exact ⟨rfl, _, rfl⟩
  · rw [show max (-1080000000) (min n 1080000000) = n from by omega] at HR
    have HO : ∀ W', Hid (Calls Tryd.prog 55 #[.int .i64 (5 * n), .int .i64 3] W' fun e w' => e = .returned (.int .i64 (degN n)) ∧ ∃ k, w' = W'.drewN k) := fun W' => Lib.hid (by rw [HR.out]; exact Over5 n W' (by omega) (by omega))
    generalize degN n = R at *
    clear HR
    have g3 : -1080000000 < n := by omega
    have g4 : n ≤ 1080000000 := by omega
    clear g1 g2
    go_enter Tryd.func20, Tryd.ntmps20
    go_wp2_with fail
    refine ((HK _).out).mono ?_
    rintro e w' ⟨rfl, rfl⟩
    go_wp2_with fail
    refine ((HO _).out).mono ?_
    rintro e w' ⟨rfl, k, rfl⟩
    go_wp2_with fail
    go_ret
    exact ⟨rfl, _, rfl⟩

set_option maxHeartbeats 2000000 in
theorem r23Degrees_any (n : Int) (w : World) : Calls Tryd.prog 21 #[.int .i64 n] w fun e w' => e = .returned (.int .i64 (degN n)) ∧ w = w' := by
  have HR : Hid (degN n = if max (-1080000000) (min n 1080000000) < 0 then -(overQ (5 * (max (-1080000000) (min n 1080000000))).natAbs 3 : Int) else (overQ (5 * (max (-1080000000) (min n 1080000000))).natAbs 3 : Int)) := show _ = _ from rfl
  by_cases g1 : n ≤ -1080000000
  · rw [show max (-1080000000) (min n 1080000000) = -1080000000 from by omega] at HR
    have HO : ∀ W', Hid (Calls Tryd.prog 56 #[.int .i64 (-5400000000), .int .i64 3] W' fun e w' => e = .returned (.int .i64 (degN n)) ∧ W' = w') := fun W' => Lib.hid (by rw [HR.out]; exact r01Over5 (-1080000000) W' (by omega) (by omega))
    generalize degN n = R at *
    clear HR
    go_enter Tryd.func21, Tryd.ntmps21
    go_wp2_with fail
    refine ((HO _).out).mono ?_
    rintro e w' ⟨rfl, rfl⟩
    go_wp2_with fail
    go_ret
    exact ⟨rfl, rfl⟩
  by_cases g2 : 1080000000 < n
  · rw [show max (-1080000000) (min n 1080000000) = 1080000000 from by omega] at HR
    have HO : ∀ W', Hid (Calls Tryd.prog 56 #[.int .i64 5400000000, .int .i64 3] W' fun e w' => e = .returned (.int .i64 (degN n)) ∧ W' = w') := fun W' => Lib.hid (by rw [HR.out]; exact r01Over5 1080000000 W' (by omega) (by omega))
    generalize degN n = R at *
    clear HR
    go_enter Tryd.func21, Tryd.ntmps21
    go_wp2_with fail
    refine ((HO _).out).mono ?_
    rintro e w' ⟨rfl, rfl⟩
    go_wp2_with fail
    go_ret
    exact ⟨rfl, rfl⟩
  · rw [show max (-1080000000) (min n 1080000000) = n from by omega] at HR
    have HO : ∀ W', Hid (Calls Tryd.prog 56 #[.int .i64 (5 * n), .int .i64 3] W' fun e w' => e = .returned (.int .i64 (degN n)) ∧ W' = w') := fun W' => Lib.hid (by rw [HR.out]; exact r01Over5 n W' (by omega) (by omega))
    generalize degN n = R at *
    clear HR
    have g3 : -1080000000 < n := by omega
    have g4 : n ≤ 1080000000 := by omega
    clear g1 g2
    go_enter Tryd.func21, Tryd.ntmps21
    go_wp2_with fail
    refine ((HO _).out).mono ?_
    rintro e w' ⟨rfl, rfl⟩
    go_wp2_with fail
    go_ret
    exact ⟨rfl, rfl⟩

end Go.Proofs.YtpaejoikfnmdhaaDoor
