/- Layer 33: GapsTrue, walked. -/
import Derived.Test.YtloebedipfppeaaGapG
namespace Go.Proofs.Ytloebedipfppeaa
set_option linter.unusedVariables false
open Go.RowKit

/-- The book, and of the sender 7, 7 its line. -/
def TrueI (w : World) (g : Nat) (u h s : Int) (wr : World) : Prop :=
  ∃ (S : Nat → Prop) (l : List Ln), BookOf S g l wr ∧ (∀ k, k < w.heap.size → S k) ∧ ((7, 7, u, h, s) : Ln) ∈ l ∧ octB u = true ∧ Below w.heap.size w wr
theorem TrueI.keep {w wr w' : World} {g : Nat} {u h s : Int} (hI : TrueI w g u h s wr) (hb : Below wr.heap.size wr w') : TrueI w g u h s w' := by
  obtain ⟨S, l, h1, h2, h3, h4, h5⟩ := hI
  exact ⟨S, l, h1.keep hb, h2, h3, h4, h5.trans (hb.mono h5.size)⟩
theorem TrueI.below {w wr : World} {g : Nat} {u h s : Int} (hI : TrueI w g u h s wr) : Below w.heap.size w wr := by
  obtain ⟨S, l, -, -, -, -, h5⟩ := hI
  exact h5
/-- The first packet. -/
theorem true_first {w wr : World} {g : Nat} (hB : BookOf (fun k => k < w.heap.size) g [] wr) (hb : Below w.heap.size w wr) {q : Int} (hq : octB q = true) :
    Calls Try.prog 8 #[.pointer (some ⟨g, 0, none⟩), .int .i64 q, .int .i64 7, .int .i64 7] wr fun e w1 => e = .returned (.tuple #[.int .i64 0, .bool true]) ∧ TrueI w g q 1 0 w1 := by
  refine (hear_any hB q 7 7).mono ?_
  rw [hear_first hq]
  rintro e w1 ⟨rfl, h1, h2⟩
  exact ⟨rfl, _, _, h1, fun k hk => hk, List.mem_cons_self, hq, hb.trans (h2.below fun k hk => hk)⟩
/-- Of others. -/
theorem true_other {w wr : World} {g : Nat} {u h s : Int} (hI : TrueI w g u h s wr) {q sy c : Int} (hs : sy ≠ 7) :
    Calls Try.prog 8 #[.pointer (some ⟨g, 0, none⟩), .int .i64 q, .int .i64 sy, .int .i64 c] wr fun e w1 => (∃ (a : Int) (b : Bool), e = .returned (.tuple #[.int .i64 a, .bool b])) ∧ TrueI w g u h s w1 := by
  obtain ⟨S, l, h1, h2, h3, h4, h5⟩ := hI
  refine (hear_any h1 q sy c).mono ?_
  rintro e w1 ⟨rfl, hk1, hk2⟩
  exact ⟨⟨_, _, rfl⟩, S, _, hk1, h2, hear_others h1.1 h3 (fun e => hs e.symm), h4, h5.trans (hk2.below fun k hk => h2 k hk)⟩
/-- Of ours. -/
theorem true_ours {w wr : World} {g : Nat} {u h s : Int} (hI : TrueI w g u h s wr) {q : Int} (hq : octB q = true) :
    Calls Try.prog 8 #[.pointer (some ⟨g, 0, none⟩), .int .i64 q, .int .i64 7, .int .i64 7] wr fun e w1 => e = .returned (.tuple #[.int .i64 (lostOf u q), .bool true]) ∧ TrueI w g q (wrap64 (h + 1)) (wrap64 (s + lostOf u q)) w1 := by
  obtain ⟨S, l, h1, h2, h3, h4, h5⟩ := hI
  have hh := hear_ours h1.1 h3 hq
  refine (hear_any h1 q 7 7).mono ?_
  rw [hh.2]
  rintro e w1 ⟨rfl, hk1, hk2⟩
  exact ⟨rfl, S, _, hk1, h2, hh.1, hq, h5.trans (hk2.below fun k hk => h2 k hk)⟩
/-- All lines, ours among them. -/
theorem true_all {w wr : World} {g : Nat} {u h s : Int} (hI : TrueI w g u h s wr) :
    Calls Try.prog 9 #[.pointer (some ⟨g, 0, none⟩)] wr fun e w' => ∃ A c l, e = .returned (.slice A l.length c) ∧ SortedL l ∧ l.length ≤ 16 ∧ ((7, 7, u, h, s) : Ln) ∈ l ∧ Lns w' w'.heap.size A l ∧ Below w.heap.size w w' := by
  obtain ⟨S, l, h1, h2, h3, h4, h5⟩ := hI
  refine (all_of h1).mono ?_
  rintro e w' ⟨A, c, rfl, hl, hb⟩
  exact ⟨A, c, l, rfl, h1.1, h1.2.1, h3, hl, h5.trans (hb.mono h5.size)⟩
set_option maxRecDepth 20000 in
theorem gapsTrue_many (f : Int) (A B : Option Addr) (n m c d : Nat) (w : World) (hn : 100 < n ∨ 100 < m) (hn' : n ≤ maxLen) (hm' : m ≤ maxLen) : Calls Try.prog 3 #[.int .u8 f, .slice A n c, .slice B m d] w fun e w' => e = .returned (.bool true) ∧ Below w.heap.size w w' := by
  clear hn' hm'
  by_cases h1 : 100 < n
  · have i1 : (100 : Int) < (n : Int) := by omega
    clear hn
    go_enter Try.func3, Try.ntmps3
    go_wp2_with fail
    refine (knows33_any _).mono ?_
    rintro e w1 ⟨rfl, hb⟩
    have HB := Lib.hid hb
    clear hb
    go_wp2_with fail
    go_ret
    exact ⟨rfl, HB.out⟩
  · have i1 : (n : Int) ≤ 100 := by omega
    have i2 : (100 : Int) < (m : Int) := by omega
    clear hn h1
    go_enter Try.func3, Try.ntmps3
    go_wp2_with fail
    refine (knows33_any _).mono ?_
    rintro e w1 ⟨rfl, hb⟩
    have HB := Lib.hid hb
    clear hb
    go_wp2_with fail
    go_ret
    exact ⟨rfl, HB.out⟩
theorem wrap64_in {a : Int} (h1 : -9223372036854775808 ≤ a) (h2 : a ≤ 9223372036854775807) : wrap64 a = a := by unfold wrap64; omega
set_option maxRecDepth 8000 in
set_option maxHeartbeats 8000000 in
theorem gapsTrue_few (f : Int) (A B : Option Addr) (n m c d : Nat) (M : List Int) (O : List Cl) (w : World) (hM : Hid (M.length = n)) (hO : Hid (O.length = m)) (hn : n ≤ 100) (hm : m ≤ 100) (f1 : 0 ≤ f) (f2 : f ≤ 255) (hs : Oct w w.heap.size A M) (hc : Cls w w.heap.size B O) :
    Calls Try.prog 3 #[.int .u8 f, .slice A n c, .slice B m d] w fun e w' => e = .returned (.bool true) ∧ Below w.heap.size w w' := by
  have i1 : (n : Int) ≤ 100 := by omega
  have i2 : (m : Int) ≤ 100 := by omega
  have HS := Lib.hid hs
  have HC := Lib.hid hc
  clear hs hc
  go_enter Try.func3, Try.ntmps3
  go_wp2_with fail
  refine (knows33_any _).mono ?_
  rintro e w1 ⟨rfl, hb1⟩
  have HS1 : Hid (Oct w1 w.heap.size A M) := HS.out.keep (bcell hb1).1
  have HC1 : Hid (Cls w1 w.heap.size B O) := HC.out.keep (bcell hb1).1
  have HB1 := Lib.hid hb1
  have HZ1 : Hid (w.heap.size ≤ w1.heap.size) := hb1.size
  clear hb1 HS HC
  go_wp2_with fail
  refine (new_any _).mono ?_
  rintro e w2 ⟨g, rfl, hk, hb2⟩
  have HF := Lib.hid (true_first hk hb2 (q := f) (octB_iff.2 ⟨f1, f2⟩))
  clear hk hb2
  go_wp2_with fail
  refine HF.out.mono ?_
  rintro e w3 ⟨rfl, hi⟩
  have HI0 := Lib.hid hi
  clear hi HF
  go_wp2_with fail
  go_loopw [8, 11, 12] (fun a b i wr => ∃ (k : Nat) (u s : Int), k ≤ n ∧ i = .int .i64 (k : Int) ∧ a = .int .i64 u ∧ b = .int .i64 s ∧ 0 ≤ u ∧ u ≤ 255 ∧ 0 ≤ s ∧ s ≤ 255 * (k : Int) ∧ Hid (TrueI w1 g u ((k : Int) + 1) s wr)) (fun _ _ i _ => n - (intOf i).toNat)
  case atStart => exact ⟨0, f, 0, Nat.zero_le _, rfl, rfl, rfl, f1, f2, by omega, by omega, HI0⟩
  case round =>
    clear HI0 f1 f2
    obtain ⟨k, u, s, hk, rfl, rfl, rfl, u1, u2, s1, s2, HI⟩ := hrel
    have HBW := Lib.hid HI.out.below
    by_cases hlt : k < n
    · have i3 : (k : Int) < (n : Int) := by omega
      have i4 : (0 : Int) ≤ (k : Int) := by omega
      try dsimp only
      repeat (fail_if_success (show Code.wp _ (Code.seq (Code.region 12 _ _) _) _ _ _)
              first | go_values | go_skip | go_guarded | go_step | go_upon | go_back | (simp only [Int.not_lt, Int.not_le] at *; go_simp) | (go_ite <;> go_prune <;> (try go_simp)))
      go_cut [] (fun wx => Hid (TrueI w1 g u ((k : Int) + 1) s wx))
      case first =>
        by_cases hkm : k < m
        · have hkl : k < O.length := by rw [hO.out]; exact hkm
          obtain ⟨b1, o1, hA1, hb1, hc1⟩ := HC1.out k hkl
          subst hA1
          generalize O[k] = x at *
          obtain ⟨q, sy, cc⟩ := x
          have HB1Z : Hid (b1 < w1.heap.size) := Nat.lt_of_lt_of_le hb1 HZ1.out
          have HCL : Hid (∀ w', Below w1.heap.size w1 w' → w'.cell? ⟨b1, o1 + k * 3, none⟩ = some (.int .i64 q) ∧ w'.cell? ⟨b1, o1 + k * 3 + 1, none⟩ = some (.int .i64 sy) ∧ w'.cell? ⟨b1, o1 + k * 3 + 2, none⟩ = some (.int .i64 cc)) := fun w' hb => by
            have e1 : ∀ (j : Nat) u, (clC (q, sy, cc))[j]? = some u → w'.cell? ⟨b1, o1 + k * 3 + j, none⟩ = some u := fun j u hu => by
              rw [show o1 + k * 3 + j = o1 + 3 * k + j from by omega]; exact ((bcell hb).1 _ _ HB1Z.out).trans (hc1 j u hu)
            exact ⟨e1 0 _ rfl, e1 1 _ rfl, e1 2 _ rfl⟩
          have x0 : wr.cell? ⟨b1, o1 + k * 3, none⟩ = some (.int .i64 q) := (HCL.out _ HBW.out).1
          have x1 : wr.cell? ⟨b1, o1 + k * 3 + 1, none⟩ = some (.int .i64 sy) := (HCL.out _ HBW.out).2.1
          have x2 : wr.cell? ⟨b1, o1 + k * 3 + 2, none⟩ = some (.int .i64 cc) := (HCL.out _ HBW.out).2.2
          have i5 : (k : Int) < (m : Int) := by omega
          clear hc1 hkl hb1
          by_cases h7 : sy = 7
          · subst h7
            go_wp2_with fail
            go_meet
            exact HI
          · have b7 : (sy != 7) = true := by rw [bne_iff_ne]; exact h7
            have HH := Lib.hid (true_other (HI.out.keep (below_drew wr)) (q := q) (c := cc) h7)
            clear h7
            go_upto_region 13 with fail
            clear HS1 HC1 HB1 HZ1 hM hO HI HBW
            go_region_held3 (fun w' => w'.cell? ⟨b1, o1 + k * 3, none⟩ = some (.int .i64 q) ∧ w'.cell? ⟨b1, o1 + k * 3 + 1, none⟩ = some (.int .i64 sy) ∧ w'.cell? ⟨b1, o1 + k * 3 + 2, none⟩ = some (.int .i64 cc))
              (first | go_keep | exact HK3.out)
              ((go_at_call 8; refine HH.out.mono ?_; rintro e w3 ⟨⟨ra, rb, rfl⟩, hp3⟩; have HX := Lib.hid hp3; have HK3 := Lib.hid (HCL.out w3 hp3.below); clear hp3))
            all_goals
              go_wp2_with fail
              go_meet
              exact HX
        · have i5 : (m : Int) ≤ (k : Int) := by omega
          go_wp2_with fail
          go_meet
          exact HI
      case rest =>
      have HI2 := hcut
      clear hcut HI HBW
      have hkl : k < M.length := by rw [hM.out]; exact hlt
      obtain ⟨b1, o1, hA1, hb1, hc1, g1, g2⟩ := HS1.out k hkl
      subst hA1
      generalize M[k] = gn at *
      have x0 : wc.cell? ⟨b1, o1 + k, none⟩ = some (.int .u8 gn) := ((bcell HI2.out.below).1 _ _ (Nat.lt_of_lt_of_le hb1 HZ1.out)).trans hc1
      have hq : octB ((u + gn + 1) % 256) = true := octB_iff.2 (by omega)
      have hh := true_ours HI2.out hq
      have e1 : wrap64 ((k : Int) + 1 + 1) = (k : Int) + 1 + 1 := wrap64_in (by omega) (by omega)
      have e2 : wrap64 (s + gn) = s + gn := wrap64_in (by omega) (by omega)
      rw [lost_gone ⟨u1, u2⟩ ⟨g1, g2⟩, e1, e2] at hh
      have HH := Lib.hid hh
      have hbn : (gn != gn) = false := by rw [bne_eq_false_iff_eq]
      clear hc1 hb1 hkl hq hh e1 e2 HI2
      go_wp2_with fail
      refine HH.out.mono ?_
      rintro e w4 ⟨rfl, hi4⟩
      have HI5 : Hid (TrueI w1 g ((u + gn + 1) % 256) (((k + 1 : Nat) : Int) + 1) (s + gn) w4) := by rw [show ((k + 1 : Nat) : Int) = (k : Int) + 1 from by omega]; exact hi4
      clear hi4 HH
      go_wp2_with fail
      go_roundw
      case rel => exact ⟨k + 1, (u + gn + 1) % 256, s + gn, by omega, by go_num, by first | rfl | trivial, by first | rfl | trivial, by omega, by omega, by omega, by omega, HI5⟩
      case measure => simp [intOf]; omega
    · obtain rfl : k = n := by omega
      have HA := Lib.hid (true_all HI.out)
      clear HI HBW hlt
      go_wp2_with fail
      refine HA.out.mono ?_
      rintro e w5 ⟨A5, c5, l, rfl, hso, h16, hin, hl5, hb5⟩
      have HB5 := Lib.hid (HB1.out.trans (hb5.mono HZ1.out))
      have HL5 := Lib.hid hl5
      have HSO := Lib.hid hso
      have HIN := Lib.hid hin
      clear hb5 hl5 hso hin HA
      obtain ⟨nl, hnl⟩ : ∃ nl, l.length = nl := ⟨_, rfl⟩
      have HNL := Lib.hid hnl
      rw [hnl] at h16
      rw [hnl]
      clear hnl
      go_wp2_with fail
      go_loopw [17] (fun i wx => ∃ j : Nat, j ≤ nl ∧ i = .int .i64 (j : Int) ∧ wx = w5 ∧ Hid (∀ (x : Nat) (hx : x < l.length), x < j → lnKey l[x] ≠ (7, 7))) (fun i _ => nl - (intOf i).toNat)
      case atStart => exact ⟨0, Nat.zero_le _, rfl, rfl, fun x hx h => absurd h (Nat.not_lt_zero _)⟩
      case round =>
        obtain ⟨j, hj, rfl, rfl, HNO⟩ := hrel
        by_cases hjm : j < nl
        · have hjl : j < l.length := by rw [HNL.out]; exact hjm
          obtain ⟨b1, o1, hA1, hb1, hc1⟩ := HL5.out j hjl
          subst hA1
          have HK : Hid (lnKey l[j] = (7, 7) → l[j] = (7, 7, u, (k : Int) + 1, s)) := fun hk7 => by
            obtain ⟨y, hy, e⟩ := List.mem_iff_getElem.1 HIN.out
            have := sorted_key HSO.out hjl hy (by rw [e, hk7]; rfl)
            subst this
            exact e
          have HNX : Hid (lnKey l[j] ≠ (7, 7) → ∀ (x : Nat) (hx : x < l.length), x < j + 1 → lnKey l[x] ≠ (7, 7)) := fun h x hx hlt => by
            rcases Nat.lt_or_ge x j with q | q
            · exact HNO.out x hx q
            · obtain rfl : x = j := by omega
              exact h
          generalize l[j] = v at *
          obtain ⟨v0, v1, v2, v3, v4⟩ := v
          have e1 : ∀ (y : Nat) u, (lnL (v0, v1, v2, v3, v4))[y]? = some u → wr.cell? ⟨b1, o1 + j * 5 + y, none⟩ = some u := fun y u hu => by
            rw [show o1 + j * 5 + y = o1 + 5 * j + y from by omega]; exact hc1 y u hu
          have x0 : wr.cell? ⟨b1, o1 + j * 5, none⟩ = some (.int .i64 v0) := e1 0 _ rfl
          have x1 : wr.cell? ⟨b1, o1 + j * 5 + 1, none⟩ = some (.int .i64 v1) := e1 1 _ rfl
          have x2 : wr.cell? ⟨b1, o1 + j * 5 + 2, none⟩ = some (.int .i64 v2) := e1 2 _ rfl
          have x3 : wr.cell? ⟨b1, o1 + j * 5 + 3, none⟩ = some (.int .i64 v3) := e1 3 _ rfl
          have x4 : wr.cell? ⟨b1, o1 + j * 5 + 4, none⟩ = some (.int .i64 v4) := e1 4 _ rfl
          have i5 : (0 : Int) ≤ (j : Int) := Int.natCast_nonneg _
          have i6 : (j : Int) < (nl : Int) := by omega
          clear hc1 hjl e1
          by_cases h7 : v0 = 7 ∧ v1 = 7
          · obtain ⟨rfl, rfl⟩ := h7
            have hk := HK.out rfl
            injection hk with _ hk
            injection hk with _ hk
            injection hk with k2 hk
            injection hk with k3 k4
            subst k2 k3 k4
            clear HK HNX HNO
            go_wp2_with fail
            go_ret
            exact ⟨rfl, HB5.out⟩
          · have HN' : Hid (∀ (x : Nat) (hx : x < l.length), x < j + 1 → lnKey l[x] ≠ (7, 7)) := HNX.out (fun e => h7 ⟨(Prod.ext_iff.1 e).1, (Prod.ext_iff.1 e).2⟩)
            by_cases h0 : v0 = 7
            · subst h0
              have b7 : (v1 == 7) = false := by rw [beq_eq_false_iff_ne]; exact fun e => h7 ⟨rfl, e⟩
              clear h7 HK HNX HNO
              go_wp2_with fail
              go_roundw
              case rel => exact ⟨j + 1, by omega, by go_num, by first | rfl | trivial, HN'⟩
              case measure => simp [intOf]; omega
            · have b7 : (v0 == 7) = false := by rw [beq_eq_false_iff_ne]; exact h0
              clear h7 h0 HK HNX HNO
              go_wp2_with fail
              go_roundw
              case rel => exact ⟨j + 1, by omega, by go_num, by first | rfl | trivial, HN'⟩
              case measure => simp [intOf]; omega
        · exfalso
          obtain ⟨y, hy, e⟩ := List.mem_iff_getElem.1 HIN.out
          exact HNO.out y hy (by rw [HNL.out] at hy; omega) (by rw [e]; rfl)
theorem gapsTrue_any (f : Int) (A : Option Addr) (c : Nat) (M : List Int) (B : Option Addr) (d : Nat) (O : List Cl) (w : World) (hf : 0 ≤ f ∧ f ≤ 255) (hm : M.length ≤ maxLen) (hs : Oct w w.heap.size A M) (ho : O.length ≤ maxLen) (hc : Cls w w.heap.size B O) :
    Calls Try.prog 3 #[.int .u8 f, .slice A M.length c, .slice B O.length d] w fun e w' => e = .returned (.bool true) ∧ Below w.heap.size w w' := by
  by_cases h : M.length ≤ 100 ∧ O.length ≤ 100
  · exact gapsTrue_few f A B M.length O.length c d M O w rfl rfl h.1 h.2 hf.1 hf.2 hs hc
  · exact gapsTrue_many f A B M.length O.length c d w (by omega) hm ho
end Go.Proofs.Ytloebedipfppeaa
