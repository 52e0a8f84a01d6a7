/- Layer 43: the law DuePlays, walked. -/
import Derived.Test.YtcageojgfnihpaaDueL
import Derived.Test.YtcageojgfnihpaaDueO
namespace Go.Proofs.Ytcageojgfnihpaa
set_option linter.unusedVariables false
open Go.RowKit

set_option maxRecDepth 100000 in
set_option maxHeartbeats 2000000 in
theorem duePlays_any (A : Option Addr) (c : Nat) (L : List Op4) (w : World) (hl : L.length ≤ maxLen) (hL : Op4s w w.heap.size A L) :
    Calls Try.prog 4 #[.slice A L.length c] w fun e w' => e = .returned (.bool true) ∧ Below w.heap.size w w' := by
  have HK := fun W => Lib.hid (knows43_any W)
  obtain ⟨n, hn⟩ : ∃ n, L.length = n := ⟨_, rfl⟩
  have HN := Lib.hid hn
  have HL := Lib.hid hL
  rw [hn] at hl ⊢
  clear hn hL
  by_cases hbad : 100 < n
  · go_enter Try.func4, Try.ntmps4
    go_wp2_with fail
    refine (HK _).out.mono ?_
    rintro e w1 ⟨rfl, hb1⟩
    have HB := Lib.hid hb1
    clear hb1
    go_wp2_with fail
    go_ret
    exact ⟨rfl, HB.out⟩
  · have h1 : n ≤ 100 := by omega
    clear hbad hl
    go_enter Try.func4, Try.ntmps4
    go_wp2_with fail
    refine (HK _).out.mono ?_
    rintro e w1 ⟨rfl, hb1⟩
    have HB1 := Lib.hid hb1
    clear hb1
    go_wp2_with fail
    refine (dueNew_any _).mono ?_
    rintro e w2 ⟨q, rfl, hb2, hq2⟩
    have HP0 : Hid (PlayS (fun k => k < w.heap.size) w q 0 [] (.slice none 0 0) w2) :=
      ⟨fun k => k < w1.heap.size, none, 0, rfl, hq2, List.Pairwise.nil, fun k hk => absurd hk (by simp), (fun a ha => by cases ha), Nat.le_refl _, fun k hk => Nat.lt_of_lt_of_le hk HB1.out.size, fun k hk => hk, Below.trans HB1.out (hb2.mono HB1.out.size)⟩
    clear hb2 hq2 HB1
    go_wp2_with fail
    go_loopw [4, 5] (fun v kv wr => ∃ (k N : Nat) (r : List Tr), kv = .int .i64 (k : Int) ∧ k ≤ n ∧ N ≤ k ∧ Hid (PlayS (fun k => k < w.heap.size) w q N r v wr)) (fun _ kv _ => n - (intOf kv).toNat)
    case atStart => exact ⟨0, 0, [], rfl, Nat.zero_le _, Nat.le_refl _, HP0⟩
    case round =>
      obtain ⟨k, N, r, rfl, hk, hNk, HP⟩ := hrel
      clear HP0
      by_cases hlt : k < n
      · obtain ⟨b, off, hA, hbw, hwf, hcl⟩ := HL.out k (by rw [HN.out]; exact hlt)
        subst hA
        generalize L[k]'(by rw [HN.out]; exact hlt) = x at *
        obtain ⟨x0, xi, xa, xe⟩ := x
        have hbb := HP.out.bel
        have cl : ∀ j u, (op4C (x0, xi, xa, xe))[j]? = some u → wr.cell? ⟨b, off + k * 4 + j, none⟩ = some u := fun j u hu => by
          rw [show off + k * 4 + j = off + 4 * k + j from by omega]; exact (hbb.cell (p := ⟨b, off + 4 * k + j, none⟩) hbw).trans (hcl j u hu)
        have m0 : wr.cell? ⟨b, off + k * 4, none⟩ = some (.int .i64 x0) := cl 0 _ rfl
        have m1 : wr.cell? ⟨b, off + k * 4 + 1, none⟩ = some (.int .i64 xi) := cl 1 _ rfl
        have m2 : wr.cell? ⟨b, off + k * 4 + 2, none⟩ = some (.int .i64 xa) := cl 2 _ rfl
        have m3 : wr.cell? ⟨b, off + k * 4 + 3, none⟩ = some (.int .i64 xe) := cl 3 _ rfl
        clear hcl cl hbb
        have HX4 : Hid (∀ W, KeptS (fun k => k < w.heap.size ∨ k = wr.heap.size) (wr.alloc (.cells (opC x0 xi xa xe) 29)) W → ∀ o, W.cell? ⟨wr.heap.size, o, none⟩ = (opC x0 xi xa xe)[o]?) := fun W hW o => (hW.cell (.inr rfl)).trans (World.cell?_alloc_at _ _ _ _ rfl)
        have HP4 := Lib.hid (HP.out.box (.cells (opC x0 xi xa xe) 29))
        have HWF : Hid ((Lit.int .i64 xi).wf = true) := hwf.2.1
        have HWK : Hid (∀ N r v W, PlayS (fun k => k < w.heap.size ∨ k = wr.heap.size) w q N r v W → PlayS (fun k => k < w.heap.size) w q N r v W) := fun N r v W h => h.weaken (fun k hk => .inl hk) (fun k hk => hk)
        go_upto_region 9 with fail
        generalize wr.alloc (.cells (opC x0 xi xa xe) 29) = W4 at *
        generalize wr.heap.size = p at *
        clear m0 m1 m2 m3 HL HN hwf HP
        have x00 : W4.cell? ⟨p, 0, none⟩ = some (.int .i64 x0) := HX4.out W4 (KeptS.refl _ _) 0
        have x1 : W4.cell? ⟨p, 1, none⟩ = some (.int .i64 xi) := HX4.out W4 (KeptS.refl _ _) 1
        have x2 : W4.cell? ⟨p, 2, none⟩ = some (.int .i64 xa) := HX4.out W4 (KeptS.refl _ _) 2
        have x3 : W4.cell? ⟨p, 3, none⟩ = some (.int .i64 xe) := HX4.out W4 (KeptS.refl _ _) 3
        by_cases k0 : x0 = 0
        · subst k0
          obtain ⟨ob, hcall⟩ := HP4.out.set xi xa xe (by omega)
          have HC := Lib.hid hcall
          clear hcall
          have hbn : (ob != ob) = false := by rw [bne_eq_false_iff_eq]
          go_wp2_with fail
          refine HC.out.mono ?_
          rintro e w5 ⟨rfl, hk5, hc5⟩
          have y1 : w5.cell? ⟨p, 1, none⟩ = some (.int .i64 xi) := HX4.out w5 hk5 1
          have y2 : w5.cell? ⟨p, 2, none⟩ = some (.int .i64 xa) := HX4.out w5 hk5 2
          have y3 : w5.cell? ⟨p, 3, none⟩ = some (.int .i64 xe) := HX4.out w5 hk5 3
          have HC5 := Lib.hid hc5
          clear hk5 hc5 HC x00 x1 x2 x3 HX4
          go_wp2_with fail
          refine HC5.out.mono ?_
          rintro e w6 ⟨v6, rfl, r6, hp6⟩
          have HS6 := Lib.hid hp6.same
          clear hp6 HC5 y1 y2 y3
          go_wp2_with fail
          refine HS6.out.mono ?_
          rintro e w7 ⟨rfl, hp7⟩
          have HP7 := Lib.hid (HWK.out _ _ _ _ hp7)
          clear hp7 HS6
          go_wp2_with fail
          go_roundw
          case rel => exact ⟨k + 1, N + 1, r6, by go_num, by omega, by omega, HP7⟩
          case measure => simp [intOf]; omega
        · have k0' : (x0 == 0) = false := by rw [beq_eq_false_iff_ne]; exact k0
          by_cases k1 : x0 = 1
          · subst k1
            obtain ⟨ob, hcall⟩ := HP4.out.unset xi HWF.out
            have HC := Lib.hid hcall
            clear hcall k0
            have hbn : (ob != ob) = false := by rw [bne_eq_false_iff_eq]
            go_wp2_with fail
            refine HC.out.mono ?_
            rintro e w5 ⟨rfl, hk5, hc5⟩
            have y1 : w5.cell? ⟨p, 1, none⟩ = some (.int .i64 xi) := HX4.out w5 hk5 1
            have HC5 := Lib.hid hc5
            clear hk5 hc5 HC x00 x1 x2 x3 HX4
            go_wp2_with fail
            refine HC5.out.mono ?_
            rintro e w6 ⟨v6, rfl, r6, hp6⟩
            have HS6 := Lib.hid hp6.same
            clear hp6 HC5 y1
            go_wp2_with fail
            refine HS6.out.mono ?_
            rintro e w7 ⟨rfl, hp7⟩
            have HP7 := Lib.hid (HWK.out _ _ _ _ hp7)
            clear hp7 HS6
            go_wp2_with fail
            go_roundw
            case rel => exact ⟨k + 1, N, r6, by go_num, by omega, by omega, HP7⟩
            case measure => simp [intOf]; omega
          · have k1' : (x0 == 1) = false := by rw [beq_eq_false_iff_ne]; exact k1
            obtain ⟨ni, nt, nev, ob, hcall⟩ := HP4.out.next xa
            have HC := Lib.hid hcall
            clear hcall k0 k1
            have hbn : (ob != ob) = false := by rw [bne_eq_false_iff_eq]
            have hbi : (ni != ni) = false := by rw [bne_eq_false_iff_eq]
            have hbt : (nt != nt) = false := by rw [bne_eq_false_iff_eq]
            go_wp2_with fail
            refine HC.out.mono ?_
            rintro e w5 ⟨rfl, hk5, hc5⟩
            have y2 : w5.cell? ⟨p, 2, none⟩ = some (.int .i64 xa) := HX4.out w5 hk5 2
            have HC5 := Lib.hid hc5
            clear hk5 hc5 HC x00 x1 x2 x3 HX4
            go_wp2_with fail
            refine HC5.out.mono ?_
            rintro e w6 ⟨v6, rfl, r6, hp6⟩
            have HS6 := Lib.hid (hp6.below (below_new w6 (refO (ni, nt, nev)))).same
            have t0 : (w6.alloc (refO (ni, nt, nev))).cell? ⟨w6.heap.size, 0, none⟩ = some (.int .i64 ni) := World.cell?_alloc_at _ _ _ _ rfl
            have t1 : (w6.alloc (refO (ni, nt, nev))).cell? ⟨w6.heap.size, 1, none⟩ = some (.int .i64 nt) := World.cell?_alloc_at _ _ _ _ rfl
            clear hp6 HC5 y2
            go_wp2_with fail
            refine HS6.out.mono ?_
            rintro e w7 ⟨rfl, hp7⟩
            have HP7 := Lib.hid (HWK.out _ _ _ _ hp7)
            clear hp7 HS6 t0 t1
            go_wp2_with fail
            go_roundw
            case rel => exact ⟨k + 1, N, r6, by go_num, by omega, by omega, HP7⟩
            case measure => simp [intOf]; omega
      · obtain rfl : k = n := by omega
        have HB := Lib.hid HP.out.bel
        go_wp2_with fail
        go_ret
        exact ⟨rfl, HB.out⟩
end Go.Proofs.Ytcageojgfnihpaa
