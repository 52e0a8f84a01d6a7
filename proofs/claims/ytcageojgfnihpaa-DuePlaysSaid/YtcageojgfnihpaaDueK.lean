/- Layer 43: the reference's Set, Next. -/
import Derived.Test.YtcageojgfnihpaaDueJ
namespace Go.Proofs.Ytcageojgfnihpaa
set_option linter.unusedVariables false
open Go.RowKit

theorem OwnT.through {w0 w1 w2 : World} {v v' : Value} {D E : List Tr} (h : OwnT w0 v D w1) (k : OwnT w1 v' E w2) : OwnT w0 v' E w2 := ⟨own_base k.1 h.2.size, bthen h.2 k.2⟩
set_option maxRecDepth 8000 in
set_option maxHeartbeats 1000000 in
theorem r43Set_bad (A : Option Addr) (n c : Nat) (id t ev : Int) (w : World) (hb : setB id t ev = false) :
    Calls Try.prog 10 #[.slice A n c, .int .i64 id, .int .i64 t, .int .i64 ev] w fun e w' => e = .returned (.tuple #[.slice A n c, .bool false]) ∧ w = w' := by
  have hw : (id < 0) ∨ (0 ≤ id ∧ 15 < id) ∨ (0 ≤ id ∧ id ≤ 15 ∧ t < 0) ∨ (0 ≤ id ∧ id ≤ 15 ∧ 0 ≤ t ∧ 1099511627776 < t) ∨ (0 ≤ id ∧ id ≤ 15 ∧ 0 ≤ t ∧ t ≤ 1099511627776 ∧ ev < 0) ∨ (0 ≤ id ∧ id ≤ 15 ∧ 0 ≤ t ∧ t ≤ 1099511627776 ∧ 0 ≤ ev ∧ 1099511627776 < ev) := by
    rw [Bool.eq_false_iff] at hb
    simp only [setB, inB, Bool.and_eq_true, decide_eq_true_eq, ne_eq] at hb
    omega
  clear hb
  rcases hw with h1 | ⟨h1, h2⟩ | ⟨h1, h2, h3⟩ | ⟨h1, h2, h3, h4⟩ | ⟨h1, h2, h3, h4, h5⟩ | ⟨h1, h2, h3, h4, h5, h6⟩
  all_goals
    go_enter Try.func10, Try.ntmps10
    go_wp2_with fail
    go_ret2
    exact ⟨rfl, rfl⟩
set_option maxRecDepth 8000 in
set_option maxHeartbeats 1000000 in
theorem r43Set_ok (A : Option Addr) (c : Nat) (l : List Tr) (id t ev : Int) (w : World) (hl : l.length ≤ 1000) (hs : Tms w w.heap.size A l) (hb : setB id t ev = true) :
    Calls Try.prog 10 #[.slice A l.length c, .int .i64 id, .int .i64 t, .int .i64 ev] w fun e w' => ∃ v, e = .returned (.tuple #[v, .bool true]) ∧ OwnT w v (putL (id, t, ev) (without l id)) w' := by
  simp only [setB, inB, Bool.and_eq_true, decide_eq_true_eq] at hb
  obtain ⟨⟨⟨i1, i2⟩, i3, i4⟩, i5, i6⟩ := hb
  have HU := Lib.hid (r43Unset_any A c l id w hl hs)
  have hwl : (without l id).length ≤ 1000 := Nat.le_trans (without_le l id) hl
  generalize (l.any fun x => x.1 == id) = ub at *
  generalize without l id = r1 at *
  generalize l.length = n at *
  clear hs
  go_enter Try.func10, Try.ntmps10
  go_wp2_with fail
  refine HU.out.mono ?_
  rintro e w1 ⟨v1, rfl, h1⟩
  obtain ⟨A1, c1, rfl, hs1, -, -⟩ := tms_of_own h1.1
  have HP := Lib.hid (r43put_any A1 c1 r1 id t ev w1 hwl hs1)
  have HO1 := Lib.hid h1
  clear h1 hs1 HU
  generalize r1.length = m at *
  go_wp2_with fail
  refine HP.out.mono ?_
  rintro e w2 ⟨v2, rfl, h2⟩
  have HO2 := Lib.hid (HO1.out.through h2)
  clear h2
  go_wp2_with fail
  go_ret2
  exact ⟨_, rfl, HO2.out⟩
abbrev limI (now : Int) : Int := if 1099511627776 < now then 1099511627776 else now
set_option maxRecDepth 8000 in
set_option maxHeartbeats 1000000 in
theorem r43Next_none (A : Option Addr) (c : Nat) (l : List Tr) (now : Int) (w : World) (hl : l.length ≤ 1000) (hs : Tms w w.heap.size A l) (hn : ∀ h : 0 < l.length, limI now < (l[0]).2.1) :
    Calls Try.prog 13 #[.slice A l.length c, .int .i64 now] w fun e w' => e = .returned (.tuple #[.slice A l.length c, refV (0, 0, 0), .bool false]) ∧ Below w.heap.size w w' := by
  obtain ⟨n, hln⟩ : ∃ n, l.length = n := ⟨_, rfl⟩
  by_cases h0 : n = 0
  · rw [hln]
    subst h0
    clear hn hl hs hln
    go_enter Try.func13, Try.ntmps13
    go_wp2_with fail
    refine bodyPost_ret (v := .tuple #[.slice A 0 c, refV (0, 0, 0), .bool false]) (by simp [results, Try.results13, go_sem]) rfl ⟨rfl, below_new _ _⟩
  · have hpos : 0 < l.length := by omega
    obtain ⟨b, off, rfl, hbw, x1, x2, x3⟩ := tms_at hs hpos
    have hlt := hn hpos
    rw [Nat.zero_mul, Nat.add_zero] at x1 x2 x3
    have x2' : (w.alloc (.cells #[.int .i64 0, .int .i64 0, .int .i64 0] 40)).cell? ⟨b, off + 1, none⟩ = _ := (World.cell?_alloc_past _ _ _ hbw).trans x2
    generalize (l[0]).2.1 = xt at *
    rw [hln]
    have hnz : ((n : Int) == 0) = false := by rw [beq_eq_false_iff_ne]; omega
    have hn0 : 0 < n := by omega
    clear hn hl hs hln x1 x2 x3 h0
    have hl2 : (1099511627776 < now ∧ 1099511627776 < xt) ∨ (now ≤ 1099511627776 ∧ now < xt) := by
      unfold limI at hlt
      split at hlt <;> omega
    clear hlt
    rcases hl2 with ⟨q1, q2⟩ | ⟨q1, q2⟩
    all_goals
      go_enter Try.func13, Try.ntmps13
      go_wp2_with fail
      refine bodyPost_ret (v := .tuple #[.slice (some ⟨b, off, none⟩) n c, refV (0, 0, 0), .bool false]) (by simp [results, Try.results13, go_sem]) rfl ⟨rfl, below_new _ _⟩
abbrev zR : Obj := .cells #[.int .i64 0, .int .i64 0, .int .i64 0] 40
theorem tms_tail {w : World} {B : Nat} {b off : Nat} {x : Tr} {l : List Tr} (h : Tms w B (some ⟨b, off, none⟩) (x :: l)) : Tms w B (some ⟨b, off + 3, none⟩) l := fun k hk => by
  obtain ⟨b', off', h1, h2, h3⟩ := h (k + 1) (by simpa using hk)
  injection h1 with h1
  injection h1 with h1 h1'
  subst h1 h1'
  exact ⟨b, off + 3, rfl, h2, fun j u hu => by rw [show off + 3 + 3 * k + j = off + 3 * (k + 1) + j by omega]; exact h3 j u (by simpa using hu)⟩
theorem tms_cells {w : World} {B b off : Nat} {l : List Tr} (h : Tms w B (some ⟨b, off, none⟩) l) : ∀ j u, (trsC l)[j]? = some u → w.cell? ⟨b, off + j, none⟩ = some u := fun j u hu => by
  have hj : j < l.length * 3 := by
    rcases Nat.lt_or_ge j (l.length * 3) with q | q
    · exact q
    · rw [List.getElem?_eq_none (by rw [trsC_len]; exact q)] at hu; cases hu
  obtain ⟨b', off', h1, h2, h3⟩ := h (j / 3) (by omega)
  injection h1 with h1
  injection h1 with h1 h1'
  subst h1 h1'
  have := trsC_get l (j / 3) (j % 3) (by omega) (Nat.mod_lt _ (by omega))
  rw [show 3 * (j / 3) + j % 3 = j by omega] at this
  have h4 := h3 (j % 3) u (by rw [← this]; exact hu)
  rwa [show off + 3 * (j / 3) + j % 3 = off + j by omega] at h4
theorem trsC_one (l : List Tr) : ∀ u ∈ trsC l, u.oneCell' = true := fun u hu => by
  obtain ⟨x, hx, h⟩ := List.mem_flatMap.1 hu
  exact trC_one x u h
theorem OwnT.set3 {w w1 W : World} {v : Value} {D : List Tr} (hb : Below w.heap.size w w1) (h : OwnT w1 v D W) (hlt : w.heap.size < w1.heap.size) (a b c : Value) : OwnT w v D (((W.setCell ⟨w.heap.size, 0, none⟩ a).setCell ⟨w.heap.size, 1, none⟩ b).setCell ⟨w.heap.size, 2, none⟩ c).drew := by
  refine ⟨own_base (b := w1.heap.size) ?_ hb.size, ?_⟩
  · exact ownsRow_setCell_below (ownsRow_setCell_below (ownsRow_setCell_below h.1 hlt a) hlt b) hlt c
  · exact bdrew ((((bthen hb h.2).setCell (Nat.le_refl _) _).setCell (Nat.le_refl _) _).setCell (Nat.le_refl _) _)
theorem set3 {W : World} {g : Nat} {x y z : Value} (a b c : Value) (h0 : W.cell? ⟨g, 0, none⟩ = some x) (h1 : W.cell? ⟨g, 1, none⟩ = some y) (h2 : W.cell? ⟨g, 2, none⟩ = some z) :
    (((W.setCell ⟨g, 0, none⟩ a).setCell ⟨g, 1, none⟩ b).setCell ⟨g, 2, none⟩ c).cell? ⟨g, 0, none⟩ = some a ∧ (((W.setCell ⟨g, 0, none⟩ a).setCell ⟨g, 1, none⟩ b).setCell ⟨g, 2, none⟩ c).cell? ⟨g, 1, none⟩ = some b ∧ (((W.setCell ⟨g, 0, none⟩ a).setCell ⟨g, 1, none⟩ b).setCell ⟨g, 2, none⟩ c).cell? ⟨g, 2, none⟩ = some c := by
  have n01 : (⟨g, 0, none⟩ : Addr) ≠ ⟨g, 1, none⟩ := by simp
  have n02 : (⟨g, 0, none⟩ : Addr) ≠ ⟨g, 2, none⟩ := by simp
  have n12 : (⟨g, 1, none⟩ : Addr) ≠ ⟨g, 2, none⟩ := by simp
  refine ⟨?_, ?_, ?_⟩
  · rw [World.cell?_setCell_other _ _ _ _ n02.symm, World.cell?_setCell_other _ _ _ _ n01.symm, World.cell?_setCell_same' _ _ _ (by rw [h0]; rfl)]
  · rw [World.cell?_setCell_other _ _ _ _ n12.symm, World.cell?_setCell_same' _ _ _ (by rw [World.cell?_setCell_other _ _ _ _ n01, h1]; rfl)]
  · rw [World.cell?_setCell_same' _ _ _ (by rw [World.cell?_setCell_other _ _ _ _ n12, World.cell?_setCell_other _ _ _ _ n02, h2]; rfl)]
set_option maxRecDepth 100000 in
set_option maxHeartbeats 2000000 in
theorem r43Next_some (b off : Nat) (c : Nat) (xi xt xe : Int) (l : List Tr) (now : Int) (w : World) (hl : l.length ≤ 1000) (hbw : b < w.heap.size) (hc : l.length + 1 ≤ c) (hs : Tms w w.heap.size (some ⟨b, off, none⟩) ((xi, xt, xe) :: l)) (hn : ¬ limI now < xt) (hx : 0 ≤ xe ∧ xe ≤ 1099511627776 ∧ 0 ≤ xt) :
    Calls Try.prog 13 #[.slice (some ⟨b, off, none⟩) (l.length + 1) c, .int .i64 now] w fun e w' => ∃ v, e = .returned (.tuple #[v, refV (xi, xt, xe), .bool true]) ∧ OwnT w v (if xe = 0 then l else putL (xi, xt + xe, xe) l) w' := by
  obtain ⟨n, hln⟩ : ∃ n, l.length = n := ⟨_, rfl⟩
  have HN := Lib.hid hln
  obtain ⟨b', off', hb', -, y1, y2, y3⟩ := tms_at hs (k := 0) (by simp)
  injection hb' with hb'
  injection hb' with hb' hb''
  subst hb' hb''
  rw [Nat.zero_mul, Nat.add_zero] at y1 y2 y3
  have z1 : (w.alloc zR).cell? ⟨b, off, none⟩ = some (.int .i64 xi) := (World.cell?_alloc_past _ _ _ hbw).trans y1
  have z2 : (w.alloc zR).cell? ⟨b, off + 1, none⟩ = some (.int .i64 xt) := (World.cell?_alloc_past _ _ _ hbw).trans y2
  have z3 : (w.alloc zR).cell? ⟨b, off + 2, none⟩ = some (.int .i64 xe) := (World.cell?_alloc_past _ _ _ hbw).trans y3
  have HT := Lib.hid (tms_tail hs)
  rw [hln] at hl hc ⊢
  have hnz : ((n + 1 : Nat) == 0) = false := by simp
  have hnz2 : ((n : Int) + 1 == 0) = false := by rw [beq_eq_false_iff_ne]; omega
  have hl2 : (1099511627776 < now ∧ ¬ 1099511627776 < xt) ∨ (now ≤ 1099511627776 ∧ ¬ now < xt) := by
    unfold limI at hn
    split at hn <;> omega
  have hlim : xt ≤ 1099511627776 := by omega
  clear hn hs hln y1 y2 y3
  obtain ⟨i0, hi, hz0, hz1, hz2⟩ := info_partsP ref_info
  have HB0 := Lib.hid (bthen (below_new w zR) (below_new (w.alloc zR) (refO (xi, xt, xe))))
  have HC1 : Hid (∀ o, ((w.alloc zR).alloc (refO (xi, xt, xe))).cell? ⟨w.heap.size + 1, o, none⟩ = (#[Value.int .i64 xi, .int .i64 xt, .int .i64 xe] : Array Value)[o]?) := fun o => World.cell?_alloc_at _ _ _ _ (by simp)
  have HC0 : Hid (∀ o, ((w.alloc zR).alloc (refO (xi, xt, xe))).cell? ⟨w.heap.size, o, none⟩ = (#[Value.int .i64 0, .int .i64 0, .int .i64 0] : Array Value)[o]?) := fun o => (World.cell?_alloc_past _ _ _ (by simp)).trans (World.cell?_alloc_at _ _ _ _ rfl)
  have HF0 : Hid (∀ o, ((w.alloc zR).alloc (refO (xi, xt, xe))).frozen? ⟨w.heap.size, o, none⟩ = false) := fun o => by rw [frozen?_alloc_cells, frozen?_alloc_cells]; exact frozen_past _ _ _ (Nat.le_refl _)
  have HZ : Hid (((w.alloc zR).alloc (refO (xi, xt, xe))).heap.size = w.heap.size + 2) := by show _ = _; simp
  have HS : Hid (∀ W, Below w.heap.size w W → ∀ j u, (trsC l)[j]? = some u → W.cell? ((⟨b, off + 3, none⟩ : Addr).add j) = some u) := fun W hW j u hu => by
    have e1 : (⟨b, off + 3, none⟩ : Addr).add j = ⟨b, off + 3 + j, none⟩ := by unfold Addr.add; split <;> simp_all
    rw [e1]
    exact (hW.cell (p := ⟨b, off + 3 + j, none⟩) hbw).trans (tms_cells HT.out j u hu)
  have hnm : n ≤ 2000 := by omega
  obtain ⟨hm1, hby1⟩ := small_ok hnm
  have hm1' : 0 + n ≤ maxLen := by omega
  have hby1' : (0 + n) * 24 ≤ 140737488355328 := by omega
  have hc2 : (c = 1 ∧ n = 0) ∨ (1 < c) := by omega
  clear hnm hm1 hby1 HT
  have hex : xe = 0 ∨ 0 < xe := by omega
  obtain ⟨R, hR⟩ : ∃ R, (if xe = 0 then l else putL (xi, xt + xe, xe) l) = R := ⟨_, rfl⟩
  rw [hR]
  have HR := Lib.hid hR
  clear hR
  rcases hl2 with ⟨q1, q2⟩ | ⟨q1, q2⟩
  all_goals
    rcases hc2 with ⟨rfl, rfl⟩ | hc2
    · have hl0 : Hid (∀ (W : World) j u, (trsC l)[j]? = some u → W.cell? ((⟨b, off, none⟩ : Addr).add j) = some u) := fun W j u hu => by
        rw [List.length_eq_zero_iff.1 HN.out] at hu; simp [trsC] at hu
      go_enter Try.func13, Try.ntmps13
      go_upto_region 4 with fail
      generalize hW0 : (w.alloc zR).alloc (refO (xi, xt, xe)) = W0 at *
      clear hW0 z1 z2 z3
      have hown : (W0.alloc (.cells #[] 40)).ownsRow W0.heap.size 40 3 (.slice (some ⟨W0.heap.size, 0, none⟩) 0 0) 0 [] := World.ownsRow_made W0 #[] 0 (Nat.le_refl _) (by decide) rfl
      have HO := Lib.hid hown
      have HS1 := Lib.hid (HS.out _ (bthen HB0.out (below_new W0 (.cells #[] 40))))
      clear hown
      go_wp2_with (at_builtin; refine wpList_append_own _ rfl _ _ 34 rfl W0.heap.size 40 i0 (.agg #[.int .i64 0, .int .i64 0, .int .i64 0]) 3 24 Try.underlying34 hi hz0 hz1 hz2 rfl (by decide) _ _ _ rfl HO.out ⟨b, off, none⟩ 0 0 (trsC l) rfl (by rw [trsC_len, HN.out]) (hl0.out _) (trsC_one l) (by decide) (by decide) (by simp) ?_)
      intro v' w2 hown' hgrow _
      have HO2 : Hid (OwnT W0 v' l w2) := ⟨by rw [HN.out]; exact hown', (below_new W0 _).grown hgrow (by simp) (fun k hk => (HO.out.lt k hk).1)⟩
      have hb2 := HO2.out.2
      have u0 : w2.cell? ⟨w.heap.size + 1, 0, none⟩ = some (.int .i64 xi) := ((bcell hb2).1 _ 0 (by have := HZ.out; omega)).trans (HC1.out 0)
      have u1 : w2.cell? ⟨w.heap.size + 1, 1, none⟩ = some (.int .i64 xt) := ((bcell hb2).1 _ 1 (by have := HZ.out; omega)).trans (HC1.out 1)
      have u2 : w2.cell? ⟨w.heap.size + 1, 2, none⟩ = some (.int .i64 xe) := ((bcell hb2).1 _ 2 (by have := HZ.out; omega)).trans (HC1.out 2)
      have p0 : w2.cell? ⟨w.heap.size, 0, none⟩ = some (.int .i64 0) := ((bcell hb2).1 _ 0 (by have := HZ.out; omega)).trans (HC0.out 0)
      have p1 : w2.cell? ⟨w.heap.size, 1, none⟩ = some (.int .i64 0) := ((bcell hb2).1 _ 1 (by have := HZ.out; omega)).trans (HC0.out 1)
      have p2 : w2.cell? ⟨w.heap.size, 2, none⟩ = some (.int .i64 0) := ((bcell hb2).1 _ 2 (by have := HZ.out; omega)).trans (HC0.out 2)
      have pf : ∀ o, w2.frozen? ⟨w.heap.size, o, none⟩ = false := fun o => ((bcell hb2).2 _ o (by have := HZ.out; omega)).trans (HF0.out o)
      have HFI : Hid (∀ a b c, OwnT w v' l (((w2.setCell ⟨w.heap.size, 0, none⟩ a).setCell ⟨w.heap.size, 1, none⟩ b).setCell ⟨w.heap.size, 2, none⟩ c).drew) := fun a b c => OwnT.set3 HB0.out HO2.out (by have := HZ.out; omega) a b c
      have HFO : Hid (OwnT w v' l w2) := ⟨own_base HO2.out.1 HB0.out.size, bthen HB0.out hb2⟩
      have HWZ : Hid (w.heap.size + 2 ≤ w2.heap.size) := by have := HZ.out; have := hb2.size; show _ ≤ _; omega
      clear hown' hgrow HO2 hb2 HO HS1 HS HC0 HC1 HF0 HZ HB0
      have f0 := pf 0
      have f1 := pf 1
      have f2 := pf 2
      have HPF := Lib.hid pf
      clear pf
      rcases hex with rfl | hpos
      · have HRL : Hid (R = l) := by show _ = _; rw [← HR.out, if_pos rfl]
        have HS3 := Lib.hid (set3 (.int .i64 xi) (.int .i64 xt) (.int .i64 0) p0 p1 p2)
        clear HFO HPF HWZ
        go_wp2_with fail
        go_region
        go_wp2_with fail
        obtain ⟨s0, s1, s2⟩ := HS3.out
        clear p0 p1 p2 u0 u1 u2
        exact bodyPost_ret (v := .tuple #[v', refV (xi, xt, 0), .bool true]) (by simp [results, Try.results13, go_sem, s0, s1, s2]) rfl ⟨v', rfl, by rw [HRL.out]; exact HFI.out _ _ _⟩
      · have HRL : Hid (R = putL (xi, xt + xe, xe) l) := by show _ = _; rw [← HR.out, if_neg (by omega)]
        have hw5 : IntKind.i64.wrap (xt + xe) = xt + xe := IntWalk.i64_in _ (by omega)
        obtain ⟨A1, c1, rfl, hs1, -, -⟩ := tms_of_own HFO.out.1
        have HP := Lib.hid (r43put_any A1 c1 l xi (xt + xe) xe w2 (by rw [HN.out]; exact hl) hs1)
        rw [HN.out] at HP
        have HPC : Hid (w2.cell? ⟨w.heap.size + 1, 0, none⟩ = some (.int .i64 xi) ∧ w2.cell? ⟨w.heap.size + 1, 1, none⟩ = some (.int .i64 xt) ∧ w2.cell? ⟨w.heap.size + 1, 2, none⟩ = some (.int .i64 xe) ∧ w2.cell? ⟨w.heap.size, 0, none⟩ = some (.int .i64 0) ∧ w2.cell? ⟨w.heap.size, 1, none⟩ = some (.int .i64 0) ∧ w2.cell? ⟨w.heap.size, 2, none⟩ = some (.int .i64 0)) := ⟨u0, u1, u2, p0, p1, p2⟩
        clear hs1 HFI
        rw [HN.out] at *
        go_wp2_with fail
        refine HP.out.mono ?_
        rintro e w3 ⟨v3, rfl, ho3⟩
        have hb3 := ho3.2
        have HFI : Hid (∀ a b c, OwnT w v3 (putL (xi, xt + xe, xe) l) (((w3.setCell ⟨w.heap.size, 0, none⟩ a).setCell ⟨w.heap.size, 1, none⟩ b).setCell ⟨w.heap.size, 2, none⟩ c).drew) := fun a b c => OwnT.set3 HFO.out.2 ho3 (by have := HWZ.out; omega) a b c
        clear u0 u1 u2 p0 p1 p2 f0 f1 f2
        obtain ⟨u0, u1, u2, p0, p1, p2⟩ := HPC.out
        have hz := HWZ.out
        replace u0 := ((bcell hb3).1 _ 0 (by omega)).trans u0
        replace u1 := ((bcell hb3).1 _ 1 (by omega)).trans u1
        replace u2 := ((bcell hb3).1 _ 2 (by omega)).trans u2
        replace p0 := ((bcell hb3).1 _ 0 (by omega)).trans p0
        replace p1 := ((bcell hb3).1 _ 1 (by omega)).trans p1
        replace p2 := ((bcell hb3).1 _ 2 (by omega)).trans p2
        have f0 := ((bcell hb3).2 _ 0 (by omega)).trans (HPF.out 0)
        have f1 := ((bcell hb3).2 _ 1 (by omega)).trans (HPF.out 1)
        have f2 := ((bcell hb3).2 _ 2 (by omega)).trans (HPF.out 2)
        have HS3 := Lib.hid (set3 (.int .i64 xi) (.int .i64 xt) (.int .i64 xe) p0 p1 p2)
        clear ho3 hb3 hz HPC HPF HWZ HFO HP
        go_wp2_with fail
        go_region
        go_wp2_with fail
        obtain ⟨s0, s1, s2⟩ := HS3.out
        clear p0 p1 p2 u0 u1 u2
        exact bodyPost_ret (v := .tuple #[v3, refV (xi, xt, xe), .bool true]) (by simp [results, Try.results13, go_sem, s0, s1, s2]) rfl ⟨v3, rfl, by rw [HRL.out]; exact HFI.out _ _ _⟩
    · have hcn : n ≤ c - 1 := by omega
      have hc3 : (1 : Nat) ≠ c := by omega
      go_enter Try.func13, Try.ntmps13
      go_upto_region 4 with fail
      generalize hW0 : (w.alloc zR).alloc (refO (xi, xt, xe)) = W0 at *
      clear hW0 z1 z2 z3
      have hown : (W0.alloc (.cells #[] 40)).ownsRow W0.heap.size 40 3 (.slice (some ⟨W0.heap.size, 0, none⟩) 0 0) 0 [] := World.ownsRow_made W0 #[] 0 (Nat.le_refl _) (by decide) rfl
      have HO := Lib.hid hown
      have HS1 := Lib.hid (HS.out _ (bthen HB0.out (below_new W0 (.cells #[] 40))))
      clear hown
      go_wp2_with (at_builtin; refine wpList_append_own _ rfl _ _ 34 rfl W0.heap.size 40 i0 (.agg #[.int .i64 0, .int .i64 0, .int .i64 0]) 3 24 Try.underlying34 hi hz0 hz1 hz2 rfl (by decide) _ _ _ rfl HO.out ⟨b, off + 3, none⟩ n (c - 1) (trsC l) rfl (by rw [trsC_len, HN.out]) HS1.out (trsC_one l) hm1' hby1' (by simp) ?_)
      intro v' w2 hown' hgrow _
      have HO2 : Hid (OwnT W0 v' l w2) := ⟨by rw [HN.out]; exact hown', (below_new W0 _).grown hgrow (by simp) (fun k hk => (HO.out.lt k hk).1)⟩
      have hb2 := HO2.out.2
      have u0 : w2.cell? ⟨w.heap.size + 1, 0, none⟩ = some (.int .i64 xi) := ((bcell hb2).1 _ 0 (by have := HZ.out; omega)).trans (HC1.out 0)
      have u1 : w2.cell? ⟨w.heap.size + 1, 1, none⟩ = some (.int .i64 xt) := ((bcell hb2).1 _ 1 (by have := HZ.out; omega)).trans (HC1.out 1)
      have u2 : w2.cell? ⟨w.heap.size + 1, 2, none⟩ = some (.int .i64 xe) := ((bcell hb2).1 _ 2 (by have := HZ.out; omega)).trans (HC1.out 2)
      have p0 : w2.cell? ⟨w.heap.size, 0, none⟩ = some (.int .i64 0) := ((bcell hb2).1 _ 0 (by have := HZ.out; omega)).trans (HC0.out 0)
      have p1 : w2.cell? ⟨w.heap.size, 1, none⟩ = some (.int .i64 0) := ((bcell hb2).1 _ 1 (by have := HZ.out; omega)).trans (HC0.out 1)
      have p2 : w2.cell? ⟨w.heap.size, 2, none⟩ = some (.int .i64 0) := ((bcell hb2).1 _ 2 (by have := HZ.out; omega)).trans (HC0.out 2)
      have pf : ∀ o, w2.frozen? ⟨w.heap.size, o, none⟩ = false := fun o => ((bcell hb2).2 _ o (by have := HZ.out; omega)).trans (HF0.out o)
      have HFI : Hid (∀ a b c, OwnT w v' l (((w2.setCell ⟨w.heap.size, 0, none⟩ a).setCell ⟨w.heap.size, 1, none⟩ b).setCell ⟨w.heap.size, 2, none⟩ c).drew) := fun a b c => OwnT.set3 HB0.out HO2.out (by have := HZ.out; omega) a b c
      have HFO : Hid (OwnT w v' l w2) := ⟨own_base HO2.out.1 HB0.out.size, bthen HB0.out hb2⟩
      have HWZ : Hid (w.heap.size + 2 ≤ w2.heap.size) := by have := HZ.out; have := hb2.size; show _ ≤ _; omega
      clear hown' hgrow HO2 hb2 HO HS1 HS HC0 HC1 HF0 HZ HB0
      have f0 := pf 0
      have f1 := pf 1
      have f2 := pf 2
      have HPF := Lib.hid pf
      clear pf
      rcases hex with rfl | hpos
      · have HRL : Hid (R = l) := by show _ = _; rw [← HR.out, if_pos rfl]
        have HS3 := Lib.hid (set3 (.int .i64 xi) (.int .i64 xt) (.int .i64 0) p0 p1 p2)
        clear HFO HPF HWZ
        go_wp2_with fail
        go_region
        go_wp2_with fail
        obtain ⟨s0, s1, s2⟩ := HS3.out
        clear p0 p1 p2 u0 u1 u2
        exact bodyPost_ret (v := .tuple #[v', refV (xi, xt, 0), .bool true]) (by simp [results, Try.results13, go_sem, s0, s1, s2]) rfl ⟨v', rfl, by rw [HRL.out]; exact HFI.out _ _ _⟩
      · have HRL : Hid (R = putL (xi, xt + xe, xe) l) := by show _ = _; rw [← HR.out, if_neg (by omega)]
        have hw5 : IntKind.i64.wrap (xt + xe) = xt + xe := IntWalk.i64_in _ (by omega)
        obtain ⟨A1, c1, rfl, hs1, -, -⟩ := tms_of_own HFO.out.1
        have HP := Lib.hid (r43put_any A1 c1 l xi (xt + xe) xe w2 (by rw [HN.out]; exact hl) hs1)
        rw [HN.out] at HP
        have HPC : Hid (w2.cell? ⟨w.heap.size + 1, 0, none⟩ = some (.int .i64 xi) ∧ w2.cell? ⟨w.heap.size + 1, 1, none⟩ = some (.int .i64 xt) ∧ w2.cell? ⟨w.heap.size + 1, 2, none⟩ = some (.int .i64 xe) ∧ w2.cell? ⟨w.heap.size, 0, none⟩ = some (.int .i64 0) ∧ w2.cell? ⟨w.heap.size, 1, none⟩ = some (.int .i64 0) ∧ w2.cell? ⟨w.heap.size, 2, none⟩ = some (.int .i64 0)) := ⟨u0, u1, u2, p0, p1, p2⟩
        clear hs1 HFI
        rw [HN.out] at *
        go_wp2_with fail
        refine HP.out.mono ?_
        rintro e w3 ⟨v3, rfl, ho3⟩
        have hb3 := ho3.2
        have HFI : Hid (∀ a b c, OwnT w v3 (putL (xi, xt + xe, xe) l) (((w3.setCell ⟨w.heap.size, 0, none⟩ a).setCell ⟨w.heap.size, 1, none⟩ b).setCell ⟨w.heap.size, 2, none⟩ c).drew) := fun a b c => OwnT.set3 HFO.out.2 ho3 (by have := HWZ.out; omega) a b c
        clear u0 u1 u2 p0 p1 p2 f0 f1 f2
        obtain ⟨u0, u1, u2, p0, p1, p2⟩ := HPC.out
        have hz := HWZ.out
        replace u0 := ((bcell hb3).1 _ 0 (by omega)).trans u0
        replace u1 := ((bcell hb3).1 _ 1 (by omega)).trans u1
        replace u2 := ((bcell hb3).1 _ 2 (by omega)).trans u2
        replace p0 := ((bcell hb3).1 _ 0 (by omega)).trans p0
        replace p1 := ((bcell hb3).1 _ 1 (by omega)).trans p1
        replace p2 := ((bcell hb3).1 _ 2 (by omega)).trans p2
        have f0 := ((bcell hb3).2 _ 0 (by omega)).trans (HPF.out 0)
        have f1 := ((bcell hb3).2 _ 1 (by omega)).trans (HPF.out 1)
        have f2 := ((bcell hb3).2 _ 2 (by omega)).trans (HPF.out 2)
        have HS3 := Lib.hid (set3 (.int .i64 xi) (.int .i64 xt) (.int .i64 xe) p0 p1 p2)
        clear ho3 hb3 hz HPC HPF HWZ HFO HP
        go_wp2_with fail
        go_region
        go_wp2_with fail
        obtain ⟨s0, s1, s2⟩ := HS3.out
        clear p0 p1 p2 u0 u1 u2
        exact bodyPost_ret (v := .tuple #[v3, refV (xi, xt, xe), .bool true]) (by simp [results, Try.results13, go_sem, s0, s1, s2]) rfl ⟨v3, rfl, by rw [HRL.out]; exact HFI.out _ _ _⟩
end Go.Proofs.Ytcageojgfnihpaa
