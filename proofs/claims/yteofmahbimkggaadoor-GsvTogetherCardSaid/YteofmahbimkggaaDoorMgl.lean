/- Layer 29: Add. -/
import Derived.Test.YteofmahbimkggaaDoorMgk
import Derived.Deep.RegionLaw
namespace Go.Proofs.YteofmahbimkggaaDoor
set_option linter.unusedVariables false
open Go.RowKit

def addK (k : Bk) (m : GsvD) : Bk := if fitB k m = true then (if m.N < m.T then ⟨m.T, m.N + 1, (fitK k m).L ++ m.L⟩ else ⟨0, 0, []⟩) else ⟨0, 0, []⟩
def addO (k : Bk) (m : GsvD) : List V4 := if fitB k m = true then (if m.N < m.T then [] else (fitK k m).L ++ m.L) else []
def addF (k : Bk) (m : GsvD) : Bool := fitB k m && !decide (m.N < m.T)
def AddPost (S : Nat → Prop) (g : Nat) (k : Bk) (m : GsvD) (w : World) (e : Ending) (w' : World) : Prop :=
  ∃ B d, e = .returned (.tuple #[.slice B (addO k m).length d, .bool (addF k m)]) ∧ FlatQ (fun b => w.heap.size ≤ b ∧ b < w'.heap.size) w' B (vsC (addO k m)) ∧ BkP S g (addK k m) w' ∧ KeptS S w w'
/-- What a book has with a box of a message at its side. -/
theorem boxed {S : Nat → Prop} {g : Nat} {k : Bk} {w : World} (T N S' : Int) (A : Option Addr) (n c : Nat) (h : BkP S g k w) :
    BkP (fun j => S j ∨ j = w.heap.size) g k (w.alloc (.cells (gsvC T N S' A n c) 26)) ∧ KeptS S w (w.alloc (.cells (gsvC T N S' A n c) 26)) := by
  have hb := below_new w (.cells (gsvC T N S' A n c) 26)
  exact ⟨(BkI.also h hb).less (fun j q => q.elim .inl (fun q => .inr (by simp; omega))), KeptS.of_below hb h.lt⟩
set_option maxRecDepth 8000 in
set_option maxHeartbeats 4000000 in
theorem gsvAdd_no {S : Nat → Prop} {g : Nat} {k : Bk} {w : World} (T N S' : Int) (A : Option Addr) (n c : Nat) (L : List V4) (hn : Hid (L.length = n)) (h : BkP S g k w) (hm : n ≤ maxLen) (hf : fitB k ⟨T, N, S', L⟩ = false) :
    Calls Tryd.prog 7 #[.pointer (some ⟨g, 0, none⟩), gsvV T N S' A n c] w (AddPost S g k ⟨T, N, S', L⟩ w) := by
  have HPO : Hid (∀ w', BkI S g 0 0 [] w' → KeptS S w w' → AddPost S g k ⟨T, N, S', L⟩ w (.returned (.tuple #[.slice none 0 0, .bool false])) w') := by
    intro w' h1 h2
    unfold AddPost addO addF addK
    rw [hf]
    exact ⟨none, 0, rfl, FlatQ.nil _ _ _, h1, h2⟩
  obtain ⟨h1, hk⟩ := boxed T N S' A n c h
  have c0 := BkI.c0 h1
  have HFI : Hid (Calls Tryd.prog 13 #[.pointer (some ⟨g, 0, none⟩), gsvV T N S' A n c] (w.alloc (.cells (gsvC T N S' A n c) 26)) (FitPost (fun j => S j ∨ j = w.heap.size) g k ⟨T, N, S', L⟩ (w.alloc (.cells (gsvC T N S' A n c) 26)))) := by
    have := hn.out
    subst this
    exact gsvfits_any T N S' A c L h1 hm
  unfold FitPost at HFI
  rw [hf] at HFI
  have HK := Lib.hid hk
  clear h h1 hk hf hn
  go_enter Tryd.func7, Tryd.ntmps7
  go_wp2_with fail
  refine HFI.out.mono ?_
  rintro r w1 ⟨rfl, h1, hk1⟩
  have H1 := Lib.hid h1
  have HK1 := Lib.hid (HK.out.trans (hk1.less fun j q => .inl q))
  clear h1 hk1 HFI HK c0
  go_wp2_with fail
  refine (gsvforget_any H1.out).mono ?_
  rintro r w2 ⟨rfl, h2, hk2⟩
  have HPP := Lib.hid (HPO.out _ (h2.less fun j q => .inl q) (HK1.out.trans (hk2.less fun j q => .inl q)))
  clear h2 hk2 H1 HK1
  go_wp2_with fail
  go_ret2
  exact HPP.out
/-- What lies behind the message is in the row. -/
theorem BkS.grew {S : Nat → Prop} {g : Nat} {T N : Int} {L M : List V4} {A B : Option Addr} {c c' : Nat} {w w' : World} (h : BkS S g T N L (.slice A L.length c) w) (hg : w.grownBy w' none)
    (hw : M.length = 0 ∧ B = A ∧ c' = L.length ∧ w' = w ∨ 0 < M.length ∧ w'.ownsRow w.heap.size 53 8 (.slice B (L.length + M.length) c') (L.length + M.length) (vsC L ++ vsC M)) :
    BkS S g T N (L ++ M) (.slice B (L.length + M.length) c') (w'.setCell ⟨g, 3, none⟩ (.slice B (L.length + M.length) c')) := by
  have hgl := lt_of_cellQ h.c0
  have h' : BkS S g T N L (.slice A L.length c) w' := (h.grown hg.size fun b _ hl => hg.block b hl (by simp)).less fun _ q => .inl q
  refine h'.set3 ?_
  rcases hw with ⟨h0, rfl, rfl, rfl⟩ | ⟨h0, ho⟩
  · obtain rfl := List.eq_nil_of_length_eq_zero h0
    rw [List.append_nil, show L.length + ([] : List V4).length = L.length from rfl]
    rcases h'.row with ⟨rfl, A', e⟩ | ⟨b, c2, cur, e, k1, k2, k3, k4, k5⟩
    · exact .inl ⟨rfl, _, rfl⟩
    · injection e with e
      subst e
      exact .inr ⟨b, _, cur, rfl, k1, k2, k3, Nat.le_refl _, k5⟩
  · rcases ho.2 with ⟨-, hz⟩ | ⟨b, c2, cur, e, hb, k3, k4, -, -, k5⟩
    · omega
    · injection e with e1 e2 e3
      subst e1 e3
      refine .inr ⟨b, _, cur, by rw [List.length_append], by omega, fun q => by have := h.lt b q; omega, k3, by rw [List.length_append]; exact k4, by rw [List.length_append, vsC_append]; exact k5⟩
set_option maxRecDepth 8000 in
set_option maxHeartbeats 8000000 in
theorem gsvAdd_yes {S : Nat → Prop} {g : Nat} {k : Bk} {w : World} (T N S' : Int) (A : Option Addr) (n c : Nat) (L : List V4) (hn : Hid (L.length = n)) (h : BkP S g k w) (hA : Hid (FlatQ S w A (vsC L))) (hm : n ≤ 4) (hl : (fitK k ⟨T, N, S', L⟩).L.length ≤ 10000)
    (h1 : 1 ≤ N) (h9 : N ≤ 9) (hf : fitB k ⟨T, N, S', L⟩ = true) (heq : fitK k ⟨T, N, S', L⟩ = ⟨T, N, (fitK k ⟨T, N, S', L⟩).L⟩) :
    Calls Tryd.prog 7 #[.pointer (some ⟨g, 0, none⟩), gsvV T N S' A n c] w (AddPost S g k ⟨T, N, S', L⟩ w) := by
  generalize hLK : (fitK k ⟨T, N, S', L⟩).L = LK at *
  have hmx : n ≤ maxLen := by unfold maxLen; omega
  have HP1 : Hid (N < T → ∀ w', BkI S g T (N + 1) (LK ++ L) w' → KeptS S w w' → AddPost S g k ⟨T, N, S', L⟩ w (.returned (.tuple #[.slice none 0 0, .bool false])) w') := by
    intro hlt w' q1 q2
    unfold AddPost addO addF addK
    rw [hf, if_pos rfl, if_pos hlt, if_pos rfl, if_pos hlt, hLK]
    exact ⟨none, 0, by rw [decide_eq_true hlt]; rfl, FlatQ.nil _ _ _, q1, q2⟩
  have HP2 : Hid (¬ N < T → ∀ B d w', FlatQ (fun b => w.heap.size ≤ b ∧ b < w'.heap.size) w' B (vsC (LK ++ L)) → BkI S g 0 0 [] w' → KeptS S w w' → AddPost S g k ⟨T, N, S', L⟩ w (.returned (.tuple #[.slice B (LK ++ L).length d, .bool true])) w') := by
    intro hlt B d w' q0 q1 q2
    unfold AddPost addO addF addK
    rw [hf, if_pos rfl, if_neg hlt, if_pos rfl, if_neg hlt, hLK]
    exact ⟨B, d, by rw [decide_eq_false hlt]; rfl, q0, q1, q2⟩
  obtain ⟨h1', hk⟩ := boxed T N S' A n c h
  have c0 := BkI.c0 h1'
  have HFI : Hid (Calls Tryd.prog 13 #[.pointer (some ⟨g, 0, none⟩), gsvV T N S' A n c] (w.alloc (.cells (gsvC T N S' A n c) 26)) (FitPost (fun j => S j ∨ j = w.heap.size) g k ⟨T, N, S', L⟩ (w.alloc (.cells (gsvC T N S' A n c) 26)))) := by
    have := hn.out
    subst this
    exact gsvfits_any T N S' A c L h1' hmx
  unfold FitPost at HFI
  rw [hf, heq] at HFI
  have HK := Lib.hid hk
  have HM0 : Hid (∀ o, (w.alloc (.cells (gsvC T N S' A n c) 26)).cell? ⟨w.heap.size, o, none⟩ = (gsvC T N S' A n c)[o]?) := fun o => World.cell?_alloc_at _ _ _ _ rfl
  have HZ : Hid (w.heap.size < (w.alloc (.cells (gsvC T N S' A n c) 26)).heap.size) := by show _ < _; simp
  have HL := Lib.hid hl
  clear h h1' hk hf heq hLK hl
  go_enter Tryd.func7, Tryd.ntmps7
  go_wp2_with fail
  refine HFI.out.mono ?_
  rintro r w1 ⟨rfl, ⟨v, hB⟩, hk1⟩
  obtain ⟨A0, d0, rfl, hd0, hnone, hfl⟩ := hB.form
  have hln := hn.out
  subst hln
  obtain ⟨i0, hi, hz0, hz1, hz2⟩ := view_info
  have HK1 := Lib.hid (HK.out.trans (hk1.less fun j q => .inl q))
  obtain ⟨B, cap', w2, hrun, hgrow, hle, hor⟩ := run_append_full (P := Tryd.prog) w1.drew 24 24 53 i0 _ 8 64 Tryd.underlying24 hi hz0 hz1 hz2 rfl (by decide) A0 LK.length LK.length (vsC LK) (fun e => ⟨(hnone e).1, (hnone e).1⟩) (Nat.le_refl _) (vsC_len LK) (hfl.keep (w' := w1.drew) fun _ _ => rfl) A L.length c (vsC L) (vsC_len L) ((hA.out.kept HK1.out (fun _ q => q)).keep (w' := w1.drew) fun _ _ => rfl) (vsC_one L) (by omega) (by unfold maxLen; have := HL.out; omega) (by have := HL.out; omega)
  have hB2 := hB.drew.grew (M := L) hgrow hor
  have hg1 := lt_of_cellQ hB.c0
  have hk2 : KeptS (fun j => S j ∨ j = w.heap.size) w1 w2 := KeptS.grown (w := w1) ⟨hgrow.os, hgrow.tape, hgrow.output, hgrow.size, hgrow.block⟩ fun j q => ⟨hB.lt j q, by simp⟩
  have hM1 : ∀ o, w1.cell? ⟨w.heap.size, o, none⟩ = (gsvC T N S' A L.length c)[o]? := fun o => (hk1.cell (.inr rfl)).trans (HM0.out o)
  have c3 := hB.c3
  have m3 := hM1 3
  have z3 : w2.frozen? ⟨g, 3, none⟩ = false := (World.frozen?_of_block (a := ⟨g, 3, none⟩) (hgrow.block g hg1 (by simp))).trans (hB.fro 3)
  have y3 : w2.cell? ⟨g, 3, none⟩ = some (.slice A0 LK.length d0) := (World.cell?_of_block (a := ⟨g, 3, none⟩) (hgrow.block g hg1 (by simp))).trans c3
  have c2 : w2.cell? ⟨g, 2, none⟩ = some (.int .i64 N) := (World.cell?_of_block (a := ⟨g, 2, none⟩) (hgrow.block g hg1 (by simp))).trans hB.c2
  have z2 : w2.frozen? ⟨g, 2, none⟩ = false := (World.frozen?_of_block (a := ⟨g, 2, none⟩) (hgrow.block g hg1 (by simp))).trans (hB.fro 2)
  have m0 : w2.cell? ⟨w.heap.size, 0, none⟩ = some (.int .i64 T) := (hk2.cell (.inr rfl)).trans (hM1 0)
  have m1 : w2.cell? ⟨w.heap.size, 1, none⟩ = some (.int .i64 N) := (hk2.cell (.inr rfl)).trans (hM1 1)
  have gm : ¬ g = w.heap.size := fun e => hB.out (.inr e)
  have hB4 := hB2.set2 (N + 1)
  have HK4 := Lib.hid (HK1.out.trans (((hk2.set hB.out 3 (.slice B (LK.length + L.length) cap')).set hB.out 2 (.int .i64 (N + 1))).less fun j q => .inl q))
  have HB4 := Lib.hid hB4
  have HR := Lib.hid hrun
  have HD0 := Lib.hid hd0
  clear hnone hfl hgrow hle hor hB2 hB4 hB hM1 hk2 hk1 HFI HK c0 hrun hi hz0 hz1 hz2 hg1
  generalize hnl : LK.length = nl at *
  generalize hml : L.length = ml at *
  have HNL := Lib.hid hnl
  have HML := Lib.hid hml
  clear hnl hml
  have hd0 := HD0.out
  go_upto_region 6 with fail
  go_cut [] (fun wx => wx = w2.setCell ⟨g, 3, none⟩ (.slice B (nl + ml) cap'))
  case first =>
    go_region_law ((refine step_append_known (by rfl) _ _ _ (by rfl) _ _ _ (by rfl) (by rfl) HR.out ?_))
    all_goals go_wp2_with fail
    all_goals go_meet
    all_goals rfl
  case rest =>
  subst hcut
  by_cases hlt : N < T
  · go_wp2_with fail
    go_ret2
    exact HP1.out hlt _ ⟨_, HB4.out.less fun j q => .inl q⟩ HK4.out
  · have hle : T ≤ N := by omega
    have HCL : Hid (Calls Tryd.prog 15 #[.slice B (nl + ml) cap'] ((w2.setCell ⟨g, 3, none⟩ (.slice B (nl + ml) cap')).setCell ⟨g, 2, none⟩ (.int .i64 (N + 1))) fun e w' => ∃ B' d, e = .returned (.slice B' (LK ++ L).length d) ∧ FlatQ (fun b => ((w2.setCell ⟨g, 3, none⟩ (.slice B (nl + ml) cap')).setCell ⟨g, 2, none⟩ (.int .i64 (N + 1))).heap.size ≤ b ∧ b < w'.heap.size) w' B' (vsC (LK ++ L)) ∧ Below ((w2.setCell ⟨g, 3, none⟩ (.slice B (nl + ml) cap')).setCell ⟨g, 2, none⟩ (.int .i64 (N + 1))).heap.size ((w2.setCell ⟨g, 3, none⟩ (.slice B (nl + ml) cap')).setCell ⟨g, 2, none⟩ (.int .i64 (N + 1))) w') := by
      obtain ⟨A', c', e1, e2, e3, e4⟩ := HB4.out.form
      injection e1 with e1 e5 e6
      subst e1 e6
      have q := CloneV_any B (LK ++ L) cap' _ e3 e4 (by rw [List.length_append, HNL.out, HML.out]; have := HL.out; omega)
      simp only [← e5] at q ⊢
      exact q
    go_wp2_with fail
    refine HCL.out.mono ?_
    rintro r w5 ⟨B', d, rfl, hfl, hb5⟩
    have h5 := HB4.out.also hb5
    have HS5 : Hid (w.heap.size ≤ ((w2.setCell ⟨g, 3, none⟩ (.slice B (nl + ml) cap')).setCell ⟨g, 2, none⟩ (.int .i64 (N + 1))).heap.size) := HK4.out.size
    have HK5 := Lib.hid (HK4.out.trans (KeptS.of_below hb5 fun k q => HB4.out.lt k (.inl q)))
    generalize (w2.setCell ⟨g, 3, none⟩ (.slice B (nl + ml) cap')).setCell ⟨g, 2, none⟩ (.int .i64 (N + 1)) = W4 at *
    have H5 := Lib.hid h5
    have HFL := Lib.hid hfl
    clear hfl hb5 h5 HB4 HK4 HCL
    go_wp2_with fail
    refine (gsvforget_any ⟨_, H5.out⟩).mono ?_
    rintro r w6 ⟨rfl, h6, hk6⟩
    have HE : Hid (AddPost S g k ⟨T, N, S', L⟩ w (.returned (.tuple #[.slice B' (LK ++ L).length d, .bool true])) w6) :=
      HP2.out hlt B' d w6 ((HFL.out.kept hk6 fun b q => .inr q).less fun b q => ⟨Nat.le_trans HS5.out q.1, Nat.lt_of_lt_of_le q.2 hk6.size⟩) (h6.less fun j q => .inl (.inl q)) (HK5.out.trans (hk6.less fun j q => .inl (.inl q)))
    rw [List.length_append] at HE
    clear h6 hk6 HP1 HP2
    go_wp2_with fail
    go_ret2
    exact HE.out
theorem gsvAdd_any {S : Nat → Prop} {g : Nat} {k : Bk} {w : World} (T N S' : Int) (A : Option Addr) (c : Nat) (L : List V4) (h : BkP S g k w) (hA : FlatQ S w A (vsC L)) (hm : L.length ≤ maxLen) (hl : k.L.length ≤ 10000) :
    Calls Tryd.prog 7 #[.pointer (some ⟨g, 0, none⟩), gsvV T N S' A L.length c] w (AddPost S g k ⟨T, N, S', L⟩ w) := by
  cases hf : fitB k ⟨T, N, S', L⟩ with
  | false => exact gsvAdd_no T N S' A _ c L rfl h hm hf
  | true =>
    have hf' := hf
    unfold fitB at hf
    simp only [Bool.and_eq_true, Bool.not_eq_true', decide_eq_false_iff_not, decide_eq_true_eq] at hf
    obtain ⟨h1, h2, h3⟩ := hf
    have hb : ¬ (T < 1 ∨ 9 < T ∨ N < 1 ∨ T < N ∨ 4 < L.length) := h1
    refine gsvAdd_yes T N S' A _ c L rfl h hA (by omega) ?_ (by omega) (by omega) hf' ?_
    · unfold fitK
      rw [if_neg h1]
      split
      · exact Nat.zero_le _
      · exact hl
    · generalize fitK k ⟨T, N, S', L⟩ = K at *
      obtain ⟨a, b, c⟩ := K
      simp only at h2 h3
      rw [← h2, ← h3]
end Go.Proofs.YteofmahbimkggaaDoor
