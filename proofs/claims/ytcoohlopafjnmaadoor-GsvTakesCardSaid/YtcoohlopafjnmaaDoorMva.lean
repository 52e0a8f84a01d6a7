/- Layer 28: columns, places, letters. -/
import Derived.Test.YtcoohlopafjnmaaDoorMh
import Derived.Deep.RegionWith
import Derived.Deep.DeepCutAuto
import Derived.Deep.CutBlock
namespace Go.Proofs.YtcoohlopafjnmaaDoor
set_option linter.unusedVariables false
open Go.RowKit

/-- A message as a value; its cells. -/
abbrev vtgC (b0 : Bool) (n0 : Int) (b1 : Bool) (n1 : Int) (b2 : Bool) (n2 : Int) (b3 : Bool) (n3 : Int) : Array Value := #[.bool b0, .int .i64 n0, .bool b1, .int .i64 n1, .bool b2, .int .i64 n2, .bool b3, .int .i64 n3]
abbrev vtgV (b0 : Bool) (n0 : Int) (b1 : Bool) (n1 : Int) (b2 : Bool) (n2 : Int) (b3 : Bool) (n3 : Int) : Value := .agg (vtgC b0 n0 b1 n1 b2 n2 b3 n3)
/-- A column with its letter. -/
abbrev clC (W M F L H : Int) (c : ByteArray) : Array Value := #[.int .i64 W, .int .i64 M, .int .i64 F, .int .i64 L, .int .i64 H, .string c]
abbrev clV (W M F L H : Int) (c : ByteArray) : Value := .agg (clC W M F L H c)
abbrev clCells : Array Value := #[.int .i64 1, .int .i64 3, .int .i64 2, .int .i64 0, .int .i64 36000, .string ⟨#[84]⟩, .int .i64 1, .int .i64 3, .int .i64 2, .int .i64 0, .int .i64 36000, .string ⟨#[77]⟩, .int .i64 1, .int .i64 4, .int .i64 2, .int .i64 0, .int .i64 999999, .string ⟨#[78]⟩, .int .i64 1, .int .i64 4, .int .i64 2, .int .i64 0, .int .i64 999999, .string ⟨#[75]⟩]
abbrev clO (W M F L H : Int) (c : ByteArray) : Obj := .cells (clC W M F L H c) 80

theorem isEmpty_text (a : ByteArray) : a.toList.isEmpty = decide (a = ByteArray.empty) := by
  rw [← beq_text]
  have : ByteArray.empty.toList = [] := by rw [ByteArray.toList_eq]; rfl
  rw [this]
  cases a.toList <;> rfl
theorem r28Course_any (w : World) : Calls Tryd.prog 54 #[] w fun e w' => e = .returned (colV 1 3 2 0 36000) ∧ Below w.heap.size w w' := by
  go_enter Tryd.func54, Tryd.ntmps54
  go_wp2
  refine bodyPost_ret (v := colV 1 3 2 0 36000) (by simp [results, Tryd.results54, go_sem]) rfl ⟨rfl, below_new _ _⟩
theorem r28Speed_any (w : World) : Calls Tryd.prog 56 #[] w fun e w' => e = .returned (colV 1 4 2 0 999999) ∧ Below w.heap.size w w' := by
  go_enter Tryd.func56, Tryd.ntmps56
  go_wp2
  refine bodyPost_ret (v := colV 1 4 2 0 999999) (by simp [results, Tryd.results56, go_sem]) rfl ⟨rfl, below_new _ _⟩
def ColsPost (w : World) (r : Ending) (w' : World) : Prop := ∃ h, r = .returned (.slice (some ⟨h, 0, none⟩) 4 4) ∧ (∀ o, w'.cell? ⟨h, o, none⟩ = clCells[o]?) ∧ w.heap.size ≤ h ∧ h < w'.heap.size ∧ Below w.heap.size w w'
set_option maxHeartbeats 1000000 in
theorem vtgcolumns_any (w : World) : Calls Tryd.prog 46 #[] w (ColsPost w) := by
  go_enter Tryd.func46, Tryd.ntmps46
  go_wp2
  go_ret
  refine ⟨w.heap.size + 1 + 1, rfl, fun o => ?_, by omega, by simp, bthen (bthen (below_new _ _) (below_new _ _)) (below_new _ _)⟩
  rw [World.cell?_alloc_at _ _ _ _ (by simp)]
abbrev ptrC (M : Nat) : Array Value := #[.pointer (some ⟨M, 0, none⟩), .pointer (some ⟨M, 2, none⟩), .pointer (some ⟨M, 4, none⟩), .pointer (some ⟨M, 6, none⟩)]
set_option maxHeartbeats 1000000 in
theorem vtgnumbers_any (M : Nat) (w : World) : Calls Tryd.prog 47 #[.pointer (some ⟨M, 0, none⟩)] w fun e w' => e = .returned (.slice (some ⟨w.heap.size, 0, none⟩) 4 4) ∧ (∀ o, w'.cell? ⟨w.heap.size, o, none⟩ = (ptrC M)[o]?) ∧ w.heap.size < w'.heap.size ∧ Below w.heap.size w w' := by
  go_enter Tryd.func47, Tryd.ntmps47
  go_wp2_with fail
  go_region_with (fail)
  all_goals
    go_wp2_with fail
    go_ret
    refine ⟨rfl, fun o => ?_, ?_, bdrew (below_new _ _)⟩
    · show (w.alloc _).cell? _ = _
      rw [World.cell?_alloc_at _ _ _ _ rfl]
    · show _ < (w.alloc _).heap.size
      simp
theorem vtgbehind_any (W M F L H : Int) (c : ByteArray) (b : Bool) (n : Int) (w : World) : Calls Tryd.prog 51 #[clV W M F L H c, numV b n] w fun e w' => e = .returned (.string (unitT b c)) ∧ Below w.heap.size w w' := by
  cases b with
  | true =>
    go_enter Tryd.func51, Tryd.ntmps51
    go_wp2
    go_ret
    exact ⟨rfl, bthen (below_new _ _) (below_new _ _)⟩
  | false =>
    go_enter Tryd.func51, Tryd.ntmps51
    go_wp2
    go_ret
    exact ⟨rfl, bthen (below_new _ _) (below_new _ _)⟩
/-- The letter behind a number, as the reference writes it and reads it. -/
theorem r25PutUnit_any {S : Nat → Prop} {g : Nat} {s t : Rd} {b : Bool} {n : Int} {c : ByteArray} {w : World} (ht : Hid (wrText (unitT b c) 0 s = t)) (hp : RowI S g s w) (hl : s.2.length + 2 ≤ 1000000) :
    Calls Tryd.prog 55 #[.pointer (some ⟨g, 0, none⟩), numV b n, .string c] w (RowStep S g t w) := by
  have HQ : ∀ o, Hid (Calls Tryd.prog 76 #[.pointer (some ⟨g, 0, none⟩), .string (unitT b c), .int .i64 0] (w.alloc o) (RowStep S g t (w.alloc o))) := fun o => rowText ht (hp.keep (below_new w o)) hl
  have HB := fun o => Lib.hid (Kept.of_below (g := g) (below_new w o) hp.bd)
  clear ht hp hl
  cases b with
  | true =>
    have e1 : unitT true c = c := rfl
    rw [e1] at HQ
    go_enter Tryd.func55, Tryd.ntmps55
    go_wp2_with fail
    refine ((HQ _).out).mono ?_
    rintro e w1 ⟨rfl, h1, h2⟩
    go_wp2_with fail
    go_end0
    exact ⟨rfl, h1, (HB _).out.trans h2⟩
  | false =>
    have e1 : unitT false c = ByteArray.empty := rfl
    rw [e1] at HQ
    go_enter Tryd.func55, Tryd.ntmps55
    go_wp2_with fail
    refine ((HQ _).out).mono ?_
    rintro e w1 ⟨rfl, h1, h2⟩
    go_wp2_with fail
    go_end0
    exact ⟨rfl, h1, (HB _).out.trans h2⟩
theorem r25TakeUnit_any {g : Nat} {s t : Rd} {b : Bool} {n : Int} {c : ByteArray} {w : World} (ht : Hid (rdUnit c b s = t)) (hp : RowRI g s w) :
    Calls Tryd.prog 91 #[.pointer (some ⟨g, 0, none⟩), numV b n, .string c] w (RowRStep g (.tuple #[]) t w) := by
  have ht := ht.out
  obtain ⟨a, s1, h1⟩ : ∃ a s1, rdText s = (a, s1) := ⟨_, _, rfl⟩
  have H1 := Lib.hid h1
  have HQ : ∀ o, Hid (Calls Tryd.prog 92 #[.pointer (some ⟨g, 0, none⟩)] (w.alloc o) (RowRStep g (.string a) s1 (w.alloc o))) := fun o => rowTText H1 (hp.keep (below_new w o))
  have HF : ∀ w', RowRI g s1 w' → Hid (Calls Tryd.prog 93 #[.pointer (some ⟨g, 0, none⟩), .int .i64 3] w' (RowRStep g (.tuple #[]) (rdFail 3 s1) w')) := fun w' h => rowFirst rfl h
  have hg := hp.lt
  unfold rdUnit at ht
  rw [h1] at ht
  simp only at ht
  have HB : ∀ o, Hid (Frm g nilV w (w.alloc o)) := fun o => Frm.of_below (below_new w o)
  have hnb : ∀ o, (w.alloc (.cells o 23)).cell? ⟨w.heap.size, 0, none⟩ = o[0]? := fun o => World.cell?_alloc_at _ _ _ _ rfl
  clear hp H1 h1
  have fin : ∀ w1 : World, Frm g nilV (w.alloc (.cells #[.bool b, .int .i64 n] 23)) w1 → w1.cell? ⟨w.heap.size, 0, none⟩ = some (.bool b) := fun w1 hf => (frm_cells hf (by simp) (by omega) 0).trans (hnb _)
  by_cases hac : a = c
  · have k1 : (a.toList == c.toList) = true := by rw [beq_text, decide_eq_true hac]
    have E : Hid (t = s1) := by rw [← ht]; exact if_neg (fun q => q.1 hac)
    clear hac ht
    go_enter Tryd.func91, Tryd.ntmps91
    go_wp2_with fail
    refine ((HQ _).out).mono ?_
    rintro e w1 ⟨rfl, h1, h2⟩
    have f0 := fin w1 h2
    have HH1 := Lib.hid h1
    have HH2 := Lib.hid ((HB _).out.step h2)
    clear h1 h2 fin
    go_wp2_with fail
    go_end0
    exact ⟨rfl, by rw [E.out]; exact HH1.out, HH2.out⟩
  · have k1 : (a.toList == c.toList) = false := by rw [beq_text, decide_eq_false hac]
    by_cases hb : b = true ∨ a ≠ ByteArray.empty
    · have E : Hid (t = rdFail 3 s1) := by rw [← ht]; exact if_pos ⟨hac, hb⟩
      have hb' : b = true ∨ (b = false ∧ a.toList.isEmpty = false) := by
        cases b with
        | true => exact .inl rfl
        | false => exact .inr ⟨rfl, by rw [isEmpty_text, decide_eq_false (by simpa using hb)]⟩
      clear hac ht hb
      rcases hb' with rfl | ⟨rfl, k2⟩
      all_goals
        go_enter Tryd.func91, Tryd.ntmps91
        go_wp2_with fail
        refine ((HQ _).out).mono ?_
        rintro e w1 ⟨rfl, h1, h2⟩
        have f0 := fin w1 h2
        have HH1 := Lib.hid h1
        have HH2 := Lib.hid ((HB _).out.step h2)
        clear h1 h2 fin
        go_wp2_with fail
        refine ((HF _ HH1.out).out).mono ?_
        rintro e w2 ⟨rfl, h3, h4⟩
        go_wp2_with fail
        go_end0
        exact ⟨rfl, by rw [E.out]; exact h3, HH2.out.step h4⟩
    · have E : Hid (t = s1) := by rw [← ht]; exact if_neg (fun q => hb q.2)
      have hb1 : b = false := by cases b with | true => exact absurd (.inl rfl) hb | false => rfl
      have k2 : a.toList.isEmpty = true := by rw [isEmpty_text, decide_eq_true (Classical.byContradiction fun q => hb (.inr q))]
      subst hb1
      clear hac ht hb
      go_enter Tryd.func91, Tryd.ntmps91
      go_wp2_with fail
      refine ((HQ _).out).mono ?_
      rintro e w1 ⟨rfl, h1, h2⟩
      have f0 := fin w1 h2
      have HH1 := Lib.hid h1
      have HH2 := Lib.hid ((HB _).out.step h2)
      clear h1 h2 fin
      go_wp2_with fail
      go_end0
      exact ⟨rfl, by rw [E.out]; exact HH1.out, HH2.out⟩
end Go.Proofs.YtcoohlopafjnmaaDoor

/- Layer 28: Put. -/
namespace Go.Proofs.YtcoohlopafjnmaaDoor
set_option linter.unusedVariables false
open Go.RowKit

theorem Kept.undrew {S : Nat → Prop} {g : Nat} {w w' : World} (h : Kept S g w.drew w') : Kept S g w w' := ⟨h.os, h.tape, h.output, h.size, h.block⟩
theorem Frm.undrew {g : Nat} {v : Value} {w w' : World} (h : Frm g v w.drew w') : Frm g v w w' := ⟨h.os, h.tape, h.output, h.size, h.block⟩
theorem wrNum_len {W M F L H : Int} {n : Bool × Int} {s : Rd} : (wrNum W M F L H n s).2.length = s.2.length + 1 := by unfold wrNum; simp
theorem wrText_len {a : ByteArray} {E : Int} {s : Rd} : (wrText a E s).2.length = s.2.length + 1 := by unfold wrText; simp
theorem wrCol_len {k : Cl} {n : Bool × Int} {s : Rd} : (wrCol k n s).2.length = s.2.length + 2 := by unfold wrCol; rw [wrText_len, wrNum_len]
/-- What a column's call needs of the memory. -/
structure ColAt (S : Nat → Prop) (g P M o : Nat) (b : Bool) (n : Int) (w : World) : Prop where
  p : w.cell? ⟨P, 0, none⟩ = some (.pointer (some ⟨g, 0, none⟩))
  sp : S P
  pg : P ≠ g
  sm : S M
  mg : M ≠ g
  m0 : w.cell? ⟨M, o, none⟩ = some (.bool b)
  m1 : w.cell? ⟨M, o + 1, none⟩ = some (.int .i64 n)
theorem ColAt.keep {S : Nat → Prop} {g P M o : Nat} {b : Bool} {n : Int} {w w' : World} (h : ColAt S g P M o b n w) (hk : Kept S g w w') : ColAt S g P M o b n w' :=
  ⟨(hk.cell h.sp h.pg).trans h.p, h.sp, h.pg, h.sm, h.mg, (hk.cell h.sm h.mg).trans h.m0, (hk.cell h.sm h.mg).trans h.m1⟩

set_option maxRecDepth 8000 in
set_option maxHeartbeats 4000000 in
theorem vtgPut1_any {S : Nat → Prop} {g P M o : Nat} {s t : Rd} {b : Bool} {n W M' F L H : Int} {c : ByteArray} {w : World} (ht : Hid (wrCol ⟨W, M', F, L, H, c⟩ (b, n) s = t)) (hp : PenI S g s w) (hg : g < w.heap.size) (hl : s.2.length + 4 ≤ 1000000) (ha : ColAt S g P M o b n w) :
    Calls Tryd.prog 48 #[clV W M' F L H c, .pointer (some ⟨M, o, none⟩), .pointer (some ⟨P, 0, none⟩)] w (PenStep S g t w) := by
  obtain ⟨s1, hs1⟩ : ∃ s1, wrNum W M' F L H (b, n) s = s1 := ⟨_, rfl⟩
  have HS1 := Lib.hid hs1
  have HT1 : Hid (wrText (unitT b c) 0 s1 = t) := by show _ = _; rw [← hs1]; exact ht.out
  have hl1 : s1.2.length + 2 ≤ 1000000 := by rw [← hs1, wrNum_len]; omega
  have hb0 := below_new w (clO W M' F L H c)
  have hp0 := hp.also hb0
  have hk0 : Hid (Kept S g w (w.alloc (clO W M' F L H c))) := Kept.of_below hb0 hp.bd
  have HN : Hid (Calls Tryd.prog 49 #[.pointer (some ⟨g, 0, none⟩), numV b n, colV W M' F L H] (w.alloc (clO W M' F L H c)).drew (PenStep (Also S w (w.alloc (clO W M' F L H c))) g s1 (w.alloc (clO W M' F L H c)).drew)) := penNum HS1 (hp0.keep (bdrew (Below.refl _ _))) (by omega)
  have HT : ∀ S' w', PenI S' g s1 w' → Hid (Calls Tryd.prog 50 #[.pointer (some ⟨g, 0, none⟩), .string (unitT b c), .int .i64 0] w' (PenStep S' g t w')) := fun S' w' h => penText HT1 h hl1
  have ha0 : ColAt (Also S w (w.alloc (clO W M' F L H c))) g P M o b n (w.alloc (clO W M' F L H c)) := by
    have k := ha.keep hk0.out
    exact ⟨k.p, .inl k.sp, k.pg, .inl k.sm, k.mg, k.m0, k.m1⟩
  have hcol : ∀ j, (w.alloc (clO W M' F L H c)).cell? ⟨w.heap.size, j, none⟩ = (clC W M' F L H c)[j]? := fun j => World.cell?_alloc_at _ _ _ _ rfl
  have hSB : Hid (Also S w (w.alloc (clO W M' F L H c)) w.heap.size) := .inr ⟨Nat.le_refl _, by simp⟩
  have hBg : Hid (w.heap.size ≠ g) := by show _ ≠ _; omega
  have HLESS : Hid (∀ k, S k → Also S w (w.alloc (clO W M' F L H c)) k) := fun k hk => .inl hk
  obtain ⟨a1, a2, a3, a4, a5, a6, a7⟩ := id ha0
  have c0 := hcol 0
  have c1 := hcol 1
  have c2 := hcol 2
  have c3 := hcol 3
  have c4 := hcol 4
  have c5 := hcol 5
  clear ht hp hs1 HS1 HT1 hl hb0 hp0 ha
  go_enter Tryd.func48, Tryd.ntmps48
  go_upto_region 1 with fail
  generalize hW0 : w.alloc (clO W M' F L H c) = W0 at *
  generalize Also S w W0 = S' at *
  have HA := Lib.hid ha0
  have HC := Lib.hid hcol
  clear hW0 ha0 hcol
  go_cut [] (fun wx => Hid (PenI S' g s1 wx ∧ Kept S' g W0 wx))
  case first =>
    go_region_with (go_at_call 49; refine HN.out.mono ?_; rintro r w1 ⟨rfl, hp1, hk1⟩)
    all_goals go_wp2_with fail
    all_goals go_meet
    all_goals exact Lib.hid ⟨hp1, hk1.undrew⟩
  case rest =>
    obtain ⟨hp1, hk1⟩ := hcut.out
    have HA1 := Lib.hid (HA.out.keep hk1)
    have hcx := fun j : Nat => (hk1.cell (o := j) hSB.out hBg.out).trans (HC.out j)
    clear c0 c1 c2 c3 c4 c5 a1 a2 a3 a4 a5 a6 a7
    have c0 := hcx 0
    have c1 := hcx 1
    have c2 := hcx 2
    have c3 := hcx 3
    have c4 := hcx 4
    have c5 := hcx 5
    obtain ⟨a1, a2, a3, a4, a5, a6, a7⟩ := id HA1.out
    have HP1 := Lib.hid hp1
    have HK1 := Lib.hid hk1
    clear hcx hp1 hk1 HN HC HA
    go_wp2_with fail
    go_region_with (first | (go_at_call 51; refine (vtgbehind_any _ _ _ _ _ _ _ _ _).mono ?_; rintro r w2 ⟨rfl, hb2⟩; have hk2 := Lib.hid (Kept.undrew (Kept.of_below (S := S') (g := g) hb2 HP1.out.bd)); have p2 := (HA1.out.keep hk2.out).p; have R2 := Lib.hid (HP1.out.keep (w' := w2) (Below.trans (bdrew (Below.refl _ _)) hb2))) | (go_at_call 50; refine (HT S' _ R2.out).out.mono ?_; rintro r w3 ⟨rfl, hp3, hk3⟩))
    all_goals go_wp2_with fail
    all_goals go_end0
    all_goals exact ⟨rfl, hp3.less HLESS.out, hk0.out.trans (((HK1.out.trans hk2.out).trans hk3).less HLESS.out)⟩
end Go.Proofs.YtcoohlopafjnmaaDoor
