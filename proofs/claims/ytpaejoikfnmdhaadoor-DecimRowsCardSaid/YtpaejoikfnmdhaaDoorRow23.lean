/- Layer 23: the reference's rows that are written. -/
import Derived.Test.YtpaejoikfnmdhaaDoorPen23b
namespace Go.Proofs.YtpaejoikfnmdhaaDoor
set_option linter.unusedVariables false
open Go.RowKit

/-- A row of the reference: its error, and its texts. -/
def RowW (w : World) (g : Nat) (e : Int) (v : Value) (L : List ByteArray) : Prop :=
  w.cell? ⟨g, 0, none⟩ = some v ∧ w.cell? ⟨g, 2, none⟩ = some (.int .i64 e) ∧ (∀ o, w.frozen? ⟨g, o, none⟩ = false) ∧ g < w.heap.size ∧ w.ownsRow (g + 1) 9 1 v L.length (L.map Value.string)
theorem RowW.keep {w w' : World} {g : Nat} {e : Int} {v : Value} {L : List ByteArray} (h : RowW w g e v L) (hb : Below w.heap.size w w') : RowW w' g e v L := by
  obtain ⟨h0, h1, h3, h4, h5⟩ := h
  obtain ⟨c, f⟩ := bcell hb
  exact ⟨(c g 0 h4).trans h0, (c g 2 h4).trans h1, fun o => (f g o h4).trans (h3 o), Nat.lt_of_lt_of_le h4 hb.size, ownP_below h5 hb⟩
theorem RowW.other {w w' : World} {g g' : Nat} {e : Int} {v v' : Value} {L : List ByteArray} (h : RowW w g e v L) (hf : Frm g' v' w w') (h1 : g ≠ g') (h2 : v'.ownBlock ≠ some g) (h3 : v.ownBlock ≠ some g') (h4 : ∀ k, v.ownBlock = some k → v'.ownBlock ≠ some k) : RowW w' g e v L := by
  obtain ⟨p0, p1, p3, p4, p5⟩ := h
  refine ⟨(hf.cell p4 h1 h2).trans p0, (hf.cell p4 h1 h2).trans p1, fun o => (World.frozen?_of_block (a := ⟨g, o, none⟩) (hf.block g p4 h1 h2)).trans (p3 o), Nat.lt_of_lt_of_le p4 hf.size, ?_⟩
  refine ⟨p5.1, ?_⟩
  rcases p5.2 with hn | ⟨k, cap, cur, rfl, hb, hg, rest⟩
  · exact .inl hn
  · have hk := (Array.getElem?_eq_some_iff.1 hg).1
    exact .inr ⟨k, cap, cur, rfl, hb, (hf.block k hk (fun e => h3 (by rw [← e]; rfl)) (h4 k rfl)).trans hg, rest⟩

set_option maxHeartbeats 1000000 in
theorem First_any (g : Nat) (e E : Int) (w : World) (h1 : w.cell? ⟨g, 2, none⟩ = some (.int .i64 e)) (hf : w.frozen? ⟨g, 2, none⟩ = false) :
    Calls Tryd.prog 40 #[.pointer (some ⟨g, 0, none⟩), .int .i64 E] w fun r w' => r = .returned (.tuple #[]) ∧ w' = if e = 0 then w.setCell ⟨g, 2, none⟩ (.int .i64 E) else w := by
  by_cases h : e = 0
  · subst h
    go_enter Tryd.func40, Tryd.ntmps40
    go_wp2
    go_end0
    exact ⟨rfl, rfl⟩
  · have hne : (e == 0) = false := by rw [beq_eq_false_iff_ne]; exact h
    rw [if_neg h]
    clear h
    go_enter Tryd.func40, Tryd.ntmps40
    go_wp2
    go_end0
    exact ⟨rfl, rfl⟩
theorem RowW.noted {w : World} {g : Nat} {e E : Int} {v : Value} {L : List ByteArray} (h : RowW w g e v L) : RowW (if e = 0 then w.setCell ⟨g, 2, none⟩ (.int .i64 E) else w) g (firstE e E) v L := by
  unfold firstE
  by_cases he : e = 0
  · rw [if_pos he, if_pos he]
    obtain ⟨h0, h1, h3, h4, h5⟩ := h
    refine ⟨?_, World.cell?_setCell_same _ _ _ h1, fun o => by simpa using h3 o, by simpa using h4, ?_⟩
    · rw [World.cell?_setCell_other _ _ _ _ (by simp)]; exact h0
    · refine h5.kept (row := some g) ⟨rfl, rfl, rfl, by simp, fun k _ hk => Below.heap_setCell _ _ _ _ (fun e => hk (by rw [e]))⟩ (.inr fun e => ?_)
      have := (h5.lt g e).1
      omega
  · rw [if_neg he, if_neg he]; exact h
theorem frm_notedR (w : World) (g : Nat) (e E : Int) (v : Value) : Frm g v w (if e = 0 then w.setCell ⟨g, 2, none⟩ (.int .i64 E) else w) := by
  split
  · exact (Frm.of_below (Below.refl _ _)).set _ _
  · exact Frm.of_below (Below.refl _ _)

def RowPost (g : Nat) (e E : Int) (v : Value) (L S : List ByteArray) (w : World) (r : Ending) (w' : World) : Prop :=
  r = .returned (.tuple #[]) ∧ ∃ v', RowW w' g (firstE e E) v' (L ++ S) ∧ Frm g v w w' ∧ Moved w v v'
/-- Behind the append. -/
theorem row_append {g g2 cap : Nat} {e E : Int} {v : Value} {L S : List ByteArray} {w w1 w2 : World} (HP1 : RowW w1 g (firstE e E) v L) (HF1 : Frm g v w w1)
    (hown' : w2.ownsRow (g + 1) 9 1 (.slice (some ⟨g2, 0, none⟩) (L.length + S.length) cap) (L.length + S.length) (L.map Value.string ++ S.map Value.string)) (hgrow : w1.grownBy w2 v.ownBlock) (hlies : v.ownBlock = some g2 ∨ g2 = w1.heap.size) :
    RowPost g e E v L S w (.returned (.tuple #[])) (w2.setCell ⟨g, 0, none⟩ (.slice (some ⟨g2, 0, none⟩) (L.length + S.length) cap)) ∧ w2.cell? ⟨g, 0, none⟩ = some v ∧ w2.frozen? ⟨g, 0, none⟩ = false := by
  obtain ⟨p0, p1, p3, p4', p5⟩ := HP1
  have hne : some g ≠ v.ownBlock := fun q => by have := (p5.lt g q.symm).1; omega
  have hc : ∀ o, w2.cell? ⟨g, o, none⟩ = w1.cell? ⟨g, o, none⟩ := fun o => World.cell?_of_block (a := ⟨g, o, none⟩) (hgrow.block g p4' hne)
  have hfz : ∀ o, w2.frozen? ⟨g, o, none⟩ = false := fun o => (World.frozen?_of_block (a := ⟨g, o, none⟩) (hgrow.block g p4' hne)).trans (p3 o)
  have hc2 : w2.cell? ⟨g, 0, none⟩ = some v := (hc 0).trans p0
  have hsz2 := hgrow.size
  have hgg : g + 1 ≤ g2 := by
    rcases hlies with q | q
    · exact (p5.lt g2 q).1
    · omega
  refine ⟨⟨rfl, .slice (some ⟨g2, 0, none⟩) (L.length + S.length) cap, ⟨World.cell?_setCell_same _ _ _ hc2, ?_, fun o => by simpa using hfz o, by simp; omega, ?_⟩, ?_, ?_⟩, hc2, hfz 0⟩
  · rw [World.cell?_setCell_other _ _ _ _ (by simp), hc]; exact p1
  · rw [List.length_append, List.map_append]
    refine hown'.kept (row := some g) ⟨rfl, rfl, rfl, by simp, fun k _ hk => Below.heap_setCell _ _ _ _ (fun e => hk (by rw [e]))⟩ (.inr fun q => ?_)
    have : g2 = g := by simpa [Value.ownBlock] using q
    omega
  · refine Frm.set ?_ _ _
    exact ⟨hgrow.os.trans HF1.os, hgrow.tape.trans HF1.tape, hgrow.output.trans HF1.output, Nat.le_trans HF1.size hgrow.size, fun k hk h1 h2 => (hgrow.block k (Nat.lt_of_lt_of_le hk HF1.size) (fun q => h2 q.symm)).trans (HF1.block k hk h1 h2)⟩
  · rcases hlies with q | q
    · exact .inl (by rw [q]; rfl)
    · refine .inr fun k hk => ?_
      have : g2 = k := by simpa [Value.ownBlock] using hk
      have := HF1.size
      omega
theorem news_get {w : World} {h : Nat} {S : List ByteArray} (hn : News w h S) : ∀ j u, (S.map Value.string)[j]? = some u → w.cell? ((⟨h, 0, none⟩ : Addr).add j) = some u := by
  intro j u hu
  rw [List.getElem?_map] at hu
  have hj : j < S.length := by
    rcases Nat.lt_or_ge j S.length with k | k
    · exact k
    · rw [List.getElem?_eq_none k] at hu; cases hu
  rw [List.getElem?_eq_getElem hj] at hu
  injection hu with hu
  have e1 : (⟨h, 0, none⟩ : Addr).add j = ⟨h, j, none⟩ := by unfold Addr.add; split <;> simp_all
  rw [e1, hn j hj, ← hu]

set_option maxRecDepth 8000 in
set_option maxHeartbeats 2000000 in
theorem RowText_any (g : Nat) (e : Int) (v : Value) (L : List ByteArray) (s : ByteArray) (E : Int) (w : World) (hp : RowW w g e v L) (hL : L.length + 2 ≤ 1000000) :
    Calls Tryd.prog 38 #[.pointer (some ⟨g, 0, none⟩), .string s, .int .i64 E] w (RowPost g e E v L [s] w) := by
  have HQ := fun W' (hb : Below w.heap.size w W') => Lib.hid (First_any g e E W' (hp.keep hb).2.1 ((hp.keep hb).2.2.1 2))
  have HR := fun W' (hb : Below w.heap.size w W') => Lib.hid ((hp.keep hb).noted (E := E))
  have HM := fun W' (hb : Below w.heap.size w W') => Lib.hid ((Frm.of_below (g := g) (v := v) hb).trans (frm_notedR W' g e E v) (.inl rfl))
  obtain ⟨i0, hi, hz0, hz1, hz2⟩ := info_partsP str_infoP
  clear hp
  go_enter Tryd.func38, Tryd.ntmps38
  go_wp2_with fail
  refine (HQ _ (Below.refl _ _)).out.mono ?_
  rintro r w2 ⟨rfl, hw2⟩
  have HRR := HR _ (Below.refl _ _)
  have HMM := HM _ (Below.refl _ _)
  rw [← hw2] at HRR HMM
  clear hw2 HQ HR HM
  have HRK := Lib.hid (HRR.out.keep (below_new w2 (.cells #[.string s] 9)))
  have HMK := Lib.hid (HMM.out.then_below (below_new w2 (.cells #[.string s] 9)))
  obtain ⟨q0, q1, q3, q4, q5⟩ := HRR.out
  have HO := Lib.hid HRK.out.2.2.2.2
  clear q1 q3 q5 HRR HMM
  go_wp2_with (at_builtin; refine wpList_append_lies _ rfl _ _ 47 rfl (g + 1) 9 i0 (.string ByteArray.empty) 1 16 Tryd.underlying47 hi hz0 hz1 hz2 rfl (by decide) _ _ _ rfl HO.out ⟨w2.heap.size, 0, none⟩ 1 1 ([s].map Value.string) rfl rfl ?c1 ?c2 (by decide) ?c3 ?c4 ?c5 _ rfl ?_)
  case c1 => exact news_get (news1 w2 s)
  case c2 => intro u hu; obtain ⟨s, -, rfl⟩ := List.mem_map.1 hu; rfl
  case c3 => unfold maxLen; omega
  case c4 => omega
  case c5 => simp; omega
  intro g2 cap w3 hown' hgrow hlies hg2
  obtain ⟨hpost, hc0, hf0⟩ := row_append (S := [s]) HRK.out HMK.out hown' hgrow (by simpa using hlies)
  have HPO := Lib.hid hpost
  clear hpost hown' hgrow hlies hg2 HRK HMK HO q0
  go_wp2_with fail
  go_end0
  exact HPO.out

set_option maxRecDepth 8000 in
set_option maxHeartbeats 2000000 in
theorem RowNum_any (g : Nat) (e : Int) (v : Value) (L : List ByteArray) (b : Bool) (n W M F H K : Int) (w : World) (hp : RowW w g e v L) (hL : L.length + 2 ≤ 1000000) :
    Calls Tryd.prog 34 #[.pointer (some ⟨g, 0, none⟩), numV b n, colV W M F H K] w (RowPost g e (putN b n W M F H K).2 v L [(putN b n W M F H K).1] w) := by
  have HP := fun W' => Lib.hid (r23Put_any b n W M F H K W')
  generalize (putN b n W M F H K).1 = s at *
  generalize (putN b n W M F H K).2 = E at *
  have HQ := fun W' (hb : Below w.heap.size w W') => Lib.hid (First_any g e E W' (hp.keep hb).2.1 ((hp.keep hb).2.2.1 2))
  have HR := fun W' (hb : Below w.heap.size w W') => Lib.hid ((hp.keep hb).noted (E := E))
  have HM := fun W' (hb : Below w.heap.size w W') => Lib.hid ((Frm.of_below (g := g) (v := v) hb).trans (frm_notedR W' g e E v) (.inl rfl))
  obtain ⟨i0, hi, hz0, hz1, hz2⟩ := info_partsP str_infoP
  clear hp
  go_enter Tryd.func34, Tryd.ntmps34
  go_wp2_with fail
  refine ((HP _).out).mono ?_
  rintro e w1 ⟨rfl, hb1⟩
  have b1 := Lib.hid (bthen (bthen (below_new w _) (below_new _ _)) hb1)
  go_wp2_with fail
  refine (HQ w1 b1.out).out.mono ?_
  rintro r w2 ⟨rfl, hw2⟩
  have HRR := HR w1 b1.out
  have HMM := HM w1 b1.out
  rw [← hw2] at HRR HMM
  clear hw2 HQ HR HM
  have HRK := Lib.hid (HRR.out.keep (below_new w2 (.cells #[.string s] 9)))
  have HMK := Lib.hid (HMM.out.then_below (below_new w2 (.cells #[.string s] 9)))
  obtain ⟨q0, q1, q3, q4, q5⟩ := HRR.out
  have HO := Lib.hid HRK.out.2.2.2.2
  clear q1 q3 q5 HRR HMM
  go_wp2_with (at_builtin; refine wpList_append_lies _ rfl _ _ 47 rfl (g + 1) 9 i0 (.string ByteArray.empty) 1 16 Tryd.underlying47 hi hz0 hz1 hz2 rfl (by decide) _ _ _ rfl HO.out ⟨w2.heap.size, 0, none⟩ 1 1 ([s].map Value.string) rfl rfl ?c1 ?c2 (by decide) ?c3 ?c4 ?c5 _ rfl ?_)
  case c1 => exact news_get (news1 w2 s)
  case c2 => intro u hu; obtain ⟨s, -, rfl⟩ := List.mem_map.1 hu; rfl
  case c3 => unfold maxLen; omega
  case c4 => omega
  case c5 => simp; omega
  intro g2 cap w3 hown' hgrow hlies hg2
  obtain ⟨hpost, hc0, hf0⟩ := row_append (S := [s]) HRK.out HMK.out hown' hgrow (by simpa using hlies)
  have HPO := Lib.hid hpost
  clear hpost hown' hgrow hlies hg2 HRK HMK HO q0
  go_wp2_with fail
  go_end0
  exact HPO.out

set_option maxRecDepth 8000 in
set_option maxHeartbeats 2000000 in
theorem RowAngle_any (g : Nat) (e : Int) (v : Value) (L : List ByteArray) (b : Bool) (n : Int) (lat : Bool) (w : World) (hp : RowW w g e v L) (hL : L.length + 2 ≤ 1000000) :
    Calls Tryd.prog 36 #[.pointer (some ⟨g, 0, none⟩), numV b n, .bool lat] w (RowPost g e (angN b n lat).2.2 v L [(angN b n lat).1, (angN b n lat).2.1] w) := by
  have HP := fun W' => Lib.hid (r23Angle_any b n lat W')
  generalize (angN b n lat).1 = s at *
  generalize (angN b n lat).2.1 = d at *
  generalize (angN b n lat).2.2 = E at *
  have HQ := fun W' (hb : Below w.heap.size w W') => Lib.hid (First_any g e E W' (hp.keep hb).2.1 ((hp.keep hb).2.2.1 2))
  have HR := fun W' (hb : Below w.heap.size w W') => Lib.hid ((hp.keep hb).noted (E := E))
  have HM := fun W' (hb : Below w.heap.size w W') => Lib.hid ((Frm.of_below (g := g) (v := v) hb).trans (frm_notedR W' g e E v) (.inl rfl))
  obtain ⟨i0, hi, hz0, hz1, hz2⟩ := info_partsP str_infoP
  clear hp
  go_enter Tryd.func36, Tryd.ntmps36
  go_wp2_with fail
  refine ((HP _).out).mono ?_
  rintro e w1 ⟨rfl, hb1⟩
  have b1 := Lib.hid (bthen (below_new w _) hb1)
  go_wp2_with fail
  refine (HQ w1 b1.out).out.mono ?_
  rintro r w2 ⟨rfl, hw2⟩
  have HRR := HR w1 b1.out
  have HMM := HM w1 b1.out
  rw [← hw2] at HRR HMM
  clear hw2 HQ HR HM
  have HRK := Lib.hid (HRR.out.keep (below_new w2 (.cells #[.string s, .string d] 9)))
  have HMK := Lib.hid (HMM.out.then_below (below_new w2 (.cells #[.string s, .string d] 9)))
  obtain ⟨q0, q1, q3, q4, q5⟩ := HRR.out
  have HO := Lib.hid HRK.out.2.2.2.2
  clear q1 q3 q5 HRR HMM
  go_wp2_with (at_builtin; refine wpList_append_lies _ rfl _ _ 47 rfl (g + 1) 9 i0 (.string ByteArray.empty) 1 16 Tryd.underlying47 hi hz0 hz1 hz2 rfl (by decide) _ _ _ rfl HO.out ⟨w2.heap.size, 0, none⟩ 2 2 ([s, d].map Value.string) rfl rfl ?c1 ?c2 (by decide) ?c3 ?c4 ?c5 _ rfl ?_)
  case c1 => exact news_get (news2 w2 s d)
  case c2 => intro u hu; obtain ⟨s, -, rfl⟩ := List.mem_map.1 hu; rfl
  case c3 => unfold maxLen; omega
  case c4 => omega
  case c5 => simp; omega
  intro g2 cap w3 hown' hgrow hlies hg2
  obtain ⟨hpost, hc0, hf0⟩ := row_append (S := [s, d]) HRK.out HMK.out hown' hgrow (by simpa using hlies)
  have HPO := Lib.hid hpost
  clear hpost hown' hgrow hlies hg2 HRK HMK HO q0
  go_wp2_with fail
  go_end0
  exact HPO.out

set_option maxRecDepth 8000 in
set_option maxHeartbeats 2000000 in
theorem RowDone_any (g : Nat) (e : Int) (v : Value) (L : List ByteArray) (w : World) (hp : RowW w g e v L) (hL : L.length ≤ 1000000) :
    Calls Tryd.prog 42 #[.pointer (some ⟨g, 0, none⟩)] w (DonePost e L w) := by
  obtain ⟨p0, p1, -, p4, p5⟩ := hp
  by_cases h : e = 0
  · subst h
    have HE : Hid (DonePost 0 L w = fun r w' => ∃ v, r = .returned (.tuple #[v, .int .i64 0]) ∧ TextsPost L w v w') := rfl
    obtain ⟨i0, hi, hz0, hz1, hz2⟩ := info_partsP str_infoP
    have hown : (w.alloc (.cells #[] 9)).ownsRow w.heap.size 9 1 (.slice (some ⟨w.heap.size, 0, none⟩) 0 0) 0 [] := World.ownsRow_made w #[] 0 (Nat.le_refl _) (by decide) rfl
    have HO := Lib.hid hown
    clear hown
    rcases p5.2 with ⟨rfl, h0⟩ | ⟨k, cap, cur, rfl, hb, hg, -, -, -, -⟩
    · have hl : L = [] := List.eq_nil_of_length_eq_zero h0
      subst hl
      clear p5 h0
      go_enter Tryd.func42, Tryd.ntmps42
      go_wp2_with fail
      go_ret2
      rw [HE.out]
      exact ⟨_, rfl, some ⟨w.heap.size, 0, none⟩, 0, rfl, (fun q => by cases q), (fun k hk => absurd hk (by simp)), (fun a ha => by injection ha with ha; rw [← ha]; exact Nat.le_refl _), below_new w _⟩
    · have hnews := strs_of_ownP p5
      have HS := Lib.hid hnews.2.1
      obtain ⟨n, hln⟩ : ∃ n, L.length = n := ⟨_, rfl⟩
      have HLN := Lib.hid hln
      rw [hln] at p0 hL
      obtain ⟨NW, hNW⟩ : ∃ NW, L.map Value.string = NW := ⟨_, rfl⟩
      have HNW := Lib.hid hNW
      have HC1 : Hid (∀ j u, NW[j]? = some u → (w.alloc (.cells #[] 9)).cell? ((⟨k, 0, none⟩ : Addr).add j) = some u) := by
        intro j u hu
        rw [← hNW, List.getElem?_map] at hu
        have hj : j < L.length := by
          rcases Nat.lt_or_ge j L.length with k | k
          · exact k
          · rw [List.getElem?_eq_none k] at hu; cases hu
        rw [List.getElem?_eq_getElem hj] at hu
        injection hu with hu
        obtain ⟨b, off, hA, hb, hc⟩ := HS.out j hj
        injection hA with hA
        rw [hA]
        have e1 : (⟨b, off, none⟩ : Addr).add j = ⟨b, off + j, none⟩ := by unfold Addr.add; split <;> simp_all
        rw [e1, World.cell?_alloc_past _ _ _ hb, hc, ← hu]
      have HC2 : Hid (∀ u ∈ NW, u.oneCell' = true) := by intro u hu; rw [← hNW] at hu; obtain ⟨s, -, rfl⟩ := List.mem_map.1 hu; rfl
      have HC3 : Hid (NW.length = n * 1) := by show _ = _; rw [← hNW, List.length_map, hln, Nat.mul_one]
      clear p5 hb hg hnews hln hNW
      go_enter Tryd.func42, Tryd.ntmps42
      go_wp2_with (at_builtin; refine wpList_append_own _ rfl _ _ 47 rfl w.heap.size 9 i0 (.string ByteArray.empty) 1 16 Tryd.underlying47 hi hz0 hz1 hz2 rfl (by decide) _ _ _ rfl HO.out ⟨k, 0, none⟩ n cap NW rfl HC3.out HC1.out HC2.out ?c3 ?c4 ?c5 ?_)
      case c3 => unfold maxLen; omega
      case c4 => omega
      case c5 => simp
      intro v' w2 hown' hgrow _
      have HPOST : Hid (TextsPost L w v' w2) := by
        obtain ⟨A, c', rfl⟩ := own_formP hown'
        rw [← HNW.out] at hown'
        obtain ⟨h1, h2, h3⟩ := strs_of_ownP (fs := L) (by simpa using hown')
        refine ⟨A, c', by rw [h1], fun hA => ?_, h2, h3, ((below_new w _).grown hgrow (by simp) (fun k hk => (HO.out.lt k hk).1))⟩
        subst hA
        rcases hown'.2 with ⟨hv, _⟩ | ⟨g, cap, cur, hv, _⟩
        · injection hv
        · cases hv
      clear hown' hgrow HO HS
      go_wp2_with fail
      go_ret2
      rw [HE.out]
      exact ⟨_, rfl, HPOST.out⟩
  · have hne : (e == 0) = false := by rw [beq_eq_false_iff_ne]; exact h
    have hne2 : (e != 0) = true := by rw [bne_iff_ne]; exact h
    have HE : Hid (∀ n, DonePost e L w (.returned (.tuple #[.slice none 0 0, .int .i64 e])) (w.drewN n)) := fun n => by
      refine ⟨_, rfl, none, 0, ?_, fun _ => rfl, ?_, FreshA.none_, below_draws n⟩
      · rw [if_neg h]; rfl
      · rw [if_neg h]; exact fun k hk => absurd hk (by simp)
    clear h p5
    go_enter Tryd.func42, Tryd.ntmps42
    go_wp2_with fail
    go_quiet (fail)
    go_wp2_with fail
    go_ret2
    exact HE.out _

end Go.Proofs.YtpaejoikfnmdhaaDoor
