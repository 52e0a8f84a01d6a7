/- Layers 25 and 26, plain: the messages. -/
import Derived.Test.YtfgopmfaeooadaaGreatDoorMzc
namespace Go.Proofs.YtfgopmfaeooadaaGreatDoor
set_option linter.unusedVariables false

abbrev N2 := Bool × Int
def zN : N2 := (false, 0)
/-- A fix: time, two angles, quality, six numbers. -/
abbrev GgaT := Clk × N2 × N2 × Int × N2 × N2 × N2 × N2 × N2 × N2
def altK : Cl := ⟨1, 6, 1, -9999999, 9999999, ⟨#[77]⟩⟩
def geoK : Cl := ⟨1, 4, 1, -99999, 99999, ⟨#[77]⟩⟩
def ggaR : Rd → GgaT × Rd := seqR rdClk (seqR (rdAng true) (seqR (rdAng false) (seqR (rdDig 0 8) (seqR (rdNum 1 2 0 0 99) (seqR (rdNum 1 3 2 0 99999) (seqR (rdCol altK) (seqR (rdCol geoK) (seqR (rdNum 1 4 1 0 99999) (rdNum 1 4 0 0 1023)))))))))
def ggaW : GgaT → Rd → Rd := seqW wrClk (seqW (wrAng true) (seqW (wrAng false) (seqW (wrDig 0 8) (seqW (wrNum 1 2 0 0 99) (seqW (wrNum 1 3 2 0 99999) (seqW (wrCol altK) (seqW (wrCol geoK) (seqW (wrNum 1 4 1 0 99999) (wrNum 1 4 0 0 1023)))))))))
theorem Codec.gga : Codec ggaR ggaW 14 :=
  Codec.clk.seq ((Codec.ang true).seq ((Codec.ang false).seq ((Codec.dig (by omega) (by omega)).seq (Codec.num.seq (Codec.num.seq ((Codec.col altK rfl).seq ((Codec.col geoK rfl).seq (Codec.num.seq Codec.num))))))))
def zeroF : GgaT := (zC, zN, zN, 0, zN, zN, zN, zN, zN, zN)
def putGga (g : GgaT) : List ByteArray × Int := wrDone (ggaW g (0, []))
def takeGga (R : List ByteArray) : GgaT × Int := if R.length ≠ 14 then (zeroF, 3) else if (ggaR (0, R)).2.1 = 0 then ((ggaR (0, R)).1, 0) else (zeroF, (ggaR (0, R)).2.1)
theorem gga_put_take {g : GgaT} (h : (putGga g).2 = 0) : takeGga (putGga g).1 = (g, 0) ∧ (putGga g).1.length = 14 := by
  obtain ⟨h1, h2⟩ := Codec.gga.message h
  refine ⟨?_, h1⟩
  unfold takeGga
  rw [if_neg (fun q => q h1)]
  have h3 : ggaR (0, (putGga g).1) = (g, (0, [])) := h2
  rw [h3]
  rfl
theorem gga_take_put {R : List ByteArray} (h : (takeGga R).2 = 0) : R.length = 14 ∧ (putGga (takeGga R).1).2 = 0 ∧ NoLonger (putGga (takeGga R).1).1 R := by
  unfold takeGga at h ⊢
  by_cases hl : R.length = 14
  · rw [if_neg (fun q => q hl)] at h ⊢
    by_cases h0 : (ggaR (0, R)).2.1 = 0
    · rw [if_pos h0]
      obtain ⟨a, T, T', R', e1, e2, e3, e4, e5, e6, -⟩ := Codec.gga.read h0
      have hR : R' = [] := by rw [e2, List.length_append] at hl; exact List.eq_nil_of_length_eq_zero (by omega)
      subst hR
      rw [List.append_nil] at e2
      rw [e1, e2]
      unfold putGga
      rw [e4, ← e2]
      exact ⟨hl, rfl, by rw [e2]; exact e6⟩
    · rw [if_neg h0] at h; exact absurd h h0
  · rw [if_pos hl] at h; exact absurd h (by decide)
theorem takeGga_no {R : List ByteArray} (h : (takeGga R).2 ≠ 0) : (takeGga R).1 = zeroF := by
  unfold takeGga at h ⊢
  split at h
  · next q => rw [if_pos q]
  · next q =>
    rw [if_neg q]
    split at h
    · exact absurd rfl h
    · next q2 => rw [if_neg q2]

/-- A letter of two. -/
def stT (a : Bool) : ByteArray := if a = true then ⟨#[65]⟩ else ⟨#[86]⟩
def rdSt (s : Rd) : Bool × Rd := (decide ((rdText s).1 = ⟨#[65]⟩), if (rdText s).1 ≠ ⟨#[65]⟩ ∧ (rdText s).1 ≠ ⟨#[86]⟩ then rdFail 3 (rdText s).2 else (rdText s).2)
def wrSt (a : Bool) (s : Rd) : Rd := wrText (stT a) 0 s
theorem stT_size (a : Bool) : (stT a).size = 1 := by cases a <;> rfl
theorem rdSt_put (a : Bool) (R : List ByteArray) : rdSt (0, stT a :: R) = (a, (0, R)) := by
  unfold rdSt
  rw [rdText_cons]
  cases a
  · show (decide ((⟨#[86]⟩ : ByteArray) = ⟨#[65]⟩), if (⟨#[86]⟩ : ByteArray) ≠ ⟨#[65]⟩ ∧ (⟨#[86]⟩ : ByteArray) ≠ ⟨#[86]⟩ then rdFail 3 (0, R) else (0, R)) = _
    rw [if_neg (fun q => q.2 rfl), decide_eq_false (by decide)]
  · show (decide ((⟨#[65]⟩ : ByteArray) = ⟨#[65]⟩), if (⟨#[65]⟩ : ByteArray) ≠ ⟨#[65]⟩ ∧ (⟨#[65]⟩ : ByteArray) ≠ ⟨#[86]⟩ then rdFail 3 (0, R) else (0, R)) = _
    rw [if_neg (fun q => q.1 rfl), decide_eq_true rfl]
theorem Codec.st : Codec rdSt wrSt 1 where
  put := fun a s h => by
    obtain ⟨e1, -⟩ := firstE_zero h
    exact ⟨e1, [stT a], rfl, fun l => rfl, by unfold wrSt wrText; rw [e1]; rfl, fun R => rdSt_put a R⟩
  take := fun s h => by
    obtain ⟨e, l⟩ := s
    by_cases hq : (rdText (e, l)).1 ≠ ⟨#[65]⟩ ∧ (rdText (e, l)).1 ≠ ⟨#[86]⟩
    · unfold rdSt at h
      rw [if_pos hq] at h
      exact absurd (firstE_zero h).2 (by decide)
    · have hr : rdSt (e, l) = (decide ((rdText (e, l)).1 = ⟨#[65]⟩), (rdText (e, l)).2) := by unfold rdSt; rw [if_neg hq]
      rw [hr] at h
      obtain ⟨h1, t, R, h2⟩ := textE_zero h
      simp only at h1 h2
      subst h1 h2
      rw [rdText_cons] at hq hr
      simp only at hq hr
      have ht : t.size = 1 := by
        by_cases h3 : t = ⟨#[65]⟩
        · rw [h3]; rfl
        · by_cases h4 : t = ⟨#[86]⟩
          · rw [h4]; rfl
          · exact absurd ⟨h3, h4⟩ hq
      exact ⟨rfl, [t], R, _, [stT _], rfl, rfl, hr, rfl, fun l => rfl, NoLonger.one (by rw [stT_size, ht]; exact Nat.le_refl _), fun R => rdSt_put _ R⟩

/-- How far a number is from 0, and its side. -/
def eT : ByteArray := ⟨#[69]⟩
def wT : ByteArray := ⟨#[87]⟩
def sideT (v : N2) : ByteArray := if v.1 = false ∨ v.2 < -1800 then ByteArray.empty else if v.2 < 0 then wT else eT
def farN (v : N2) : N2 := if v.1 = false ∨ v.2 < -1800 then v else if v.2 < 0 then (true, -v.2) else v
def wrVar (v : N2) (s : Rd) : Rd := wrText (sideT v) 0 (wrNum 1 3 1 0 1800 (farN v) s)
def sidedR (n : N2) (d : ByteArray) (s : Rd) : N2 × Rd :=
  if (n.1 = true ∧ d ≠ eT ∧ d ≠ wT) ∨ (n.1 = false ∧ d ≠ ByteArray.empty) then (n, rdFail 3 s) else if d = wT then ((n.1, -n.2), s) else (n, s)
def rdVar (s : Rd) : N2 × Rd := sidedR (rdNum 1 3 1 0 1800 s).1 (rdText (rdNum 1 3 1 0 1800 s).2).1 (rdText (rdNum 1 3 1 0 1800 s).2).2
theorem sidedR_put (v : N2) (s : Rd) (h : v.1 = true → -1800 ≤ v.2) : sidedR (farN v) (sideT v) s = (v, s) := by
  obtain ⟨b, n⟩ := v
  cases b with
  | false =>
    have e1 : farN (false, n) = (false, n) := if_pos (.inl rfl)
    have e2 : sideT (false, n) = ByteArray.empty := if_pos (.inl rfl)
    rw [e1, e2]
    unfold sidedR
    rw [if_neg (by simp), if_neg (by decide)]
  | true =>
    have h := h rfl
    simp only at h
    by_cases hn : n < 0
    · have e1 : farN (true, n) = (true, -n) := by unfold farN; rw [if_neg (by simp; omega), if_pos hn]
      have e2 : sideT (true, n) = wT := by unfold sideT; rw [if_neg (by simp; omega), if_pos hn]
      rw [e1, e2]
      unfold sidedR
      rw [if_neg (by simp), if_pos rfl]
      simp
    · have e1 : farN (true, n) = (true, n) := by unfold farN; rw [if_neg (by simp; omega), if_neg hn]
      have e2 : sideT (true, n) = eT := by unfold sideT; rw [if_neg (by simp; omega), if_neg hn]
      rw [e1, e2]
      unfold sidedR
      rw [if_neg (by simp), if_neg (by decide)]
theorem putN_fits {b : Bool} {n W M F L H : Int} (h : (putN b n W M F L H).2 = 0) : fitsB b n L H = true := by
  unfold putN at h
  split at h
  · exact absurd h (by decide)
  · split at h
    · exact absurd h (by decide)
    · next q => simpa using q
theorem farN_fits {v : N2} (h : fitsB (farN v).1 (farN v).2 0 1800 = true) : v.1 = true → -1800 ≤ v.2 := by
  intro hv
  by_cases q : v.2 < -1800
  · have e1 : farN v = v := if_pos (.inr q)
    rw [e1, hv] at h
    have := of_decide_eq_true h
    omega
  · omega
theorem sideT_size (v : N2) : (sideT v).size ≤ 1 := by
  unfold sideT
  split
  · decide
  · split <;> decide
theorem Codec.var : Codec rdVar wrVar 2 where
  put := fun v s h => by
    obtain ⟨e1, -⟩ := firstE_zero h
    obtain ⟨e2, t, e3, e4, e5⟩ := wrNum_ok e1
    have e6 := farN_fits (putN_fits (firstE_zero e1).2)
    refine ⟨e2, [t, sideT v], rfl, fun l => ?_, ?_, fun R => ?_⟩
    · unfold wrVar; rw [e3]; simp [wrText, firstE]
    · unfold wrVar; rw [e4]; simp [wrText, firstE]
    · unfold rdVar
      rw [show [t, sideT v] ++ R = t :: sideT v :: R from rfl, e5]
      simp only
      rw [rdText_cons]
      exact sidedR_put v _ e6
  take := fun s h => by
    by_cases hq : ((rdNum 1 3 1 0 1800 s).1.1 = true ∧ (rdText (rdNum 1 3 1 0 1800 s).2).1 ≠ eT ∧ (rdText (rdNum 1 3 1 0 1800 s).2).1 ≠ wT) ∨ ((rdNum 1 3 1 0 1800 s).1.1 = false ∧ (rdText (rdNum 1 3 1 0 1800 s).2).1 ≠ ByteArray.empty)
    · unfold rdVar sidedR at h
      rw [if_pos hq] at h
      exact absurd (firstE_zero h).2 (by decide)
    · have hr : rdVar s = (if (rdText (rdNum 1 3 1 0 1800 s).2).1 = wT then (((rdNum 1 3 1 0 1800 s).1.1, -(rdNum 1 3 1 0 1800 s).1.2), (rdText (rdNum 1 3 1 0 1800 s).2).2) else ((rdNum 1 3 1 0 1800 s).1, (rdText (rdNum 1 3 1 0 1800 s).2).2)) := by
        unfold rdVar sidedR
        rw [if_neg hq]
      have h2 : (rdText (rdNum 1 3 1 0 1800 s).2).2.1 = 0 := by
        rw [hr] at h
        split at h <;> exact h
      obtain ⟨h3, d, R, h4⟩ := textE_zero h2
      obtain ⟨e1, t, R1, n, e2, e3, t', e4, e5, e6⟩ := rdNum_ok h3
      rw [e3] at h4 hr hq
      simp only at h4
      subst h4
      rw [rdText_cons] at hr hq
      simp only at hr hq
      obtain ⟨b, n⟩ := n
      have e7 : fitsB b n 0 1800 = true := by
        have this : (wrNum 1 3 1 0 1800 (b, n) (0, [])).1 = 0 := congrArg Prod.fst (e4 [])
        exact putN_fits (firstE_zero (e := 0) (E := (putN b n 1 3 1 0 1800).2) this).2
      simp only at hr hq
      -- the message's number, and how it is written
      have key : ∀ v : N2, farN v = (b, n) → (v.1 = true → -1800 ≤ v.2) → rdVar s = (v, (0, R)) → (sideT v).size ≤ d.size → s.1 = 0 ∧ ∃ T R a T', s.2 = T ++ R ∧ T.length = 2 ∧ rdVar s = (a, (0, R)) ∧ T'.length = 2 ∧ (∀ l, wrVar a (0, l) = (0, l ++ T')) ∧ NoLonger T' T ∧ ∀ R, rdVar (0, T' ++ R) = (a, (0, R)) := by
        intro v hf hv hrd hsz
        refine ⟨e1, [t, d], R, v, [t', sideT v], e2, rfl, hrd, rfl, fun l => ?_, NoLonger.cons (e5 rfl) (NoLonger.one hsz), fun R => ?_⟩
        · unfold wrVar; rw [hf, e4]; simp [wrText, firstE]
        · unfold rdVar
          rw [show [t', sideT v] ++ R = t' :: sideT v :: R from rfl, e6]
          simp only
          rw [rdText_cons]
          simp only
          rw [← hf]
          exact sidedR_put v _ hv
      cases b with
      | false =>
        have hd : d = ByteArray.empty := Classical.byContradiction fun q => hq (.inr ⟨rfl, q⟩)
        subst hd
        refine key (false, n) (if_pos (.inl rfl)) (fun q => by cases q) ?_ (by rw [show sideT (false, n) = ByteArray.empty from if_pos (.inl rfl)]; exact Nat.le_refl _)
        rw [hr, if_neg (by decide)]
      | true =>
        have e8 : 0 ≤ n ∧ n ≤ 1800 := of_decide_eq_true e7
        by_cases hW : d = wT
        · subst hW
          rw [if_pos rfl] at hr
          refine key (true, -n) ?_ (fun _ => by simp only; omega) hr (sideT_size _)
          unfold farN
          rw [if_neg (by simp; omega)]
          by_cases h0 : n = 0
          · subst h0; rw [if_neg (by simp)]; rfl
          · rw [if_pos (by simp only; omega)]; simp
        · have hE : d = eT := Classical.byContradiction fun q => hq (.inl ⟨rfl, q, hW⟩)
          subst hE
          rw [if_neg hW] at hr
          refine key (true, n) ?_ (fun _ => by simp only; omega) hr (sideT_size _)
          unfold farN
          rw [if_neg (by simp; omega), if_neg (by simp only; omega)]

/-- The least that one must know: time, status, two angles, speed, course, date, variation. -/
abbrev RmcT := Clk × Bool × N2 × N2 × N2 × N2 × Dat × N2
def rmcR : Rd → RmcT × Rd := seqR rdClk (seqR rdSt (seqR (rdAng true) (seqR (rdAng false) (seqR (rdNum 1 4 2 0 999999) (seqR (rdNum 1 3 2 0 36000) (seqR rdDat rdVar))))))
def rmcW : RmcT → Rd → Rd := seqW wrClk (seqW wrSt (seqW (wrAng true) (seqW (wrAng false) (seqW (wrNum 1 4 2 0 999999) (seqW (wrNum 1 3 2 0 36000) (seqW wrDat wrVar))))))
theorem Codec.rmc : Codec rmcR rmcW 11 :=
  Codec.clk.seq (Codec.st.seq ((Codec.ang true).seq ((Codec.ang false).seq (Codec.num.seq (Codec.num.seq (Codec.dat.seq Codec.var))))))
def zeroM : RmcT := (zC, false, zN, zN, zN, zN, zD, zN)
def putRmc (g : RmcT) : List ByteArray × Int := wrDone (rmcW g (0, []))
def takeRmc (R : List ByteArray) : RmcT × Int :=
  if R.length ≠ 11 ∧ R.length ≠ 12 then (zeroM, 3) else if (rdMode (rmcR (0, R)).2).1 = 0 then ((rmcR (0, R)).1, 0) else (zeroM, (rdMode (rmcR (0, R)).2).1)
theorem rmc_put_take {g : RmcT} (h : (putRmc g).2 = 0) : takeRmc (putRmc g).1 = (g, 0) ∧ (putRmc g).1.length = 11 := by
  obtain ⟨h1, h2⟩ := Codec.rmc.message h
  refine ⟨?_, h1⟩
  unfold takeRmc
  have h4 : (putRmc g).1.length = 11 := h1
  rw [if_neg (by rw [h4]; decide)]
  have h3 : rmcR (0, (putRmc g).1) = (g, (0, [])) := h2
  rw [h3]
  rfl
theorem rmc_take_put {R : List ByteArray} (h : (takeRmc R).2 = 0) : (R.length = 11 ∨ R.length = 12) ∧ (putRmc (takeRmc R).1).2 = 0 ∧ NoLonger (putRmc (takeRmc R).1).1 R := by
  unfold takeRmc at h ⊢
  by_cases hl : R.length ≠ 11 ∧ R.length ≠ 12
  · rw [if_pos hl] at h; exact absurd h (by decide)
  · rw [if_neg hl] at h ⊢
    by_cases h0 : (rdMode (rmcR (0, R)).2).1 = 0
    · rw [if_pos h0]
      obtain ⟨a, T, T', R', e1, e2, e3, e4, e5, e6, -⟩ := Codec.rmc.read (rdMode_zero h0)
      rw [e1]
      unfold putRmc
      simp only
      rw [e4]
      refine ⟨by omega, rfl, fun i t u ht hu => ?_⟩
      simp only at ht
      have hi : i < T'.length := (List.getElem?_eq_some_iff.1 ht).1
      rw [e2, List.getElem?_append_left (by omega)] at hu
      exact e6 i t u ht hu
    · rw [if_neg h0] at h; exact absurd h h0
theorem takeRmc_no {R : List ByteArray} (h : (takeRmc R).2 ≠ 0) : (takeRmc R).1 = zeroM := by
  unfold takeRmc at h ⊢
  split at h
  · next q => rw [if_pos q]
  · next q =>
    rw [if_neg q]
    split at h
    · exact absurd rfl h
    · next q2 => rw [if_neg q2]
end Go.Proofs.YtfgopmfaeooadaaGreatDoor
