/- The reference's Take of layer 22: as the program's. -/
import Derived.Test.YtleebikcakndnaaRef22Take2
import Derived.Test.YtleebikcakndnaaPlain22
namespace Go.Proofs.Ytleebikcakndnaa
set_option linter.unusedVariables false
open Go.RowKit

theorem extract_extract (s : ByteArray) (n a b : Nat) (h : b ≤ n) : (s.extract 0 n).extract a b = s.extract a b := by
  rw [extract_list (s.extract 0 n), data_extract, extract_list s a b, List.drop_zero, Nat.sub_zero, List.drop_take, List.take_take, Nat.min_eq_left (by omega)]

theorem r22Take_any (t : ByteArray) (w : World) (hm : t.size ≤ 1000000) : Calls Try.prog 13 #[.string t] w (SenPost (takeS t) w) := by
  by_cases h0 : t.size = 0
  · rw [takeS_0 h0]
    have := bytes_empty h0
    subst this
    exact r22Take_empty w
  · have hz : 0 < t.size := by omega
    obtain ⟨f1, f2⟩ := nonempty_forms hz
    by_cases h1 : t.data.toList[0]? = some 36
    · have hc : (((t[0]'hz).toNat : Int) != 36) = false := by rw [bne_eq_false_iff_eq]; exact (byte_at t 0 hz 36).1 h1
      by_cases h2 : (endE t).2 = 0
      · obtain ⟨i, hi⟩ : ∃ i, endE t = (i, 0) := ⟨(endE t).1, by rw [← h2]⟩
        obtain ⟨b1, b2, b3⟩ := scanE_spec t 80 1 i hi
        have hL := lineB_ok hi
        have hi1 : (endE t).1 = i := by rw [hi]
        have hls : (t.extract 1 i).size = i - 1 := by rw [ByteArray.size_extract]; omega
        by_cases h3 : t.size < (endE t).1 + 2
        · rw [takeS_3 h0 h1 h2 h3]
          exact r22Take_short t i w hm hz f1 f2 hc hi (by omega) (by omega)
        · have hlt : i + 1 < t.size := by omega
          by_cases h4 : t.data.toList[(endE t).1 + 1]? = some 10
          · have ht : (((t[i + 1]'hlt).toNat : Int) != 10) = false := by rw [bne_eq_false_iff_eq]; rw [hi1] at h4; exact (byte_at t (i + 1) hlt 10).1 h4
            obtain ⟨L, hLe⟩ : ∃ L, t.extract 1 i = L := ⟨_, rfl⟩
            rw [hLe] at hL hls
            have bad : formedB L = false → takeS t = ((ByteArray.empty, ByteArray.empty, []), 0, 3) := fun h => takeS_4 h0 h1 h2 h3 (.inr (by rw [hL]; exact h))
            by_cases h8 : L.size < 8
            · rw [bad (by unfold formedB; rw [decide_eq_false (by omega : ¬ 8 ≤ L.size)]; rfl)]
              exact r22Take_few t L i 0 w hm hz f1 f2 hc hi hLe b1 (by omega) (by omega) (by omega) (by omega) ht h8
            · obtain ⟨n, hn⟩ : ∃ n, L.size = n + 3 := ⟨L.size - 3, by omega⟩
              have hnl : n < L.size := by omega
              have notF : ∀ {x : Prop}, (formedB L = true → x) → ¬ x → formedB L = false := fun k nx => by
                cases hf : formedB L with
                | false => rfl
                | true => exact absurd (k hf) nx
              by_cases hst : (L[n]'hnl).toNat = 42
              · have hst' : (((L[n]'hnl).toNat : Int) != 42) = false := by rw [bne_eq_false_iff_eq]; omega
                by_cases hs1 : starsN L.data.toList = 1
                · cases hg : signsP (L.extract 0 5) 5 with
                  | false =>
                    rw [bad (by unfold formedB; rw [hg]; simp)]
                    exact r22Take_signs t L i n w hm hz f1 f2 hc hi hLe b1 (by omega) (by omega) (by omega) (by omega) ht (by omega) (by omega) (by omega) (by omega) hst' hs1 hg
                  | true =>
                    by_cases hcm : n = 5 ∨ L.data.toList[5]? = some 44
                    · have hcm' : n ≤ 5 ∨ 5 < n ∧ (((L[5]'(by omega)).toNat : Int) != 44) = false := by
                        by_cases h5 : n = 5
                        · exact .inl (by omega)
                        · exact .inr ⟨by omega, by rw [bne_eq_false_iff_eq]; exact (byte_at L 5 (by omega) 44).1 (hcm.resolve_left h5)⟩
                      cases hu : unhexL (L.extract (n + 1) L.size).data.toList with
                      | none =>
                        rw [bad (by unfold formedB; rw [show L.size - 3 + 1 = n + 1 from by omega, hu]; simp)]
                        exact r22Take_unhex t L i n w hm hz f1 f2 hc hi hLe b1 (by omega) (by omega) (by omega) (by omega) ht (by omega) (by omega) (by omega) (by omega) hst' hs1 hg hcm' hu
                      | some v =>
                        have hF := formed_of hn (by omega) hst hs1 hg hcm hu
                        have hO := open_of hn hst hu
                        rw [takeS_5 h0 h1 h2 h3 h4 (by rw [hL]; exact hF), hL, hO]
                        by_cases hv : v = sumI (L.extract 0 n)
                        · rw [if_pos hv, hi1]
                          have hbz : (L.extract 0 n).size = n := by rw [ByteArray.size_extract]; omega
                          have hfb := fields_body (L.extract 0 n) (by omega) (by rw [extract_extract _ _ _ _ (by omega)]; exact hg) (by
                            rcases hcm with h | h
                            · exact .inl (by omega)
                            · by_cases h5 : n = 5
                              · exact .inl (by omega)
                              · refine .inr ?_
                                rw [data_extract, List.drop_zero, List.getElem?_take_of_lt (by omega)]
                                exact h)
                          have hy := r22Take_yes t L i n w hm hz f1 f2 hc hi hLe b1 (by omega) (by omega) (by omega) (by omega) ht (by omega) (by omega) (by omega) (by omega) hst' hs1 hg hcm' v hu (by rw [bne_eq_false_iff_eq]; exact hv) (by omega)
                          rw [hfb] at hy
                          show Calls Try.prog _ _ _ (SenPost (((L.extract 0 n).extract 0 2, (L.extract 0 n).extract 2 5, if 5 < (L.extract 0 n).size then splitB ((L.extract 0 n).extract 6 (L.extract 0 n).size) else []), i + 2, 0) w)
                          rw [extract_extract _ _ 0 2 (by omega), extract_extract _ _ 2 5 (by omega)]
                          exact hy
                        · rw [if_neg hv]
                          exact r22Take_sum t L i n w hm hz f1 f2 hc hi hLe b1 (by omega) (by omega) (by omega) (by omega) ht (by omega) (by omega) (by omega) (by omega) hst' hs1 hg hcm' v hu (by rw [bne_iff_ne]; exact hv)
                    · have h5 : ¬ n = 5 := fun h => hcm (.inl h)
                      have h44 : ¬ L.data.toList[5]? = some 44 := fun h => hcm (.inr h)
                      rw [bad (by unfold formedB; rw [decide_eq_false (by omega : ¬ L.size = 8), decide_eq_false h44]; simp)]
                      exact r22Take_comma t L i n w hm hz f1 f2 hc hi hLe b1 (by omega) (by omega) (by omega) (by omega) ht (by omega) (by omega) (by omega) (by omega) hst' hs1 hg (by omega) (by rw [bne_iff_ne]; exact fun h => h44 ((byte_at L 5 (by omega) 44).2 h))
                · rw [bad (notF (fun h => (formed_star hn h).2) hs1)]
                  exact r22Take_stars t L i n w hm hz f1 f2 hc hi hLe b1 (by omega) (by omega) (by omega) (by omega) ht (by omega) (by omega) (by omega) (by omega) hst' _ rfl (by rw [bne_iff_ne]; omega)
              · rw [bad (notF (fun h => (formed_star hn h).1) hst)]
                exact r22Take_star t L i n w hm hz f1 f2 hc hi hLe b1 (by omega) (by omega) (by omega) (by omega) ht (by omega) (by omega) (by omega) (by omega) (by rw [bne_iff_ne]; omega)
          · have ht : (((t[i + 1]'hlt).toNat : Int) != 10) = true := by rw [bne_iff_ne]; rw [hi1] at h4; exact fun h => h4 ((byte_at t (i + 1) hlt 10).2 h)
            rw [takeS_4 h0 h1 h2 h3 (.inl h4)]
            exact r22Take_ten t _ i 0 w hm hz f1 f2 hc hi rfl b1 (by omega) (by omega) (by omega) (by omega) ht
      · rw [takeS_2 h0 h1 h2]
        exact r22Take_end t (endE t).1 _ w hm hz f1 f2 hc rfl (by rw [bne_iff_ne]; exact h2)
    · have hc : (((t[0]'hz).toNat : Int) != 36) = true := by rw [bne_iff_ne]; exact fun h => h1 ((byte_at t 0 hz 36).2 h)
      rw [takeS_1 h0 h1]
      exact r22Take_first t w hz f1 f2 hc

end Go.Proofs.Ytleebikcakndnaa
