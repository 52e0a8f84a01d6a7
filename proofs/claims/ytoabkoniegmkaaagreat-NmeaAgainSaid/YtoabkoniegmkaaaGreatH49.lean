/- Layer 25: the reference's Put. Printed by genggab.py. -/
import Derived.Test.YtoabkoniegmkaaaGreatH22
import Derived.Test.YtoabkoniegmkaaaGreatH25
import Derived.Test.YtoabkoniegmkaaaGreatH11
import Derived.Test.YtoabkoniegmkaaaGreatH24
import Derived.Test.YtoabkoniegmkaaaGreatH10
import Derived.Test.YtoabkoniegmkaaaGreatH28
import Derived.Test.YtoabkoniegmkaaaGreatH48
import Derived.Test.YtoabkoniegmkaaaGreatH29
namespace Go.Proofs.YtoabkoniegmkaaaGreat
set_option linter.unusedVariables false
open Go.RowKit
theorem angN_size (b:Bool) (n:Int) (lat:Bool):(angN b n lat).1.size≤100∧(angN b n lat).2.1.size≤100:=by
  have hl:∀ x,(toB (angL x lat)).size≤100:=fun x=>by
    rw [size_B]
    unfold angL
    have h1:=digL_len (x / 6000000) (wideN lat)
    have h2:=pointL_len (x % 6000000) 2 5
    rw [List.length_append]
    omega
  unfold angN
  split
  · exact⟨Nat.zero_le _,Nat.zero_le _⟩
  split
  · exact⟨Nat.zero_le _,Nat.zero_le _⟩
  split
  · exact⟨hl _,by show (sideB _ _).size≤100;rw [sideB_size];omega⟩
  · exact⟨hl _,by show (sideB _ _).size≤100;rw [sideB_size];omega⟩
theorem wrAng_small {lat:Bool} {n:Bool×Int} {s:Rd} (h:Small s.2):Small (wrAng lat n s).2:=fun t ht=>by
  unfold wrAng at ht
  rcases List.mem_append.1 ht with k | k
  · exact h t k
  · have:=angN_size n.1 n.2 lat
    simp only [List.mem_cons,List.not_mem_nil,or_false] at k
    rcases k with rfl | rfl
    · exact this.1
    · exact this.2
theorem clkT_size (c:Clk):(clkT c).1.size≤100:=by
  unfold clkT
  split
  · exact Nat.zero_le _
  split
  · exact Nat.zero_le _
  · show (toB _).size≤100
    rw [size_B]
    have:(clkTail c.2.2.2.2).length≤3:=by
      unfold clkTail
      split
      · simp
      split
      · simp
      · simp [twoL]
    simp only [List.length_append,twoL,List.length_cons,List.length_nil]
    omega
theorem wrClk_small {c:Clk} {s:Rd} (h:Small s.2):Small (wrClk c s).2:=wrText_small h (clkT_size c)
theorem wrDig_small {lo hi n:Int} {s:Rd} (h:Small s.2):Small (wrDig lo hi n s).2:=by
  unfold wrDig
  split
  · exact wrText_small h (by decide)
  · exact wrText_small h (by rw [digT_size];omega)
theorem putGga_small (g:GgaT):Small (putGga g).1:=by
  unfold putGga
  refine wrDone_small ?_
  have h1:Small (wrClk g.1 (0,[])).2:=wrClk_small Small.nil
  have h2:=wrAng_small (lat:=true) (n:=g.2.1) h1
  have h3:=wrAng_small (lat:=false) (n:=g.2.2.1) h2
  have h4:=wrDig_small (lo:=0) (hi:=8) (n:=g.2.2.2.1) h3
  have h5:=wrNum_small (W:=1) (M:=2) (F:=0) (L:=0) (H:=99) (n:=g.2.2.2.2.1) h4
  have h6:=wrNum_small (W:=1) (M:=3) (F:=2) (L:=0) (H:=99999) (n:=g.2.2.2.2.2.1) h5
  have h7:=wrCol_small (k:=altK) (n:=g.2.2.2.2.2.2.1) h6 (by decide)
  have h8:=wrCol_small (k:=geoK) (n:=g.2.2.2.2.2.2.2.1) h7 (by decide)
  have h9:=wrNum_small (W:=1) (M:=4) (F:=1) (L:=0) (H:=99999) (n:=g.2.2.2.2.2.2.2.2.1) h8
  exact wrNum_small (W:=1) (M:=4) (F:=0) (L:=0) (H:=1023) (n:=g.2.2.2.2.2.2.2.2.2) h9
theorem datT_size (c:Dat):(datT c).1.size≤100:=by
  unfold datT
  split
  · exact Nat.zero_le _
  split
  · exact Nat.zero_le _
  · show (toB _).size≤100
    rw [size_B]
    simp only [List.length_append,twoL,List.length_cons,List.length_nil]
    omega
theorem wrDat_small {c:Dat} {s:Rd} (h:Small s.2):Small (wrDat c s).2:=wrText_small h (datT_size c)
theorem wrSt_small {a:Bool} {s:Rd} (h:Small s.2):Small (wrSt a s).2:=wrText_small h (by rw [stT_size];omega)
theorem wrVar_small {v:N2} {s:Rd} (h:Small s.2):Small (wrVar v s).2:=wrText_small (wrNum_small h) (Nat.le_trans (sideT_size v) (by omega))
theorem putRmc_small (g:RmcT):Small (putRmc g).1:=by
  unfold putRmc
  refine wrDone_small ?_
  have h1:Small (wrClk g.1 (0,[])).2:=wrClk_small Small.nil
  have h2:=wrSt_small (a:=g.2.1) h1
  have h3:=wrAng_small (lat:=true) (n:=g.2.2.1) h2
  have h4:=wrAng_small (lat:=false) (n:=g.2.2.2.1) h3
  have h5:=wrNum_small (W:=1) (M:=4) (F:=2) (L:=0) (H:=999999) (n:=g.2.2.2.2.1) h4
  have h6:=wrNum_small (W:=1) (M:=3) (F:=2) (L:=0) (H:=36000) (n:=g.2.2.2.2.2.1) h5
  have h7:=wrDat_small (c:=g.2.2.2.2.2.2.1) h6
  exact wrVar_small (v:=g.2.2.2.2.2.2.2) h7
theorem body_small {t y:ByteArray}:∀ {fs:List ByteArray},Small fs→(bodyL22 t y fs).length≤t.size+y.size+101 * fs.length:=by
  intro fs h
  have key:∀ l:List ByteArray,Small l→(l.flatMap fun f=>(44:UInt8) :: f.data.toList).length≤101 * l.length:=by
    intro l
    induction l with
    | nil=>intro _;exact Nat.zero_le _
    | cons g l ih=>
      intro hs
      have e3:=len_data g
      have h1:=hs g (by simp)
      have h2:=ih fun f hf=>hs f (by simp [hf])
      rw [List.flatMap_cons,List.length_append,List.length_cons,List.length_cons]
      omega
  have e1:=len_data t
  have e2:=len_data y
  have:=key fs h
  unfold bodyL22
  rw [List.length_append,List.length_append]
  omega
theorem putF30_facts {m:NmD} (h:(putF30 m).2=0):(putF30 m).1.length≤20∧Small (putF30 m).1:=by
  unfold putF30 at h ⊢
  split at h
  · next k=>rw [if_pos k];exact⟨by rw [(gga_put_take h).2];omega,putGga_small _⟩
  next k1=>
  rw [if_neg k1]
  split at h
  · next k=>rw [if_pos k];exact⟨by rw [(rmc_put_take h).2];omega,putRmc_small _⟩
  next k2=>
  rw [if_neg k2]
  split at h
  · next k=>rw [if_pos k];exact⟨by rw [(gsa_put_take h).2];omega,putGsa_small _⟩
  next k3=>
  rw [if_neg k3]
  split at h
  · next k=>rw [if_pos k];exact⟨by rw [(vtg_put_take rfl h).2];omega,putVtg_small _⟩
  next k4=>
  rw [if_neg k4]
  refine⟨?_,putGsv_small _⟩
  have:=(gsv_put_take h).2
  unfold badG at this
  omega
theorem put30_zero {m:NmD} (h:(put30 m).2=0):(1≤m.k∧m.k≤5)∧(putF30 m).2=0∧put30 m=((m.t,word30 m.k,(putF30 m).1),0):=by
  by_cases hk:1≤m.k∧m.k≤5
  · by_cases h0:(putF30 m).2=0
    · exact⟨hk,h0,put30_ok hk rfl h0⟩
    · rw [put30_bad hk rfl h0] at h
      exact absurd h h0
  · rw [put30_no hk] at h
    exact absurd h (by decide)
theorem word30_size (k:Int):(word30 k).size≤3:=by
  by_cases h:1≤k∧k≤5
  · obtain⟨a,b,c,e⟩:=word30_some h;rw [e];exact Nat.le_refl _
  · unfold word30
    rw [if_neg (by omega),if_neg (by omega),if_neg (by omega),if_neg (by omega),if_neg (by omega)]
    exact Nat.zero_le _
theorem nmEncode_any {lo:Nat} {C:Array Value} {m:NmD} {w:World} (hC:NmV lo w C m) (h0:m.t.size≤1000) (h1:m.s.ids.length≤1000000) (h2:m.u.L.length≤1000000):Calls Tryz.prog 15 #[.agg C] w (EncOut (enc30 m) w):=
  nmEncode_go (X:=put30 m) (Y:=putS (put30 m).1.1 (put30 m).1.2.1 (put30 m).1.2.2) hC (fun W hb=>nmPut_any (hC.on hb) h1 h2) fun h A c W hs=>by
    obtain⟨-,h4,h5⟩:=put30_zero h
    obtain⟨h6,h7⟩:=putF30_facts h4
    rw [h5] at hs ⊢
    have:=body_small (t:=m.t) (y:=word30 m.k) h7
    have:=word30_size m.k
    exact Put_any m.t (word30 m.k) (putF30 m).1 A c W (by omega) (by omega) hs
end Go.Proofs.YtoabkoniegmkaaaGreat
