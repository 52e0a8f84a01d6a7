/- Layer 28: Take. -/
import Derived.Test.YtoabkoniegmkaaaGreatH14
import Derived.Test.YtoabkoniegmkaaaGreatH16
import Derived.Deep.RegionHeld3
import Derived.Test.YtoabkoniegmkaaaGreatH10
import Derived.Test.YtoabkoniegmkaaaGreatH15
namespace Go.Proofs.YtoabkoniegmkaaaGreat
set_option linter.unusedVariables false
open Go.RowKit
def numsC (N:List (Bool×Int)):List Value:=N.flatMap fun x=>[.bool x.1,.int .i64 x.2]
def vtgLV (N:List (Bool×Int)):Value:=.agg (numsC N).toArray
def VtgPost (x:List (Bool×Int)×Int) (w:World) (r:Ending) (w':World):Prop:=r=.returned (.tuple #[vtgLV x.1,.int .i64 x.2])∧Below w.heap.size w w'
theorem vtg_rchain {b0 b1 b2 b3:Bool} {n0 n1 n2 n3:Int} {s u0 s1 u1 s2 u2 s3 u3 s4:Rd} (h0:Hid (rdNum 1 3 2 0 36000 s=((b0,n0),u0))) (k0:Hid (rdUnit ⟨#[84]⟩ b0 u0=s1)) (h1:Hid (rdNum 1 3 2 0 36000 s1=((b1,n1),u1))) (k1:Hid (rdUnit ⟨#[77]⟩ b1 u1=s2))
    (h2:Hid (rdNum 1 4 2 0 999999 s2=((b2,n2),u2))) (k2:Hid (rdUnit ⟨#[78]⟩ b2 u2=s3)) (h3:Hid (rdNum 1 4 2 0 999999 s3=((b3,n3),u3))) (k3:Hid (rdUnit ⟨#[75]⟩ b3 u3=s4)) :
    rdCols vtgK s=([(b0,n0),(b1,n1),(b2,n2),(b3,n3)],s4):=by
  have c0:rdCol ⟨1,3,2,0,36000,⟨#[84]⟩⟩ s=((b0,n0),s1):=by unfold rdCol;rw [h0.out];simp only;rw [k0.out]
  have c1:rdCol ⟨1,3,2,0,36000,⟨#[77]⟩⟩ s1=((b1,n1),s2):=by unfold rdCol;rw [h1.out];simp only;rw [k1.out]
  have c2:rdCol ⟨1,4,2,0,999999,⟨#[78]⟩⟩ s2=((b2,n2),s3):=by unfold rdCol;rw [h2.out];simp only;rw [k2.out]
  have c3:rdCol ⟨1,4,2,0,999999,⟨#[75]⟩⟩ s3=((b3,n3),s4):=by unfold rdCol;rw [h3.out];simp only;rw [k3.out]
  simp only [vtgK,rdCols,c0,c1,c2,c3]
theorem vtg_taken {R:List ByteArray} {N:List (Bool×Int)} {s4 s5:Rd} (hl:¬(R.length≠8∧R.length≠9)) (h:rdCols vtgK (0,R)=(N,s4)) (h5:rdMode s4=s5):takeVtg R=if s5.1=0 then (N,0) else (zeros4,s5.1):=by
  unfold takeVtg
  rw [if_neg hl,h]
  simp only
  rw [h5]
theorem mode3 {s4 s6:Rd} {a:ByteArray} (h:rdText s4=(a,s6)) (hn:s4.2≠[]):(a.toList.isEmpty=true∧rdMode s4=s6)∨(a.toList.isEmpty=false∧capB a=true∧rdMode s4=s6)∨(a.toList.isEmpty=false∧capB a=false∧rdMode s4=rdFail 3 s6):=by
  unfold rdMode
  rw [if_neg hn,h]
  simp only
  rw [isEmpty_text]
  by_cases h0:a=ByteArray.empty
  · exact .inl ⟨decide_eq_true h0,if_neg (fun q=>q.1 h0)⟩
  · cases hc:capB a with
    | true=>exact .inr (.inl ⟨decide_eq_false h0,rfl,if_neg (fun q=>by cases q.2)⟩)
    | false=>exact .inr (.inr ⟨decide_eq_false h0,rfl,if_pos ⟨h0,rfl⟩⟩)
def AtC (w:World) (R:Nat) (C:Array Value):Prop:=∀ j,w.cell? ⟨R,j,none⟩=C[j]?
theorem AtC.set {w:World} {R:Nat} {C:Array Value} (h:AtC w R C) (k:Nat) (v:Value) (hk:k < C.size):AtC (w.setCell ⟨R,k,none⟩ v) R (C.setIfInBounds k v):=by
  intro j
  rw [Array.getElem?_setIfInBounds]
  by_cases hj:k=j
  · subst hj
    rw [if_pos rfl,if_pos hk]
    exact World.cell?_setCell_same _ _ _ ((h k).trans (Array.getElem?_eq_getElem hk))
  · rw [if_neg hj,World.cell?_setCell_other _ _ _ _ (fun q=>by injection q with _ q;exact hj q)]
    exact h j
theorem below_set {B R k:Nat} {a w:World} {v:Value} (h:Below B a w) (hR:B≤R):Below B a (w.setCell ⟨R,k,none⟩ v):=h.setCell hR _
abbrev vtgZ:Array Value:=vtgC false 0 false 0 false 0 false 0
set_option maxRecDepth 8000 in
theorem vtgTake_bad (A:Option Addr) (n c:Nat) (w:World) (h8:((n:Int) != 8)=true) (h9:((n:Int) != 9)=true):Calls Tryz.prog 46 #[.slice A n c] w (VtgPost (zeros4,3) w):=by
  go_enter Tryz.func46,Tryz.ntmps46
  go_wp2
  exact bodyPost_ret (v:=.tuple #[vtgLV zeros4,.int .i64 3]) (by simp [results,Tryz.results46,go_sem,vtgLV,numsC,zeros4]) rfl ⟨rfl,below_new _ _⟩
set_option maxRecDepth 8000 in
set_option maxHeartbeats 4000000 in
theorem vtgTake_ok (A:Option Addr) (n c:Nat) (R:List ByteArray) (w:World) (hl:R.length=n) (hA:A=none→c=0) (hs:Strs w w.heap.size A R) (hn:n≤1000000) (hz:∀ t∈R,t.size≤1000000) (hk:((n:Int) != 8)=false∨((n:Int) != 8)=true∧((n:Int) != 9)=false) (h89:¬(R.length≠8∧R.length≠9)) :
    Calls Tryz.prog 46 #[.slice A n c] w (VtgPost (takeVtg R) w):=by
  obtain⟨b0,n0,u0,h0⟩:∃ b n u,Hid (rdNum 1 3 2 0 36000 (0,R)=((b,n),u)):=⟨_,_,_,rfl⟩
  obtain⟨s1,k0⟩:∃ s,Hid (rdUnit ⟨#[84]⟩ b0 u0=s):=⟨_,rfl⟩
  obtain⟨b1,n1,u1,h1⟩:∃ b n u,Hid (rdNum 1 3 2 0 36000 s1=((b,n),u)):=⟨_,_,_,rfl⟩
  obtain⟨s2,k1⟩:∃ s,Hid (rdUnit ⟨#[77]⟩ b1 u1=s):=⟨_,rfl⟩
  obtain⟨b2,n2,u2,h2⟩:∃ b n u,Hid (rdNum 1 4 2 0 999999 s2=((b,n),u)):=⟨_,_,_,rfl⟩
  obtain⟨s3,k2⟩:∃ s,Hid (rdUnit ⟨#[78]⟩ b2 u2=s):=⟨_,rfl⟩
  obtain⟨b3,n3,u3,h3⟩:∃ b n u,Hid (rdNum 1 4 2 0 999999 s3=((b,n),u)):=⟨_,_,_,rfl⟩
  obtain⟨s4,k3⟩:∃ s,Hid (rdUnit ⟨#[75]⟩ b3 u3=s):=⟨_,rfl⟩
  obtain⟨s5,k5⟩:∃ s,Hid (rdMode s4=s):=⟨_,rfl⟩
  obtain⟨X,hX⟩:∃ X,takeVtg R=X:=⟨_,rfl⟩
  have HT:=Lib.hid (hX.symm.trans (vtg_taken h89 (vtg_rchain h0 k0 h1 k1 h2 k2 h3 k3) k5.out))
  rw [hX]
  clear hX
  have HB0:=Lib.hid (below_new w (.cells vtgZ 41))
  have HL:=Lib.hid (eyeLook (c:=c) hA ((hs.below HB0.out (Nat.le_refl _)).more HB0.out.size) (by omega) hz)
  rw [hl] at HL
  have hR0:∀ o,(w.alloc (.cells vtgZ 41)).cell? ⟨w.heap.size,o,none⟩=vtgZ[o]?:=fun o=>World.cell?_alloc_at _ _ _ _ rfl
  have hR1:∀ o,(w.alloc (.cells vtgZ 41)).frozen? ⟨w.heap.size,o,none⟩=false:=fun o=>by rw [frozen?_alloc_cells];exact frozen_past _ _ _ (Nat.le_refl _)
  have HR0:=Lib.hid hR0
  have HR1:=Lib.hid hR1
  have HZ0:Hid ((w.alloc (.cells vtgZ 41)).heap.size=w.heap.size+1):=by show _=_;simp
  clear hs hA hz hR0 hR1 hl h89
  go_enter Tryz.func46,Tryz.ntmps46
  try dsimp only
  repeat (fail_if_success (show Code.wp _ (Code.seq (Code.region 1 _ _) _) _ _ _)
          first | go_values | go_skip | go_guarded | go_step | go_upon | go_back | (simp only [Int.not_lt,Int.not_le] at *;go_simp) | (go_ite <;> go_prune <;> (try go_simp)))
  go_cut [] (fun wx=>wx=w.alloc (.cells vtgZ 41))
  case first=>
    rcases hk with hk | ⟨hk,hk2⟩
    · go_wp2_with fail
      go_meet
      rfl
    · go_wp2_with fail
      go_meet
      rfl
  case rest=>
  subst hcut
  clear hk
  generalize hW0:w.alloc (.cells vtgZ 41)=W0 at *
  clear hW0
  go_wp2_with fail
  refine HL.out.mono ?_
  rintro r w1 ⟨g,rfl,hx1,hg1,hz1,hb1⟩
  have HX1:=Lib.hid hx1
  have HB1:=Lib.hid hb1
  have HZ1:=Lib.hid hz1
  have HG1:=Lib.hid hg1
  clear hx1 hb1 hz1 hg1 HL
  go_wp2_with fail
  have HB3:Hid (Below w1.heap.size w1 ((w1.alloc (.cells #[.pointer (some ⟨g,0,none⟩)] 156)).alloc (.cells vtgZ 41))):=bthen (below_new w1 _) (below_new _ _)
  have HP3:Hid (((w1.alloc (.cells #[.pointer (some ⟨g,0,none⟩)] 156)).alloc (.cells vtgZ 41)).cell? ⟨w1.heap.size,0,none⟩=some (.pointer (some ⟨g,0,none⟩))):=(World.cell?_alloc_past _ _ _ (by simp)).trans (World.cell?_alloc_at _ _ _ _ rfl)
  have HZ3:Hid (((w1.alloc (.cells #[.pointer (some ⟨g,0,none⟩)] 156)).alloc (.cells vtgZ 41)).heap.size=w1.heap.size+2):=by show _=_;simp
  have HM3:Hid (∀ o,((w1.alloc (.cells #[.pointer (some ⟨g,0,none⟩)] 156)).alloc (.cells vtgZ 41)).cell? ⟨w1.heap.size+1,o,none⟩=vtgZ[o]?):=fun o=>World.cell?_alloc_at _ _ _ _ (by simp)
  have HF3:Hid (∀ o,((w1.alloc (.cells #[.pointer (some ⟨g,0,none⟩)] 156)).alloc (.cells vtgZ 41)).frozen? ⟨w1.heap.size+1,o,none⟩=false):=fun o=>by rw [frozen?_alloc_cells,frozen?_alloc_cells];exact frozen_past _ _ _ (by omega)
  generalize hW3:(w1.alloc (.cells #[.pointer (some ⟨g,0,none⟩)] 156)).alloc (.cells vtgZ 41)=W3 at *
  clear hW3
  refine (vtgcolumns_any _).mono ?_
  rintro r w4 ⟨C,rfl,hc,hC1,hC2,hb4⟩
  have HC4:=Lib.hid hc
  have HC1:=Lib.hid hC1
  have HC2:=Lib.hid hC2
  have HB4:=Lib.hid hb4
  clear hc hC1 hC2 hb4
  go_wp2_with fail
  refine (vtgnumbers_any _ _).mono ?_
  rintro r w5 ⟨rfl,hd,hD,hb5⟩
  have hz0:=HZ0.out
  have hz1:=HZ1.out
  have hz3:=HZ3.out
  have hC1:=HC1.out
  have hC2:=HC2.out
  have hg1:=HG1.out
  have hz4:=HB4.out.size
  have hz5:=hb5.size
  have h35:Below W3.heap.size W3 w5:=bthen HB4.out hb5
  have h15:Below w1.heap.size w1 w5:=bthen HB3.out h35
  have h05:Below W0.heap.size W0 w5:=bthen HB1.out h15
  have T0:TkI (EyeI g (0,R)) g (w1.heap.size+1) vtgZ w5 w5:=⟨HX1.out.keep h15,fun j=>((bcell h35).1 _ j (by omega)).trans (HM3.out j),fun j=>((bcell h35).2 _ j (by omega)).trans (HF3.out j),by omega,by omega,rfl,rfl,rfl,Nat.le_refl _,fun _ _ _ _=>rfl⟩
  have hcP:w5.cell? ⟨w1.heap.size,0,none⟩=some (.pointer (some ⟨g,0,none⟩)):=((bcell h35).1 _ 0 (by omega)).trans HP3.out
  have HPP:Hid (∀ (X:World→Prop) C' wr,TkI X g (w1.heap.size+1) C' w5 wr→wr.cell? ⟨w1.heap.size,0,none⟩=some (.pointer (some ⟨g,0,none⟩))):=fun X C' wr hk=>(hk.cell (by omega) (by omega) (by omega)).trans hcP
  have HCC:Hid (∀ (X:World→Prop) C' wr,TkI X g (w1.heap.size+1) C' w5 wr→(∀ o,wr.cell? ⟨C,o,none⟩=clCells[o]?)∧(∀ o,wr.cell? ⟨w4.heap.size,o,none⟩=(ptrC (w1.heap.size+1))[o]?)):=fun X C' wr hk=>
    ⟨fun o=>(hk.cell (by omega) (by omega) (by omega)).trans (((bcell hb5).1 _ o hC2).trans (HC4.out o)),fun o=>(hk.cell (by omega) (by omega) (by omega)).trans (hd o)⟩
  have HRR:Hid (∀ (X:World→Prop) C' wr,TkI X g (w1.heap.size+1) C' w5 wr→(∀ o,wr.cell? ⟨w.heap.size,o,none⟩=vtgZ[o]?)∧(∀ o,wr.frozen? ⟨w.heap.size,o,none⟩=false)):=fun X C' wr hk=>
    ⟨fun o=>(hk.cell (by omega) (by omega) (by omega)).trans (((bcell h05).1 _ o (by omega)).trans (HR0.out o)),fun o=>(hk.frozen (by omega) (by omega) (by omega)).trans (((bcell h05).2 _ o (by omega)).trans (HR1.out o))⟩
  have HFIN:Hid (∀ (X:World→Prop) C' wr,TkI X g (w1.heap.size+1) C' w5 wr→Below w.heap.size w wr):=fun X C' wr hk=>Below.trans (HB0.out.trans (h05.mono (by omega))) (hk.below (by omega) (by omega))
  have HT0:=Lib.hid T0
  have LP:Hid (w1.heap.size < w5.heap.size∧w1.heap.size≠g):=⟨by omega,by omega⟩
  have HCP:=Lib.hid hcP
  clear T0 hcP hd hD hz0 hz1 hz3 hC1 hC2 hg1 hz4 hz5 h35 h15 h05 hb5 HC4 HB4 HC1 HC2 HZ3 HP3 HB3 HM3 HF3 HZ1 HB1 HG1 HX1 HR0 HR1 HZ0 HB0
  go_wp2_with fail
  refine (vtgbothTake_any (M:=w1.heap.size+1) (P:=w1.heap.size) (I0:=TkI (EyeI g (0,R)) g (w1.heap.size+1) vtgZ w5) (I1:=TkI (EyeI g s1) g (w1.heap.size+1) (vtgC b0 n0 false 0 false 0 false 0) w5) (I2:=TkI (EyeI g s2) g (w1.heap.size+1) (vtgC b0 n0 b1 n1 false 0 false 0) w5) (I3:=TkI (EyeI g s3) g (w1.heap.size+1) (vtgC b0 n0 b1 n1 b2 n2 false 0) w5) (I4:=TkI (EyeI g s4) g (w1.heap.size+1) (vtgC b0 n0 b1 n1 b2 n2 b3 n3) w5) HT0.out ?_ ?_ ?_ ?_ ?_).mono ?_
  · exact fun wr h=>by rcases h with h | h | h | h <;> exact HCC.out _ _ wr h
  · exact fun wr h=>vtgTake1_any h0 k0 (h.keep (Y:=EyeI g (0,R)) (h.x.keep (bdrew (Below.refl _ _))) (bdrew (Below.refl _ _))) rfl rfl (fun j=>by rcases j with _ | _ | _ | _ | _ | _ | _ | _ | j <;> simp) HCP.out LP.out.1 LP.out.2 (by omega)
  · exact fun wr h=>vtgTake1_any h1 k1 (h.keep (Y:=EyeI g s1) (h.x.keep (bdrew (Below.refl _ _))) (bdrew (Below.refl _ _))) rfl rfl (fun j=>by rcases j with _ | _ | _ | _ | _ | _ | _ | _ | j <;> simp) HCP.out LP.out.1 LP.out.2 (by omega)
  · exact fun wr h=>vtgTake1_any h2 k2 (h.keep (Y:=EyeI g s2) (h.x.keep (bdrew (Below.refl _ _))) (bdrew (Below.refl _ _))) rfl rfl (fun j=>by rcases j with _ | _ | _ | _ | _ | _ | _ | _ | j <;> simp) HCP.out LP.out.1 LP.out.2 (by omega)
  · exact fun wr h=>vtgTake1_any h3 k3 (h.keep (Y:=EyeI g s3) (h.x.keep (bdrew (Below.refl _ _))) (bdrew (Below.refl _ _))) rfl rfl (fun j=>by rcases j with _ | _ | _ | _ | _ | _ | _ | _ | j <;> simp) HCP.out LP.out.1 LP.out.2 (by omega)
  rintro r w6 ⟨rfl,h6⟩
  have HT6:=Lib.hid h6
  clear h6 HCC HT0
  try dsimp only
  repeat (fail_if_success (show Code.wp _ (Code.seq (Code.region 6 _ _) _) _ _ _)
          first | go_values | go_skip | go_guarded | go_step | go_upon | go_back | (simp only [Int.not_lt,Int.not_le] at *;go_simp) | (go_ite <;> go_prune <;> (try go_simp)))
  go_cut [] (fun wx=>Hid (TkI (EyeI g s5) g (w1.heap.size+1) (vtgC b0 n0 b1 n1 b2 n2 b3 n3) w5 wx))
  case first=>
    have p6:=HPP.out _ _ _ HT6.out
    obtain⟨m,hm⟩:∃ m,s4.2.length=m:=⟨_,rfl⟩
    have HLF:=Lib.hid (eyeLeft HT6.out.x)
    rw [hm] at HLF
    have HMM:=Lib.hid hm
    clear hm
    go_wp2_with fail
    refine HLF.out.mono ?_
    rintro r w' ⟨rfl,rfl⟩
    by_cases hm0:m=0
    · subst hm0
      have E:s5=s4:=by
        rw [← k5.out];unfold rdMode
        rw [if_pos (List.eq_nil_of_length_eq_zero HMM.out)]
      have HE:=Lib.hid E
      clear E
      go_wp2_with fail
      go_meet
      rw [HE.out]
      exact HT6
    · have i1:(0:Int) < (m:Int):=by omega
      have hne:s4.2≠[]:=fun q=>hm0 (by rw [← HMM.out,q];rfl)
      obtain⟨a,s6,ha⟩:∃ a s6,Hid (rdText s4=(a,s6)):=⟨_,_,rfl⟩
      have HW:=Lib.hid (mode3 ha.out hne)
      clear hne hm0
      go_wp2_with fail
      refine (eyeText ha HT6.out.x).mono ?_
      rintro r w7 ⟨rfl,hx7,hf7⟩
      have HT7:=Lib.hid (HT6.out.frm hx7 hf7)
      have p7:=HPP.out _ _ _ HT7.out
      clear hx7 hf7 p6
      rcases HW.out with ⟨q1,q2⟩ | ⟨q1,q2,q3⟩ | ⟨q1,q2,q3⟩
      · have HE:Hid (s5=s6):=k5.out.symm.trans q2
        clear q2 HW
        go_wp2_with fail
        go_meet
        rw [HE.out]
        exact HT7
      · have HE:Hid (s5=s6):=k5.out.symm.trans q3
        clear q3 HW
        have HCAP:=Lib.hid (vtgcapital_any a w7)
        rw [q2] at HCAP
        go_wp2_with fail
        refine HCAP.out.mono ?_
        rintro r w' ⟨rfl,rfl⟩
        go_wp2_with fail
        go_meet
        rw [HE.out]
        exact HT7
      · have HE:Hid (s5=rdFail 3 s6):=k5.out.symm.trans q3
        clear q3 HW
        have HCAP:=Lib.hid (vtgcapital_any a w7)
        rw [q2] at HCAP
        go_wp2_with fail
        refine HCAP.out.mono ?_
        rintro r w' ⟨rfl,rfl⟩
        go_wp2_with fail
        refine (eyeFail rfl HT7.out.x).mono ?_
        rintro r w8 ⟨rfl,hx8,hf8⟩
        have HT8:=Lib.hid (HT7.out.frm (Y:=EyeI g s5) (by rw [HE.out];exact hx8) hf8)
        clear hx8 hf8
        go_wp2_with fail
        go_meet
        exact HT8
  case rest=>
  have p7:=HPP.out _ _ _ hcut.out
  obtain⟨hr,hf⟩:=HRR.out _ _ _ hcut.out
  have HB:=Lib.hid (HFIN.out _ _ _ hcut.out)
  have hm:=hcut.out.c
  have HX:=Lib.hid hcut.out.x
  have r0:=hr 0
  have r1:=hr 1
  have r2:=hr 2
  have r3:=hr 3
  have r4:=hr 4
  have r5:=hr 5
  have r6:=hr 6
  have r7:=hr 7
  have f0:=hf 0
  have f1:=hf 1
  have f2:=hf 2
  have f3:=hf 3
  have f4:=hf 4
  have f5:=hf 5
  have f6:=hf 6
  have f7:=hf 7
  have m0:=hm 0
  have m1:=hm 1
  have m2:=hm 2
  have m3:=hm 3
  have m4:=hm 4
  have m5:=hm 5
  have m6:=hm 6
  have m7:=hm 7
  have HR:=Lib.hid (show AtC _ w.heap.size vtgZ from hr)
  clear hr hf hm hcut HRR HPP HFIN HT6 HCP LP
  obtain⟨E,hE⟩:∃ E,s5.1=E:=⟨_,rfl⟩
  have HER:=Lib.hid (eyeErr HX.out)
  rw [hE] at HER HT
  clear hE
  go_wp2_with fail
  refine HER.out.mono ?_
  rintro r w' ⟨rfl,rfl⟩
  by_cases hE:E=0
  · subst hE
    have HX2:Hid (X=([(b0,n0),(b1,n1),(b2,n2),(b3,n3)],0)):=HT.out.trans (if_pos rfl)
    clear HT
    go_wp2_with fail
    have K:=((((((((HR.out.set 0 (.bool b0) (by simp)).set 1 (.int .i64 n0) (by simp)).set 2 (.bool b1) (by simp)).set 3 (.int .i64 n1) (by simp)).set 4 (.bool b2) (by simp)).set 5 (.int .i64 n2) (by simp)).set 6 (.bool b3) (by simp)).set 7 (.int .i64 n3) (by simp))
    have k0:=K 0
    have k1:=K 1
    have k2:=K 2
    have k3:=K 3
    have k4:=K 4
    have k5:=K 5
    have k6:=K 6
    have k7:=K 7
    simp at k0 k1 k2 k3 k4 k5 k6 k7
    refine bodyPost_ret (v:=.tuple #[vtgV b0 n0 b1 n1 b2 n2 b3 n3,.int .i64 0]) (by simp [results,Tryz.results46,go_sem,k0,k1,k2,k3,k4,k5,k6,k7]) rfl ⟨by rw [HX2.out];rfl,?_⟩
    exact below_set (below_set (below_set (below_set (below_set (below_set (below_set (below_set HB.out (Nat.le_refl _)) (Nat.le_refl _)) (Nat.le_refl _)) (Nat.le_refl _)) (Nat.le_refl _)) (Nat.le_refl _)) (Nat.le_refl _)) (Nat.le_refl _)
  · have hne:(E != 0)=true:=by rw [bne_iff_ne];exact hE
    have HX2:Hid (X=(zeros4,E)):=HT.out.trans (if_neg hE)
    clear hE HT
    go_wp2_with fail
    have K:=((((((((HR.out.set 0 (.bool false) (by simp)).set 1 (.int .i64 0) (by simp)).set 2 (.bool false) (by simp)).set 3 (.int .i64 0) (by simp)).set 4 (.bool false) (by simp)).set 5 (.int .i64 0) (by simp)).set 6 (.bool false) (by simp)).set 7 (.int .i64 0) (by simp))
    have k0:=K 0
    have k1:=K 1
    have k2:=K 2
    have k3:=K 3
    have k4:=K 4
    have k5:=K 5
    have k6:=K 6
    have k7:=K 7
    simp at k0 k1 k2 k3 k4 k5 k6 k7
    refine bodyPost_ret (v:=.tuple #[vtgV false 0 false 0 false 0 false 0,.int .i64 E]) (by simp [results,Tryz.results46,go_sem,k0,k1,k2,k3,k4,k5,k6,k7]) rfl ⟨by rw [HX2.out];rfl,?_⟩
    exact below_set (below_set (below_set (below_set (below_set (below_set (below_set (below_set HB.out (Nat.le_refl _)) (Nat.le_refl _)) (Nat.le_refl _)) (Nat.le_refl _)) (Nat.le_refl _)) (Nat.le_refl _)) (Nat.le_refl _)) (Nat.le_refl _)
#print axioms vtgTake_ok
theorem takeN_is {l:List UInt8} {W M F L H:Int} (h:(takeN l W M F L H).1=false):(takeN l W M F L H).2.1=0:=by
  unfold takeN at h ⊢
  by_cases h1:rightB W M F L H=false
  · rw [if_pos h1]
  · rw [if_neg h1] at h ⊢
    by_cases h2:l=[]
    · rw [if_pos h2]
    · rw [if_neg h2] at h ⊢
      cases hp:parseN (bodyL l) 1 M.toNat F.toNat with
      | none=>rfl
      | some n=>
        rw [hp] at h
        simp only at h ⊢
        generalize (if negL l=true then -(n:Int) else (n:Int))=x at *
        by_cases hq:fitsB true x L H=true
        · rw [if_pos hq] at h;exact absurd h (by simp)
        · rw [if_neg hq]
theorem rdNum_is {W M F L H:Int} {s t:Rd} {n:Int} (h:rdNum W M F L H s=((false,n),t)):n=0:=by
  have h1:(rdNum W M F L H s).1=(false,n):=by rw [h]
  have h2:(takeN (s.2.headD ByteArray.empty).data.toList W M F L H).1=false:=congrArg Prod.fst h1
  have h3:(takeN (s.2.headD ByteArray.empty).data.toList W M F L H).2.1=n:=congrArg Prod.snd h1
  rw [← h3]
  exact takeN_is h2
theorem TkI.put {X Y:World→Prop} {g M o:Nat} {C:Array Value} {W w:World} {u:Value} (h:TkI X g M C W w) (ho:o < C.size) (hy:Y (w.setCell ⟨M,o,none⟩ u)):TkI Y g M (C.setIfInBounds o u) W (w.setCell ⟨M,o,none⟩ u):=by
  refine⟨hy,?_,fun j=>by simpa using h.z j,h.gm,by simpa using h.mz,h.os,h.tape,h.output,by simpa using h.size,fun k k1 k2 k3=>?_⟩
  · exact AtC.set (show AtC w M C from h.c) o u ho
  · exact (Below.heap_setCell _ _ _ _ k3).trans (h.block k k1 k2 k3)
theorem TkI.grow {X Y:World→Prop} {g M:Nat} {C:Array Value} {W w w':World} {v:Value} (h:TkI X g M C W w) (hM:M < W.heap.size) (hf:Frm g v w w') (hv:∀ k,v.ownBlock=some k→W.heap.size≤k) (hy:Y w'):TkI Y g M C W w':=by
  have gm:=h.gm
  have o1:v.ownBlock≠some M:=fun q=>by have:=hv M q;omega
  refine⟨hy,fun j=>(hf.cell h.mz (by omega) o1).trans (h.c j),fun j=>(World.frozen?_of_block (a:=⟨M,j,none⟩) (hf.block M h.mz (by omega) o1)).trans (h.z j),gm,Nat.lt_of_lt_of_le h.mz hf.size,hf.os.trans h.os,hf.tape.trans h.tape,hf.output.trans h.output,Nat.le_trans h.size hf.size,fun k k1 k2 k3=>?_⟩
  exact (hf.block k (Nat.lt_of_lt_of_le k1 h.size) k2 (fun q=>by have:=hv k q;omega)).trans (h.block k k1 k2 k3)
theorem frm_of_tk {X:World→Prop} {g:Nat} {C:Array Value} {o:Obj} {wr z:World} (h:TkI X g wr.heap.size C (wr.alloc o) z):Frm g nilV wr z:=by
  have hb:=below_new wr o
  exact⟨h.os.trans hb.os,h.tape.trans hb.tape,h.output.trans hb.output,Nat.le_trans hb.size h.size,fun k hk h1 _=>(h.block k (by simp;omega) h1 (by omega)).trans (hb.block k hk)⟩
theorem own_after {w w':World} {B g:Nat} {e:TypeId} {size n:Nat} {v:Value} {xs:List Value} (h:w.ownsRow B e size v n xs) (hf:Frm g nilV w w') (hg:v.ownBlock≠some g):w'.ownsRow B e size v n xs:=
  h.kept (row:=some g) ⟨hf.os,hf.tape,hf.output,hf.size,fun i hi hk=>hf.block i hi (fun e=>hk (by rw [e])) (by simp [Value.ownBlock])⟩ (.inr hg)
theorem EyeI.grow {g g':Nat} {s:Rd} {v:Value} {w w':World} (h:EyeI g s w) (hf:Frm g' v w w') (h1:g < g') (h2:∀ k,v.ownBlock=some k→g < k):EyeI g s w':=by
  obtain⟨Q,q1,q2,q3⟩:=h
  exact⟨Q,q1.other hf (by omega) (fun q=>by have:=h2 _ q;omega) (fun b hb=>⟨by have:=q2 b hb;omega,fun q=>by have:=h2 _ q;have:=q2 b hb;omega⟩),q2,q3⟩
theorem frm_grown {g:Nat} {v:Value} {w w':World} (h:w.grownBy w' v.ownBlock):Frm g v w w':=⟨h.os,h.tape,h.output,h.size,fun k hk _ h2=>h.block k hk (fun q=>h2 q.symm)⟩
def viewsC (D:List V4):List Value:=D.flatMap viewC
theorem viewsC_snoc (D:List V4) (v:V4):viewsC (D++[v])=viewsC D++viewC v:=by simp [viewsC]
theorem viewsC_get:∀ (D:List V4) (k j:Nat) (hk:k < D.length),j < 8→(viewsC D)[8 * k+j]?=(viewC D[k])[j]?
  | [],k,j,hk,_=>absurd hk (Nat.not_lt_zero _)
  | v :: D,0,j,hk,hj=>by
    show (viewC v++viewsC D)[8 * 0+j]?=_
    rw [List.getElem?_append_left (by simp [viewC];omega)]
    simp
  | v :: D,k+1,j,hk,hj=>by
    show (viewC v++viewsC D)[8 * (k+1)+j]?=_
    rw [List.getElem?_append_right (by simp [viewC];omega)]
    have e:8 * (k+1)+j - (viewC v).length=8 * k+j:=by simp [viewC];omega
    rw [e]
    exact viewsC_get D k j (by simpa using hk) hj
theorem vws_of_own {w:World} {B:Nat} {e:TypeId} {v:Value} {D:List V4} (h:w.ownsRow B e 8 v D.length (viewsC D)):∃ A c,v=.slice A D.length c∧Vws w w.heap.size A D∧FreshA B A∧(A=none→c=0):=by
  rcases h.2 with ⟨hv,h0⟩ | ⟨g,cap,cur,hv,hb,hg,-⟩
  · exact⟨none,0,by rw [hv,h0],fun k hk=>by omega,FreshA.none_,fun _=>rfl⟩
  · subst hv
    refine⟨some ⟨g,0,none⟩,cap,rfl,fun k hk=>⟨g,0,rfl,(Array.getElem?_eq_some_iff.1 hg).1,fun j u hu=>?_⟩,fun a ha=>by injection ha with ha;rw [← ha];exact hb,fun q=>by cases q⟩
    have hj:j < 8:=by
      rcases Nat.lt_or_ge j 8 with q | q
      · exact q
      · rw [List.getElem?_eq_none (by show 8≤j;exact q)] at hu;cases hu
    have hc:=h.cells (g:=g) rfl (8 * k+j) u (by rw [viewsC_get D k j hk hj];exact hu)
    have:(⟨g,0,none⟩:Addr).add (8 * k+j)=⟨g,0+8 * k+j,none⟩:=by unfold Addr.add;split <;> simp_all <;> omega
    rw [← this]
    exact hc
def GsvPost (x:GsvD×Int) (w:World) (r:Ending) (w':World):Prop:=
  ∃ A c,r=.returned (.tuple #[gsvV x.1.T x.1.N x.1.S A x.1.L.length c,.int .i64 x.2])∧Vws w' w'.heap.size A x.1.L∧Below w.heap.size w w'
theorem gsv_taken {R:List ByteArray} {T N S:Int} {b:Bool} {k:Nat} {u1 u2 u3 u4 u5:Rd} {L:List V4} (hb:¬ badG R.length) (hk:(R.length - 3) / 4=k) (h1:Hid (rdDig 1 9 (0,R)=(T,u1))) (h2:Hid (rdDig 1 T u1=(N,u2))) (h3:Hid (rdNum 1 2 0 0 99 u2=((b,S),u3))) (h4:Hid (u4=if b=true then u3 else rdFail 3 u3)) (h5:Hid (rdViews k u4=(L,u5))) :
    takeGsv R=if u5.1=0 then (⟨T,N,S,L⟩,0) else (zeroG,u5.1):=by
  have hs:rdSeen u2=(S,u4):=by unfold rdSeen;rw [h3.out,h4.out]
  unfold takeGsv
  rw [if_neg hb,hk,h1.out]
  simp only
  rw [h2.out]
  simp only
  rw [hs]
  simp only
  rw [h5.out]
theorem rdNum_tl {W M F L H:Int} {s t:Rd} {x:Bool×Int} (h:rdNum W M F L H s=(x,t)):t.2=s.2.tail:=by
  have:(rdNum W M F L H s).2.2=s.2.tail:=rfl
  rw [h] at this
  exact this
theorem rdDig_tail {lo hi:Int} {s t:Rd} {n:Int} (h:rdDig lo hi s=(n,t)):t.2=s.2.tail:=by
  have:(rdDig lo hi s).2.2=s.2.tail:=by
    unfold rdDig
    split
    · simp only
      split <;> rfl
    · rfl
  rw [h] at this
  exact this
theorem rdView_tail {s t:Rd} {v:V4} (h:rdView s=(v,t)):t.2.length=s.2.length - 4:=by
  have:(rdView s).2.2=s.2.tail.tail.tail.tail:=rfl
  rw [h] at this
  rw [this]
  simp
  omega
def rdOne (s:Rd):Bool×Rd:=(decide ((rdText s).1=⟨#[65]⟩),if (rdText s).1≠⟨#[65]⟩∧(rdText s).1≠⟨#[77]⟩ then rdFail 3 (rdText s).2 else (rdText s).2)
def rdIds:Nat→Rd→List Int×Rd
  | 0,s=>([],s)
  | k+1,s=>(if (rdNum 1 3 0 1 255 s).1.1=true then (rdNum 1 3 0 1 255 s).1.2 :: (rdIds k (rdNum 1 3 0 1 255 s).2).1 else (rdIds k (rdNum 1 3 0 1 255 s).2).1,(rdIds k (rdNum 1 3 0 1 255 s).2).2)
structure GsaD where
  a:Bool
  f:Int
  ids:List Int
  p0:Bool×Int
  p1:Bool×Int
  p2:Bool×Int
def zeroS:GsaD:=⟨false,0,[],(false,0),(false,0),(false,0)⟩
def rdDop (s:Rd):(Bool×Int)×Rd:=rdNum 1 3 2 0 99999 s
def rdGsa (s:Rd):GsaD×Rd:=
  (⟨(rdOne s).1,(rdDig 1 3 (rdOne s).2).1,(rdIds 12 (rdDig 1 3 (rdOne s).2).2).1,(rdDop (rdIds 12 (rdDig 1 3 (rdOne s).2).2).2).1,(rdDop (rdDop (rdIds 12 (rdDig 1 3 (rdOne s).2).2).2).2).1,(rdDop (rdDop (rdDop (rdIds 12 (rdDig 1 3 (rdOne s).2).2).2).2).2).1⟩,
    (rdDop (rdDop (rdDop (rdIds 12 (rdDig 1 3 (rdOne s).2).2).2).2).2).2)
def takeGsa (R:List ByteArray):GsaD×Int:=if R.length≠17 then (zeroS,3) else if (rdGsa (0,R)).2.1=0 then ((rdGsa (0,R)).1,0) else (zeroS,(rdGsa (0,R)).2.1)
theorem gsa_taken {R:List ByteArray} {a:Bool} {f:Int} {ids:List Int} {d0 d1 d2:Bool×Int} {r1 r2 r3 r4 r5 r6:Rd} (hl:R.length=17) (h1:Hid (rdOne (0,R)=(a,r1))) (h2:Hid (rdDig 1 3 r1=(f,r2))) (h3:Hid (rdIds 12 r2=(ids,r3))) (h4:Hid (rdNum 1 3 2 0 99999 r3=(d0,r4))) (h5:Hid (rdNum 1 3 2 0 99999 r4=(d1,r5))) (h6:Hid (rdNum 1 3 2 0 99999 r5=(d2,r6))) :
    takeGsa R=if r6.1=0 then (⟨a,f,ids,d0,d1,d2⟩,0) else (zeroS,r6.1):=by
  have hg:rdGsa (0,R)=(⟨a,f,ids,d0,d1,d2⟩,r6):=by
    unfold rdGsa rdDop
    rw [h1.out]
    simp only
    rw [h2.out]
    simp only
    rw [h3.out]
    simp only
    rw [h4.out]
    simp only
    rw [h5.out]
    simp only
    rw [h6.out]
  unfold takeGsa
  rw [if_neg (fun q=>q hl),hg]
theorem rdIds_step {k:Nat} {s s':Rd} {b:Bool} {n:Int} (h:rdNum 1 3 0 1 255 s=((b,n),s')):rdIds (k+1) s=(if b=true then n :: (rdIds k s').1 else (rdIds k s').1,(rdIds k s').2):=by
  simp only [rdIds,h]
theorem rdIds_len:∀ (k:Nat) (s:Rd),(rdIds k s).1.length≤k
  | 0,s=>Nat.le_refl _
  | k+1,s=>by
    have:=rdIds_len k (rdNum 1 3 0 1 255 s).2
    simp only [rdIds]
    split
    · simp;omega
    · omega
theorem one_ways (t:ByteArray) (s1:Rd):((t.toList==[65])=true∧decide (t=⟨#[65]⟩)=true∧(if t≠⟨#[65]⟩∧t≠⟨#[77]⟩ then rdFail 3 s1 else s1)=s1) ∨
    ((t.toList==[65])=false∧decide (t=⟨#[65]⟩)=false∧((t.toList==[77])=true∧(if t≠⟨#[65]⟩∧t≠⟨#[77]⟩ then rdFail 3 s1 else s1)=s1∨(t.toList==[77])=false∧(if t≠⟨#[65]⟩∧t≠⟨#[77]⟩ then rdFail 3 s1 else s1)=rdFail 3 s1)):=by
  have l65:(⟨#[65]⟩:ByteArray).toList=[65]:=by rw [ByteArray.toList_eq]
  have l77:(⟨#[77]⟩:ByteArray).toList=[77]:=by rw [ByteArray.toList_eq]
  have b65:(t.toList==[65])=decide (t=⟨#[65]⟩):=by rw [← beq_text,l65]
  have b77:(t.toList==[77])=decide (t=⟨#[77]⟩):=by rw [← beq_text,l77]
  rw [b65,b77]
  by_cases h:t=⟨#[65]⟩
  · exact .inl ⟨decide_eq_true h,decide_eq_true h,if_neg (fun q=>q.1 h)⟩
  · refine .inr ⟨decide_eq_false h,decide_eq_false h,?_⟩
    by_cases h2:t=⟨#[77]⟩
    · exact .inl ⟨decide_eq_true h2,if_neg (fun q=>q.2 h2)⟩
    · exact .inr ⟨decide_eq_false h2,if_pos ⟨h,h2⟩⟩
theorem gsaid_any (w:World):Calls Tryz.prog 129 #[] w fun e w'=>e=.returned (colV 1 3 0 1 255)∧Below w.heap.size w w':=by
  go_enter Tryz.func129,Tryz.ntmps129
  go_wp2
  refine bodyPost_ret (v:=colV 1 3 0 1 255) (by simp [results,Tryz.results129,go_sem]) rfl ⟨rfl,below_new _ _⟩
theorem gsadop_any (w:World):Calls Tryz.prog 130 #[] w fun e w'=>e=.returned (colV 1 3 2 0 99999)∧Below w.heap.size w w':=by
  go_enter Tryz.func130,Tryz.ntmps130
  go_wp2
  refine bodyPost_ret (v:=colV 1 3 2 0 99999) (by simp [results,Tryz.results130,go_sem]) rfl ⟨rfl,below_new _ _⟩
set_option maxRecDepth 8000 in
set_option maxHeartbeats 2000000 in
theorem gsaisAuto_any {g:Nat} {s t:Rd} {b:Bool} {w:World} (ht:Hid (rdOne s=(b,t))) (hp:EyeI g s w):Calls Tryz.prog 127 #[.pointer (some ⟨g,0,none⟩)] w (EyeStep g (.bool b) t w):=by
  obtain⟨a,s1,ha⟩:∃ a s1,Hid (rdText s=(a,s1)):=⟨_,_,rfl⟩
  have ht:=ht.out
  unfold rdOne at ht
  rw [ha.out] at ht
  injection ht with e1 e2
  simp only at e1 e2
  have HP:=Lib.hid hp
  clear hp
  rcases one_ways a s1 with ⟨k1,k2,k3⟩ | ⟨k1,k2,⟨k3,k4⟩ | ⟨k3,k4⟩⟩
  · rw [k2] at e1
    rw [k3] at e2
    subst e1 e2
    clear k2 k3
    go_enter Tryz.func127,Tryz.ntmps127
    go_wp2_with fail
    refine (eyeText ha HP.out).mono ?_
    rintro r w1 ⟨rfl,hx,hf⟩
    have HX:=Lib.hid hx
    have HF:=Lib.hid hf
    clear hx hf HP
    go_wp2_with fail
    go_ret
    exact⟨rfl,HX.out,HF.out⟩
  · rw [k2] at e1
    rw [k4] at e2
    subst e1 e2
    clear k2 k4
    go_enter Tryz.func127,Tryz.ntmps127
    go_wp2_with fail
    refine (eyeText ha HP.out).mono ?_
    rintro r w1 ⟨rfl,hx,hf⟩
    have HX:=Lib.hid hx
    have HF:=Lib.hid hf
    clear hx hf HP
    go_wp2_with fail
    go_ret
    exact⟨rfl,HX.out,HF.out⟩
  · rw [k2] at e1
    rw [k4] at e2
    subst e1 e2
    clear k2 k4
    go_enter Tryz.func127,Tryz.ntmps127
    go_wp2_with fail
    refine (eyeText ha HP.out).mono ?_
    rintro r w1 ⟨rfl,hx,hf⟩
    have HX:=Lib.hid hx
    have HF:=Lib.hid hf
    clear hx hf HP
    go_wp2_with fail
    refine (eyeFail rfl HX.out).mono ?_
    rintro r w2 ⟨rfl,hx2,hf2⟩
    have HX2:=Lib.hid hx2
    have HF2:=Lib.hid (HF.out.step hf2)
    clear hx2 hf2
    go_wp2_with fail
    go_ret
    exact⟨rfl,HX2.out,HF2.out⟩
set_option maxRecDepth 8000 in
set_option maxHeartbeats 4000000 in
theorem gsafix_any {g:Nat} {s t:Rd} {n:Int} {w:World} (ht:Hid (rdDig 1 3 s=(n,t))) (hp:EyeI g s w):Calls Tryz.prog 128 #[.pointer (some ⟨g,0,none⟩)] w (EyeStep g (.int .i64 n) t w):=by
  obtain⟨a,s1,ha⟩:∃ a s1,Hid (rdText s=(a,s1)):=⟨_,_,rfl⟩
  obtain⟨hw1,hw2,hw3⟩:=rdDig_ways (lo:=1) (hi:=3) ha.out
  have HP:=Lib.hid hp
  have ht:=ht.out
  clear hp
  rcases dig_ways a with ⟨hb,h1⟩ | ⟨hz,h1,⟨h2,hb⟩ | ⟨h2,hb⟩ | ⟨h2,h3,hb,hv⟩⟩
  · have e:=hw1 hb
    rw [e] at ht
    injection ht with e1 e2
    subst e1 e2
    clear e hw1 hw2 hw3 hb
    have i1:((a.size:Int)==1)=false:=by rw [beq_eq_false_iff_ne];omega
    go_enter Tryz.func128,Tryz.ntmps128
    go_wp2_with fail
    refine (eyeText ha HP.out).mono ?_
    rintro r w1 ⟨rfl,hx,hf⟩
    have HX:=Lib.hid hx
    have HF:=Lib.hid hf
    clear hx hf HP
    go_wp2_with fail
    refine (eyeFail rfl HX.out).mono ?_
    rintro r w2 ⟨rfl,hx2,hf2⟩
    have HX2:=Lib.hid hx2
    have HF2:=Lib.hid (HF.out.step hf2)
    clear hx2 hf2
    go_wp2_with fail
    go_ret
    exact⟨rfl,HX2.out,HF2.out⟩
  · have e:=hw1 hb
    rw [e] at ht
    injection ht with e1 e2
    subst e1 e2
    clear e hw1 hw2 hw3 hb
    have i1:((a.size:Int)==1)=true:=by rw [beq_iff_eq];omega
    have i2:((a[0].toNat:Nat):Int) < 48:=by omega
    go_enter Tryz.func128,Tryz.ntmps128
    go_wp2_with fail
    refine (eyeText ha HP.out).mono ?_
    rintro r w1 ⟨rfl,hx,hf⟩
    have HX:=Lib.hid hx
    have HF:=Lib.hid hf
    clear hx hf HP
    go_wp2_with fail
    refine (eyeFail rfl HX.out).mono ?_
    rintro r w2 ⟨rfl,hx2,hf2⟩
    have HX2:=Lib.hid hx2
    have HF2:=Lib.hid (HF.out.step hf2)
    clear hx2 hf2
    go_wp2_with fail
    go_ret
    exact⟨rfl,HX2.out,HF2.out⟩
  · have e:=hw1 hb
    rw [e] at ht
    injection ht with e1 e2
    subst e1 e2
    clear e hw1 hw2 hw3 hb
    have i1:((a.size:Int)==1)=true:=by rw [beq_iff_eq];omega
    have i2:(48:Int)≤((a[0].toNat:Nat):Int):=by omega
    have i3:(57:Int) < ((a[0].toNat:Nat):Int):=by omega
    go_enter Tryz.func128,Tryz.ntmps128
    go_wp2_with fail
    refine (eyeText ha HP.out).mono ?_
    rintro r w1 ⟨rfl,hx,hf⟩
    have HX:=Lib.hid hx
    have HF:=Lib.hid hf
    clear hx hf HP
    go_wp2_with fail
    refine (eyeFail rfl HX.out).mono ?_
    rintro r w2 ⟨rfl,hx2,hf2⟩
    have HX2:=Lib.hid hx2
    have HF2:=Lib.hid (HF.out.step hf2)
    clear hx2 hf2
    go_wp2_with fail
    go_ret
    exact⟨rfl,HX2.out,HF2.out⟩
  · have i1:((a.size:Int)==1)=true:=by rw [beq_iff_eq];omega
    have i2:(48:Int)≤((a[0].toNat:Nat):Int):=by omega
    have i3:((a[0].toNat:Nat):Int)≤57:=by omega
    rw [hv] at hw2 hw3
    by_cases hq:(a[0].toNat:Int) - 48 < 1∨3 < (a[0].toNat:Int) - 48
    · have e:=hw2 hb hq
      rw [e] at ht
      injection ht with e1 e2
      subst e1 e2
      clear e hw1 hw2 hw3 hb hv
      by_cases hq1:(a[0].toNat:Int) < 49
      · clear hq
        go_enter Tryz.func128,Tryz.ntmps128
        go_wp2_with fail
        refine (eyeText ha HP.out).mono ?_
        rintro r w1 ⟨rfl,hx,hf⟩
        have HX:=Lib.hid hx
        have HF:=Lib.hid hf
        clear hx hf HP
        go_wp2_with fail
        refine (eyeFail rfl HX.out).mono ?_
        rintro r w2 ⟨rfl,hx2,hf2⟩
        have HX2:=Lib.hid hx2
        have HF2:=Lib.hid (HF.out.step hf2)
        clear hx2 hf2
        go_wp2_with fail
        go_ret
        exact⟨rfl,HX2.out,HF2.out⟩
      · have q1:49≤(a[0].toNat:Int):=by omega
        have q2:51 < (a[0].toNat:Int):=by omega
        clear hq hq1
        go_enter Tryz.func128,Tryz.ntmps128
        go_wp2_with fail
        refine (eyeText ha HP.out).mono ?_
        rintro r w1 ⟨rfl,hx,hf⟩
        have HX:=Lib.hid hx
        have HF:=Lib.hid hf
        clear hx hf HP
        go_wp2_with fail
        refine (eyeFail rfl HX.out).mono ?_
        rintro r w2 ⟨rfl,hx2,hf2⟩
        have HX2:=Lib.hid hx2
        have HF2:=Lib.hid (HF.out.step hf2)
        clear hx2 hf2
        go_wp2_with fail
        go_ret
        exact⟨rfl,HX2.out,HF2.out⟩
    · have e:=hw3 hb hq
      rw [e] at ht
      injection ht with e1 e2
      subst e1 e2
      have q1:49≤(a[0].toNat:Int):=by omega
      have q2:(a[0].toNat:Int)≤51:=by omega
      clear e hw1 hw2 hw3 hb hv hq
      go_enter Tryz.func128,Tryz.ntmps128
      go_wp2_with fail
      refine (eyeText ha HP.out).mono ?_
      rintro r w1 ⟨rfl,hx,hf⟩
      have HX:=Lib.hid hx
      have HF:=Lib.hid hf
      clear hx hf HP
      go_wp2_with fail
      go_ret
      exact⟨rfl,HX.out,HF.out⟩
abbrev gsaC (a:Bool) (f:Int) (A:Option Addr) (n c:Nat) (b0:Bool) (n0:Int) (b1:Bool) (n1:Int) (b2:Bool) (n2:Int):Array Value:=#[.bool a,.int .i64 f,.slice A n c,.bool b0,.int .i64 n0,.bool b1,.int .i64 n1,.bool b2,.int .i64 n2]
abbrev gsaV (a:Bool) (f:Int) (A:Option Addr) (n c:Nat) (b0:Bool) (n0:Int) (b1:Bool) (n1:Int) (b2:Bool) (n2:Int):Value:=.agg (gsaC a f A n c b0 n0 b1 n1 b2 n2)
def Ints (w:World) (B:Nat) (A:Option Addr) (l:List Int):Prop:=∀ k (hk:k < l.length),∃ b off,A=some ⟨b,off,none⟩∧b < B∧w.cell? ⟨b,off+k,none⟩=some (.int .i64 l[k])
theorem Ints.below {w w':World} {B B':Nat} {A:Option Addr} {l:List Int} (h:Ints w B A l) (hb:Below B' w w') (hB:B≤B'):Ints w' B A l:=fun k hk=>by
  obtain⟨b,off,h1,h2,h3⟩:=h k hk
  exact⟨b,off,h1,h2,(hb.cell (p:=⟨b,off+k,none⟩) (by show b < B';omega)).trans h3⟩
theorem Ints.more {w:World} {B B':Nat} {A:Option Addr} {l:List Int} (h:Ints w B A l) (hB:B≤B'):Ints w B' A l:=fun k hk=>by
  obtain⟨b,off,h1,h2,h3⟩:=h k hk
  exact⟨b,off,h1,by omega,h3⟩
def GsaPost (x:GsaD×Int) (w:World) (r:Ending) (w':World):Prop:=
  ∃ A n c,r=.returned (.tuple #[gsaV x.1.a x.1.f A n c x.1.p0.1 x.1.p0.2 x.1.p1.1 x.1.p1.2 x.1.p2.1 x.1.p2.2,.int .i64 x.2])∧x.1.ids.length=n∧Ints w' w'.heap.size A x.1.ids∧Below w.heap.size w w'
def idsC (D:List Int):Array Value:=((D.map (Value.int .i64))++List.replicate (12 - D.length) (Value.int .i64 0)).toArray
theorem idsC_size (D:List Int) (h:D.length≤12):(idsC D).size=12:=by simp [idsC];omega
theorem idsC_put (D:List Int) (n:Int) (h:D.length < 12):(idsC D).setIfInBounds D.length (.int .i64 n)=idsC (D++[n]):=by
  obtain⟨k,hk⟩:∃ k,12 - D.length=k+1:=⟨11 - D.length,by omega⟩
  have hk2:12 - (D.length+1)=k:=by omega
  unfold idsC
  rw [List.setIfInBounds_toArray]
  congr 1
  rw [hk,List.replicate_succ,List.set_append_right _ _ (by simp),List.length_append,List.length_singleton,hk2]
  simp
theorem idsC_get (D:List Int) (k:Nat) (h:k < D.length):(idsC D)[k]?=some (.int .i64 D[k]):=by
  unfold idsC
  simp only [List.getElem?_toArray]
  rw [List.getElem?_append_left (by simpa using h)]
  simp [h]
theorem idsC_zero (D:List Int) (h:D.length < 12):(idsC D)[D.length]?=some (.int .i64 0):=by
  unfold idsC
  simp only [List.getElem?_toArray]
  rw [List.getElem?_append_right (by simp),List.getElem?_replicate,if_pos (by simp;omega)]
theorem far_set {w:World} {R b o o':Nat} {u:Value} (h:R≠b):(w.setCell ⟨R,o,none⟩ u).cell? ⟨b,o',none⟩=w.cell? ⟨b,o',none⟩:=World.cell?_setCell_other _ _ _ _ (fun q=>by injection q with q;exact h q)
theorem ints_of {w:World} {IB:Nat} {D:List Int} (h:∀ j,w.cell? ⟨IB,j,none⟩=(idsC D)[j]?) (hz:IB < w.heap.size):Ints w w.heap.size (some ⟨IB,0,none⟩) D:=fun k hk=>⟨IB,0,rfl,hz,by rw [Nat.zero_add,h,idsC_get D k hk]⟩
set_option maxRecDepth 8000 in
theorem gsaTake_bad (A:Option Addr) (n c:Nat) (w:World) (h:((n:Int) != 17)=true):Calls Tryz.prog 45 #[.slice A n c] w (GsaPost (zeroS,3) w):=by
  go_enter Tryz.func45,Tryz.ntmps45
  go_wp2
  exact bodyPost_ret (v:=.tuple #[gsaV false 0 none 0 0 false 0 false 0 false 0,.int .i64 3]) (by simp [results,Tryz.results45,go_sem]) rfl ⟨none,0,0,rfl,rfl,fun k hk=>absurd hk (Nat.not_lt_zero _),below_new _ _⟩
set_option maxRecDepth 8000 in
set_option maxHeartbeats 8000000 in
theorem gsaTake_ok (A:Option Addr) (n c:Nat) (R:List ByteArray) (w:World) (hl:R.length=n) (hA:A=none→c=0) (hs:Strs w w.heap.size A R) (hz:∀ t∈R,t.size≤1000000) (hkn:Hid (n=17)) :
    Calls Tryz.prog 45 #[.slice A n c] w (GsaPost (takeGsa R) w):=by
  obtain⟨a,r1,h1⟩:∃ n u,Hid (rdOne (0,R)=(n,u)):=⟨_,_,rfl⟩
  obtain⟨f,r2,h2⟩:∃ n u,Hid (rdDig 1 3 r1=(n,u)):=⟨_,_,rfl⟩
  obtain⟨ids,r3,h3⟩:∃ n u,Hid (rdIds 12 r2=(n,u)):=⟨_,_,rfl⟩
  obtain⟨b0,n0,r4,h4⟩:∃ b n u,Hid (rdNum 1 3 2 0 99999 r3=((b,n),u)):=⟨_,_,_,rfl⟩
  obtain⟨b1,n1,r5,h5⟩:∃ b n u,Hid (rdNum 1 3 2 0 99999 r4=((b,n),u)):=⟨_,_,_,rfl⟩
  obtain⟨b2,n2,r6,h6⟩:∃ b n u,Hid (rdNum 1 3 2 0 99999 r5=((b,n),u)):=⟨_,_,_,rfl⟩
  obtain⟨X,hX⟩:∃ X,takeGsa R=X:=⟨_,rfl⟩
  have HT:Hid (X=if r6.1=0 then (⟨a,f,ids,(b0,n0),(b1,n1),(b2,n2)⟩,0) else (zeroS,r6.1)):=hX.symm.trans (gsa_taken (by rw [hl];exact hkn.out) h1 h2 h3 h4 h5 h6)
  rw [hX]
  clear hX
  have HB0:=Lib.hid (below_new w (.cells (gsaC false 0 none 0 0 false 0 false 0 false 0) 39))
  have HL:=Lib.hid (eyeLook (c:=c) hA ((hs.below HB0.out (Nat.le_refl _)).more HB0.out.size) (by have:=hkn.out;omega) hz)
  rw [hl] at HL
  have hR0:∀ o,(w.alloc (.cells (gsaC false 0 none 0 0 false 0 false 0 false 0) 39)).cell? ⟨w.heap.size,o,none⟩=(gsaC false 0 none 0 0 false 0 false 0 false 0)[o]?:=fun o=>World.cell?_alloc_at _ _ _ _ rfl
  have hR1:∀ o,(w.alloc (.cells (gsaC false 0 none 0 0 false 0 false 0 false 0) 39)).frozen? ⟨w.heap.size,o,none⟩=false:=fun o=>by rw [frozen?_alloc_cells];exact frozen_past _ _ _ (Nat.le_refl _)
  have HR0:=Lib.hid hR0
  have HR1:=Lib.hid hR1
  have HZ0:Hid ((w.alloc (.cells (gsaC false 0 none 0 0 false 0 false 0 false 0) 39)).heap.size=w.heap.size+1):=by show _=_;simp
  have i17:((n:Int) != 17)=false:=by have:=hkn.out;rw [bne_eq_false_iff_eq];omega
  clear hs hA hz hR0 hR1 hl
  go_enter Tryz.func45,Tryz.ntmps45
  try dsimp only
  repeat (fail_if_success (show Code.wp _ (Code.seq (Code.region 1 _ _) _) _ _ _)
          first | go_values | go_skip | go_guarded | go_step | go_upon | go_back | (simp only [Int.not_lt,Int.not_le] at *;go_simp) | (go_ite <;> go_prune <;> (try go_simp)))
  go_cut [] (fun wx=>wx=w.alloc (.cells (gsaC false 0 none 0 0 false 0 false 0 false 0) 39))
  case first=>
    go_wp2_with fail
    go_meet
    rfl
  case rest=>
  subst hcut
  generalize hW0:w.alloc (.cells (gsaC false 0 none 0 0 false 0 false 0 false 0) 39)=W0 at *
  clear hW0
  go_wp2_with fail
  refine HL.out.mono ?_
  rintro r w1 ⟨g,rfl,hx1,hg1,hz1,hb1⟩
  have HX1:=Lib.hid hx1
  have HB1:=Lib.hid hb1
  have HG1:=Lib.hid hg1
  clear hx1 hb1 hg1 hz1 HL
  go_wp2_with fail
  refine (gsaisAuto_any h1 HX1.out).mono ?_
  rintro r w2 ⟨rfl,hx2,hf2⟩
  have HX2:=Lib.hid hx2
  have HF2:=Lib.hid hf2
  clear hx2 hf2
  go_wp2_with fail
  refine (gsafix_any h2 HX2.out).mono ?_
  rintro r w3 ⟨rfl,hx3,hf3⟩
  have HX3:=Lib.hid hx3
  have HF3:=Lib.hid (HF2.out.step hf3)
  clear hx3 hf3 HX2 HF2
  go_wp2_with fail
  have hbm:=below_new w3 (.cells (gsaC a f none 0 0 false 0 false 0 false 0) 39)
  have hzm:(w3.alloc (.cells (gsaC a f none 0 0 false 0 false 0 false 0) 39)).heap.size=w3.heap.size+1:=by simp
  have hbi:=below_new (w3.alloc (.cells (gsaC a f none 0 0 false 0 false 0 false 0) 39)) (.cells #[.int .i64 0,.int .i64 0,.int .i64 0,.int .i64 0,.int .i64 0,.int .i64 0,.int .i64 0,.int .i64 0,.int .i64 0,.int .i64 0,.int .i64 0,.int .i64 0] 171)
  have T0:TkI (EyeI g r2) g (w3.heap.size+1) (idsC []) ((w3.alloc (.cells (gsaC a f none 0 0 false 0 false 0 false 0) 39)).alloc (.cells #[.int .i64 0,.int .i64 0,.int .i64 0,.int .i64 0,.int .i64 0,.int .i64 0,.int .i64 0,.int .i64 0,.int .i64 0,.int .i64 0,.int .i64 0,.int .i64 0] 171)) ((w3.alloc (.cells (gsaC a f none 0 0 false 0 false 0 false 0) 39)).alloc (.cells #[.int .i64 0,.int .i64 0,.int .i64 0,.int .i64 0,.int .i64 0,.int .i64 0,.int .i64 0,.int .i64 0,.int .i64 0,.int .i64 0,.int .i64 0,.int .i64 0] 171)):=
    ⟨(HX3.out.keep hbm).keep hbi,fun j=>World.cell?_alloc_at _ _ _ _ hzm.symm,fun j=>by rw [frozen?_alloc_cells];exact frozen_past _ _ _ (by omega),by have:=HX3.out.lt;omega,by simp,rfl,rfl,rfl,Nat.le_refl _,fun _ _ _ _=>rfl⟩
  have HMB:Hid ((∀ o,((w3.alloc (.cells (gsaC a f none 0 0 false 0 false 0 false 0) 39)).alloc (.cells #[.int .i64 0,.int .i64 0,.int .i64 0,.int .i64 0,.int .i64 0,.int .i64 0,.int .i64 0,.int .i64 0,.int .i64 0,.int .i64 0,.int .i64 0,.int .i64 0] 171)).cell? ⟨w3.heap.size,o,none⟩=(gsaC a f none 0 0 false 0 false 0 false 0)[o]?)∧(∀ o,((w3.alloc (.cells (gsaC a f none 0 0 false 0 false 0 false 0) 39)).alloc (.cells #[.int .i64 0,.int .i64 0,.int .i64 0,.int .i64 0,.int .i64 0,.int .i64 0,.int .i64 0,.int .i64 0,.int .i64 0,.int .i64 0,.int .i64 0,.int .i64 0] 171)).frozen? ⟨w3.heap.size,o,none⟩=false)):=
    ⟨fun o=>(World.cell?_alloc_past _ _ _ (by simp)).trans (World.cell?_alloc_at _ _ _ _ rfl),fun o=>by rw [frozen?_alloc_cells,frozen?_alloc_cells];exact frozen_past _ _ _ (Nat.le_refl _)⟩
  have hz0:=HZ0.out
  have hb1s:=HB1.out.size
  have hf3s:=HF3.out.size
  have hx3l:=HX3.out.lt
  have hg1:=HG1.out
  have hbB:Below W0.heap.size W0 ((w3.alloc (.cells (gsaC a f none 0 0 false 0 false 0 false 0) 39)).alloc (.cells #[.int .i64 0,.int .i64 0,.int .i64 0,.int .i64 0,.int .i64 0,.int .i64 0,.int .i64 0,.int .i64 0,.int .i64 0,.int .i64 0,.int .i64 0,.int .i64 0] 171)):=
    bthen (Below.trans HB1.out (HF3.out.below (by omega) (fun k hk=>by simp [Value.ownBlock] at hk) (by omega))) (bthen hbm hbi)
  have HRW:Hid ((∀ o,((w3.alloc (.cells (gsaC a f none 0 0 false 0 false 0 false 0) 39)).alloc (.cells #[.int .i64 0,.int .i64 0,.int .i64 0,.int .i64 0,.int .i64 0,.int .i64 0,.int .i64 0,.int .i64 0,.int .i64 0,.int .i64 0,.int .i64 0,.int .i64 0] 171)).cell? ⟨w.heap.size,o,none⟩=(gsaC false 0 none 0 0 false 0 false 0 false 0)[o]?)∧(∀ o,((w3.alloc (.cells (gsaC a f none 0 0 false 0 false 0 false 0) 39)).alloc (.cells #[.int .i64 0,.int .i64 0,.int .i64 0,.int .i64 0,.int .i64 0,.int .i64 0,.int .i64 0,.int .i64 0,.int .i64 0,.int .i64 0,.int .i64 0,.int .i64 0] 171)).frozen? ⟨w.heap.size,o,none⟩=false)∧Below w.heap.size w ((w3.alloc (.cells (gsaC a f none 0 0 false 0 false 0 false 0) 39)).alloc (.cells #[.int .i64 0,.int .i64 0,.int .i64 0,.int .i64 0,.int .i64 0,.int .i64 0,.int .i64 0,.int .i64 0,.int .i64 0,.int .i64 0,.int .i64 0,.int .i64 0] 171))):=
    ⟨fun o=>((bcell hbB).1 _ o (by omega)).trans (HR0.out o),fun o=>((bcell hbB).2 _ o (by omega)).trans (HR1.out o),Below.trans HB0.out (hbB.mono (by omega))⟩
  have HLT:Hid (w.heap.size < g∧g < w3.heap.size∧w3.heap.size+1 < ((w3.alloc (.cells (gsaC a f none 0 0 false 0 false 0 false 0) 39)).alloc (.cells #[.int .i64 0,.int .i64 0,.int .i64 0,.int .i64 0,.int .i64 0,.int .i64 0,.int .i64 0,.int .i64 0,.int .i64 0,.int .i64 0,.int .i64 0,.int .i64 0] 171)).heap.size):=⟨by omega,by omega,by simp⟩
  have HI0:Hid ([]++(rdIds 12 r2).1=ids∧(rdIds 12 r2).2=r3∧TkI (EyeI g r2) g (w3.heap.size+1) (idsC []) ((w3.alloc (.cells (gsaC a f none 0 0 false 0 false 0 false 0) 39)).alloc (.cells #[.int .i64 0,.int .i64 0,.int .i64 0,.int .i64 0,.int .i64 0,.int .i64 0,.int .i64 0,.int .i64 0,.int .i64 0,.int .i64 0,.int .i64 0,.int .i64 0] 171)) ((w3.alloc (.cells (gsaC a f none 0 0 false 0 false 0 false 0) 39)).alloc (.cells #[.int .i64 0,.int .i64 0,.int .i64 0,.int .i64 0,.int .i64 0,.int .i64 0,.int .i64 0,.int .i64 0,.int .i64 0,.int .i64 0,.int .i64 0,.int .i64 0] 171))):=⟨by rw [h3.out];rfl,by rw [h3.out],T0⟩
  clear hbm hzm hbi T0 hz0 hb1s hf3s hx3l hg1 hbB HX3 HF3 HB1 HG1 HR0 HR1 HZ0 HB0 HX1
  generalize hW:(w3.alloc (.cells (gsaC a f none 0 0 false 0 false 0 false 0) 39)).alloc (.cells #[.int .i64 0,.int .i64 0,.int .i64 0,.int .i64 0,.int .i64 0,.int .i64 0,.int .i64 0,.int .i64 0,.int .i64 0,.int .i64 0,.int .i64 0,.int .i64 0] 171)=W at *
  generalize hIB:w3.heap.size+1=IB at *
  generalize w3.heap.size=MB at *
  clear hW
  have HIM:Hid (MB < IB):=by show _ < _;omega
  clear hIB
  go_loopw [7,21] (fun nv iv wr=>∃ (i:Nat) (D:List Int) (s:Rd),iv=.int .i64 (i:Int)∧nv=.int .i64 (D.length:Int)∧i≤12∧D.length≤i∧Hid (D++(rdIds (12 - i) s).1=ids∧(rdIds (12 - i) s).2=r3∧TkI (EyeI g s) g IB (idsC D) W wr)) (fun _ iv _=>12 - (intOf iv).toNat)
  case atStart=>exact⟨0,[],r2,rfl,rfl,by omega,Nat.zero_le _,HI0⟩
  case round=>
    clear HI0
    obtain⟨i,D,s,rfl,rfl,hi,hDi,hI⟩:=hrel
    by_cases hlt:i < 12
    · obtain⟨b,n,s',e0⟩:∃ b n u,Hid (rdNum 1 3 0 1 255 s=((b,n),u)):=⟨_,_,_,rfl⟩
      have hst:=rdIds_step (k:=11 - i) e0.out
      rw [show 11 - i+1=12 - i from by omega,show 11 - i=12 - (i+1) from by omega] at hst
      have HST:=Lib.hid hst
      clear hst
      have i1:(i:Int) < 12:=by omega
      have i2:(0:Int)≤(i:Int):=by omega
      go_wp2_with fail
      refine (gsaid_any _).mono ?_
      rintro r x1 ⟨rfl,hb⟩
      have HT1:=Lib.hid (hI.out.2.2.keep (Y:=EyeI g s) (hI.out.2.2.x.keep hb) hb)
      clear hb
      go_wp2_with fail
      refine (eyeNum e0 HT1.out.x).mono ?_
      rintro r x2 ⟨rfl,hx,hf⟩
      have HT2:=Lib.hid (HT1.out.frm (Y:=EyeI g s') hx hf)
      clear hx hf HT1
      have hbn:=below_new x2 (.cells #[.bool b,.int .i64 n] 30)
      have hT3:=HT2.out.keep (Y:=EyeI g s') (HT2.out.x.keep hbn) hbn
      have hn0:(x2.alloc (.cells #[.bool b,.int .i64 n] 30)).cell? ⟨x2.heap.size,0,none⟩=some (.bool b):=World.cell?_alloc_at _ _ _ _ rfl
      have hn1:(x2.alloc (.cells #[.bool b,.int .i64 n] 30)).cell? ⟨x2.heap.size,1,none⟩=some (.int .i64 n):=World.cell?_alloc_at _ _ _ _ rfl
      have hc:=hT3.c D.length
      rw [idsC_zero D (by omega)] at hc
      have hfz:=hT3.z D.length
      have HT3:=Lib.hid hT3
      have i3:(0:Int)≤(D.length:Int):=by omega
      have i4:(D.length:Int) < 12:=by omega
      clear hbn hT3
      cases b with
      | false=>
        have HNX:Hid (D++(rdIds (12 - (i+1)) s').1=ids∧(rdIds (12 - (i+1)) s').2=r3∧TkI (EyeI g s') g IB (idsC D) W (x2.alloc (.cells #[.bool false,.int .i64 n] 30))):=by
          have q1:=hI.out.1
          have q2:=hI.out.2.1
          rw [HST.out] at q1 q2
          exact⟨q1,q2,HT3.out⟩
        go_wp2_with fail
        go_roundw
        case rel=>exact⟨i+1,D,s',by go_num,rfl,by omega,by omega,HNX⟩
        case measure=>simp [intOf];omega
      | true=>
        have hp:=HT3.out.put (o:=D.length) (u:=.int .i64 n) (by rw [idsC_size D (by omega)];omega) (HT3.out.x.far (by have:=HLT.out;have:=HIM.out;omega):EyeI g s' _)
        rw [idsC_put D n (by omega)] at hp
        have HNX:Hid ((D++[n])++(rdIds (12 - (i+1)) s').1=ids∧(rdIds (12 - (i+1)) s').2=r3∧TkI (EyeI g s') g IB (idsC (D++[n])) W ((x2.alloc (.cells #[.bool true,.int .i64 n] 30)).setCell ⟨IB,D.length,none⟩ (.int .i64 n))):=by
          have q1:=hI.out.1
          have q2:=hI.out.2.1
          rw [HST.out] at q1 q2
          refine⟨?_,q2,hp⟩
          rw [← q1]
          simp
        clear hp
        go_wp2_with fail
        go_roundw
        case rel=>exact⟨i+1,D++[n],s',by go_num,by simp,by omega,by simp;omega,HNX⟩
        case measure=>simp [intOf];omega
    · obtain rfl:i=12:=by omega
      have hD:D=ids:=by have:=hI.out.1;simpa [rdIds] using this
      have hs3:s=r3:=by have:=hI.out.2.1;simpa [rdIds] using this
      subst hD hs3
      have HTI:=Lib.hid hI.out.2.2
      have i3:(0:Int)≤(D.length:Int):=by omega
      have i4:(D.length:Int)≤12:=by omega
      have hT0:TkI (EyeI g s) g MB (gsaC a f none 0 0 false 0 false 0 false 0) wr wr:=⟨HTI.out.x,fun o=>(HTI.out.cell (by have:=HLT.out;have:=HIM.out;omega) (by have:=HLT.out;omega) (by have:=HIM.out;omega)).trans (HMB.out.1 o),fun o=>(HTI.out.frozen (by have:=HLT.out;have:=HIM.out;omega) (by have:=HLT.out;omega) (by have:=HIM.out;omega)).trans (HMB.out.2 o),HLT.out.2.1,by have:=HTI.out.mz;have:=HIM.out;omega,rfl,rfl,rfl,Nat.le_refl _,fun _ _ _ _=>rfl⟩
      have HIDS:Hid (∀ j,wr.cell? ⟨IB,j,none⟩=(idsC D)[j]?):=HTI.out.c
      have HIZ:Hid (IB < wr.heap.size):=HTI.out.mz
      have HRWx:Hid ((∀ o,wr.cell? ⟨w.heap.size,o,none⟩=(gsaC false 0 none 0 0 false 0 false 0 false 0)[o]?)∧(∀ o,wr.frozen? ⟨w.heap.size,o,none⟩=false)∧Below w.heap.size w wr):=
        ⟨fun o=>(HTI.out.cell (by have:=HLT.out;have:=HIM.out;omega) (by have:=HLT.out;omega) (by have:=HLT.out;have:=HIM.out;omega)).trans (HRW.out.1 o),fun o=>(HTI.out.frozen (by have:=HLT.out;have:=HIM.out;omega) (by have:=HLT.out;omega) (by have:=HLT.out;have:=HIM.out;omega)).trans (HRW.out.2.1 o),Below.trans HRW.out.2.2 (HTI.out.below (by have:=HLT.out;omega) (by have:=HLT.out;have:=HIM.out;omega))⟩
      have m2:=hT0.c 2
      have z2:=hT0.z 2
      have HT0:=Lib.hid hT0
      clear hT0 hI HRW HMB
      go_wp2_with fail
      have hp:=HT0.out.put (o:=2) (u:=.slice (some ⟨IB,0,none⟩) D.length D.length) (by simp) (HT0.out.x.far HLT.out.2.1)
      have e:∀ C:Array Value,C=gsaC a f (some ⟨IB,0,none⟩) D.length D.length false 0 false 0 false 0→TkI (EyeI g s) g MB C wr (wr.setCell ⟨MB,2,none⟩ (.slice (some ⟨IB,0,none⟩) D.length D.length)):=fun C hC=>by subst hC;exact hp
      have HT1:=Lib.hid (e _ rfl)
      clear e hp m2 z2 HT0
      generalize wr.setCell ⟨MB,2,none⟩ (.slice (some ⟨IB,0,none⟩) D.length D.length)=y0 at *
      refine (gsadop_any _).mono ?_
      rintro r x0 ⟨rfl,hb⟩
      have HT2:=Lib.hid (HT1.out.keep (Y:=EyeI g s) (HT1.out.x.keep hb) hb)
      clear hb HT1
      go_wp2_with fail
      refine (eyeNum h4 HT2.out.x).mono ?_
      rintro r y1 ⟨rfl,hx,hf⟩
      have HT1:=Lib.hid (HT2.out.frm hx hf)
      clear hx hf HT2
      go_wp2_with fail
      refine (gsadop_any _).mono ?_
      rintro r x1 ⟨rfl,hb⟩
      have HT2:=Lib.hid (HT1.out.keep (Y:=EyeI g r4) (HT1.out.x.keep hb) hb)
      clear hb HT1
      go_wp2_with fail
      refine (eyeNum h5 HT2.out.x).mono ?_
      rintro r y2 ⟨rfl,hx,hf⟩
      have HT1:=Lib.hid (HT2.out.frm hx hf)
      clear hx hf HT2
      go_wp2_with fail
      refine (gsadop_any _).mono ?_
      rintro r x2 ⟨rfl,hb⟩
      have HT2:=Lib.hid (HT1.out.keep (Y:=EyeI g r5) (HT1.out.x.keep hb) hb)
      clear hb HT1
      go_wp2_with fail
      refine (eyeNum h6 HT2.out.x).mono ?_
      rintro r y3 ⟨rfl,hx,hf⟩
      have HT1:=Lib.hid (HT2.out.frm hx hf)
      clear hx hf HT2
      have hT4:=HT1.out
      have m3:=hT4.c 3
      have z3:=hT4.z 3
      have m4:=hT4.c 4
      have z4:=hT4.z 4
      have m5:=hT4.c 5
      have z5:=hT4.z 5
      have m6:=hT4.c 6
      have z6:=hT4.z 6
      have m7:=hT4.c 7
      have z7:=hT4.z 7
      have m8:=hT4.c 8
      have z8:=hT4.z 8
      clear hT4
      go_upto_region 16 with fail
      have hx0:EyeI g r6 ((y3.setCell ⟨MB,3,none⟩ (.bool b0)).setCell ⟨MB,4,none⟩ (.int .i64 n0)):=((HT1.out.x).far (G:=MB) (o:=3) (u:=.bool b0) HLT.out.2.1).far (G:=MB) (o:=4) (u:=.int .i64 n0) HLT.out.2.1
      have hs0:TkI (EyeI g r6) g MB (gsaC a f (some ⟨IB,0,none⟩) D.length D.length b0 n0 false 0 false 0) wr ((y3.setCell ⟨MB,3,none⟩ (.bool b0)).setCell ⟨MB,4,none⟩ (.int .i64 n0)):=(HT1.out).store (o:=3) rfl rfl (fun j=>by rcases j with _ | _ | _ | _ | _ | _ | _ | _ | _ | j <;> simp) hx0
      have hx1:EyeI g r6 ((((y3.setCell ⟨MB,3,none⟩ (.bool b0)).setCell ⟨MB,4,none⟩ (.int .i64 n0)).setCell ⟨MB,5,none⟩ (.bool b1)).setCell ⟨MB,6,none⟩ (.int .i64 n1)):=((hx0).far (G:=MB) (o:=5) (u:=.bool b1) HLT.out.2.1).far (G:=MB) (o:=6) (u:=.int .i64 n1) HLT.out.2.1
      have hs1:TkI (EyeI g r6) g MB (gsaC a f (some ⟨IB,0,none⟩) D.length D.length b0 n0 b1 n1 false 0) wr ((((y3.setCell ⟨MB,3,none⟩ (.bool b0)).setCell ⟨MB,4,none⟩ (.int .i64 n0)).setCell ⟨MB,5,none⟩ (.bool b1)).setCell ⟨MB,6,none⟩ (.int .i64 n1)):=(hs0).store (o:=5) rfl rfl (fun j=>by rcases j with _ | _ | _ | _ | _ | _ | _ | _ | _ | j <;> simp) hx1
      have hx2:EyeI g r6 ((((((y3.setCell ⟨MB,3,none⟩ (.bool b0)).setCell ⟨MB,4,none⟩ (.int .i64 n0)).setCell ⟨MB,5,none⟩ (.bool b1)).setCell ⟨MB,6,none⟩ (.int .i64 n1)).setCell ⟨MB,7,none⟩ (.bool b2)).setCell ⟨MB,8,none⟩ (.int .i64 n2)):=((hx1).far (G:=MB) (o:=7) (u:=.bool b2) HLT.out.2.1).far (G:=MB) (o:=8) (u:=.int .i64 n2) HLT.out.2.1
      have hs2:TkI (EyeI g r6) g MB (gsaC a f (some ⟨IB,0,none⟩) D.length D.length b0 n0 b1 n1 b2 n2) wr ((((((y3.setCell ⟨MB,3,none⟩ (.bool b0)).setCell ⟨MB,4,none⟩ (.int .i64 n0)).setCell ⟨MB,5,none⟩ (.bool b1)).setCell ⟨MB,6,none⟩ (.int .i64 n1)).setCell ⟨MB,7,none⟩ (.bool b2)).setCell ⟨MB,8,none⟩ (.int .i64 n2)):=(hs1).store (o:=7) rfl rfl (fun j=>by rcases j with _ | _ | _ | _ | _ | _ | _ | _ | _ | j <;> simp) hx2
      have HT5:=Lib.hid hs2
      clear hs0 hs1 hs2 hx0 hx1 hx2 HT1 m3 m4 m5 m6 m7 m8 z3 z4 z5 z6 z7 z8
      generalize ((((((y3.setCell ⟨MB,3,none⟩ (.bool b0)).setCell ⟨MB,4,none⟩ (.int .i64 n0)).setCell ⟨MB,5,none⟩ (.bool b1)).setCell ⟨MB,6,none⟩ (.int .i64 n1)).setCell ⟨MB,7,none⟩ (.bool b2)).setCell ⟨MB,8,none⟩ (.int .i64 n2))=y9 at *
      have HER:=Lib.hid (eyeErr HT5.out.x)
      obtain⟨E,hE⟩:∃ E,r6.1=E:=⟨_,rfl⟩
      rw [hE] at HER HT
      clear hE
      have hIDS:∀ j,y9.cell? ⟨IB,j,none⟩=(idsC D)[j]?:=fun j=>(HT5.out.cell HIZ.out (by have:=HLT.out;have:=HIM.out;omega) (by have:=HIM.out;omega)).trans (HIDS.out j)
      have HID9:=Lib.hid hIDS
      have HIZ9:Hid (IB < y9.heap.size):=by show _ < _;have:=HT5.out.size;have:=HIZ.out;omega
      have hr:∀ j,y9.cell? ⟨w.heap.size,j,none⟩=(gsaC false 0 none 0 0 false 0 false 0 false 0)[j]?:=fun j=>(HT5.out.cell (by have:=HIZ.out;have:=HLT.out;have:=HIM.out;omega) (by have:=HLT.out;omega) (by have:=HLT.out;omega)).trans (HRWx.out.1 j)
      have hf:∀ j,y9.frozen? ⟨w.heap.size,j,none⟩=false:=fun j=>(HT5.out.frozen (by have:=HIZ.out;have:=HLT.out;have:=HIM.out;omega) (by have:=HLT.out;omega) (by have:=HLT.out;omega)).trans (HRWx.out.2.1 j)
      have HB9:Hid (Below w.heap.size w y9):=Below.trans HRWx.out.2.2 (HT5.out.below (by have:=HLT.out;omega) (by have:=HIZ.out;have:=HLT.out;have:=HIM.out;omega))
      have hm:=HT5.out.c
      have HR:=Lib.hid (show AtC y9 w.heap.size (gsaC false 0 none 0 0 false 0 false 0 false 0) from hr)
      have r_0:=hr 0
      have r_1:=hr 1
      have r_2:=hr 2
      have r_3:=hr 3
      have r_4:=hr 4
      have r_5:=hr 5
      have r_6:=hr 6
      have r_7:=hr 7
      have r_8:=hr 8
      have f_0:=hf 0
      have f_1:=hf 1
      have f_2:=hf 2
      have f_3:=hf 3
      have f_4:=hf 4
      have f_5:=hf 5
      have f_6:=hf 6
      have f_7:=hf 7
      have f_8:=hf 8
      have m_0:=hm 0
      have m_1:=hm 1
      have m_2:=hm 2
      have m_3:=hm 3
      have m_4:=hm 4
      have m_5:=hm 5
      have m_6:=hm 6
      have m_7:=hm 7
      have m_8:=hm 8
      clear hr hf hm hIDS HT5 HIDS HRWx
      go_wp2_with fail
      refine HER.out.mono ?_
      rintro r w' ⟨rfl,rfl⟩
      by_cases hE:E=0
      · subst hE
        have HX2:Hid (X=(⟨a,f,D,(b0,n0),(b1,n1),(b2,n2)⟩,0)):=HT.out.trans (if_pos rfl)
        have HNE:Hid (w.heap.size≠IB):=by show _≠_;have:=HLT.out;have:=HIM.out;omega
        clear HT
        have K:=(((((((((HR.out.set 0 (.bool a) (by simp)).set 1 (.int .i64 f) (by simp)).set 2 (.slice (some ⟨IB,0,none⟩) D.length D.length) (by simp)).set 3 (.bool b0) (by simp)).set 4 (.int .i64 n0) (by simp)).set 5 (.bool b1) (by simp)).set 6 (.int .i64 n1) (by simp)).set 7 (.bool b2) (by simp)).set 8 (.int .i64 n2) (by simp))
        have k0:=K 0
        have k1:=K 1
        have k2:=K 2
        have k3:=K 3
        have k4:=K 4
        have k5:=K 5
        have k6:=K 6
        have k7:=K 7
        have k8:=K 8
        simp at k0 k1 k2 k3 k4 k5 k6 k7 k8
        go_wp2_with fail
        refine bodyPost_ret (v:=.tuple #[gsaV a f (some ⟨IB,0,none⟩) D.length D.length b0 n0 b1 n1 b2 n2,.int .i64 0]) (by simp [results,Tryz.results45,go_sem,k0,k1,k2,k3,k4,k5,k6,k7,k8]) rfl ?_
        rw [HX2.out]
        exact⟨some ⟨IB,0,none⟩,D.length,D.length,rfl,rfl,ints_of (fun k=>((far_set HNE.out).trans (((far_set HNE.out).trans (((far_set HNE.out).trans (((far_set HNE.out).trans (((far_set HNE.out).trans (((far_set HNE.out).trans (((far_set HNE.out).trans (((far_set HNE.out).trans (((far_set HNE.out).trans (HID9.out k))))))))))))))))))) (by simpa using HIZ9.out),(below_set (below_set (below_set (below_set (below_set (below_set (below_set (below_set (below_set HB9.out (Nat.le_refl _)) (Nat.le_refl _)) (Nat.le_refl _)) (Nat.le_refl _)) (Nat.le_refl _)) (Nat.le_refl _)) (Nat.le_refl _)) (Nat.le_refl _)) (Nat.le_refl _))⟩
      · have hne:(E != 0)=true:=by rw [bne_iff_ne];exact hE
        have HX2:Hid (X=(zeroS,E)):=HT.out.trans (if_neg hE)
        clear hE HT
        have K:=(((((((((HR.out.set 0 (.bool false) (by simp)).set 1 (.int .i64 0) (by simp)).set 2 (.slice none 0 0) (by simp)).set 3 (.bool false) (by simp)).set 4 (.int .i64 0) (by simp)).set 5 (.bool false) (by simp)).set 6 (.int .i64 0) (by simp)).set 7 (.bool false) (by simp)).set 8 (.int .i64 0) (by simp))
        have k0:=K 0
        have k1:=K 1
        have k2:=K 2
        have k3:=K 3
        have k4:=K 4
        have k5:=K 5
        have k6:=K 6
        have k7:=K 7
        have k8:=K 8
        simp at k0 k1 k2 k3 k4 k5 k6 k7 k8
        go_wp2_with fail
        refine bodyPost_ret (v:=.tuple #[gsaV false 0 none 0 0 false 0 false 0 false 0,.int .i64 E]) (by simp [results,Tryz.results45,go_sem,k0,k1,k2,k3,k4,k5,k6,k7,k8]) rfl ?_
        rw [HX2.out]
        exact⟨none,0,0,rfl,rfl,fun k hk=>absurd hk (Nat.not_lt_zero _),(below_set (below_set (below_set (below_set (below_set (below_set (below_set (below_set (below_set HB9.out (Nat.le_refl _)) (Nat.le_refl _)) (Nat.le_refl _)) (Nat.le_refl _)) (Nat.le_refl _)) (Nat.le_refl _)) (Nat.le_refl _)) (Nat.le_refl _)) (Nat.le_refl _))⟩
def wrIds (l:List (Bool×Int)) (s:Rd):Rd:=l.foldl (fun s n=>wrNum 1 3 0 1 255 n s) s
def modeT (a:Bool):ByteArray:=if a=true then ⟨#[65]⟩ else ⟨#[77]⟩
def nums12 (ids:List Int):List (Bool×Int):=ids.map (fun n=>(true,n))++List.replicate (12 - ids.length) (false,0)
def putGsa (m:GsaD):List ByteArray×Int:=if 12 < m.ids.length then ([],7) else wrDone (wrNum 1 3 2 0 99999 m.p2 (wrNum 1 3 2 0 99999 m.p1 (wrNum 1 3 2 0 99999 m.p0 (wrIds (nums12 m.ids) (wrDig 1 3 m.f (wrText (modeT m.a) 0 (0,[])))))))
theorem wrIds_ok:∀ (l:List (Bool×Int)) (s:Rd),(wrIds l s).1=0→s.1=0∧∃ T:List ByteArray,T.length=l.length∧(∀ L,wrIds l (0,L)=(0,L++T))∧wrIds l s=(0,s.2++T)∧∀ R,rdIds l.length (0,T++R)=((l.filter fun x=>x.1).map (fun x=>x.2),(0,R))
  | [],s,h=>⟨h,[],rfl,fun L=>by rw [List.append_nil];rfl,by rw [List.append_nil];exact Prod.ext h rfl,fun R=>rfl⟩
  | n :: l,s,h=>by
    obtain⟨h1,T,h2,h3,h4,h5⟩:=wrIds_ok l (wrNum 1 3 0 1 255 n s) h
    obtain⟨g1,t,g2,g3,g4⟩:=wrNum_ok h1
    refine⟨g1,t :: T,by simp [h2],fun L=>?_,?_,fun R=>?_⟩
    · show wrIds l (wrNum 1 3 0 1 255 n (0,L))=_
      rw [g2,h3,List.append_assoc];rfl
    · show wrIds l (wrNum 1 3 0 1 255 n s)=_
      rw [h4,g3,List.append_assoc];rfl
    · obtain⟨b,n⟩:=n
      have:=rdIds_step (k:=l.length) (g4 (T++R))
      rw [List.length_cons,List.cons_append,this,h5]
      cases b <;> simp
theorem nums12_back (ids:List Int):((nums12 ids).filter fun x=>x.1).map (fun x=>x.2)=ids:=by
  unfold nums12
  rw [List.filter_append,List.map_append]
  have h1:(ids.map (fun n=>((true,n):Bool×Int))).filter (fun x=>x.1)=ids.map (fun n=>(true,n)):=List.filter_eq_self.2 (fun a ha=>by obtain⟨n,-,rfl⟩:=List.mem_map.1 ha;rfl)
  have h2:(List.replicate (12 - ids.length) ((false,0):Bool×Int)).filter (fun x=>x.1)=[]:=List.filter_eq_nil_iff.2 (fun a ha=>by rw [List.eq_of_mem_replicate ha];decide)
  rw [h1,h2,List.map_nil,List.append_nil,List.map_map]
  exact List.map_id _
theorem nums12_len (ids:List Int) (h:ids.length≤12):(nums12 ids).length=12:=by simp [nums12];omega
theorem rdOne_put (a:Bool) (R:List ByteArray):rdOne (0,modeT a :: R)=(a,(0,R)):=by
  unfold rdOne
  rw [rdText_cons]
  cases a
  · show (decide ((⟨#[77]⟩:ByteArray)=⟨#[65]⟩),if (⟨#[77]⟩:ByteArray)≠⟨#[65]⟩∧(⟨#[77]⟩:ByteArray)≠⟨#[77]⟩ then rdFail 3 (0,R) else (0,R))=_
    rw [if_neg (fun q=>q.2 rfl),decide_eq_false (by decide)]
  · show (decide ((⟨#[65]⟩:ByteArray)=⟨#[65]⟩),if (⟨#[65]⟩:ByteArray)≠⟨#[65]⟩∧(⟨#[65]⟩:ByteArray)≠⟨#[77]⟩ then rdFail 3 (0,R) else (0,R))=_
    rw [if_neg (fun q=>q.1 rfl),decide_eq_true rfl]
theorem gsa_put_take {m:GsaD} (h:(putGsa m).2=0):takeGsa (putGsa m).1=(m,0)∧(putGsa m).1.length=17:=by
  by_cases hl:12 < m.ids.length
  · unfold putGsa at h;rw [if_pos hl] at h;exact absurd h (by decide)
  · have hp:putGsa m=wrDone (wrNum 1 3 2 0 99999 m.p2 (wrNum 1 3 2 0 99999 m.p1 (wrNum 1 3 2 0 99999 m.p0 (wrIds (nums12 m.ids) (wrDig 1 3 m.f (wrText (modeT m.a) 0 (0,[]))))))):=if_neg hl
    rw [hp] at h ⊢
    obtain⟨h1,t2,-,h3,h4⟩:=wrNum_ok h
    obtain⟨g1,t1,-,g3,g4⟩:=wrNum_ok h1
    obtain⟨f1,t0,-,f3,f4⟩:=wrNum_ok g1
    obtain⟨e1,T,e2,-,e4,e5⟩:=wrIds_ok _ _ f1
    obtain⟨d1,-,-,-,d5,d6⟩:=wrDig_ok (by omega) (by omega) e1
    rw [nums12_len m.ids (by omega)] at e2 e5
    rw [nums12_back] at e5
    have hR:(wrDone (wrNum 1 3 2 0 99999 m.p2 (wrNum 1 3 2 0 99999 m.p1 (wrNum 1 3 2 0 99999 m.p0 (wrIds (nums12 m.ids) (wrDig 1 3 m.f (wrText (modeT m.a) 0 (0,[])))))))).1=modeT m.a :: digT m.f :: (T++[t0,t1,t2]):=by
      unfold wrDone
      rw [h3,g3,f3,e4,d5]
      simp [wrText]
    rw [hR]
    have hlen:(modeT m.a :: digT m.f :: (T++[t0,t1,t2])).length=17:=by simp [e2]
    refine⟨?_,hlen⟩
    have:=gsa_taken (R:=modeT m.a :: digT m.f :: (T++[t0,t1,t2])) hlen (Lib.hid (rdOne_put m.a _)) (Lib.hid (d6 _)) (Lib.hid (e5 _)) (Lib.hid (f4 _)) (Lib.hid (g4 _)) (Lib.hid (h4 _))
    rw [this,if_pos rfl]
def sizes (l:List ByteArray):Nat:=(l.map ByteArray.size).sum
theorem sizes_cons (t:ByteArray) (l:List ByteArray):sizes (t :: l)=t.size+sizes l:=by simp [sizes]
theorem sizes_append (l k:List ByteArray):sizes (l++k)=sizes l+sizes k:=by simp [sizes]
theorem rdIds_ok:∀ (k:Nat) (s:Rd),(rdIds k s).2.1=0→s.1=0∧∃ T R D U,s.2=T++R∧T.length=k∧rdIds k s=(D,(0,R))∧D.length≤k∧sizes U≤sizes T∧∀ L,wrIds (D.map fun n=>(true,n)) (0,L)=(0,L++U)
  | 0,s,h=>⟨h,[],s.2,[],[],rfl,rfl,Prod.ext rfl (Prod.ext h rfl),Nat.le_refl _,Nat.le_refl _,fun L=>by rw [List.append_nil];rfl⟩
  | k+1,s,h=>by
    obtain⟨h1,T,R,D,U,h2,h3,h4,h5,h6,h7⟩:=rdIds_ok k (rdNum 1 3 0 1 255 s).2 h
    obtain⟨g1,t,R1,n,g2,g3,t',g4,g5,g6⟩:=rdNum_ok h1
    obtain⟨b,n⟩:=n
    rw [g3] at h2 h4
    simp only at h2 h4
    subst h2
    have hst:=rdIds_step (k:=k) g3
    rw [h4] at hst
    have hle:=g5 rfl
    cases b with
    | true=>exact⟨g1,t :: T,R,n :: D,t' :: U,by rw [g2];rfl,by simp [h3],by rw [hst];simp,by simp;omega,by rw [sizes_cons,sizes_cons];omega,fun L=>by
        show wrIds (D.map fun n=>(true,n)) (wrNum 1 3 0 1 255 (true,n) (0,L))=_
        rw [g4,h7,List.append_assoc];rfl⟩
    | false=>exact⟨g1,t :: T,R,D,U,by rw [g2];rfl,by simp [h3],by rw [hst];simp,by omega,by rw [sizes_cons];omega,h7⟩
theorem wrIds_none (j:Nat):∀ L,wrIds (List.replicate j (false,0)) (0,L)=(0,L++List.replicate j ByteArray.empty):=by
  induction j with
  | zero=>intro L;simp [wrIds]
  | succ j ih=>
    intro L
    have h1:wrNum 1 3 0 1 255 (false,0) (0,L)=(0,L++[ByteArray.empty]):=by
      have h:putN false 0 1 3 0 1 255=(ByteArray.empty,0):=by decide +kernel
      unfold wrNum
      rw [h]
      rfl
    show wrIds (List.replicate j (false,0)) (wrNum 1 3 0 1 255 (false,0) (0,L))=_
    rw [h1,ih,List.append_assoc]
    rfl
theorem rdOne_ok {s:Rd} (h:(rdOne s).2.1=0):s.1=0∧∃ t R a,s.2=t :: R∧rdOne s=(a,(0,R))∧t.size=1:=by
  obtain⟨e,l⟩:=s
  by_cases hq:(rdText (e,l)).1≠⟨#[65]⟩∧(rdText (e,l)).1≠⟨#[77]⟩
  · unfold rdOne at h
    rw [if_pos hq] at h
    exact absurd (firstE_zero h).2 (by decide)
  · have hr:rdOne (e,l)=(decide ((rdText (e,l)).1=⟨#[65]⟩),(rdText (e,l)).2):=by unfold rdOne;rw [if_neg hq]
    rw [hr] at h
    obtain⟨h1,t,R,h2⟩:=textE_zero h
    simp only at h1 h2
    subst h1 h2
    rw [rdText_cons] at hq hr
    simp only at hq hr
    refine⟨rfl,t,R,_,rfl,hr,?_⟩
    by_cases h3:t=⟨#[65]⟩
    · rw [h3];rfl
    · by_cases h4:t=⟨#[77]⟩
      · rw [h4];rfl
      · exact absurd ⟨h3,h4⟩ hq
theorem gsa_take_put {R:List ByteArray} (h:(takeGsa R).2=0):R.length=17∧(takeGsa R).1.ids.length≤12∧(putGsa (takeGsa R).1).2=0∧sizes (putGsa (takeGsa R).1).1≤sizes R:=by
  by_cases hl:R.length=17
  · have hg:(rdGsa (0,R)).2.1=0∧takeGsa R=((rdGsa (0,R)).1,0):=by
      unfold takeGsa at h ⊢
      rw [if_neg (fun q=>q hl)] at h ⊢
      by_cases h0:(rdGsa (0,R)).2.1=0
      · rw [if_pos h0];exact⟨h0,rfl⟩
      · rw [if_neg h0] at h;exact absurd h h0
    obtain⟨h0,ht⟩:=hg
    obtain⟨f1,t5,R5,n5,f2,f3,u5,f4,f5,-⟩:=rdNum_ok h0
    obtain⟨g1,t4,R4,n4,g2,g3,u4,g4,g5,-⟩:=rdNum_ok f1
    obtain⟨k1,t3,R3,n3,k2,k3,u3,k4,k5,-⟩:=rdNum_ok g1
    obtain⟨e1,T,R2,D,U,e2,e3,e4,e5,e6,e7⟩:=rdIds_ok _ _ k1
    obtain⟨d1,t1,R1,n1,d2,d3,d4,d5,d6,d7,-⟩:=rdDig_ok (by omega) (by omega) e1
    obtain⟨-,t0,R0,a,c2,c3,c4⟩:=rdOne_ok d1
    have hr:rdGsa (0,R)=(⟨a,n1,D,n3,n4,n5⟩,(0,R5)):=by
      unfold rdGsa rdDop at *
      rw [c3] at d2 d3 e2 e4 k2 k3 g2 g3 f2 f3 ⊢
      simp only at d2 d3 e2 e4 k2 k3 g2 g3 f2 f3 ⊢
      rw [d3] at e2 e4 k2 k3 g2 g3 f2 f3 ⊢
      simp only at e2 e4 k2 k3 g2 g3 f2 f3 ⊢
      rw [e4] at k2 k3 g2 g3 f2 f3 ⊢
      simp only at k2 k3 g2 g3 f2 f3 ⊢
      rw [k3] at g2 g3 f2 f3 ⊢
      simp only at g2 g3 f2 f3 ⊢
      rw [g3] at f2 f3 ⊢
      simp only at f2 f3 ⊢
      rw [f3]
    have hRR:R=t0 :: t1 :: (T++t3 :: t4 :: t5 :: R5):=by
      unfold rdDop at *
      rw [c3] at d2 d3 e2 e4 k2 k3 g2 g3 f2 f3
      simp only at d2 d3 e2 e4 k2 k3 g2 g3 f2 f3
      rw [d3] at e2 e4 k2 k3 g2 g3 f2 f3
      simp only at e2 e4 k2 k3 g2 g3 f2 f3
      rw [e4] at k2 k3 g2 g3 f2 f3
      simp only at k2 k3 g2 g3 f2 f3
      rw [k3] at g2 g3 f2 f3
      simp only at g2 g3 f2 f3
      rw [g3] at f2 f3
      simp only at f2 f3
      simp only at c2
      rw [c2,d2,e2,k2,g2,f2]
    have hp:putGsa ⟨a,n1,D,n3,n4,n5⟩=(modeT a :: digT n1 :: (U++List.replicate (12 - D.length) ByteArray.empty++[u3,u4,u5]),0):=by
      unfold putGsa
      rw [if_neg (by show ¬ 12 < D.length;omega)]
      simp only
      have hw:wrText (modeT a) 0 (0,[])=(0,[modeT a]):=rfl
      have hi:wrIds (nums12 D) (0,[modeT a]++[digT n1])=(0,[modeT a]++[digT n1]++U++List.replicate (12 - D.length) ByteArray.empty):=by
        unfold nums12 wrIds
        rw [List.foldl_append]
        have q1:=e7 ([modeT a]++[digT n1])
        unfold wrIds at q1
        rw [q1]
        have q2:=wrIds_none (12 - D.length) ([modeT a]++[digT n1]++U)
        unfold wrIds at q2
        exact q2
      rw [hw,d7,hi,k4,g4,f4]
      simp [wrDone]
    rw [ht,hr]
    simp only
    rw [hp]
    refine⟨hl,e5,rfl,?_⟩
    have hz:∀ j,sizes (List.replicate j ByteArray.empty)=0:=fun j=>by
      induction j with
      | zero=>rfl
      | succ j ih=>rw [List.replicate_succ,sizes_cons,ih];rfl
    have hm:(modeT a).size=1:=by cases a <;> rfl
    rw [hRR]
    simp only [sizes_cons,sizes_append,hz,digT_size,hm]
    have z:sizes []=0:=rfl
    have k5':=k5 rfl
    have g5':=g5 rfl
    have f5':=f5 rfl
    omega
  · unfold takeGsa at h
    rw [if_pos hl] at h
    exact absurd h (by decide)
theorem vtg_bad {R:List ByteArray} (h:R.length≠8∧R.length≠9):takeVtg R=(zeros4,3):=by unfold takeVtg;rw [if_pos h]
theorem vtgTake_any (A:Option Addr) (R:List ByteArray) (c:Nat) (w:World) (hA:A=none→c=0) (hs:Strs w w.heap.size A R) (hn:R.length≤1000000) (hz:∀ t∈R,t.size≤1000000) :
    Calls Tryz.prog 46 #[.slice A R.length c] w (VtgPost (takeVtg R) w):=by
  by_cases h:R.length≠8∧R.length≠9
  · rw [vtg_bad h]
    exact vtgTake_bad A R.length c w (by rw [bne_iff_ne];omega) (by rw [bne_iff_ne];omega)
  · refine vtgTake_ok A R.length c R w rfl hA hs hn hz ?_ h
    rcases (by omega:R.length=8∨R.length=9) with q | q
    · exact .inl (by rw [q];rfl)
    · exact .inr ⟨by rw [q];rfl,by rw [q];rfl⟩
end Go.Proofs.YtoabkoniegmkaaaGreat
