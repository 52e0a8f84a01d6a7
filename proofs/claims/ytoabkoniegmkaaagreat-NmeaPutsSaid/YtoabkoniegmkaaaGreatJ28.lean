/- Layer 29: the reference's Put. Printed by gengsv4.py. -/
import Derived.Test.YtoabkoniegmkaaaGreatJ12
namespace Go.Proofs.YtoabkoniegmkaaaGreat
set_option linter.unusedVariables false
open Go.RowKit
theorem wrDigR_top (T N:Int) (s:Rd):wrDigR 1 (max (min T 9) 0) N s=wrDigR 1 (min T 9) N s:=by
  unfold wrDigR
  by_cases h:N < 1∨min T 9 < N
  · rw [if_pos h,if_pos (by omega)]
  · rw [if_neg h,if_neg (by omega)]
set_option maxRecDepth 8000 in
theorem r29Put_long (T N S:Int) (A:Option Addr) (n c:Nat) (w:World) (hn:(4:Int) < (n:Int)) (hm:n≤1000000):Calls Tryz.prog 40 #[gsvV T N S A n c] w (PutPost ([],7) w):=by
  go_enter Tryz.func40,Tryz.ntmps40
  go_wp2
  go_ret2
  exact⟨_,rfl,textsNone _ _ (below_new _ _)⟩
set_option maxRecDepth 8000 in
set_option maxHeartbeats 8000000 in
theorem r29Put_ok (T N S:Int) (A:Option Addr) (n c:Nat) (L:List V4) (w:World) (hn:Hid (L.length=n)) (hs:Hid (Vws w w.heap.size A L)) (h4:n≤4):Calls Tryz.prog 40 #[gsvV T N S A n c] w (PutPost (putGsv ⟨T,N,S,L⟩) w):=by
  obtain⟨s1,e1⟩:∃ s,Hid (wrDigR 1 9 T (0,[])=s):=⟨_,rfl⟩
  obtain⟨s2,e2⟩:∃ s,Hid (wrDigR 1 (max (min T 9) 0) N s1=s):=⟨_,rfl⟩
  obtain⟨s3,e3⟩:∃ s,Hid (wrNum 1 2 0 0 99 (true,S) s2=s):=⟨_,rfl⟩
  obtain⟨a3,ha3⟩:∃ a,wrNum 1 2 0 0 99 (true,S) (wrDig 1 (min T 9) N (wrDig 1 9 T (0,[])))=a:=⟨_,rfl⟩
  have HAL:Hid (Alike a3 s3):=by
    show Alike _ _
    rw [← ha3,← e3.out,← e2.out,wrDigR_top,← e1.out]
    exact (((Alike.refl _).dig _ _ _).dig _ _ _).num _ _ _ _ _ _
  have HPUT:Hid (putGsv ⟨T,N,S,L⟩=wrDone (wrViews L a3)):=by
    show _=_
    unfold putGsv
    rw [if_neg (by show ¬ 4 < L.length;rw [hn.out];omega)]
    simp only
    rw [ha3]
  clear ha3
  have l1:s1.2.length≤1:=by rw [← e1.out];exact wrDigR_len _ _ _ _
  have l2:s2.2.length≤2:=by rw [← e2.out];exact Nat.le_trans (wrDigR_len _ _ _ _) (by omega)
  have l3:s3.2.length≤3:=by rw [← e3.out,wrNum_len];omega
  rw [HPUT.out]
  clear HPUT
  obtain⟨X,hX⟩:∃ X,wrDone (wrViews L a3)=X:=⟨_,rfl⟩
  have HX:=Lib.hid hX
  rw [hX]
  clear hX
  have HM0:Hid (∀ o,(w.alloc (.cells (gsvC T N S A n c) 44)).cell? ⟨w.heap.size,o,none⟩=(gsvC T N S A n c)[o]?):=fun o=>World.cell?_alloc_at _ _ _ _ rfl
  have HB0:=Lib.hid (below_new w (.cells (gsvC T N S A n c) 44))
  have HZ0:Hid ((w.alloc (.cells (gsvC T N S A n c) 44)).heap.size=w.heap.size+1):=by show _=_;simp
  have i0:(n:Int)≤4:=by omega
  go_enter Tryz.func40,Tryz.ntmps40
  go_wp2_with fail
  generalize hW1:w.alloc (.cells (gsvC T N S A n c) 44)=W1 at *
  clear hW1
  refine (r29Cols_any _).mono ?_
  rintro r w2 ⟨rfl,hcc,hz2,hb2⟩
  have hz0:=HZ0.out
  have hb3:=below_new w2 (.cells #[.slice none 0 0,.int .i64 0,.int .i64 0] 112)
  have HR:=Lib.hid (rowNew (w:=w2))
  have HM3:Hid (∀ o,(w2.alloc (.cells #[.slice none 0 0,.int .i64 0,.int .i64 0] 112)).cell? ⟨w.heap.size,o,none⟩=(gsvC T N S A n c)[o]?):=fun o=>((bcell hb3).1 _ o (by omega)).trans (((bcell hb2).1 _ o (by omega)).trans (HM0.out o))
  have HC3:Hid (∀ o,(w2.alloc (.cells #[.slice none 0 0,.int .i64 0,.int .i64 0] 112)).cell? ⟨W1.heap.size,o,none⟩=colsG[o]?):=fun o=>((bcell hb3).1 _ o (by omega)).trans (hcc o)
  have HB3:=Lib.hid (bthen (bthen HB0.out hb2) hb3)
  have hgw:w.heap.size < W1.heap.size:=by omega
  have hgc:W1.heap.size < w2.heap.size:=by omega
  clear hz0 hz2 hb2 hb3 hcc HM0 HB0 HZ0
  generalize W1.heap.size=C at *
  go_upto_region 5 with fail
  generalize hW3:w2.alloc (.cells #[.slice none 0 0,.int .i64 0,.int .i64 0] 112)=W3 at *
  clear hW3
  generalize w2.heap.size=g at *
  obtain⟨S0,hS⟩:∃ S0,(fun k=>k < g+1)=S0:=⟨_,rfl⟩
  have sW:Hid (∀ k,k < g+1→S0 k):=fun k hk=>by rw [← hS];exact hk
  rw [hS] at HR
  clear hS
  have HK0:Hid (RowI S0 g (0,[]) W3∧Kept S0 g W3 W3):=⟨HR.out,Kept.refl _ _ _⟩
  have HS3:Hid (Vws W3 w.heap.size A L):=hs.out.below HB3.out (Nat.le_refl _)
  clear HR
  have m0:=HM3.out 0
  go_wp2_with fail
  refine (r25PutDigit_any e1 (by omega) (by omega) HK0.out.1 (by decide)).mono ?_
  rintro r x2 ⟨rfl,hp,hk⟩
  have HK2:Hid (RowI S0 g s1 x2∧Kept S0 g W3 x2):=⟨hp,HK0.out.2.trans hk⟩
  clear hp hk HK0 m0
  have m0:=(HK2.out.2.cell (b:=w.heap.size) (o:=0) (sW.out _ (by omega)) (by omega)).trans (HM3.out 0)
  have m1:=(HK2.out.2.cell (b:=w.heap.size) (o:=1) (sW.out _ (by omega)) (by omega)).trans (HM3.out 1)
  go_upto_region 6 with fail
  go_cut [] (fun wx=>Hid (RowI S0 g s2 wx∧Kept S0 g W3 wx))
  case first=>
    rcases (by omega:T < 0∨0≤T∧T≤9∨9 < T) with q | ⟨q,q2⟩ | q
    · rw [show max (min T 9) 0=0 from by omega] at e2
      have q3:T≤9:=by omega
      go_wp2_with fail
      refine (r25PutDigit_any e2 (by omega) (by omega) HK2.out.1 (by omega)).mono ?_
      rintro r x3 ⟨rfl,hp,hk⟩
      have HK3:Hid (RowI S0 g s2 x3∧Kept S0 g W3 x3):=⟨hp,HK2.out.2.trans hk⟩
      clear hp hk
      go_wp2_with fail
      go_meet
      exact HK3
    · rw [show max (min T 9) 0=T from by omega] at e2
      go_wp2_with fail
      refine (r25PutDigit_any e2 (by omega) (by omega) HK2.out.1 (by omega)).mono ?_
      rintro r x3 ⟨rfl,hp,hk⟩
      have HK3:Hid (RowI S0 g s2 x3∧Kept S0 g W3 x3):=⟨hp,HK2.out.2.trans hk⟩
      clear hp hk
      go_wp2_with fail
      go_meet
      exact HK3
    · rw [show max (min T 9) 0=9 from by omega] at e2
      go_wp2_with fail
      refine (r25PutDigit_any e2 (by omega) (by omega) HK2.out.1 (by omega)).mono ?_
      rintro r x3 ⟨rfl,hp,hk⟩
      have HK3:Hid (RowI S0 g s2 x3∧Kept S0 g W3 x3):=⟨hp,HK2.out.2.trans hk⟩
      clear hp hk
      go_wp2_with fail
      go_meet
      exact HK3
  case rest=>
  have HK4:=hcut
  clear hcut HK2 m0 m1
  have m2:=(HK4.out.2.cell (b:=w.heap.size) (o:=2) (sW.out _ (by omega)) (by omega)).trans (HM3.out 2)
  have hcc:=fun o:Nat=>(HK4.out.2.cell (b:=C) (o:=o) (sW.out _ (by omega)) (by omega)).trans (HC3.out o)
  have c0:=hcc 0
  have c1:=hcc 1
  have c2:=hcc 2
  have c3:=hcc 3
  have c4:=hcc 4
  clear hcc
  go_upto_region 7 with fail
  go_cut [] (fun wx=>Hid (RowI S0 g s3 wx∧Kept S0 g W3 wx))
  case first=>
    have HN:=fun W (hb:Below _ _ W)=>Lib.hid (rowNum e3 (HK4.out.1.keep (w':=W) hb) (by omega))
    go_region_with (go_at_call 88;refine (HN _ (bdrew (Below.refl _ _))).out.mono ?_;rintro r y3 ⟨rfl,hp3,hk3⟩)
    all_goals go_wp2_with fail
    all_goals go_meet
    all_goals exact Lib.hid ⟨hp3,HK4.out.2.trans hk3.undrew⟩
  case rest=>
  have HK5:=hcut
  clear hcut HK4 m2 c0 c1 c2 c3 c4
  have HI0:Hid (∃ sk,sk=wrViews (L.take 0) s3∧sk.2.length≤3+4 * 0∧RowI S0 g sk _∧Kept S0 g W3 _):=⟨s3,rfl,l3,HK5.out.1,HK5.out.2⟩
  clear HK5
  go_wp2_with fail
  go_loopw [6] (fun i wr=>∃ k:Nat,i=.int .i64 (k:Int)∧k≤n∧Hid (∃ sk,sk=wrViews (L.take k) s3∧sk.2.length≤3+4 * k∧RowI S0 g sk wr∧Kept S0 g W3 wr)) (fun i _=>n - (intOf i).toNat)
  case atStart=>exact⟨0,rfl,Nat.zero_le _,HI0⟩
  case round=>
    obtain⟨k,rfl,hk,hI⟩:=hrel
    obtain⟨sk,hsk,hlk,hpk,hkk⟩:=hI.out
    have m3:=(hkk.cell (b:=w.heap.size) (o:=3) (sW.out _ (by omega)) (by omega)).trans (HM3.out 3)
    by_cases hlt:k < n
    · have hkl:k < L.length:=by rw [hn.out];exact hlt
      obtain⟨b,off,hAb,hb,hc⟩:=HS3.out k hkl
      have HNX:=Lib.hid (wrViews_snoc L k hkl s3)
      rw [← hsk] at HNX
      subst hAb
      generalize L[k]=v at *
      obtain⟨⟨vb0,vn0⟩,⟨vb1,vn1⟩,⟨vb2,vn2⟩,⟨vb3,vn3⟩⟩:=v
      have HCV:Hid (∀ (j:Nat) u,(viewC ((vb0,vn0),(vb1,vn1),(vb2,vn2),(vb3,vn3)))[j]?=some u→W3.cell? ⟨b,off+k * 8+j,none⟩=some u):=fun j u hu=>by
        rw [show off+k * 8+j=off+8 * k+j from by omega]
        exact hc j u hu
      have HSB:Hid (S0 b∧b≠g):=⟨sW.out _ (by omega),by omega⟩
      have i3:(k:Int) < (n:Int):=by omega
      have i4:(0:Int)≤(k:Int):=by omega
      obtain⟨q1,f0⟩:∃ s,Hid (wrNum 1 3 0 1 255 (vb0,vn0) sk=s):=⟨_,rfl⟩
      obtain⟨q2,f1⟩:∃ s,Hid (wrNum 1 2 0 0 90 (vb1,vn1) q1=s):=⟨_,rfl⟩
      obtain⟨q3,f2⟩:∃ s,Hid (wrNum 1 3 0 0 359 (vb2,vn2) q2=s):=⟨_,rfl⟩
      obtain⟨q4,f3⟩:∃ s,Hid (wrNum 1 2 0 0 99 (vb3,vn3) q3=s):=⟨_,rfl⟩
      have HQ:Hid (q4=wrViews (L.take (k+1)) s3):=by
        show _=_
        rw [HNX.out]
        unfold wrView
        simp only
        rw [f0.out,f1.out,f2.out,f3.out]
      have lq1:q1.2.length≤4+4 * k:=by rw [← f0.out,wrNum_len];omega
      have lq2:q2.2.length≤5+4 * k:=by rw [← f1.out,wrNum_len];omega
      have lq3:q3.2.length≤6+4 * k:=by rw [← f2.out,wrNum_len];omega
      have lq4:q4.2.length≤7+4 * k:=by rw [← f3.out,wrNum_len];omega
      have HK0:Hid (RowI S0 g sk wr∧Kept S0 g W3 wr):=⟨hpk,hkk⟩
      clear hc hpk hkk hI HI0 hsk
      go_upto_region 11 with fail
      clear m3
      have m3:=(HK0.out.2.cell (b:=w.heap.size) (o:=3) (sW.out _ (by omega)) (by omega)).trans (HM3.out 3)
      have x0:=(HK0.out.2.cell (b:=b) (o:=off+k * 8+0) HSB.out.1 HSB.out.2).trans (HCV.out 0 _ rfl)
      have x1:=(HK0.out.2.cell (b:=b) (o:=off+k * 8+1) HSB.out.1 HSB.out.2).trans (HCV.out 1 _ rfl)
      have hcc:=fun o:Nat=>(HK0.out.2.cell (b:=C) (o:=o) (sW.out _ (by omega)) (by omega)).trans (HC3.out o)
      have c0:=hcc 5
      have c1:=hcc 6
      have c2:=hcc 7
      have c3:=hcc 8
      have c4:=hcc 9
      clear hcc
      have HN:=fun W (hb:Below _ _ W)=>Lib.hid (rowNum f0 (HK0.out.1.keep (w':=W) hb) (by omega))
      simp only [Nat.add_zero] at x0
      go_cut [] (fun wx=>Hid (RowI S0 g q1 wx∧Kept S0 g W3 wx))
      case first=>
        go_region_with (go_at_call 88;refine (HN _ (bdrew (Below.refl _ _))).out.mono ?_;rintro r y3 ⟨rfl,hp3,hk3⟩)
        all_goals go_wp2_with fail
        all_goals go_meet
        all_goals exact Lib.hid ⟨hp3,HK0.out.2.trans hk3.undrew⟩
      case rest=>
      have HK1:=hcut
      clear hcut HK0 m3 x0 x1 c0 c1 c2 c3 c4 HN
      go_upto_region 12 with fail
      have HK0:=HK1
      clear HK1
      have m3:=(HK0.out.2.cell (b:=w.heap.size) (o:=3) (sW.out _ (by omega)) (by omega)).trans (HM3.out 3)
      have x0:=(HK0.out.2.cell (b:=b) (o:=off+k * 8+2) HSB.out.1 HSB.out.2).trans (HCV.out 2 _ rfl)
      have x1:=(HK0.out.2.cell (b:=b) (o:=off+k * 8+3) HSB.out.1 HSB.out.2).trans (HCV.out 3 _ rfl)
      have hcc:=fun o:Nat=>(HK0.out.2.cell (b:=C) (o:=o) (sW.out _ (by omega)) (by omega)).trans (HC3.out o)
      have c0:=hcc 10
      have c1:=hcc 11
      have c2:=hcc 12
      have c3:=hcc 13
      have c4:=hcc 14
      clear hcc
      have HN:=fun W (hb:Below _ _ W)=>Lib.hid (rowNum f1 (HK0.out.1.keep (w':=W) hb) (by omega))
      go_cut [] (fun wx=>Hid (RowI S0 g q2 wx∧Kept S0 g W3 wx))
      case first=>
        go_region_with (go_at_call 88;refine (HN _ (bdrew (Below.refl _ _))).out.mono ?_;rintro r y3 ⟨rfl,hp3,hk3⟩)
        all_goals go_wp2_with fail
        all_goals go_meet
        all_goals exact Lib.hid ⟨hp3,HK0.out.2.trans hk3.undrew⟩
      case rest=>
      have HK1:=hcut
      clear hcut HK0 m3 x0 x1 c0 c1 c2 c3 c4 HN
      go_upto_region 13 with fail
      have HK0:=HK1
      clear HK1
      have m3:=(HK0.out.2.cell (b:=w.heap.size) (o:=3) (sW.out _ (by omega)) (by omega)).trans (HM3.out 3)
      have x0:=(HK0.out.2.cell (b:=b) (o:=off+k * 8+4) HSB.out.1 HSB.out.2).trans (HCV.out 4 _ rfl)
      have x1:=(HK0.out.2.cell (b:=b) (o:=off+k * 8+5) HSB.out.1 HSB.out.2).trans (HCV.out 5 _ rfl)
      have hcc:=fun o:Nat=>(HK0.out.2.cell (b:=C) (o:=o) (sW.out _ (by omega)) (by omega)).trans (HC3.out o)
      have c0:=hcc 15
      have c1:=hcc 16
      have c2:=hcc 17
      have c3:=hcc 18
      have c4:=hcc 19
      clear hcc
      have HN:=fun W (hb:Below _ _ W)=>Lib.hid (rowNum f2 (HK0.out.1.keep (w':=W) hb) (by omega))
      go_cut [] (fun wx=>Hid (RowI S0 g q3 wx∧Kept S0 g W3 wx))
      case first=>
        go_region_with (go_at_call 88;refine (HN _ (bdrew (Below.refl _ _))).out.mono ?_;rintro r y3 ⟨rfl,hp3,hk3⟩)
        all_goals go_wp2_with fail
        all_goals go_meet
        all_goals exact Lib.hid ⟨hp3,HK0.out.2.trans hk3.undrew⟩
      case rest=>
      have HK1:=hcut
      clear hcut HK0 m3 x0 x1 c0 c1 c2 c3 c4 HN
      go_upto_region 14 with fail
      have HK0:=HK1
      clear HK1
      have m3:=(HK0.out.2.cell (b:=w.heap.size) (o:=3) (sW.out _ (by omega)) (by omega)).trans (HM3.out 3)
      have x0:=(HK0.out.2.cell (b:=b) (o:=off+k * 8+6) HSB.out.1 HSB.out.2).trans (HCV.out 6 _ rfl)
      have x1:=(HK0.out.2.cell (b:=b) (o:=off+k * 8+7) HSB.out.1 HSB.out.2).trans (HCV.out 7 _ rfl)
      have hcc:=fun o:Nat=>(HK0.out.2.cell (b:=C) (o:=o) (sW.out _ (by omega)) (by omega)).trans (HC3.out o)
      have c0:=hcc 20
      have c1:=hcc 21
      have c2:=hcc 22
      have c3:=hcc 23
      have c4:=hcc 24
      clear hcc
      have HN:=fun W (hb:Below _ _ W)=>Lib.hid (rowNum f3 (HK0.out.1.keep (w':=W) hb) (by omega))
      go_region_with (go_at_call 88;refine (HN _ (bdrew (Below.refl _ _))).out.mono ?_;rintro r y3 ⟨rfl,hp3,hk3⟩)
      all_goals go_wp2_with fail
      all_goals have HK1:=Lib.hid (show RowI S0 g q4 _∧Kept S0 g W3 _ from ⟨hp3,HK0.out.2.trans hk3.undrew⟩)
      all_goals go_roundw
      all_goals first | exact⟨k+1,by go_num,by omega,Lib.hid ⟨q4,HQ.out,by omega,HK1.out.1,HK1.out.2⟩⟩ | (simp [intOf];omega)
    · have i3:(n:Int)≤(k:Int):=by omega
      have hkn:k=n:=by omega
      have hal:∀ (l:List V4) (a b:Rd),Alike a b→Alike (wrViews l a) (wrViews l b):=fun l=>by
        induction l with
        | nil=>exact fun a b h=>h
        | cons v l ih=>exact fun a b h=>ih _ _ (h.view v)
      have hX2:wrDone sk=X:=by
        rw [hsk,List.take_of_length_le (by rw [hn.out];omega),← (hal L _ _ HAL.out).done]
        exact HX.out
      have HX2:=Lib.hid hX2
      have HB6:Hid (Below w.heap.size w wr):=Below.trans HB3.out (hkk.below (by omega) (fun k hk=>sW.out k (by omega)))
      have HD:=Lib.hid (rowDone hpk (by omega))
      clear hI HI0 hsk hpk hkk hX2 hlk hal
      go_wp2_with fail
      refine HD.out.mono ?_
      intro r w7 h7
      have h8:=DonePost.put HB6.out h7
      rw [HX2.out] at h8
      obtain⟨v,rfl,h9⟩:=h8
      clear h7
      have H9:=Lib.hid h9
      clear h9
      go_wp2_with fail
      go_ret2
      exact⟨v,rfl,H9.out⟩
theorem r29Put_any (T N S:Int) (A:Option Addr) (c:Nat) (L:List V4) (w:World) (hs:Vws w w.heap.size A L) (hm:L.length≤1000000):Calls Tryz.prog 40 #[gsvV T N S A L.length c] w (PutPost (putGsv ⟨T,N,S,L⟩) w):=by
  by_cases h:4 < L.length
  · have:putGsv ⟨T,N,S,L⟩=([],7):=if_pos h
    rw [this]
    exact r29Put_long T N S A L.length c w (by omega) hm
  · exact r29Put_ok T N S A L.length c L w rfl hs (by omega)
end Go.Proofs.YtoabkoniegmkaaaGreat
