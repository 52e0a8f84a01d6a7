/- Layer 29: Put. Printed by gengsv3.py. -/
import Derived.Test.YtoabkoniegmkaaaGreatJ09
import Derived.Test.YtoabkoniegmkaaaGreatJ11
import Derived.Test.YtoabkoniegmkaaaGreatJ00
import Derived.Deep.RegionHeld3
import Derived.Lib.SliceRun
import Derived.Test.YtoabkoniegmkaaaGreatJ10
import Derived.Deep.QuietTactic
namespace Go.Proofs.YtoabkoniegmkaaaGreat
set_option linter.unusedVariables false
open Go.RowKit
def viewC (v:V4):List Value:=[.bool v.1.1,.int .i64 v.1.2,.bool v.2.1.1,.int .i64 v.2.1.2,.bool v.2.2.1.1,.int .i64 v.2.2.1.2,.bool v.2.2.2.1,.int .i64 v.2.2.2.2]
def Vws (w:World) (B:Nat) (A:Option Addr) (l:List V4):Prop:=
  ∀ k (hk:k < l.length),∃ b off,A=some ⟨b,off,none⟩∧b < B∧∀ (j:Nat) u,(viewC l[k])[j]?=some u→w.cell? ⟨b,off+8 * k+j,none⟩=some u
theorem Vws.below {w w':World} {B B':Nat} {A:Option Addr} {l:List V4} (h:Vws w B A l) (hb:Below B' w w') (hB:B≤B'):Vws w' B A l:=by
  intro k hk
  obtain⟨b,off,h1,h2,h3⟩:=h k hk
  exact⟨b,off,h1,h2,fun j u hu=>(hb.cell (p:=⟨b,off+8 * k+j,none⟩) (by show b < B';omega)).trans (h3 j u hu)⟩
theorem Vws.more {w:World} {B B':Nat} {A:Option Addr} {l:List V4} (h:Vws w B A l) (hB:B≤B'):Vws w B' A l:=by
  intro k hk
  obtain⟨b,off,h1,h2,h3⟩:=h k hk
  exact⟨b,off,h1,by omega,h3⟩
abbrev gsvC (T N S:Int) (A:Option Addr) (n c:Nat):Array Value:=#[.int .i64 T,.int .i64 N,.int .i64 S,.slice A n c]
abbrev gsvV (T N S:Int) (A:Option Addr) (n c:Nat):Value:=.agg (gsvC T N S A n c)
theorem wrDigR_len (lo hi n:Int) (s:Rd):(wrDigR lo hi n s).2.length≤s.2.length+1:=by
  unfold wrDigR
  split
  · exact Nat.le_succ _
  · rw [wrText_len];exact Nat.le_refl _
theorem wrViews_snoc (l:List V4) (k:Nat) (h:k < l.length) (s:Rd):wrViews (l.take (k+1)) s=wrView l[k] (wrViews (l.take k) s):=by
  unfold wrViews
  rw [List.take_succ_eq_append_getElem h,List.foldl_append]
  rfl
theorem textsNone (w w':World) (hb:Below w.heap.size w w'):TextsPost [] w (.slice none 0 0) w':=⟨none,0,rfl,fun _=>rfl,fun k hk=>absurd hk (by simp),FreshA.none_,hb⟩
set_option maxRecDepth 8000 in
theorem gsvPut_long (T N S:Int) (A:Option Addr) (n c:Nat) (w:World) (hn:(4:Int) < (n:Int)) (hm:n≤1000000):Calls Tryz.prog 281 #[gsvV T N S A n c] w (PutPost ([],7) w):=by
  go_enter Tryz.func281,Tryz.ntmps281
  go_wp2
  go_ret2
  exact⟨_,rfl,textsNone _ _ (below_new _ _)⟩
set_option maxRecDepth 8000 in
set_option maxHeartbeats 8000000 in
theorem gsvPut_ok (T N S:Int) (A:Option Addr) (n c:Nat) (L:List V4) (w:World) (hn:Hid (L.length=n)) (hs:Hid (Vws w w.heap.size A L)) (h4:n≤4):Calls Tryz.prog 281 #[gsvV T N S A n c] w (PutPost (putGsv ⟨T,N,S,L⟩) w):=by
  obtain⟨s1,e1⟩:∃ s,Hid (wrText (digS 1 9 T) (digE 1 9 T) (0,[])=s):=⟨_,rfl⟩
  obtain⟨s2,e2⟩:∃ s,Hid (wrText (digS 1 (min T 9) N) (digE 1 (min T 9) N) s1=s):=⟨_,rfl⟩
  obtain⟨s3,e3⟩:∃ s,Hid (wrNum 1 2 0 0 99 (true,S) s2=s):=⟨_,rfl⟩
  have HPUT:Hid (putGsv ⟨T,N,S,L⟩=wrDone (wrViews L s3)):=by
    show _=_
    unfold putGsv
    rw [if_neg (by show ¬ 4 < L.length;rw [hn.out];omega)]
    simp only
    rw [wrDig_text 1 9,e1.out,wrDig_text,e2.out,e3.out]
  have l1:s1.2.length=1:=by rw [← e1.out,wrText_len];rfl
  have l2:s2.2.length=2:=by rw [← e2.out,wrText_len,l1]
  have l3:s3.2.length=3:=by rw [← e3.out,wrNum_len,l2]
  rw [HPUT.out]
  clear HPUT
  obtain⟨X,hX⟩:∃ X,wrDone (wrViews L s3)=X:=⟨_,rfl⟩
  have HX:=Lib.hid hX
  rw [hX]
  clear hX
  have HD1:∀ W,Hid (Calls Tryz.prog 282 #[.int .i64 T,.int .i64 9] W fun e w'=>e=.returned (.tuple #[.string (digS 1 9 T),.int .i64 (digE 1 9 T)])∧Below W.heap.size W w'):=fun W=>gsvdigit_any T 9 W
  have HD2:=fun W=>Lib.hid (gsvdigit_any N T W)
  have HM0:Hid (∀ o,(w.alloc (.cells (gsvC T N S A n c) 44)).cell? ⟨w.heap.size,o,none⟩=(gsvC T N S A n c)[o]?):=fun o=>World.cell?_alloc_at _ _ _ _ rfl
  have HB0:=Lib.hid (below_new w (.cells (gsvC T N S A n c) 44))
  have HZ0:Hid ((w.alloc (.cells (gsvC T N S A n c) 44)).heap.size=w.heap.size+1):=by show _=_;simp
  have i0:(n:Int)≤4:=by omega
  go_enter Tryz.func281,Tryz.ntmps281
  go_wp2_with fail
  generalize hW1:w.alloc (.cells (gsvC T N S A n c) 44)=W1 at *
  clear hW1
  refine penRow.mono ?_
  rintro r w2 ⟨rfl,hp2,hb2,hz2⟩
  have hz0:=HZ0.out
  have HM:Hid (∀ o,w2.cell? ⟨w.heap.size,o,none⟩=(gsvC T N S A n c)[o]?):=fun o=>((bcell hb2).1 _ o (by omega)).trans (HM0.out o)
  have HB2:=Lib.hid (bthen HB0.out (hb2.mono (by omega:w.heap.size+1≤W1.heap.size) |>.mono (by omega:w.heap.size+1≤w.heap.size+1) |> fun h=>(by rw [hz0];exact h)))
  have HS2:Hid (Vws w2 w.heap.size A L):=hs.out.below HB2.out (Nat.le_refl _)
  obtain⟨S0,hS⟩:∃ S0,(fun k=>k < W1.heap.size+1)=S0:=⟨_,rfl⟩
  have sW:Hid (∀ k,k < W1.heap.size+1→S0 k):=fun k hk=>by rw [← hS];exact hk
  rw [hS] at hp2
  have HK0:Hid (PenI S0 W1.heap.size (0,[]) w2∧Kept S0 W1.heap.size w2 w2):=⟨hp2,Kept.refl _ _ _⟩
  have hgw:w.heap.size < W1.heap.size:=by omega
  clear hp2 hb2 hz2 hS HM0 HB0 HZ0 hz0
  generalize W1.heap.size=g at *
  have m0:=HM.out 0
  go_wp2_with fail
  refine (HD1 _).out.mono ?_
  rintro r x1 ⟨rfl,hb⟩
  have hk:=Kept.of_below (S:=S0) (g:=g) hb HK0.out.1.bd
  have HK1:Hid (PenI S0 g (0,[]) x1∧Kept S0 g w2 x1):=⟨HK0.out.1.keep hb,HK0.out.2.trans hk⟩
  clear hb hk HK0 m0
  go_wp2_with fail
  refine (penText e1 HK1.out.1 (by decide)).mono ?_
  rintro r x2 ⟨rfl,hp,hk⟩
  have HK2:Hid (PenI S0 g s1 x2∧Kept S0 g w2 x2):=⟨hp,HK1.out.2.trans hk⟩
  clear hp hk HK1
  have m0:=(HK2.out.2.cell (b:=w.heap.size) (o:=0) (sW.out _ (by omega)) (by omega)).trans (HM.out 0)
  have m1:=(HK2.out.2.cell (b:=w.heap.size) (o:=1) (sW.out _ (by omega)) (by omega)).trans (HM.out 1)
  go_wp2_with fail
  refine (HD2 _).out.mono ?_
  rintro r x3 ⟨rfl,hb⟩
  have hk:=Kept.of_below (S:=S0) (g:=g) hb HK2.out.1.bd
  have HK3:Hid (PenI S0 g s1 x3∧Kept S0 g w2 x3):=⟨HK2.out.1.keep hb,HK2.out.2.trans hk⟩
  clear hb hk HK2 m0 m1
  go_wp2_with fail
  refine (penText e2 HK3.out.1 (by omega)).mono ?_
  rintro r x4 ⟨rfl,hp,hk⟩
  have HK4:Hid (PenI S0 g s2 x4∧Kept S0 g w2 x4):=⟨hp,HK3.out.2.trans hk⟩
  clear hp hk HK3
  have m2:=(HK4.out.2.cell (b:=w.heap.size) (o:=2) (sW.out _ (by omega)) (by omega)).trans (HM.out 2)
  go_upto_region 6 with fail
  go_cut [] (fun wx=>Hid (PenI S0 g s3 wx∧Kept S0 g w2 wx))
  case first=>
    go_region_with (first | (go_at_call 138;refine (gsvseen_any _).mono ?_;rintro r y1 ⟨rfl,hb2⟩;have k2:=Lib.hid (Kept.undrew (Kept.of_below (S:=S0) (g:=g) hb2 HK4.out.1.bd));have R2:=Lib.hid (HK4.out.1.keep (w':=y1) (Below.trans (bdrew (Below.refl _ _)) hb2));have q2:=(k2.out.cell (b:=w.heap.size) (o:=2) (sW.out _ (by omega)) (by omega)).trans m2) | (go_at_call 228;refine (penNum e3 R2.out (by omega)).mono ?_;rintro r y3 ⟨rfl,hp3,hk3⟩))
    all_goals go_wp2_with fail
    all_goals go_meet
    all_goals exact Lib.hid ⟨hp3,HK4.out.2.trans (k2.out.trans hk3)⟩
  case rest=>
  have HK5:=hcut
  clear hcut HK4 m2
  have m3:=(HK5.out.2.cell (b:=w.heap.size) (o:=3) (sW.out _ (by omega)) (by omega)).trans (HM.out 3)
  go_wp2_with fail
  have HZ2:Hid (w.heap.size < g):=by show _ < _;omega
  have HI0:Hid (∃ sk,sk=wrViews (L.take 0) s3∧sk.2.length=3+4 * 0∧PenI S0 g sk _∧Kept S0 g w2 _):=⟨s3,rfl,l3,HK5.out.1,HK5.out.2⟩
  clear HK5 m3
  go_loopw [37] (fun i wr=>∃ k:Nat,i=.int .i64 (k:Int)∧k≤n∧Hid (∃ sk,sk=wrViews (L.take k) s3∧sk.2.length=3+4 * k∧PenI S0 g sk wr∧Kept S0 g w2 wr)) (fun i _=>n - (intOf i).toNat)
  case atStart=>exact⟨0,rfl,Nat.zero_le _,HI0⟩
  case round=>
    obtain⟨k,rfl,hk,hI⟩:=hrel
    obtain⟨sk,hsk,hlk,hpk,hkk⟩:=hI.out
    by_cases hlt:k < n
    · have hkl:k < L.length:=by rw [hn.out];exact hlt
      obtain⟨b,off,hAb,hb,hc⟩:=HS2.out k hkl
      have HNX:=Lib.hid (wrViews_snoc L k hkl s3)
      rw [← hsk] at HNX
      subst hAb
      generalize L[k]=v at *
      obtain⟨⟨vb0,vn0⟩,⟨vb1,vn1⟩,⟨vb2,vn2⟩,⟨vb3,vn3⟩⟩:=v
      have hc1:∀ (j:Nat) u,(viewC ((vb0,vn0),(vb1,vn1),(vb2,vn2),(vb3,vn3)))[j]?=some u→wr.cell? ⟨b,off+k * 8+j,none⟩=some u:=fun j u hu=>by
        rw [show off+k * 8+j=off+8 * k+j from by omega]
        exact (hkk.cell (sW.out _ (by have:=HZ2.out;omega)) (by have:=HZ2.out;omega)).trans (hc j u hu)
      have x0:wr.cell? ⟨b,off+k * 8,none⟩=some (.bool vb0):=hc1 0 _ rfl
      have x1:=hc1 1 _ rfl
      have x2:=hc1 2 _ rfl
      have x3:=hc1 3 _ rfl
      have x4:=hc1 4 _ rfl
      have x5:=hc1 5 _ rfl
      have x6:=hc1 6 _ rfl
      have x7:=hc1 7 _ rfl
      have i3:(k:Int) < (n:Int):=by omega
      have i4:(0:Int)≤(k:Int):=by omega
      obtain⟨q1,f0⟩:∃ s,Hid (wrNum 1 3 0 1 255 (vb0,vn0) sk=s):=⟨_,rfl⟩
      obtain⟨q2,f1⟩:∃ s,Hid (wrNum 1 2 0 0 90 (vb1,vn1) q1=s):=⟨_,rfl⟩
      obtain⟨q3,f2⟩:∃ s,Hid (wrNum 1 3 0 0 359 (vb2,vn2) q2=s):=⟨_,rfl⟩
      obtain⟨q4,f3⟩:∃ s,Hid (wrNum 1 2 0 0 99 (vb3,vn3) q3=s):=⟨_,rfl⟩
      have HQ:Hid (q4=wrViews (L.take (k+1)) s3):=by
        show _=_
        rw [HNX.out]
        unfold wrView
        simp only
        rw [f0.out,f1.out,f2.out,f3.out]
      have lq1:q1.2.length=4+4 * k:=by rw [← f0.out,wrNum_len];omega
      have lq2:q2.2.length=5+4 * k:=by rw [← f1.out,wrNum_len];omega
      have lq3:q3.2.length=6+4 * k:=by rw [← f2.out,wrNum_len];omega
      have lq4:q4.2.length=7+4 * k:=by rw [← f3.out,wrNum_len];omega
      have hb9:=below_new wr (.cells #[.bool vb0,.int .i64 vn0,.bool vb1,.int .i64 vn1,.bool vb2,.int .i64 vn2,.bool vb3,.int .i64 vn3] 107)
      have hp9:=hpk.also hb9
      have hcv:∀ o,(wr.alloc (.cells #[.bool vb0,.int .i64 vn0,.bool vb1,.int .i64 vn1,.bool vb2,.int .i64 vn2,.bool vb3,.int .i64 vn3] 107)).cell? ⟨wr.heap.size,o,none⟩=(#[Value.bool vb0,.int .i64 vn0,.bool vb1,.int .i64 vn1,.bool vb2,.int .i64 vn2,.bool vb3,.int .i64 vn3]:Array Value)[o]?:=fun o=>World.cell?_alloc_at _ _ _ _ rfl
      have hk9:Kept S0 g wr (wr.alloc (.cells #[.bool vb0,.int .i64 vn0,.bool vb1,.int .i64 vn1,.bool vb2,.int .i64 vn2,.bool vb3,.int .i64 vn3] 107)):=Kept.of_below hb9 hpk.bd
      have hsv:Also S0 wr (wr.alloc (.cells #[.bool vb0,.int .i64 vn0,.bool vb1,.int .i64 vn1,.bool vb2,.int .i64 vn2,.bool vb3,.int .i64 vn3] 107)) wr.heap.size:=.inr ⟨Nat.le_refl _,by simp⟩
      have hgr:g < wr.heap.size:=hpk.choose_spec.1.2.2.2.2.1
      have HKK:=Lib.hid (hkk.trans hk9)
      have HLS:Hid (∀ k,S0 k→Also S0 wr (wr.alloc (.cells #[.bool vb0,.int .i64 vn0,.bool vb1,.int .i64 vn1,.bool vb2,.int .i64 vn2,.bool vb3,.int .i64 vn3] 107)) k):=fun k hk=>.inl hk
      have HCV:=Lib.hid hcv
      have HSV:=Lib.hid hsv
      have HGR:Hid (wr.heap.size≠g):=by show _≠_;omega
      have HP9:=Lib.hid hp9
      clear hc hc1 hb9 hp9 hcv hk9 hsv hgr hpk hkk hI HI0 hsk
      go_upto_region 10 with fail
      generalize hS1:Also S0 wr (wr.alloc (.cells #[.bool vb0,.int .i64 vn0,.bool vb1,.int .i64 vn1,.bool vb2,.int .i64 vn2,.bool vb3,.int .i64 vn3] 107))=S1 at *
      generalize hW9:wr.alloc (.cells #[.bool vb0,.int .i64 vn0,.bool vb1,.int .i64 vn1,.bool vb2,.int .i64 vn2,.bool vb3,.int .i64 vn3] 107)=W9 at *
      generalize hV:wr.heap.size=V at *
      clear x0 x1 x2 x3 x4 x5 x6 x7 hS1 hW9
      have HK0:Hid (PenI S1 g sk W9∧Kept S1 g W9 W9):=⟨HP9.out,Kept.refl _ _ _⟩
      clear HP9
      have m0:=(HK0.out.2.cell (b:=V) (o:=0) HSV.out HGR.out).trans (HCV.out 0)
      have m1:=(HK0.out.2.cell (b:=V) (o:=1) HSV.out HGR.out).trans (HCV.out 1)
      go_cut [] (fun wx=>Hid (PenI S1 g q1 wx∧Kept S1 g W9 wx))
      case first=>
        go_region_with (first | (go_at_call 139;refine (gsvid_any _).mono ?_;rintro r y1 ⟨rfl,hb2⟩;have k2:=Lib.hid (Kept.undrew (Kept.of_below (S:=S1) (g:=g) hb2 HK0.out.1.bd));have R2:=Lib.hid (HK0.out.1.keep (w':=y1) (Below.trans (bdrew (Below.refl _ _)) hb2));have z0:=(k2.out.cell (b:=V) (o:=0) HSV.out HGR.out).trans m0;have z1:=(k2.out.cell (b:=V) (o:=1) HSV.out HGR.out).trans m1) | (go_at_call 228;refine (penNum f0 R2.out (by omega)).mono ?_;rintro r y3 ⟨rfl,hp3,hk3⟩))
        all_goals go_wp2_with fail
        all_goals go_meet
        all_goals exact Lib.hid ⟨hp3,HK0.out.2.trans (k2.out.trans hk3)⟩
      case rest=>
      have HK1:=hcut
      clear hcut HK0 m0 m1
      go_upto_region 11 with fail
      have HK0:=HK1
      clear HK1
      have m0:=(HK0.out.2.cell (b:=V) (o:=2) HSV.out HGR.out).trans (HCV.out 2)
      have m1:=(HK0.out.2.cell (b:=V) (o:=3) HSV.out HGR.out).trans (HCV.out 3)
      go_cut [] (fun wx=>Hid (PenI S1 g q2 wx∧Kept S1 g W9 wx))
      case first=>
        go_region_with (first | (go_at_call 140;refine (gsvelev_any _).mono ?_;rintro r y1 ⟨rfl,hb2⟩;have k2:=Lib.hid (Kept.undrew (Kept.of_below (S:=S1) (g:=g) hb2 HK0.out.1.bd));have R2:=Lib.hid (HK0.out.1.keep (w':=y1) (Below.trans (bdrew (Below.refl _ _)) hb2));have z0:=(k2.out.cell (b:=V) (o:=2) HSV.out HGR.out).trans m0;have z1:=(k2.out.cell (b:=V) (o:=3) HSV.out HGR.out).trans m1) | (go_at_call 228;refine (penNum f1 R2.out (by omega)).mono ?_;rintro r y3 ⟨rfl,hp3,hk3⟩))
        all_goals go_wp2_with fail
        all_goals go_meet
        all_goals exact Lib.hid ⟨hp3,HK0.out.2.trans (k2.out.trans hk3)⟩
      case rest=>
      have HK1:=hcut
      clear hcut HK0 m0 m1
      go_upto_region 12 with fail
      have HK0:=HK1
      clear HK1
      have m0:=(HK0.out.2.cell (b:=V) (o:=4) HSV.out HGR.out).trans (HCV.out 4)
      have m1:=(HK0.out.2.cell (b:=V) (o:=5) HSV.out HGR.out).trans (HCV.out 5)
      go_cut [] (fun wx=>Hid (PenI S1 g q3 wx∧Kept S1 g W9 wx))
      case first=>
        go_region_with (first | (go_at_call 141;refine (gsvazim_any _).mono ?_;rintro r y1 ⟨rfl,hb2⟩;have k2:=Lib.hid (Kept.undrew (Kept.of_below (S:=S1) (g:=g) hb2 HK0.out.1.bd));have R2:=Lib.hid (HK0.out.1.keep (w':=y1) (Below.trans (bdrew (Below.refl _ _)) hb2));have z0:=(k2.out.cell (b:=V) (o:=4) HSV.out HGR.out).trans m0;have z1:=(k2.out.cell (b:=V) (o:=5) HSV.out HGR.out).trans m1) | (go_at_call 228;refine (penNum f2 R2.out (by omega)).mono ?_;rintro r y3 ⟨rfl,hp3,hk3⟩))
        all_goals go_wp2_with fail
        all_goals go_meet
        all_goals exact Lib.hid ⟨hp3,HK0.out.2.trans (k2.out.trans hk3)⟩
      case rest=>
      have HK1:=hcut
      clear hcut HK0 m0 m1
      go_upto_region 13 with fail
      have HK0:=HK1
      clear HK1
      have m0:=(HK0.out.2.cell (b:=V) (o:=6) HSV.out HGR.out).trans (HCV.out 6)
      have m1:=(HK0.out.2.cell (b:=V) (o:=7) HSV.out HGR.out).trans (HCV.out 7)
      go_region_with (first | (go_at_call 142;refine (gsvlevel_any _).mono ?_;rintro r y1 ⟨rfl,hb2⟩;have k2:=Lib.hid (Kept.undrew (Kept.of_below (S:=S1) (g:=g) hb2 HK0.out.1.bd));have R2:=Lib.hid (HK0.out.1.keep (w':=y1) (Below.trans (bdrew (Below.refl _ _)) hb2));have z0:=(k2.out.cell (b:=V) (o:=6) HSV.out HGR.out).trans m0;have z1:=(k2.out.cell (b:=V) (o:=7) HSV.out HGR.out).trans m1) | (go_at_call 228;refine (penNum f3 R2.out (by omega)).mono ?_;rintro r y3 ⟨rfl,hp3,hk3⟩))
      all_goals go_wp2_with fail
      all_goals have HK1:=Lib.hid (show PenI S1 g q4 _∧Kept S1 g W9 _ from ⟨hp3,HK0.out.2.trans (k2.out.trans hk3)⟩)
      all_goals go_roundw
      all_goals first | exact⟨k+1,by go_num,by omega,Lib.hid ⟨q4,HQ.out,by omega,HK1.out.1.less HLS.out,HKK.out.trans (HK1.out.2.less HLS.out)⟩⟩ | (simp [intOf];omega)
    · have i3:(n:Int)≤(k:Int):=by omega
      have hkn:k=n:=by omega
      have hX2:wrDone sk=X:=by
        rw [hsk,List.take_of_length_le (by rw [hn.out];omega)]
        exact HX.out
      have HX2:=Lib.hid hX2
      have HB6:Hid (Below w.heap.size w wr):=Below.trans HB2.out (hkk.below (by have:=HZ2.out;omega) (fun k hk=>sW.out k (by have:=HZ2.out;omega)))
      have HD:=Lib.hid (penDone hpk (by omega))
      clear hI HI0 hsk hpk hkk hX2 hlk
      go_wp2_with fail
      refine HD.out.mono ?_
      intro r w7 h7
      have h8:=DonePost.put HB6.out h7
      rw [HX2.out] at h8
      obtain⟨v,rfl,h9⟩:=h8
      clear h7
      have H9:=Lib.hid h9
      clear h9
      go_wp2_with fail
      go_ret2
      exact⟨v,rfl,H9.out⟩
theorem gsvPut_any (T N S:Int) (A:Option Addr) (c:Nat) (L:List V4) (w:World) (hs:Vws w w.heap.size A L) (hm:L.length≤1000000):Calls Tryz.prog 281 #[gsvV T N S A L.length c] w (PutPost (putGsv ⟨T,N,S,L⟩) w):=by
  by_cases h:4 < L.length
  · have:putGsv ⟨T,N,S,L⟩=([],7):=if_pos h
    rw [this]
    exact gsvPut_long T N S A L.length c w (by omega) hm
  · exact gsvPut_ok T N S A L.length c L w rfl hs (by omega)
def vsC (l:List V4):List Value:=l.flatMap viewC
theorem vsC_len (l:List V4):(vsC l).length=l.length * 8:=by
  induction l with
  | nil=>rfl
  | cons x l ih=>show (viewC x++vsC l).length=_;rw [List.length_append,ih];show 8+_=_;simp;omega
theorem vsC_get:∀ (D:List V4) (k j:Nat) (hk:k < D.length),j < 8→(vsC D)[8 * k+j]?=(viewC D[k])[j]?
  | x :: D,0,j,_,hj=>by
    show (viewC x++vsC D)[8 * 0+j]?=_
    rw [List.getElem?_append_left (by show 8 * 0+j < 8;omega)]
    simp
  | x :: D,k+1,j,hk,hj=>by
    show (viewC x++vsC D)[8 * (k+1)+j]?=_
    rw [List.getElem?_append_right (by show 8≤_;omega)]
    have e:8 * (k+1)+j - (viewC x).length=8 * k+j:=by show 8 * (k+1)+j - 8=_;omega
    rw [e,vsC_get D k j (by simpa using hk) hj]
    rfl
theorem viewC_one (x:V4):∀ u∈viewC x,u.oneCell'=true:=fun u hu=>by
  simp only [viewC,List.mem_cons,List.not_mem_nil,or_false] at hu
  rcases hu with rfl | rfl | rfl | rfl | rfl | rfl | rfl | rfl <;> rfl
theorem vsC_one (l:List V4):∀ u∈vsC l,u.oneCell'=true:=fun u hu=>by
  obtain⟨x,hx,h⟩:=List.mem_flatMap.1 hu
  exact viewC_one x u h
theorem FlatQ.vws {Q:Nat→Prop} {w:World} {A:Option Addr} {L:List V4} (h:FlatQ Q w A (vsC L)):Vws w w.heap.size A L:=fun k hk=>by
  have hu:∀ (j:Nat) u,(viewC L[k])[j]?=some u→(vsC L)[8 * k+j]?=some u:=fun j u hu=>by
    have hj:j < 8:=by
      rcases Nat.lt_or_ge j 8 with q | q
      · exact q
      · rw [List.getElem?_eq_none (by show 8≤j;exact q)] at hu;cases hu
    rw [vsC_get L k j hk hj]
    exact hu
  obtain⟨b,off,h1,-,h3⟩:=h _ _ (hu 0 _ rfl)
  refine⟨b,off,h1,World.block_lt_of_cell? w _ h3,fun j u hj=>?_⟩
  obtain⟨b',off',h1',-,h3'⟩:=h _ _ (hu j u hj)
  rw [h1] at h1'
  injection h1' with h1'
  injection h1' with e1 e2
  subst e1 e2
  rw [Nat.add_assoc]
  exact h3'
theorem Vws.flatq {w:World} {B:Nat} {A:Option Addr} {L:List V4} (h:Vws w B A L):FlatQ (fun b=>b < B) w A (vsC L):=fun j u hu=>by
  have hj:j < (vsC L).length:=by
    rcases Nat.lt_or_ge j (vsC L).length with q | q
    · exact q
    · rw [List.getElem?_eq_none q] at hu;cases hu
  rw [vsC_len] at hj
  have hk:j / 8 < L.length:=by omega
  obtain⟨b,off,h1,h2,h3⟩:=h (j / 8) hk
  refine⟨b,off,h1,h2,?_⟩
  have e:8 * (j / 8)+j % 8=j:=by omega
  have:=h3 (j % 8) u (by rw [← vsC_get L (j / 8) (j % 8) hk (by omega),e];exact hu)
  rw [Nat.add_assoc,e] at this
  exact this
set_option maxRecDepth 8000 in
set_option maxHeartbeats 2000000 in
theorem CloneV_none (c:Nat) (w:World):Calls Tryz.prog 49 #[.slice none 0 c] w fun e w'=>e=.returned (.slice none 0 0)∧Below w.heap.size w w':=by
  go_enter Tryz.func49,Tryz.ntmps49
  go_wp2_with fail
  rw [Lib.run_eql_slice_nil _ _ _ _ _ _ _ _ Tryz.underlying42]
  go_wp2_with fail
  go_ret
  exact⟨rfl,Below.refl _ _⟩
set_option maxRecDepth 100000 in
theorem view_info:∃ i,Tryz.prog.info? 107=some i∧i.zero=some (.agg #[.bool false,.int .i64 0,.bool false,.int .i64 0,.bool false,.int .i64 0,.bool false,.int .i64 0])∧i.size=8∧i.bytes=64:=⟨_,rfl,rfl,rfl,rfl⟩
set_option maxRecDepth 8000 in
set_option maxHeartbeats 2000000 in
theorem CloneV_any {Q:Nat→Prop} (A:Option Addr) (L:List V4) (c:Nat) (w:World) (hA:A=none→L.length=0∧c=0) (hs:FlatQ Q w A (vsC L)) (hn:L.length≤1000000) :
    Calls Tryz.prog 49 #[.slice A L.length c] w fun e w'=>∃ B d,e=.returned (.slice B L.length d)∧FlatQ (fun b=>w.heap.size≤b∧b < w'.heap.size) w' B (vsC L)∧Below w.heap.size w w':=by
  cases A with
  | none=>
    obtain⟨h0,rfl⟩:=hA rfl
    obtain rfl:=List.eq_nil_of_length_eq_zero h0
    refine (CloneV_none 0 w).mono ?_
    rintro e w' ⟨rfl,h⟩
    exact⟨none,0,rfl,FlatQ.nil _ _ _,h⟩
  | some a=>
    obtain⟨i0,hi,hz0,hz1,hz2⟩:=view_info
    obtain⟨n,hln⟩:∃ n,L.length=n:=⟨_,rfl⟩
    have HLN:=Lib.hid hln
    have hown:(w.alloc (.cells #[] 107)).ownsRow w.heap.size 107 8 (.slice (some ⟨w.heap.size,0,none⟩) 0 0) 0 []:=World.ownsRow_made w #[] 0 (Nat.le_refl _) (by decide) rfl
    obtain⟨v',w2,hrun,h8,h9,-⟩:=run_append_mine (P:=Tryz.prog) (w.alloc (.cells #[] 107)) 42 42 107 i0 _ 8 64 Tryz.underlying42 hi hz0 hz1 hz2 rfl (by decide) w.heap.size _ 0 [] hown (some a) n c (vsC L) (by rw [vsC_len,hln]) (hs.lt.below (below_new w _) (fun b h=>h.2)) (vsC_one L) (by unfold maxLen;omega) (by omega) (by simp)
    rw [Nat.zero_add,List.nil_append] at h8
    have HE:Hid (∃ B d,v'=.slice B n d∧FlatQ (fun b=>w.heap.size≤b∧b < w2.heap.size) w2 B (vsC L)∧Below w.heap.size w w2):=by
      obtain⟨B,d,h1,-,h2,-⟩:=flatq_own h8
      refine⟨B,d,h1,h2,(below_new w _).trans ⟨h9.os,h9.tape,h9.output,h9.size,fun b hb=>h9.block b (by simp;omega) (fun e=>by simp [Value.ownBlock] at e;omega)⟩⟩
    have HR:=Lib.hid hrun
    rw [hln] at hn ⊢
    clear hs hA hln hown hrun h8 h9
    have EQ:∀ W:World,(binOp .eql 42 (.slice (some a) n c) (.slice none 0 0)).run Tryz.prog W=.ok (.bool false) W:=fun W=>Lib.run_eql_slice_nil W 42 107 (some a) n c 0 0 Tryz.underlying42
    go_enter Tryz.func49,Tryz.ntmps49
    go_wp2_with (at_builtin;refine wpList_append_known rfl _ _ 42 rfl _ _ _ rfl rfl HR.out ?_)
    go_ret
    obtain⟨B,d,h1,h2,h3⟩:=HE.out
    exact⟨B,d,by rw [h1];rfl,h2,h3⟩
theorem CloneV_all {Q:Nat→Prop} (A:Option Addr) (L:List V4) (c:Nat) (w:World) (hs:FlatQ Q w A (vsC L)) (hn:L.length≤1000000) :
    Calls Tryz.prog 49 #[.slice A L.length c] w fun e w'=>∃ B d,e=.returned (.slice B L.length d)∧FlatQ (fun b=>w.heap.size≤b∧b < w'.heap.size) w' B (vsC L)∧Below w.heap.size w w':=by
  cases A with
  | none=>
    have h0:L=[]:=by
      cases L with
      | nil=>rfl
      | cons x l=>obtain⟨b,off,h,-⟩:=hs 0 _ rfl;cases h
    subst h0
    refine (CloneV_none c w).mono ?_
    rintro e w' ⟨rfl,h⟩
    exact⟨none,0,rfl,FlatQ.nil _ _ _,h⟩
  | some a=>exact CloneV_any (some a) L c w (fun h=>by cases h) hs hn
theorem takeN_is {l:List UInt8} {W M F L H:Int} (h:(takeN l W M F L H).1=false):(takeN l W M F L H).2.1=0:=by
  unfold takeN at h ⊢
  by_cases h1:rightB W M F L H=false
  · rw [if_pos h1]
  · rw [if_neg h1] at h ⊢
    by_cases h2:l=[]
    · rw [if_pos h2]
    · rw [if_neg h2] at h ⊢
      cases hp:parseN (bodyL l) 1 M.toNat F.toNat with
      | none=>rfl
      | some n=>
        rw [hp] at h
        simp only at h ⊢
        generalize (if negL l=true then -(n:Int) else (n:Int))=x at *
        by_cases hq:fitsB true x L H=true
        · rw [if_pos hq] at h;exact absurd h (by simp)
        · rw [if_neg hq]
theorem rdNum_is {W M F L H:Int} {s t:Rd} {n:Int} (h:rdNum W M F L H s=((false,n),t)):n=0:=by
  have h1:(rdNum W M F L H s).1=(false,n):=by rw [h]
  have h2:(takeN (s.2.headD ByteArray.empty).data.toList W M F L H).1=false:=congrArg Prod.fst h1
  have h3:(takeN (s.2.headD ByteArray.empty).data.toList W M F L H).2.1=n:=congrArg Prod.snd h1
  rw [← h3]
  exact takeN_is h2
theorem TkI.put {X Y:World→Prop} {g M o:Nat} {C:Array Value} {W w:World} {u:Value} (h:TkI X g M C W w) (ho:o < C.size) (hy:Y (w.setCell ⟨M,o,none⟩ u)):TkI Y g M (C.setIfInBounds o u) W (w.setCell ⟨M,o,none⟩ u):=by
  refine⟨hy,?_,fun j=>by simpa using h.z j,h.gm,by simpa using h.mz,h.os,h.tape,h.output,by simpa using h.size,fun k k1 k2 k3=>?_⟩
  · exact AtC.set (show AtC w M C from h.c) o u ho
  · exact (Below.heap_setCell _ _ _ _ k3).trans (h.block k k1 k2 k3)
theorem TkI.grow {X Y:World→Prop} {g M:Nat} {C:Array Value} {W w w':World} {v:Value} (h:TkI X g M C W w) (hM:M < W.heap.size) (hf:Frm g v w w') (hv:∀ k,v.ownBlock=some k→W.heap.size≤k) (hy:Y w'):TkI Y g M C W w':=by
  have gm:=h.gm
  have o1:v.ownBlock≠some M:=fun q=>by have:=hv M q;omega
  refine⟨hy,fun j=>(hf.cell h.mz (by omega) o1).trans (h.c j),fun j=>(World.frozen?_of_block (a:=⟨M,j,none⟩) (hf.block M h.mz (by omega) o1)).trans (h.z j),gm,Nat.lt_of_lt_of_le h.mz hf.size,hf.os.trans h.os,hf.tape.trans h.tape,hf.output.trans h.output,Nat.le_trans h.size hf.size,fun k k1 k2 k3=>?_⟩
  exact (hf.block k (Nat.lt_of_lt_of_le k1 h.size) k2 (fun q=>by have:=hv k q;omega)).trans (h.block k k1 k2 k3)
theorem frm_of_tk {X:World→Prop} {g:Nat} {C:Array Value} {o:Obj} {wr z:World} (h:TkI X g wr.heap.size C (wr.alloc o) z):Frm g nilV wr z:=by
  have hb:=below_new wr o
  exact⟨h.os.trans hb.os,h.tape.trans hb.tape,h.output.trans hb.output,Nat.le_trans hb.size h.size,fun k hk h1 _=>(h.block k (by simp;omega) h1 (by omega)).trans (hb.block k hk)⟩
theorem own_after {w w':World} {B g:Nat} {e:TypeId} {size n:Nat} {v:Value} {xs:List Value} (h:w.ownsRow B e size v n xs) (hf:Frm g nilV w w') (hg:v.ownBlock≠some g):w'.ownsRow B e size v n xs:=
  h.kept (row:=some g) ⟨hf.os,hf.tape,hf.output,hf.size,fun i hi hk=>hf.block i hi (fun e=>hk (by rw [e])) (by simp [Value.ownBlock])⟩ (.inr hg)
theorem EyeI.grow {g g':Nat} {s:Rd} {v:Value} {w w':World} (h:EyeI g s w) (hf:Frm g' v w w') (h1:g < g') (h2:∀ k,v.ownBlock=some k→g < k):EyeI g s w':=by
  obtain⟨Q,q1,q2,q3⟩:=h
  exact⟨Q,q1.other hf (by omega) (fun q=>by have:=h2 _ q;omega) (fun b hb=>⟨by have:=q2 b hb;omega,fun q=>by have:=h2 _ q;have:=q2 b hb;omega⟩),q2,q3⟩
theorem frm_grown {g:Nat} {v:Value} {w w':World} (h:w.grownBy w' v.ownBlock):Frm g v w w':=⟨h.os,h.tape,h.output,h.size,fun k hk _ h2=>h.block k hk (fun q=>h2 q.symm)⟩
def viewsC (D:List V4):List Value:=D.flatMap viewC
theorem viewsC_snoc (D:List V4) (v:V4):viewsC (D++[v])=viewsC D++viewC v:=by simp [viewsC]
theorem viewsC_get:∀ (D:List V4) (k j:Nat) (hk:k < D.length),j < 8→(viewsC D)[8 * k+j]?=(viewC D[k])[j]?
  | [],k,j,hk,_=>absurd hk (Nat.not_lt_zero _)
  | v :: D,0,j,hk,hj=>by
    show (viewC v++viewsC D)[8 * 0+j]?=_
    rw [List.getElem?_append_left (by simp [viewC];omega)]
    simp
  | v :: D,k+1,j,hk,hj=>by
    show (viewC v++viewsC D)[8 * (k+1)+j]?=_
    rw [List.getElem?_append_right (by simp [viewC];omega)]
    have e:8 * (k+1)+j - (viewC v).length=8 * k+j:=by simp [viewC];omega
    rw [e]
    exact viewsC_get D k j (by simpa using hk) hj
theorem vws_of_own {w:World} {B:Nat} {e:TypeId} {v:Value} {D:List V4} (h:w.ownsRow B e 8 v D.length (viewsC D)):∃ A c,v=.slice A D.length c∧Vws w w.heap.size A D∧FreshA B A∧(A=none→c=0):=by
  rcases h.2 with ⟨hv,h0⟩ | ⟨g,cap,cur,hv,hb,hg,-⟩
  · exact⟨none,0,by rw [hv,h0],fun k hk=>by omega,FreshA.none_,fun _=>rfl⟩
  · subst hv
    refine⟨some ⟨g,0,none⟩,cap,rfl,fun k hk=>⟨g,0,rfl,(Array.getElem?_eq_some_iff.1 hg).1,fun j u hu=>?_⟩,fun a ha=>by injection ha with ha;rw [← ha];exact hb,fun q=>by cases q⟩
    have hj:j < 8:=by
      rcases Nat.lt_or_ge j 8 with q | q
      · exact q
      · rw [List.getElem?_eq_none (by show 8≤j;exact q)] at hu;cases hu
    have hc:=h.cells (g:=g) rfl (8 * k+j) u (by rw [viewsC_get D k j hk hj];exact hu)
    have:(⟨g,0,none⟩:Addr).add (8 * k+j)=⟨g,0+8 * k+j,none⟩:=by unfold Addr.add;split <;> simp_all <;> omega
    rw [← this]
    exact hc
def GsvPost (x:GsvD×Int) (w:World) (r:Ending) (w':World):Prop:=
  ∃ A c,r=.returned (.tuple #[gsvV x.1.T x.1.N x.1.S A x.1.L.length c,.int .i64 x.2])∧Vws w' w'.heap.size A x.1.L∧Below w.heap.size w w'
theorem gsv_taken {R:List ByteArray} {T N S:Int} {b:Bool} {k:Nat} {u1 u2 u3 u4 u5:Rd} {L:List V4} (hb:¬ badG R.length) (hk:(R.length - 3) / 4=k) (h1:Hid (rdDig 1 9 (0,R)=(T,u1))) (h2:Hid (rdDig 1 T u1=(N,u2))) (h3:Hid (rdNum 1 2 0 0 99 u2=((b,S),u3))) (h4:Hid (u4=if b=true then u3 else rdFail 3 u3)) (h5:Hid (rdViews k u4=(L,u5))) :
    takeGsv R=if u5.1=0 then (⟨T,N,S,L⟩,0) else (zeroG,u5.1):=by
  have hs:rdSeen u2=(S,u4):=by unfold rdSeen;rw [h3.out,h4.out]
  unfold takeGsv
  rw [if_neg hb,hk,h1.out]
  simp only
  rw [h2.out]
  simp only
  rw [hs]
  simp only
  rw [h5.out]
theorem rdNum_tl {W M F L H:Int} {s t:Rd} {x:Bool×Int} (h:rdNum W M F L H s=(x,t)):t.2=s.2.tail:=by
  have:(rdNum W M F L H s).2.2=s.2.tail:=rfl
  rw [h] at this
  exact this
theorem rdDig_tail {lo hi:Int} {s t:Rd} {n:Int} (h:rdDig lo hi s=(n,t)):t.2=s.2.tail:=by
  have:(rdDig lo hi s).2.2=s.2.tail:=by
    unfold rdDig
    split
    · simp only
      split <;> rfl
    · rfl
  rw [h] at this
  exact this
theorem rdView_tail {s t:Rd} {v:V4} (h:rdView s=(v,t)):t.2.length=s.2.length - 4:=by
  have:(rdView s).2.2=s.2.tail.tail.tail.tail:=rfl
  rw [h] at this
  rw [this]
  simp
  omega
end Go.Proofs.YtoabkoniegmkaaaGreat
