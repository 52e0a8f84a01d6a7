/- Layer 25: the reference's Put. Printed by genggab.py. -/
import Derived.Test.YtoabkoniegmkaaaGreatJ19
import Derived.Test.YtoabkoniegmkaaaGreatJ22
import Derived.Test.YtoabkoniegmkaaaGreatJ00
import Derived.Test.YtoabkoniegmkaaaGreatJ21
import Derived.Test.YtoabkoniegmkaaaGreatJ08
import Derived.Test.YtoabkoniegmkaaaGreatJ25
import Derived.Test.YtoabkoniegmkaaaGreatJ43
import Derived.Test.YtoabkoniegmkaaaGreatJ26
import Derived.Test.YtoabkoniegmkaaaGreatJ40
namespace Go.Proofs.YtoabkoniegmkaaaGreat
set_option linter.unusedVariables false
open Go.RowKit
theorem Alike.text {s t:Rd} (h:Alike s t) (a:ByteArray) (E:Int):Alike (wrText a E s) (wrText a E t):=
  ⟨by unfold wrText;rw [h.1],fun q=>by unfold wrText;rw [h.2 (firstE_zero q).1]⟩
set_option maxRecDepth 8000 in
set_option maxHeartbeats 8000000 in
theorem r25Put_any (cb:Bool) (ch:Int) (cm:Int) (cs:Int) (cc:Int) (lb:Bool) (ln:Int) (ob:Bool) (on:Int) (q:Int) (sb:Bool) (sn:Int) (hb:Bool) (hn:Int) (ab:Bool) (an:Int) (gb:Bool) (gn:Int) (eb:Bool) (en:Int) (tb:Bool) (tn:Int) (w:World):Calls Tryz.prog 36 #[ggaV cb ch cm cs cc lb ln ob on q sb sn hb hn ab an gb gn eb en tb tn] w (PutPost (putGga ((cb,ch,cm,cs,cc),(lb,ln),(ob,on),q,(sb,sn),(hb,hn),(ab,an),(gb,gn),(eb,en),(tb,tn))) w):=by
  obtain⟨s1,e1⟩:∃ s,Hid (wrClk (cb,ch,cm,cs,cc) (0,[])=s):=⟨_,rfl⟩
  obtain⟨s2,e2⟩:∃ s,Hid (wrAng true (lb,ln) s1=s):=⟨_,rfl⟩
  obtain⟨s3,e3⟩:∃ s,Hid (wrAng false (ob,on) s2=s):=⟨_,rfl⟩
  obtain⟨s4,e4⟩:∃ s,Hid (wrDigR 0 8 q s3=s):=⟨_,rfl⟩
  obtain⟨s5,e5⟩:∃ s,Hid (wrNum 1 2 0 0 99 (sb,sn) s4=s):=⟨_,rfl⟩
  obtain⟨s6,e6⟩:∃ s,Hid (wrNum 1 3 2 0 99999 (hb,hn) s5=s):=⟨_,rfl⟩
  obtain⟨s7,e7⟩:∃ s,Hid (wrNum 1 6 1 (-9999999) 9999999 (ab,an) s6=s):=⟨_,rfl⟩
  obtain⟨s8,e8⟩:∃ s,Hid (wrText (unitT ab ⟨#[77]⟩) 0 s7=s):=⟨_,rfl⟩
  obtain⟨s9,e9⟩:∃ s,Hid (wrNum 1 4 1 (-99999) 99999 (gb,gn) s8=s):=⟨_,rfl⟩
  obtain⟨s10,e10⟩:∃ s,Hid (wrText (unitT gb ⟨#[77]⟩) 0 s9=s):=⟨_,rfl⟩
  obtain⟨s11,e11⟩:∃ s,Hid (wrNum 1 4 1 0 99999 (eb,en) s10=s):=⟨_,rfl⟩
  obtain⟨s12,e12⟩:∃ s,Hid (wrNum 1 4 0 0 1023 (tb,tn) s11=s):=⟨_,rfl⟩
  have HPUT:Hid (putGga ((cb,ch,cm,cs,cc),(lb,ln),(ob,on),q,(sb,sn),(hb,hn),(ab,an),(gb,gn),(eb,en),(tb,tn))=wrDone s12):=by
    show _=_
    have h1:Alike (wrDig 0 8 q s3) s4:=by
      rw [← e4.out]
      exact (Alike.refl _).dig _ _ _
    have h2:Alike (wrNum 1 4 0 0 1023 (tb,tn) (wrNum 1 4 1 0 99999 (eb,en) (wrText (unitT gb ⟨#[77]⟩) 0 (wrNum 1 4 1 (-99999) 99999 (gb,gn) (wrText (unitT ab ⟨#[77]⟩) 0 (wrNum 1 6 1 (-9999999) 9999999 (ab,an) (wrNum 1 3 2 0 99999 (hb,hn) (wrNum 1 2 0 0 99 (sb,sn) (wrDig 0 8 q s3))))))))) s12:=by
      have h3:=((((((((h1.num 1 2 0 0 99 (sb,sn)).num 1 3 2 0 99999 (hb,hn)).num 1 6 1 (-9999999) 9999999 (ab,an)).text (unitT ab ⟨#[77]⟩) 0).num 1 4 1 (-99999) 99999 (gb,gn)).text (unitT gb ⟨#[77]⟩) 0).num 1 4 1 0 99999 (eb,en)).num 1 4 0 0 1023 (tb,tn))
      rw [e5.out,e6.out,e7.out,e8.out,e9.out,e10.out,e11.out,e12.out] at h3
      exact h3
    unfold putGga
    show wrDone (wrNum 1 4 0 0 1023 (tb,tn) (wrNum 1 4 1 0 99999 (eb,en) (wrText (unitT gb ⟨#[77]⟩) 0 (wrNum 1 4 1 (-99999) 99999 (gb,gn) (wrText (unitT ab ⟨#[77]⟩) 0 (wrNum 1 6 1 (-9999999) 9999999 (ab,an) (wrNum 1 3 2 0 99999 (hb,hn) (wrNum 1 2 0 0 99 (sb,sn) (wrDig 0 8 q (wrAng false (ob,on) (wrAng true (lb,ln) (wrClk (cb,ch,cm,cs,cc) (0,[])))))))))))))=_
    rw [e1.out,e2.out,e3.out,h2.done]
  have l1:s1.2.length≤1:=by rw [← e1.out];unfold wrClk;rw [wrText_len];exact Nat.le_refl _
  have l2:s2.2.length≤3:=by rw [← e2.out,wrAng_len];omega
  have l3:s3.2.length≤5:=by rw [← e3.out,wrAng_len];omega
  have l4:s4.2.length≤6:=by
    rw [← e4.out]
    unfold wrDigR
    split
    · show s3.2.length≤6;omega
    · rw [wrText_len];omega
  have l5:s5.2.length≤7:=by rw [← e5.out,wrNum_len];omega
  have l6:s6.2.length≤8:=by rw [← e6.out,wrNum_len];omega
  have l7:s7.2.length≤9:=by rw [← e7.out,wrNum_len];omega
  have l8:s8.2.length≤10:=by rw [← e8.out,wrText_len];omega
  have l9:s9.2.length≤11:=by rw [← e9.out,wrNum_len];omega
  have l10:s10.2.length≤12:=by rw [← e10.out,wrText_len];omega
  have l11:s11.2.length≤13:=by rw [← e11.out,wrNum_len];omega
  have l12:s12.2.length≤14:=by rw [← e12.out,wrNum_len];omega
  rw [HPUT.out]
  clear HPUT
  obtain⟨X,hX⟩:∃ X,wrDone s12=X:=⟨_,rfl⟩
  have HX:=Lib.hid hX
  rw [hX]
  clear hX
  have HM0:Hid (∀ o,(w.alloc (.cells (ggaC cb ch cm cs cc lb ln ob on q sb sn hb hn ab an gb gn eb en tb tn) 32)).cell? ⟨w.heap.size,o,none⟩=(ggaC cb ch cm cs cc lb ln ob on q sb sn hb hn ab an gb gn eb en tb tn)[o]?):=fun o=>World.cell?_alloc_at _ _ _ _ rfl
  have HB0:=Lib.hid (below_new w (.cells (ggaC cb ch cm cs cc lb ln ob on q sb sn hb hn ab an gb gn eb en tb tn) 32))
  have HZ0:Hid ((w.alloc (.cells (ggaC cb ch cm cs cc lb ln ob on q sb sn hb hn ab an gb gn eb en tb tn) 32)).heap.size=w.heap.size+1):=by show _=_;simp
  go_enter Tryz.func36,Tryz.ntmps36
  go_wp2_with fail
  generalize hW1:w.alloc (.cells (ggaC cb ch cm cs cc lb ln ob on q sb sn hb hn ab an gb gn eb en tb tn) 32)=W1 at *
  clear hW1
  refine (r25Cols_any _).mono ?_
  rintro r w2 ⟨rfl,hc2,hz2,hb2⟩
  have hb3:=below_new w2 (.cells #[.slice none 0 0,.int .i64 0,.int .i64 0] 112)
  have HR:=Lib.hid (rowNew (w:=w2))
  have hz0:=HZ0.out
  have HM:Hid (∀ o,(w2.alloc (.cells #[.slice none 0 0,.int .i64 0,.int .i64 0] 112)).cell? ⟨w.heap.size,o,none⟩=(ggaC cb ch cm cs cc lb ln ob on q sb sn hb hn ab an gb gn eb en tb tn)[o]?):=fun o=>((bcell hb3).1 _ o (by omega)).trans (((bcell hb2).1 _ o (by omega)).trans (HM0.out o))
  have HCC:Hid (∀ o,(w2.alloc (.cells #[.slice none 0 0,.int .i64 0,.int .i64 0] 112)).cell? ⟨w.heap.size+1,o,none⟩=colsF[o]?):=fun o=>by rw [← hz0];exact ((bcell hb3).1 _ o (by omega)).trans (hc2 o)
  have HB2:Hid (Below w.heap.size w (w2.alloc (.cells #[.slice none 0 0,.int .i64 0,.int .i64 0] 112))):=Below.trans HB0.out ((hb2.mono (by omega)).trans (hb3.mono (by omega)))
  obtain⟨S,hS⟩:∃ S,(fun k=>k < w2.heap.size+1)=S:=⟨_,rfl⟩
  have sW:Hid (∀ k,k < w2.heap.size+1→S k):=fun k hk=>by rw [← hS];exact hk
  rw [hS] at HR
  have hgw:w.heap.size < w2.heap.size:=by omega
  have hgc:w.heap.size+1 < w2.heap.size:=by omega
  clear hb2 hb3 hS HM0 HB0 hc2 hz2
  go_upto_region 3 with fail
  generalize hW3:w2.alloc (.cells #[.slice none 0 0,.int .i64 0,.int .i64 0] 112)=W3 at *
  clear hW3 HZ0 hz0
  have HK0:Hid (RowI S w2.heap.size (0,[]) W3∧Kept S w2.heap.size W3 W3):=⟨HR.out,Kept.refl _ _ _⟩
  clear HR
  generalize w2.heap.size=g at *
  have sM:Hid (S w.heap.size∧w.heap.size≠g):=⟨sW.out _ (by omega),by omega⟩
  have sC:Hid (S (w.heap.size+1)∧w.heap.size+1≠g):=⟨sW.out _ (by omega),by omega⟩
  have m0:=(HK0.out.2.cell (o:=0) sM.out.1 sM.out.2).trans (HM.out 0)
  have m1:=(HK0.out.2.cell (o:=1) sM.out.1 sM.out.2).trans (HM.out 1)
  have m2:=(HK0.out.2.cell (o:=2) sM.out.1 sM.out.2).trans (HM.out 2)
  have m3:=(HK0.out.2.cell (o:=3) sM.out.1 sM.out.2).trans (HM.out 3)
  have m4:=(HK0.out.2.cell (o:=4) sM.out.1 sM.out.2).trans (HM.out 4)
  go_wp2_with fail
  refine (r25PutClock_any e1 HK0.out.1 (by decide)).mono ?_
  rintro r x1 ⟨rfl,hp,hk⟩
  have HK1:Hid (RowI S g s1 x1∧Kept S g W3 x1):=⟨hp,HK0.out.2.trans hk⟩
  clear hp hk HK0 m0 m1 m2 m3 m4
  have m0:=(HK1.out.2.cell (o:=5) sM.out.1 sM.out.2).trans (HM.out 5)
  have m1:=(HK1.out.2.cell (o:=6) sM.out.1 sM.out.2).trans (HM.out 6)
  go_wp2_with fail
  refine (rowAng e2 HK1.out.1 (by omega)).mono ?_
  rintro r x2 ⟨rfl,hp,hk⟩
  have HK2:Hid (RowI S g s2 x2∧Kept S g W3 x2):=⟨hp,HK1.out.2.trans hk⟩
  clear hp hk HK1 m0 m1
  have m0:=(HK2.out.2.cell (o:=7) sM.out.1 sM.out.2).trans (HM.out 7)
  have m1:=(HK2.out.2.cell (o:=8) sM.out.1 sM.out.2).trans (HM.out 8)
  go_wp2_with fail
  refine (rowAng e3 HK2.out.1 (by omega)).mono ?_
  rintro r x3 ⟨rfl,hp,hk⟩
  have HK3:Hid (RowI S g s3 x3∧Kept S g W3 x3):=⟨hp,HK2.out.2.trans hk⟩
  clear hp hk HK2 m0 m1
  have m0:=(HK3.out.2.cell (o:=9) sM.out.1 sM.out.2).trans (HM.out 9)
  go_wp2_with fail
  refine (r25PutDigit_any e4 (by omega) (by omega) HK3.out.1 (by omega)).mono ?_
  rintro r x4 ⟨rfl,hp,hk⟩
  have HK4:Hid (RowI S g s4 x4∧Kept S g W3 x4):=⟨hp,HK3.out.2.trans hk⟩
  clear hp hk HK3 m0
  go_upto_region 7 with fail
  have m0:=(HK4.out.2.cell (o:=10) sM.out.1 sM.out.2).trans (HM.out 10)
  have m1:=(HK4.out.2.cell (o:=11) sM.out.1 sM.out.2).trans (HM.out 11)
  have c0:=(HK4.out.2.cell (o:=0) sC.out.1 sC.out.2).trans (HCC.out 0)
  have c1:=(HK4.out.2.cell (o:=1) sC.out.1 sC.out.2).trans (HCC.out 1)
  have c2:=(HK4.out.2.cell (o:=2) sC.out.1 sC.out.2).trans (HCC.out 2)
  have c3:=(HK4.out.2.cell (o:=3) sC.out.1 sC.out.2).trans (HCC.out 3)
  have c4:=(HK4.out.2.cell (o:=4) sC.out.1 sC.out.2).trans (HCC.out 4)
  go_cut [] (fun wx=>Hid (RowI S g s5 wx∧Kept S g W3 wx))
  case first=>
    go_region_with ((go_at_call 88;refine (rowNum e5 (HK4.out.1.keep (bdrew (Below.refl _ _))) (by omega)).mono ?_;rintro r y3 ⟨rfl,hp3,hk3⟩))
    all_goals go_wp2_with fail
    all_goals go_meet
    all_goals exact Lib.hid ⟨hp3,HK4.out.2.trans hk3.undrew⟩
  case rest=>
  have HK5:=hcut
  clear hcut HK4 m0 m1 c0 c1 c2 c3 c4
  go_upto_region 8 with fail
  have m0:=(HK5.out.2.cell (o:=12) sM.out.1 sM.out.2).trans (HM.out 12)
  have m1:=(HK5.out.2.cell (o:=13) sM.out.1 sM.out.2).trans (HM.out 13)
  have c0:=(HK5.out.2.cell (o:=5) sC.out.1 sC.out.2).trans (HCC.out 5)
  have c1:=(HK5.out.2.cell (o:=6) sC.out.1 sC.out.2).trans (HCC.out 6)
  have c2:=(HK5.out.2.cell (o:=7) sC.out.1 sC.out.2).trans (HCC.out 7)
  have c3:=(HK5.out.2.cell (o:=8) sC.out.1 sC.out.2).trans (HCC.out 8)
  have c4:=(HK5.out.2.cell (o:=9) sC.out.1 sC.out.2).trans (HCC.out 9)
  go_cut [] (fun wx=>Hid (RowI S g s6 wx∧Kept S g W3 wx))
  case first=>
    go_region_with ((go_at_call 88;refine (rowNum e6 (HK5.out.1.keep (bdrew (Below.refl _ _))) (by omega)).mono ?_;rintro r y3 ⟨rfl,hp3,hk3⟩))
    all_goals go_wp2_with fail
    all_goals go_meet
    all_goals exact Lib.hid ⟨hp3,HK5.out.2.trans hk3.undrew⟩
  case rest=>
  have HK6:=hcut
  clear hcut HK5 m0 m1 c0 c1 c2 c3 c4
  go_upto_region 9 with fail
  have m0:=(HK6.out.2.cell (o:=14) sM.out.1 sM.out.2).trans (HM.out 14)
  have m1:=(HK6.out.2.cell (o:=15) sM.out.1 sM.out.2).trans (HM.out 15)
  have c0:=(HK6.out.2.cell (o:=10) sC.out.1 sC.out.2).trans (HCC.out 10)
  have c1:=(HK6.out.2.cell (o:=11) sC.out.1 sC.out.2).trans (HCC.out 11)
  have c2:=(HK6.out.2.cell (o:=12) sC.out.1 sC.out.2).trans (HCC.out 12)
  have c3:=(HK6.out.2.cell (o:=13) sC.out.1 sC.out.2).trans (HCC.out 13)
  have c4:=(HK6.out.2.cell (o:=14) sC.out.1 sC.out.2).trans (HCC.out 14)
  go_cut [] (fun wx=>Hid (RowI S g s7 wx∧Kept S g W3 wx))
  case first=>
    go_region_with ((go_at_call 88;refine (rowNum e7 (HK6.out.1.keep (bdrew (Below.refl _ _))) (by omega)).mono ?_;rintro r y3 ⟨rfl,hp3,hk3⟩))
    all_goals go_wp2_with fail
    all_goals go_meet
    all_goals exact Lib.hid ⟨hp3,HK6.out.2.trans hk3.undrew⟩
  case rest=>
  have HK7:=hcut
  clear hcut HK6 m0 m1 c0 c1 c2 c3 c4
  have m0:=(HK7.out.2.cell (o:=14) sM.out.1 sM.out.2).trans (HM.out 14)
  have m1:=(HK7.out.2.cell (o:=15) sM.out.1 sM.out.2).trans (HM.out 15)
  go_wp2_with fail
  refine (r25PutUnit_any e8 HK7.out.1 (by omega)).mono ?_
  rintro r x8 ⟨rfl,hp,hk⟩
  have HK8:Hid (RowI S g s8 x8∧Kept S g W3 x8):=⟨hp,HK7.out.2.trans hk⟩
  clear hp hk HK7 m0 m1
  go_upto_region 11 with fail
  have m0:=(HK8.out.2.cell (o:=16) sM.out.1 sM.out.2).trans (HM.out 16)
  have m1:=(HK8.out.2.cell (o:=17) sM.out.1 sM.out.2).trans (HM.out 17)
  have c0:=(HK8.out.2.cell (o:=15) sC.out.1 sC.out.2).trans (HCC.out 15)
  have c1:=(HK8.out.2.cell (o:=16) sC.out.1 sC.out.2).trans (HCC.out 16)
  have c2:=(HK8.out.2.cell (o:=17) sC.out.1 sC.out.2).trans (HCC.out 17)
  have c3:=(HK8.out.2.cell (o:=18) sC.out.1 sC.out.2).trans (HCC.out 18)
  have c4:=(HK8.out.2.cell (o:=19) sC.out.1 sC.out.2).trans (HCC.out 19)
  go_cut [] (fun wx=>Hid (RowI S g s9 wx∧Kept S g W3 wx))
  case first=>
    go_region_with ((go_at_call 88;refine (rowNum e9 (HK8.out.1.keep (bdrew (Below.refl _ _))) (by omega)).mono ?_;rintro r y3 ⟨rfl,hp3,hk3⟩))
    all_goals go_wp2_with fail
    all_goals go_meet
    all_goals exact Lib.hid ⟨hp3,HK8.out.2.trans hk3.undrew⟩
  case rest=>
  have HK9:=hcut
  clear hcut HK8 m0 m1 c0 c1 c2 c3 c4
  have m0:=(HK9.out.2.cell (o:=16) sM.out.1 sM.out.2).trans (HM.out 16)
  have m1:=(HK9.out.2.cell (o:=17) sM.out.1 sM.out.2).trans (HM.out 17)
  go_wp2_with fail
  refine (r25PutUnit_any e10 HK9.out.1 (by omega)).mono ?_
  rintro r x10 ⟨rfl,hp,hk⟩
  have HK10:Hid (RowI S g s10 x10∧Kept S g W3 x10):=⟨hp,HK9.out.2.trans hk⟩
  clear hp hk HK9 m0 m1
  go_upto_region 13 with fail
  have m0:=(HK10.out.2.cell (o:=18) sM.out.1 sM.out.2).trans (HM.out 18)
  have m1:=(HK10.out.2.cell (o:=19) sM.out.1 sM.out.2).trans (HM.out 19)
  have c0:=(HK10.out.2.cell (o:=20) sC.out.1 sC.out.2).trans (HCC.out 20)
  have c1:=(HK10.out.2.cell (o:=21) sC.out.1 sC.out.2).trans (HCC.out 21)
  have c2:=(HK10.out.2.cell (o:=22) sC.out.1 sC.out.2).trans (HCC.out 22)
  have c3:=(HK10.out.2.cell (o:=23) sC.out.1 sC.out.2).trans (HCC.out 23)
  have c4:=(HK10.out.2.cell (o:=24) sC.out.1 sC.out.2).trans (HCC.out 24)
  go_cut [] (fun wx=>Hid (RowI S g s11 wx∧Kept S g W3 wx))
  case first=>
    go_region_with ((go_at_call 88;refine (rowNum e11 (HK10.out.1.keep (bdrew (Below.refl _ _))) (by omega)).mono ?_;rintro r y3 ⟨rfl,hp3,hk3⟩))
    all_goals go_wp2_with fail
    all_goals go_meet
    all_goals exact Lib.hid ⟨hp3,HK10.out.2.trans hk3.undrew⟩
  case rest=>
  have HK11:=hcut
  clear hcut HK10 m0 m1 c0 c1 c2 c3 c4
  go_upto_region 14 with fail
  have m0:=(HK11.out.2.cell (o:=20) sM.out.1 sM.out.2).trans (HM.out 20)
  have m1:=(HK11.out.2.cell (o:=21) sM.out.1 sM.out.2).trans (HM.out 21)
  have c0:=(HK11.out.2.cell (o:=25) sC.out.1 sC.out.2).trans (HCC.out 25)
  have c1:=(HK11.out.2.cell (o:=26) sC.out.1 sC.out.2).trans (HCC.out 26)
  have c2:=(HK11.out.2.cell (o:=27) sC.out.1 sC.out.2).trans (HCC.out 27)
  have c3:=(HK11.out.2.cell (o:=28) sC.out.1 sC.out.2).trans (HCC.out 28)
  have c4:=(HK11.out.2.cell (o:=29) sC.out.1 sC.out.2).trans (HCC.out 29)
  go_cut [] (fun wx=>Hid (RowI S g s12 wx∧Kept S g W3 wx))
  case first=>
    go_region_with ((go_at_call 88;refine (rowNum e12 (HK11.out.1.keep (bdrew (Below.refl _ _))) (by omega)).mono ?_;rintro r y3 ⟨rfl,hp3,hk3⟩))
    all_goals go_wp2_with fail
    all_goals go_meet
    all_goals exact Lib.hid ⟨hp3,HK11.out.2.trans hk3.undrew⟩
  case rest=>
  have HK12:=hcut
  clear hcut HK11 m0 m1 c0 c1 c2 c3 c4
  have HB6:Hid (Below w.heap.size w _):=HB2.out.trans (HK12.out.2.below (B:=w.heap.size) (by omega) (fun k hk=>sW.out k (by omega)))
  go_wp2_with fail
  refine (rowDone HK12.out.1 (by omega)).mono ?_
  intro r w7 h7
  have h8:=DonePost.put HB6.out h7
  rw [HX.out] at h8
  obtain⟨v,rfl,h9⟩:=h8
  have H9:=Lib.hid h9
  clear h7 h9
  go_wp2_with fail
  go_ret2
  exact⟨v,rfl,H9.out⟩
theorem angN_size (b:Bool) (n:Int) (lat:Bool):(angN b n lat).1.size≤100∧(angN b n lat).2.1.size≤100:=by
  have hl:∀ x,(toB (angL x lat)).size≤100:=fun x=>by
    rw [size_B]
    unfold angL
    have h1:=digL_len (x / 6000000) (wideN lat)
    have h2:=pointL_len (x % 6000000) 2 5
    rw [List.length_append]
    omega
  unfold angN
  split
  · exact⟨Nat.zero_le _,Nat.zero_le _⟩
  split
  · exact⟨Nat.zero_le _,Nat.zero_le _⟩
  split
  · exact⟨hl _,by show (sideB _ _).size≤100;rw [sideB_size];omega⟩
  · exact⟨hl _,by show (sideB _ _).size≤100;rw [sideB_size];omega⟩
theorem wrAng_small {lat:Bool} {n:Bool×Int} {s:Rd} (h:Small s.2):Small (wrAng lat n s).2:=fun t ht=>by
  unfold wrAng at ht
  rcases List.mem_append.1 ht with k | k
  · exact h t k
  · have:=angN_size n.1 n.2 lat
    simp only [List.mem_cons,List.not_mem_nil,or_false] at k
    rcases k with rfl | rfl
    · exact this.1
    · exact this.2
theorem clkT_size (c:Clk):(clkT c).1.size≤100:=by
  unfold clkT
  split
  · exact Nat.zero_le _
  split
  · exact Nat.zero_le _
  · show (toB _).size≤100
    rw [size_B]
    have:(clkTail c.2.2.2.2).length≤3:=by
      unfold clkTail
      split
      · simp
      split
      · simp
      · simp [twoL]
    simp only [List.length_append,twoL,List.length_cons,List.length_nil]
    omega
theorem wrClk_small {c:Clk} {s:Rd} (h:Small s.2):Small (wrClk c s).2:=wrText_small h (clkT_size c)
theorem wrDig_small {lo hi n:Int} {s:Rd} (h:Small s.2):Small (wrDig lo hi n s).2:=by
  unfold wrDig
  split
  · exact wrText_small h (by decide)
  · exact wrText_small h (by rw [digT_size];omega)
theorem putGga_small (g:GgaT):Small (putGga g).1:=by
  unfold putGga
  refine wrDone_small ?_
  have h1:Small (wrClk g.1 (0,[])).2:=wrClk_small Small.nil
  have h2:=wrAng_small (lat:=true) (n:=g.2.1) h1
  have h3:=wrAng_small (lat:=false) (n:=g.2.2.1) h2
  have h4:=wrDig_small (lo:=0) (hi:=8) (n:=g.2.2.2.1) h3
  have h5:=wrNum_small (W:=1) (M:=2) (F:=0) (L:=0) (H:=99) (n:=g.2.2.2.2.1) h4
  have h6:=wrNum_small (W:=1) (M:=3) (F:=2) (L:=0) (H:=99999) (n:=g.2.2.2.2.2.1) h5
  have h7:=wrCol_small (k:=altK) (n:=g.2.2.2.2.2.2.1) h6 (by decide)
  have h8:=wrCol_small (k:=geoK) (n:=g.2.2.2.2.2.2.2.1) h7 (by decide)
  have h9:=wrNum_small (W:=1) (M:=4) (F:=1) (L:=0) (H:=99999) (n:=g.2.2.2.2.2.2.2.2.1) h8
  exact wrNum_small (W:=1) (M:=4) (F:=0) (L:=0) (H:=1023) (n:=g.2.2.2.2.2.2.2.2.2) h9
theorem datT_size (c:Dat):(datT c).1.size≤100:=by
  unfold datT
  split
  · exact Nat.zero_le _
  split
  · exact Nat.zero_le _
  · show (toB _).size≤100
    rw [size_B]
    simp only [List.length_append,twoL,List.length_cons,List.length_nil]
    omega
theorem wrDat_small {c:Dat} {s:Rd} (h:Small s.2):Small (wrDat c s).2:=wrText_small h (datT_size c)
theorem wrSt_small {a:Bool} {s:Rd} (h:Small s.2):Small (wrSt a s).2:=wrText_small h (by rw [stT_size];omega)
theorem wrVar_small {v:N2} {s:Rd} (h:Small s.2):Small (wrVar v s).2:=wrText_small (wrNum_small h) (Nat.le_trans (sideT_size v) (by omega))
theorem putRmc_small (g:RmcT):Small (putRmc g).1:=by
  unfold putRmc
  refine wrDone_small ?_
  have h1:Small (wrClk g.1 (0,[])).2:=wrClk_small Small.nil
  have h2:=wrSt_small (a:=g.2.1) h1
  have h3:=wrAng_small (lat:=true) (n:=g.2.2.1) h2
  have h4:=wrAng_small (lat:=false) (n:=g.2.2.2.1) h3
  have h5:=wrNum_small (W:=1) (M:=4) (F:=2) (L:=0) (H:=999999) (n:=g.2.2.2.2.1) h4
  have h6:=wrNum_small (W:=1) (M:=3) (F:=2) (L:=0) (H:=36000) (n:=g.2.2.2.2.2.1) h5
  have h7:=wrDat_small (c:=g.2.2.2.2.2.2.1) h6
  exact wrVar_small (v:=g.2.2.2.2.2.2.2) h7
theorem body_small {t y:ByteArray}:∀ {fs:List ByteArray},Small fs→(bodyL22 t y fs).length≤t.size+y.size+101 * fs.length:=by
  intro fs h
  have key:∀ l:List ByteArray,Small l→(l.flatMap fun f=>(44:UInt8) :: f.data.toList).length≤101 * l.length:=by
    intro l
    induction l with
    | nil=>intro _;exact Nat.zero_le _
    | cons g l ih=>
      intro hs
      have e3:=len_data g
      have h1:=hs g (by simp)
      have h2:=ih fun f hf=>hs f (by simp [hf])
      rw [List.flatMap_cons,List.length_append,List.length_cons,List.length_cons]
      omega
  have e1:=len_data t
  have e2:=len_data y
  have:=key fs h
  unfold bodyL22
  rw [List.length_append,List.length_append]
  omega
theorem putF30_facts {m:NmD} (h:(putF30 m).2=0):(putF30 m).1.length≤20∧Small (putF30 m).1:=by
  unfold putF30 at h ⊢
  split at h
  · next k=>rw [if_pos k];exact⟨by rw [(gga_put_take h).2];omega,putGga_small _⟩
  next k1=>
  rw [if_neg k1]
  split at h
  · next k=>rw [if_pos k];exact⟨by rw [(rmc_put_take h).2];omega,putRmc_small _⟩
  next k2=>
  rw [if_neg k2]
  split at h
  · next k=>rw [if_pos k];exact⟨by rw [(gsa_put_take h).2];omega,putGsa_small _⟩
  next k3=>
  rw [if_neg k3]
  split at h
  · next k=>rw [if_pos k];exact⟨by rw [(vtg_put_take rfl h).2];omega,putVtg_small _⟩
  next k4=>
  rw [if_neg k4]
  refine⟨?_,putGsv_small _⟩
  have:=(gsv_put_take h).2
  unfold badG at this
  omega
theorem put30_zero {m:NmD} (h:(put30 m).2=0):(1≤m.k∧m.k≤5)∧(putF30 m).2=0∧put30 m=((m.t,word30 m.k,(putF30 m).1),0):=by
  by_cases hk:1≤m.k∧m.k≤5
  · by_cases h0:(putF30 m).2=0
    · exact⟨hk,h0,put30_ok hk rfl h0⟩
    · rw [put30_bad hk rfl h0] at h
      exact absurd h h0
  · rw [put30_no hk] at h
    exact absurd h (by decide)
theorem word30_size (k:Int):(word30 k).size≤3:=by
  by_cases h:1≤k∧k≤5
  · obtain⟨a,b,c,e⟩:=word30_some h;rw [e];exact Nat.le_refl _
  · unfold word30
    rw [if_neg (by omega),if_neg (by omega),if_neg (by omega),if_neg (by omega),if_neg (by omega)]
    exact Nat.zero_le _
theorem nmEncode_any {lo:Nat} {C:Array Value} {m:NmD} {w:World} (hC:NmV lo w C m) (h0:m.t.size≤1000) (h1:m.s.ids.length≤1000000) (h2:m.u.L.length≤1000000):Calls Tryz.prog 15 #[.agg C] w (EncOut (enc30 m) w):=
  nmEncode_go (X:=put30 m) (Y:=putS (put30 m).1.1 (put30 m).1.2.1 (put30 m).1.2.2) hC (fun W hb=>nmPut_any (hC.on hb) h1 h2) fun h A c W hs=>by
    obtain⟨-,h4,h5⟩:=put30_zero h
    obtain⟨h6,h7⟩:=putF30_facts h4
    rw [h5] at hs ⊢
    have:=body_small (t:=m.t) (y:=word30 m.k) h7
    have:=word30_size m.k
    exact Put_any m.t (word30 m.k) (putF30 m).1 A c W (by omega) (by omega) hs
end Go.Proofs.YtoabkoniegmkaaaGreat
