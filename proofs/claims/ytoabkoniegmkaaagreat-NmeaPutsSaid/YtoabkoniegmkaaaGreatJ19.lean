/- Layer 25: Put. Printed by genggap.py. -/
import Derived.Test.YtoabkoniegmkaaaGreatJ18
namespace Go.Proofs.YtoabkoniegmkaaaGreat
set_option linter.unusedVariables false
open Go.RowKit
set_option maxRecDepth 8000 in
set_option maxHeartbeats 8000000 in
theorem ggaPut_any (cb:Bool) (ch:Int) (cm:Int) (cs:Int) (cc:Int) (lb:Bool) (ln:Int) (ob:Bool) (on:Int) (q:Int) (sb:Bool) (sn:Int) (hb:Bool) (hn:Int) (ab:Bool) (an:Int) (gb:Bool) (gn:Int) (eb:Bool) (en:Int) (tb:Bool) (tn:Int) (w:World):Calls Tryz.prog 226 #[ggaV cb ch cm cs cc lb ln ob on q sb sn hb hn ab an gb gn eb en tb tn] w (PutPost (putGga ((cb,ch,cm,cs,cc),(lb,ln),(ob,on),q,(sb,sn),(hb,hn),(ab,an),(gb,gn),(eb,en),(tb,tn))) w):=by
  obtain⟨s1,e1⟩:∃ s,Hid (wrClk (cb,ch,cm,cs,cc) (0,[])=s):=⟨_,rfl⟩
  obtain⟨s2,e2⟩:∃ s,Hid (wrAng true (lb,ln) s1=s):=⟨_,rfl⟩
  obtain⟨s3,e3⟩:∃ s,Hid (wrAng false (ob,on) s2=s):=⟨_,rfl⟩
  obtain⟨s4,e4⟩:∃ s,Hid (wrText (digS 0 8 q) (digE 0 8 q) s3=s):=⟨_,rfl⟩
  obtain⟨s5,e5⟩:∃ s,Hid (wrNum 1 2 0 0 99 (sb,sn) s4=s):=⟨_,rfl⟩
  obtain⟨s6,e6⟩:∃ s,Hid (wrNum 1 3 2 0 99999 (hb,hn) s5=s):=⟨_,rfl⟩
  obtain⟨s7,e7⟩:∃ s,Hid (wrNum 1 6 1 (-9999999) 9999999 (ab,an) s6=s):=⟨_,rfl⟩
  obtain⟨s8,e8⟩:∃ s,Hid (wrText (unitT ab ⟨#[77]⟩) 0 s7=s):=⟨_,rfl⟩
  obtain⟨s9,e9⟩:∃ s,Hid (wrNum 1 4 1 (-99999) 99999 (gb,gn) s8=s):=⟨_,rfl⟩
  obtain⟨s10,e10⟩:∃ s,Hid (wrText (unitT gb ⟨#[77]⟩) 0 s9=s):=⟨_,rfl⟩
  obtain⟨s11,e11⟩:∃ s,Hid (wrNum 1 4 1 0 99999 (eb,en) s10=s):=⟨_,rfl⟩
  obtain⟨s12,e12⟩:∃ s,Hid (wrNum 1 4 0 0 1023 (tb,tn) s11=s):=⟨_,rfl⟩
  have HPUT:Hid (putGga ((cb,ch,cm,cs,cc),(lb,ln),(ob,on),q,(sb,sn),(hb,hn),(ab,an),(gb,gn),(eb,en),(tb,tn))=wrDone s12):=by
    show _=_
    unfold putGga
    show wrDone (wrNum 1 4 0 0 1023 (tb,tn) (wrNum 1 4 1 0 99999 (eb,en) (wrText (unitT gb ⟨#[77]⟩) 0 (wrNum 1 4 1 (-99999) 99999 (gb,gn) (wrText (unitT ab ⟨#[77]⟩) 0 (wrNum 1 6 1 (-9999999) 9999999 (ab,an) (wrNum 1 3 2 0 99999 (hb,hn) (wrNum 1 2 0 0 99 (sb,sn) (wrDig 0 8 q (wrAng false (ob,on) (wrAng true (lb,ln) (wrClk (cb,ch,cm,cs,cc) (0,[])))))))))))))=_
    rw [e1.out,e2.out,e3.out,wrDig_text,e4.out,e5.out,e6.out,e7.out,e8.out,e9.out,e10.out,e11.out,e12.out]
  have l1:s1.2.length≤1:=by rw [← e1.out];unfold wrClk;rw [wrText_len];exact Nat.le_refl _
  have l2:s2.2.length≤3:=by rw [← e2.out,wrAng_len];omega
  have l3:s3.2.length≤5:=by rw [← e3.out,wrAng_len];omega
  have l4:s4.2.length≤6:=by rw [← e4.out,wrText_len];omega
  have l5:s5.2.length≤7:=by rw [← e5.out,wrNum_len];omega
  have l6:s6.2.length≤8:=by rw [← e6.out,wrNum_len];omega
  have l7:s7.2.length≤9:=by rw [← e7.out,wrNum_len];omega
  have l8:s8.2.length≤10:=by rw [← e8.out,wrText_len];omega
  have l9:s9.2.length≤11:=by rw [← e9.out,wrNum_len];omega
  have l10:s10.2.length≤12:=by rw [← e10.out,wrText_len];omega
  have l11:s11.2.length≤13:=by rw [← e11.out,wrNum_len];omega
  have l12:s12.2.length≤14:=by rw [← e12.out,wrNum_len];omega
  rw [HPUT.out]
  clear HPUT
  obtain⟨X,hX⟩:∃ X,wrDone s12=X:=⟨_,rfl⟩
  have HX:=Lib.hid hX
  rw [hX]
  clear hX
  have HM0:Hid (∀ o,(w.alloc (.cells (ggaC cb ch cm cs cc lb ln ob on q sb sn hb hn ab an gb gn eb en tb tn) 32)).cell? ⟨w.heap.size,o,none⟩=(ggaC cb ch cm cs cc lb ln ob on q sb sn hb hn ab an gb gn eb en tb tn)[o]?):=fun o=>World.cell?_alloc_at _ _ _ _ rfl
  have HB0:=Lib.hid (below_new w (.cells (ggaC cb ch cm cs cc lb ln ob on q sb sn hb hn ab an gb gn eb en tb tn) 32))
  have HZ0:Hid ((w.alloc (.cells (ggaC cb ch cm cs cc lb ln ob on q sb sn hb hn ab an gb gn eb en tb tn) 32)).heap.size=w.heap.size+1):=by show _=_;simp
  go_enter Tryz.func226,Tryz.ntmps226
  go_wp2_with fail
  generalize hW1:w.alloc (.cells (ggaC cb ch cm cs cc lb ln ob on q sb sn hb hn ab an gb gn eb en tb tn) 32)=W1 at *
  clear hW1
  refine penRow.mono ?_
  rintro r w2 ⟨rfl,hp2,hb2,hz2⟩
  have hz0:=HZ0.out
  have HM:Hid (∀ o,w2.cell? ⟨w.heap.size,o,none⟩=(ggaC cb ch cm cs cc lb ln ob on q sb sn hb hn ab an gb gn eb en tb tn)[o]?):=fun o=>((bcell hb2).1 _ o (by omega)).trans (HM0.out o)
  have HB2:Hid (Below w.heap.size w w2):=Below.trans HB0.out (hb2.mono (by omega))
  obtain⟨S,hS⟩:∃ S,(fun k=>k < W1.heap.size+1)=S:=⟨_,rfl⟩
  have sW:Hid (∀ k,k < W1.heap.size+1→S k):=fun k hk=>by rw [← hS];exact hk
  rw [hS] at hp2
  have HK0:Hid (PenI S W1.heap.size (0,[]) w2∧Kept S W1.heap.size w2 w2):=⟨hp2,Kept.refl _ _ _⟩
  have hgw:w.heap.size < W1.heap.size:=by omega
  clear hp2 hb2 hz2 hS HM0 HB0 HZ0 hz0
  generalize W1.heap.size=g at *
  have sM:Hid (S w.heap.size∧w.heap.size≠g):=⟨sW.out _ (by omega),by omega⟩
  have m0:=(HK0.out.2.cell (o:=0) sM.out.1 sM.out.2).trans (HM.out 0)
  have m1:=(HK0.out.2.cell (o:=1) sM.out.1 sM.out.2).trans (HM.out 1)
  have m2:=(HK0.out.2.cell (o:=2) sM.out.1 sM.out.2).trans (HM.out 2)
  have m3:=(HK0.out.2.cell (o:=3) sM.out.1 sM.out.2).trans (HM.out 3)
  have m4:=(HK0.out.2.cell (o:=4) sM.out.1 sM.out.2).trans (HM.out 4)
  go_wp2_with fail
  refine (clkPut_any _ _ _ _ _ _).mono ?_
  rintro r y1 ⟨rfl,hb⟩
  have R1:=Lib.hid (HK0.out.1.keep hb)
  have K1:=Lib.hid (HK0.out.2.trans (Kept.of_below hb HK0.out.1.bd))
  clear hb m0 m1 m2 m3 m4
  go_wp2_with fail
  refine (penText e1 R1.out (by decide)).mono ?_
  rintro r x1 ⟨rfl,hp,hk⟩
  have HK1:Hid (PenI S g s1 x1∧Kept S g w2 x1):=⟨hp,K1.out.trans hk⟩
  clear hp hk HK0 R1 K1
  have m0:=(HK1.out.2.cell (o:=5) sM.out.1 sM.out.2).trans (HM.out 5)
  have m1:=(HK1.out.2.cell (o:=6) sM.out.1 sM.out.2).trans (HM.out 6)
  go_wp2_with fail
  refine (penAng e2 HK1.out.1 (by omega)).mono ?_
  rintro r x2 ⟨rfl,hp,hk⟩
  have HK2:Hid (PenI S g s2 x2∧Kept S g w2 x2):=⟨hp,HK1.out.2.trans hk⟩
  clear hp hk HK1 m0 m1
  have m0:=(HK2.out.2.cell (o:=7) sM.out.1 sM.out.2).trans (HM.out 7)
  have m1:=(HK2.out.2.cell (o:=8) sM.out.1 sM.out.2).trans (HM.out 8)
  go_wp2_with fail
  refine (penAng e3 HK2.out.1 (by omega)).mono ?_
  rintro r x3 ⟨rfl,hp,hk⟩
  have HK3:Hid (PenI S g s3 x3∧Kept S g w2 x3):=⟨hp,HK2.out.2.trans hk⟩
  clear hp hk HK2 m0 m1
  have m0:=(HK3.out.2.cell (o:=9) sM.out.1 sM.out.2).trans (HM.out 9)
  go_wp2_with fail
  refine (ggaquality_any _ _).mono ?_
  rintro r y4 ⟨rfl,hb⟩
  have R4:=Lib.hid (HK3.out.1.keep hb)
  have K4:=Lib.hid (HK3.out.2.trans (Kept.of_below hb HK3.out.1.bd))
  clear hb m0
  go_wp2_with fail
  refine (penText e4 R4.out (by omega)).mono ?_
  rintro r x4 ⟨rfl,hp,hk⟩
  have HK4:Hid (PenI S g s4 x4∧Kept S g w2 x4):=⟨hp,K4.out.trans hk⟩
  clear hp hk HK3 R4 K4
  go_upto_region 7 with fail
  have m0:=(HK4.out.2.cell (o:=10) sM.out.1 sM.out.2).trans (HM.out 10)
  have m1:=(HK4.out.2.cell (o:=11) sM.out.1 sM.out.2).trans (HM.out 11)
  go_cut [] (fun wx=>Hid (PenI S g s5 wx∧Kept S g w2 wx))
  case first=>
    go_region_with (first | (go_at_call 100;refine (ggasats_any _).mono ?_;rintro r y3 ⟨rfl,hb2⟩;have k2:=Lib.hid (Kept.undrew (Kept.of_below (S:=S) (g:=g) hb2 HK4.out.1.bd));have R2:=Lib.hid (HK4.out.1.keep (w':=y3) (Below.trans (bdrew (Below.refl _ _)) hb2));have z0:=(k2.out.cell (o:=10) sM.out.1 sM.out.2).trans m0;have z1:=(k2.out.cell (o:=11) sM.out.1 sM.out.2).trans m1) | (go_at_call 228;refine (penNum e5 R2.out (by omega)).mono ?_;rintro r y4 ⟨rfl,hp3,hk3⟩))
    all_goals go_wp2_with fail
    all_goals go_meet
    all_goals exact Lib.hid ⟨hp3,HK4.out.2.trans (k2.out.trans hk3)⟩
  case rest=>
  have HK5:=hcut
  clear hcut HK4 m0 m1
  go_upto_region 8 with fail
  have m0:=(HK5.out.2.cell (o:=12) sM.out.1 sM.out.2).trans (HM.out 12)
  have m1:=(HK5.out.2.cell (o:=13) sM.out.1 sM.out.2).trans (HM.out 13)
  go_cut [] (fun wx=>Hid (PenI S g s6 wx∧Kept S g w2 wx))
  case first=>
    go_region_with (first | (go_at_call 101;refine (ggahdop_any _).mono ?_;rintro r y3 ⟨rfl,hb2⟩;have k2:=Lib.hid (Kept.undrew (Kept.of_below (S:=S) (g:=g) hb2 HK5.out.1.bd));have R2:=Lib.hid (HK5.out.1.keep (w':=y3) (Below.trans (bdrew (Below.refl _ _)) hb2));have z0:=(k2.out.cell (o:=12) sM.out.1 sM.out.2).trans m0;have z1:=(k2.out.cell (o:=13) sM.out.1 sM.out.2).trans m1) | (go_at_call 228;refine (penNum e6 R2.out (by omega)).mono ?_;rintro r y4 ⟨rfl,hp3,hk3⟩))
    all_goals go_wp2_with fail
    all_goals go_meet
    all_goals exact Lib.hid ⟨hp3,HK5.out.2.trans (k2.out.trans hk3)⟩
  case rest=>
  have HK6:=hcut
  clear hcut HK5 m0 m1
  go_upto_region 9 with fail
  have m0:=(HK6.out.2.cell (o:=14) sM.out.1 sM.out.2).trans (HM.out 14)
  have m1:=(HK6.out.2.cell (o:=15) sM.out.1 sM.out.2).trans (HM.out 15)
  go_cut [] (fun wx=>Hid (PenI S g s7 wx∧Kept S g w2 wx))
  case first=>
    go_region_with (first | (go_at_call 102;refine (ggaalt_any _).mono ?_;rintro r y3 ⟨rfl,hb2⟩;have k2:=Lib.hid (Kept.undrew (Kept.of_below (S:=S) (g:=g) hb2 HK6.out.1.bd));have R2:=Lib.hid (HK6.out.1.keep (w':=y3) (Below.trans (bdrew (Below.refl _ _)) hb2));have z0:=(k2.out.cell (o:=14) sM.out.1 sM.out.2).trans m0;have z1:=(k2.out.cell (o:=15) sM.out.1 sM.out.2).trans m1) | (go_at_call 228;refine (penNum e7 R2.out (by omega)).mono ?_;rintro r y4 ⟨rfl,hp3,hk3⟩))
    all_goals go_wp2_with fail
    all_goals go_meet
    all_goals exact Lib.hid ⟨hp3,HK6.out.2.trans (k2.out.trans hk3)⟩
  case rest=>
  have HK7:=hcut
  clear hcut HK6 m0 m1
  have m0:=(HK7.out.2.cell (o:=14) sM.out.1 sM.out.2).trans (HM.out 14)
  have m1:=(HK7.out.2.cell (o:=15) sM.out.1 sM.out.2).trans (HM.out 15)
  go_wp2_with fail
  refine (ggabehind_any _ _ _).mono ?_
  rintro r y8 ⟨rfl,hb⟩
  have R8:=Lib.hid (HK7.out.1.keep hb)
  have K8:=Lib.hid (HK7.out.2.trans (Kept.of_below hb HK7.out.1.bd))
  clear hb m0 m1
  go_wp2_with fail
  refine (penText e8 R8.out (by omega)).mono ?_
  rintro r x8 ⟨rfl,hp,hk⟩
  have HK8:Hid (PenI S g s8 x8∧Kept S g w2 x8):=⟨hp,K8.out.trans hk⟩
  clear hp hk HK7 R8 K8
  go_upto_region 11 with fail
  have m0:=(HK8.out.2.cell (o:=16) sM.out.1 sM.out.2).trans (HM.out 16)
  have m1:=(HK8.out.2.cell (o:=17) sM.out.1 sM.out.2).trans (HM.out 17)
  go_cut [] (fun wx=>Hid (PenI S g s9 wx∧Kept S g w2 wx))
  case first=>
    go_region_with (first | (go_at_call 104;refine (ggageoid_any _).mono ?_;rintro r y3 ⟨rfl,hb2⟩;have k2:=Lib.hid (Kept.undrew (Kept.of_below (S:=S) (g:=g) hb2 HK8.out.1.bd));have R2:=Lib.hid (HK8.out.1.keep (w':=y3) (Below.trans (bdrew (Below.refl _ _)) hb2));have z0:=(k2.out.cell (o:=16) sM.out.1 sM.out.2).trans m0;have z1:=(k2.out.cell (o:=17) sM.out.1 sM.out.2).trans m1) | (go_at_call 228;refine (penNum e9 R2.out (by omega)).mono ?_;rintro r y4 ⟨rfl,hp3,hk3⟩))
    all_goals go_wp2_with fail
    all_goals go_meet
    all_goals exact Lib.hid ⟨hp3,HK8.out.2.trans (k2.out.trans hk3)⟩
  case rest=>
  have HK9:=hcut
  clear hcut HK8 m0 m1
  have m0:=(HK9.out.2.cell (o:=16) sM.out.1 sM.out.2).trans (HM.out 16)
  have m1:=(HK9.out.2.cell (o:=17) sM.out.1 sM.out.2).trans (HM.out 17)
  go_wp2_with fail
  refine (ggabehind_any _ _ _).mono ?_
  rintro r y10 ⟨rfl,hb⟩
  have R10:=Lib.hid (HK9.out.1.keep hb)
  have K10:=Lib.hid (HK9.out.2.trans (Kept.of_below hb HK9.out.1.bd))
  clear hb m0 m1
  go_wp2_with fail
  refine (penText e10 R10.out (by omega)).mono ?_
  rintro r x10 ⟨rfl,hp,hk⟩
  have HK10:Hid (PenI S g s10 x10∧Kept S g w2 x10):=⟨hp,K10.out.trans hk⟩
  clear hp hk HK9 R10 K10
  go_upto_region 13 with fail
  have m0:=(HK10.out.2.cell (o:=18) sM.out.1 sM.out.2).trans (HM.out 18)
  have m1:=(HK10.out.2.cell (o:=19) sM.out.1 sM.out.2).trans (HM.out 19)
  go_cut [] (fun wx=>Hid (PenI S g s11 wx∧Kept S g w2 wx))
  case first=>
    go_region_with (first | (go_at_call 105;refine (ggaage_any _).mono ?_;rintro r y3 ⟨rfl,hb2⟩;have k2:=Lib.hid (Kept.undrew (Kept.of_below (S:=S) (g:=g) hb2 HK10.out.1.bd));have R2:=Lib.hid (HK10.out.1.keep (w':=y3) (Below.trans (bdrew (Below.refl _ _)) hb2));have z0:=(k2.out.cell (o:=18) sM.out.1 sM.out.2).trans m0;have z1:=(k2.out.cell (o:=19) sM.out.1 sM.out.2).trans m1) | (go_at_call 228;refine (penNum e11 R2.out (by omega)).mono ?_;rintro r y4 ⟨rfl,hp3,hk3⟩))
    all_goals go_wp2_with fail
    all_goals go_meet
    all_goals exact Lib.hid ⟨hp3,HK10.out.2.trans (k2.out.trans hk3)⟩
  case rest=>
  have HK11:=hcut
  clear hcut HK10 m0 m1
  go_upto_region 14 with fail
  have m0:=(HK11.out.2.cell (o:=20) sM.out.1 sM.out.2).trans (HM.out 20)
  have m1:=(HK11.out.2.cell (o:=21) sM.out.1 sM.out.2).trans (HM.out 21)
  go_cut [] (fun wx=>Hid (PenI S g s12 wx∧Kept S g w2 wx))
  case first=>
    go_region_with (first | (go_at_call 106;refine (ggaat_any _).mono ?_;rintro r y3 ⟨rfl,hb2⟩;have k2:=Lib.hid (Kept.undrew (Kept.of_below (S:=S) (g:=g) hb2 HK11.out.1.bd));have R2:=Lib.hid (HK11.out.1.keep (w':=y3) (Below.trans (bdrew (Below.refl _ _)) hb2));have z0:=(k2.out.cell (o:=20) sM.out.1 sM.out.2).trans m0;have z1:=(k2.out.cell (o:=21) sM.out.1 sM.out.2).trans m1) | (go_at_call 228;refine (penNum e12 R2.out (by omega)).mono ?_;rintro r y4 ⟨rfl,hp3,hk3⟩))
    all_goals go_wp2_with fail
    all_goals go_meet
    all_goals exact Lib.hid ⟨hp3,HK11.out.2.trans (k2.out.trans hk3)⟩
  case rest=>
  have HK12:=hcut
  clear hcut HK11 m0 m1
  have HB6:Hid (Below w.heap.size w _):=HB2.out.trans (HK12.out.2.below (B:=w.heap.size) (by omega) (fun k hk=>sW.out k (by omega)))
  go_wp2_with fail
  refine (penDone HK12.out.1 (by omega)).mono ?_
  intro r w7 h7
  have h8:=DonePost.put HB6.out h7
  rw [HX.out] at h8
  obtain⟨v,rfl,h9⟩:=h8
  have H9:=Lib.hid h9
  clear h7 h9
  go_wp2_with fail
  go_ret2
  exact⟨v,rfl,H9.out⟩
end Go.Proofs.YtoabkoniegmkaaaGreat
