/- Layer 26: the reference's Put. Printed by genrmcw.py. -/
import Derived.Test.YtoabkoniegmkaaaGreatJ36
import Derived.Test.YtoabkoniegmkaaaGreatJ24
import Derived.Test.YtoabkoniegmkaaaGreatJ44
import Derived.Test.YtoabkoniegmkaaaGreatJ25
import Derived.Test.YtoabkoniegmkaaaGreatJ29
import Derived.Test.YtoabkoniegmkaaaGreatJ28
import Derived.Test.YtoabkoniegmkaaaGreatJ40
import Derived.Test.YtoabkoniegmkaaaGreatJ45
import Derived.Test.YtoabkoniegmkaaaGreatJ00
namespace Go.Proofs.YtoabkoniegmkaaaGreat
set_option linter.unusedVariables false
open Go.RowKit
set_option linter.unusedSimpArgs false
def negB (n:Int):Bool:=decide (n < 0) && decide (-1800≤n)
def farR (n:Int):Int:=if negB n=true then -n else n
def sideR (b:Bool) (n:Int):ByteArray:=if b=false then ByteArray.empty else if negB n=true then wT else eT
theorem far_alike (b:Bool) (n:Int) (s:Rd):Alike (wrText (sideT (b,n)) 0 (wrNum 1 3 1 0 1800 (farN (b,n)) s)) (wrText (sideR b n) 0 (wrNum 1 3 1 0 1800 (b,farR n) s)):=by
  cases b with
  | false=>
    have e1:farN (false,n)=(false,n):=if_pos (.inl rfl)
    have e2:sideT (false,n)=ByteArray.empty:=if_pos (.inl rfl)
    have e3:sideR false n=ByteArray.empty:=if_pos rfl
    have e4:wrNum 1 3 1 0 1800 (false,farR n) s=wrNum 1 3 1 0 1800 (false,n) s:=by
      have:putN false (farR n) 1 3 1 0 1800=putN false n 1 3 1 0 1800:=by
        unfold putN fitsB farR
        by_cases q:negB n=true <;> simp [q,Int.neg_eq_zero]
      unfold wrNum
      simp only [this]
    rw [e1,e2,e3,e4]
    exact Alike.refl _
  | true=>
    by_cases h1:n < -1800
    · have e1:farN (true,n)=(true,n):=if_pos (.inr h1)
      have e2:farR n=n:=if_neg (by simp [negB];omega)
      rw [e1,e2]
      have h:(wrNum 1 3 1 0 1800 (true,n) s).1≠0:=fun q=>by
        have:=fitsB_true (putN_fits (firstE_zero q).2)
        omega
      exact⟨rfl,fun q=>absurd (firstE_zero q).1 h⟩
    by_cases h2:n < 0
    · have e1:farN (true,n)=(true,-n):=by unfold farN;rw [if_neg (by simp;omega),if_pos h2]
      have e2:sideT (true,n)=wT:=by unfold sideT;rw [if_neg (by simp;omega),if_pos h2]
      have hb:negB n=true:=by simp [negB];omega
      have e3:farR n=-n:=if_pos hb
      have e4:sideR true n=wT:=by unfold sideR;rw [if_neg (by simp),if_pos hb]
      rw [e1,e2,e3,e4]
      exact Alike.refl _
    · have e1:farN (true,n)=(true,n):=by unfold farN;rw [if_neg (by simp;omega),if_neg h2]
      have e2:sideT (true,n)=eT:=by unfold sideT;rw [if_neg (by simp;omega),if_neg h2]
      have hb:¬ negB n=true:=by simp [negB];omega
      have e3:farR n=n:=if_neg hb
      have e4:sideR true n=eT:=by unfold sideR;rw [if_neg (by simp),if_neg hb]
      rw [e1,e2,e3,e4]
      exact Alike.refl _
theorem done_alike {s t:Rd} (h:Alike s t):wrDone s=wrDone t:=by
  obtain⟨h1,h2⟩:=h
  unfold wrDone
  by_cases q:s.1=0
  · rw [h2 q]
  · rw [if_neg q,if_neg (by rw [← h1];exact q),h1]
set_option maxRecDepth 8000 in
set_option maxHeartbeats 8000000 in
theorem r26Put_any (cb:Bool) (ch:Int) (cm:Int) (cs:Int) (cc:Int) (st:Bool) (lb:Bool) (ln:Int) (ob:Bool) (on:Int) (sb:Bool) (sn:Int) (kb:Bool) (kn:Int) (vb:Bool) (vn:Int) (db:Bool) (dd:Int) (dm:Int) (dy:Int) (w:World):Calls Tryz.prog 37 #[rmcV cb ch cm cs cc st lb ln ob on sb sn kb kn vb vn db dd dm dy] w (PutPost (putRmc ((cb,ch,cm,cs,cc),st,(lb,ln),(ob,on),(sb,sn),(kb,kn),(db,dd,dm,dy),(vb,vn))) w):=by
  obtain⟨fb,fn,hfar⟩:∃ b n,farN (vb,vn)=(b,n):=⟨_,_,rfl⟩
  obtain⟨sd,hsd⟩:∃ x,sideT (vb,vn)=x:=⟨_,rfl⟩
  obtain⟨s1,e1⟩:∃ s,Hid (wrClk (cb,ch,cm,cs,cc) (0,[])=s):=⟨_,rfl⟩
  obtain⟨s2,e2⟩:∃ s,Hid (wrText (stT st) 0 s1=s):=⟨_,rfl⟩
  obtain⟨s3,e3⟩:∃ s,Hid (wrAng true (lb,ln) s2=s):=⟨_,rfl⟩
  obtain⟨s4,e4⟩:∃ s,Hid (wrAng false (ob,on) s3=s):=⟨_,rfl⟩
  obtain⟨s5,e5⟩:∃ s,Hid (wrNum 1 4 2 0 999999 (sb,sn) s4=s):=⟨_,rfl⟩
  obtain⟨s6,e6⟩:∃ s,Hid (wrNum 1 3 2 0 36000 (kb,kn) s5=s):=⟨_,rfl⟩
  obtain⟨s7,e7⟩:∃ s,Hid (wrDat (db,dd,dm,dy) s6=s):=⟨_,rfl⟩
  obtain⟨s8,e8⟩:∃ s,Hid (wrNum 1 3 1 0 1800 (fb,fn) s7=s):=⟨_,rfl⟩
  obtain⟨s9,e9⟩:∃ s,Hid (wrText sd 0 s8=s):=⟨_,rfl⟩
  have HPUT:Hid (putRmc ((cb,ch,cm,cs,cc),st,(lb,ln),(ob,on),(sb,sn),(kb,kn),(db,dd,dm,dy),(vb,vn))=wrDone s9):=by
    show _=_
    unfold putRmc
    show wrDone (wrText (sideT (vb,vn)) 0 (wrNum 1 3 1 0 1800 (farN (vb,vn)) (wrDat (db,dd,dm,dy) (wrNum 1 3 2 0 36000 (kb,kn) (wrNum 1 4 2 0 999999 (sb,sn) (wrAng false (ob,on) (wrAng true (lb,ln) (wrText (stT st) 0 (wrClk (cb,ch,cm,cs,cc) (0,[]))))))))))=_
    rw [hfar,hsd,e1.out,e2.out,e3.out,e4.out,e5.out,e6.out,e7.out,e8.out,e9.out]
  have l1:s1.2.length≤1:=by rw [← e1.out];unfold wrClk;rw [wrText_len];exact Nat.le_refl _
  have l2:s2.2.length≤2:=by rw [← e2.out];rw [wrText_len];omega
  have l3:s3.2.length≤4:=by rw [← e3.out];rw [wrAng_len];omega
  have l4:s4.2.length≤6:=by rw [← e4.out];rw [wrAng_len];omega
  have l5:s5.2.length≤7:=by rw [← e5.out];rw [wrNum_len];omega
  have l6:s6.2.length≤8:=by rw [← e6.out];rw [wrNum_len];omega
  have l7:s7.2.length≤9:=by rw [← e7.out];unfold wrDat;rw [wrText_len];omega
  have l8:s8.2.length≤10:=by rw [← e8.out];rw [wrNum_len];omega
  have l9:s9.2.length≤11:=by rw [← e9.out];rw [wrText_len];omega
  rw [HPUT.out]
  clear HPUT
  obtain⟨X,hX⟩:∃ X,wrDone s9=X:=⟨_,rfl⟩
  have HX:=Lib.hid hX
  rw [hX]
  clear hX
  obtain⟨t8,f8⟩:∃ s,Hid (wrNum 1 3 1 0 1800 (vb,farR vn) s7=s):=⟨_,rfl⟩
  obtain⟨t9,f9⟩:∃ s,Hid (wrText (sideR vb vn) 0 t8=s):=⟨_,rfl⟩
  have HX2:Hid (wrDone t9=X):=by
    show _=_
    rw [← HX.out,← f9.out,← f8.out,← e9.out,← e8.out,← hfar,← hsd]
    exact (done_alike (far_alike vb vn s7)).symm
  have k8:t8.2.length≤10:=by rw [← f8.out,wrNum_len];omega
  have k9:t9.2.length≤11:=by rw [← f9.out,wrText_len];omega
  have e7':Hid (wrText (datT (db,dd,dm,dy)).1 (datT (db,dd,dm,dy)).2 s6=s7):=e7
  have HDA:=fun W=>Lib.hid (r24datPut_any db dd dm dy W)
  generalize (datT (db,dd,dm,dy)).1=DT at *
  generalize (datT (db,dd,dm,dy)).2=DE at *
  clear HX hfar hsd e7 e8 e9 l8 l9
  obtain⟨FN,HFN⟩:∃ x,Hid (farR vn=x):=⟨_,rfl⟩
  obtain⟨SR,HSR⟩:∃ x,Hid (sideR vb vn=x):=⟨_,rfl⟩
  obtain⟨SD,HSD⟩:∃ x,Hid ((if negB vn=true then wT else eT)=x):=⟨_,rfl⟩
  rw [HFN.out] at f8
  rw [HSR.out] at f9
  have HM0:Hid (∀ o,(w.alloc (.cells (rmcC cb ch cm cs cc st lb ln ob on sb sn kb kn vb vn db dd dm dy) 36)).cell? ⟨w.heap.size,o,none⟩=(rmcC cb ch cm cs cc st lb ln ob on sb sn kb kn vb vn db dd dm dy)[o]?):=fun o=>World.cell?_alloc_at _ _ _ _ rfl
  have HB0:=Lib.hid (below_new w (.cells (rmcC cb ch cm cs cc st lb ln ob on sb sn kb kn vb vn db dd dm dy) 36))
  have HZ0:Hid ((w.alloc (.cells (rmcC cb ch cm cs cc st lb ln ob on sb sn kb kn vb vn db dd dm dy) 36)).heap.size=w.heap.size+1):=by show _=_;simp
  go_enter Tryz.func37,Tryz.ntmps37
  go_wp2_with fail
  generalize hW1:w.alloc (.cells (rmcC cb ch cm cs cc st lb ln ob on sb sn kb kn vb vn db dd dm dy) 36)=W1 at *
  clear hW1
  refine (r26Cols_any _).mono ?_
  rintro r w2 ⟨rfl,hc2,hz2,hb2⟩
  have hb3:=below_new w2 (.cells #[.slice none 0 0,.int .i64 0,.int .i64 0] 112)
  have HR:=Lib.hid (rowNew (w:=w2))
  have hz0:=HZ0.out
  have HM:Hid (∀ o,(w2.alloc (.cells #[.slice none 0 0,.int .i64 0,.int .i64 0] 112)).cell? ⟨w.heap.size,o,none⟩=(rmcC cb ch cm cs cc st lb ln ob on sb sn kb kn vb vn db dd dm dy)[o]?):=fun o=>((bcell hb3).1 _ o (by omega)).trans (((bcell hb2).1 _ o (by omega)).trans (HM0.out o))
  have HCC:Hid (∀ o,(w2.alloc (.cells #[.slice none 0 0,.int .i64 0,.int .i64 0] 112)).cell? ⟨w.heap.size+1,o,none⟩=colsM[o]?):=fun o=>by rw [← hz0];exact ((bcell hb3).1 _ o (by omega)).trans (hc2 o)
  have HB2:Hid (Below w.heap.size w (w2.alloc (.cells #[.slice none 0 0,.int .i64 0,.int .i64 0] 112))):=Below.trans HB0.out ((hb2.mono (by omega)).trans (hb3.mono (by omega)))
  obtain⟨S,hS⟩:∃ S,(fun k=>k < w2.heap.size+1)=S:=⟨_,rfl⟩
  have sW:Hid (∀ k,k < w2.heap.size+1→S k):=fun k hk=>by rw [← hS];exact hk
  rw [hS] at HR
  have hgw:w.heap.size < w2.heap.size:=by omega
  have hgc:w.heap.size+1 < w2.heap.size:=by omega
  clear hb2 hb3 hS HM0 HB0 hc2 hz2
  go_upto_region 3 with fail
  generalize hW3:w2.alloc (.cells #[.slice none 0 0,.int .i64 0,.int .i64 0] 112)=W3 at *
  clear hW3 HZ0 hz0
  have HK0:Hid (RowI S w2.heap.size (0,[]) W3∧Kept S w2.heap.size W3 W3):=⟨HR.out,Kept.refl _ _ _⟩
  clear HR
  generalize w2.heap.size=g at *
  have sM:Hid (S w.heap.size∧w.heap.size≠g):=⟨sW.out _ (by omega),by omega⟩
  have sC:Hid (S (w.heap.size+1)∧w.heap.size+1≠g):=⟨sW.out _ (by omega),by omega⟩
  have m0:=(HK0.out.2.cell (o:=0) sM.out.1 sM.out.2).trans (HM.out 0)
  have m1:=(HK0.out.2.cell (o:=1) sM.out.1 sM.out.2).trans (HM.out 1)
  have m2:=(HK0.out.2.cell (o:=2) sM.out.1 sM.out.2).trans (HM.out 2)
  have m3:=(HK0.out.2.cell (o:=3) sM.out.1 sM.out.2).trans (HM.out 3)
  have m4:=(HK0.out.2.cell (o:=4) sM.out.1 sM.out.2).trans (HM.out 4)
  go_wp2_with fail
  refine (r25PutClock_any e1 HK0.out.1 (by decide)).mono ?_
  rintro r x1 ⟨rfl,hp,hk⟩
  have HK1:Hid (RowI S g s1 x1∧Kept S g W3 x1):=⟨hp,HK0.out.2.trans hk⟩
  clear hp hk HK0 m0 m1 m2 m3 m4
  have m0:=(HK1.out.2.cell (o:=5) sM.out.1 sM.out.2).trans (HM.out 5)
  try dsimp only
  repeat (fail_if_success (show Code.wp _ (Code.seq (Code.region 4 _ _) _) _ _ _)
          first | go_values | go_skip | go_guarded | go_step | go_upon | go_back | (simp only [Int.not_lt,Int.not_le] at *;go_simp) | (go_ite <;> go_prune <;> (try go_simp)))
  go_cut [] (fun wx=>Hid (RowI S g s2 wx∧Kept S g W3 wx))
  case first=>
    cases st
    all_goals
      go_wp2_with fail
      refine (rowText e2 HK1.out.1 (by omega)).mono ?_
      rintro r x ⟨rfl,hp,hk⟩
      have HF:Hid (RowI S g s2 x∧Kept S g W3 x):=⟨hp,HK1.out.2.trans hk⟩
      clear hp hk
      go_wp2_with fail
      go_meet
      exact HF
  case rest=>
  have HK2:=hcut
  clear hcut HK1 m0
  have m0:=(HK2.out.2.cell (o:=6) sM.out.1 sM.out.2).trans (HM.out 6)
  have m1:=(HK2.out.2.cell (o:=7) sM.out.1 sM.out.2).trans (HM.out 7)
  go_wp2_with fail
  refine (rowAng e3 HK2.out.1 (by omega)).mono ?_
  rintro r x3 ⟨rfl,hp,hk⟩
  have HK3:Hid (RowI S g s3 x3∧Kept S g W3 x3):=⟨hp,HK2.out.2.trans hk⟩
  clear hp hk HK2 m0 m1
  have m0:=(HK3.out.2.cell (o:=8) sM.out.1 sM.out.2).trans (HM.out 8)
  have m1:=(HK3.out.2.cell (o:=9) sM.out.1 sM.out.2).trans (HM.out 9)
  go_wp2_with fail
  refine (rowAng e4 HK3.out.1 (by omega)).mono ?_
  rintro r x4 ⟨rfl,hp,hk⟩
  have HK4:Hid (RowI S g s4 x4∧Kept S g W3 x4):=⟨hp,HK3.out.2.trans hk⟩
  clear hp hk HK3 m0 m1
  go_upto_region 9 with fail
  have m0:=(HK4.out.2.cell (o:=10) sM.out.1 sM.out.2).trans (HM.out 10)
  have m1:=(HK4.out.2.cell (o:=11) sM.out.1 sM.out.2).trans (HM.out 11)
  have c0:=(HK4.out.2.cell (o:=0) sC.out.1 sC.out.2).trans (HCC.out 0)
  have c1:=(HK4.out.2.cell (o:=1) sC.out.1 sC.out.2).trans (HCC.out 1)
  have c2:=(HK4.out.2.cell (o:=2) sC.out.1 sC.out.2).trans (HCC.out 2)
  have c3:=(HK4.out.2.cell (o:=3) sC.out.1 sC.out.2).trans (HCC.out 3)
  have c4:=(HK4.out.2.cell (o:=4) sC.out.1 sC.out.2).trans (HCC.out 4)
  go_cut [] (fun wx=>Hid (RowI S g s5 wx∧Kept S g W3 wx))
  case first=>
    go_region_with ((go_at_call 88;refine (rowNum e5 (HK4.out.1.keep (bdrew (Below.refl _ _))) (by omega)).mono ?_;rintro r y3 ⟨rfl,hp3,hk3⟩))
    all_goals go_wp2_with fail
    all_goals go_meet
    all_goals exact Lib.hid ⟨hp3,HK4.out.2.trans hk3.undrew⟩
  case rest=>
  have HK5:=hcut
  clear hcut HK4 m0 m1 c0 c1 c2 c3 c4
  go_upto_region 10 with fail
  have m0:=(HK5.out.2.cell (o:=12) sM.out.1 sM.out.2).trans (HM.out 12)
  have m1:=(HK5.out.2.cell (o:=13) sM.out.1 sM.out.2).trans (HM.out 13)
  have c0:=(HK5.out.2.cell (o:=5) sC.out.1 sC.out.2).trans (HCC.out 5)
  have c1:=(HK5.out.2.cell (o:=6) sC.out.1 sC.out.2).trans (HCC.out 6)
  have c2:=(HK5.out.2.cell (o:=7) sC.out.1 sC.out.2).trans (HCC.out 7)
  have c3:=(HK5.out.2.cell (o:=8) sC.out.1 sC.out.2).trans (HCC.out 8)
  have c4:=(HK5.out.2.cell (o:=9) sC.out.1 sC.out.2).trans (HCC.out 9)
  go_cut [] (fun wx=>Hid (RowI S g s6 wx∧Kept S g W3 wx))
  case first=>
    go_region_with ((go_at_call 88;refine (rowNum e6 (HK5.out.1.keep (bdrew (Below.refl _ _))) (by omega)).mono ?_;rintro r y3 ⟨rfl,hp3,hk3⟩))
    all_goals go_wp2_with fail
    all_goals go_meet
    all_goals exact Lib.hid ⟨hp3,HK5.out.2.trans hk3.undrew⟩
  case rest=>
  have HK6:=hcut
  clear hcut HK5 m0 m1 c0 c1 c2 c3 c4
  have m0:=(HK6.out.2.cell (o:=16) sM.out.1 sM.out.2).trans (HM.out 16)
  have m1:=(HK6.out.2.cell (o:=17) sM.out.1 sM.out.2).trans (HM.out 17)
  have m2:=(HK6.out.2.cell (o:=18) sM.out.1 sM.out.2).trans (HM.out 18)
  have m3:=(HK6.out.2.cell (o:=19) sM.out.1 sM.out.2).trans (HM.out 19)
  go_wp2_with fail
  refine (HDA _).out.mono ?_
  rintro r y7 ⟨rfl,hb⟩
  have HK6a:Hid (RowI S g s6 y7∧Kept S g W3 y7):=⟨HK6.out.1.keep hb,HK6.out.2.trans (Kept.of_below hb HK6.out.1.bd)⟩
  clear hb HK6 m0 m1 m2 m3
  go_wp2_with fail
  refine (rowText e7' HK6a.out.1 (by omega)).mono ?_
  rintro r x7 ⟨rfl,hp,hk⟩
  have HK7:Hid (RowI S g s7 x7∧Kept S g W3 x7):=⟨hp,HK6a.out.2.trans hk⟩
  clear hp hk HK6a HDA
  have m0:=(HK7.out.2.cell (o:=14) sM.out.1 sM.out.2).trans (HM.out 14)
  have m1:=(HK7.out.2.cell (o:=15) sM.out.1 sM.out.2).trans (HM.out 15)
  have hbv:=below_new x7 (numO vb vn)
  have HKK:Hid (∀ W,Below x7.heap.size x7 W→RowI S g s7 W∧Kept S g W3 W):=fun W hb=>⟨HK7.out.1.keep hb,HK7.out.2.trans (Kept.of_below hb HK7.out.1.bd)⟩
  have HV8:Hid (Below x7.heap.size x7 (x7.alloc (numO vb vn))∧AtC (x7.alloc (numO vb vn)) x7.heap.size #[Value.bool vb,.int .i64 vn]):=⟨hbv,fun o=>World.cell?_alloc_at _ _ _ _ rfl⟩
  have HVF:Hid (∀ o,(x7.alloc (numO vb vn)).frozen? ⟨x7.heap.size,o,none⟩=false):=fun o=>by rw [frozen?_alloc_cells];exact frozen_past _ _ _ (Nat.le_refl _)
  clear hbv
  go_upto_region 14 with fail
  clear m0 m1 HK7
  generalize hW8:x7.alloc (numO vb vn)=W8 at *
  clear hW8
  generalize x7.heap.size=D at *
  try dsimp only
  repeat (fail_if_success (show Code.wp _ (Code.seq (Code.region 15 _ _) _) _ _ _)
          first | go_values | go_skip | go_guarded | go_step | go_upon | go_back | (simp only [Int.not_lt,Int.not_le] at *;go_simp) | (go_ite <;> go_prune <;> (try go_simp)))
  go_cut [9] (fun v wx=>v=.string SD∧Hid (Below D x7 wx∧AtC wx D #[Value.bool vb,.int .i64 FN]))
  case first=>
    have n0:=HV8.out.2 0
    have n1:=HV8.out.2 1
    have z1:=HVF.out 1
    rcases (by omega:vn < -1800∨(-1800≤vn∧vn < 0)∨0≤vn) with h | ⟨h,h'⟩ | h
    · have hb:¬ negB vn=true:=by simp [negB];omega
      have HA:Hid (eT=SD):=(if_neg hb).symm.trans HSD.out
      have HB:Hid (vn=FN):=(if_neg hb).symm.trans HFN.out
      have i1:vn < 0:=by omega
      have i2:decide (-1800≤vn)=false:=decide_eq_false (by omega)
      clear hb h HSD HFN HSR
      go_wp2_with fail
      go_meet
      exact⟨by rw [← HA.out];rfl,by rw [← HB.out];exact HV8⟩
    · have hb:negB vn=true:=by simp [negB];omega
      have HA:Hid (wT=SD):=(if_pos hb).symm.trans HSD.out
      have HB:Hid (-vn=FN):=(if_pos hb).symm.trans HFN.out
      have hw:IntKind.i64.wrap (-vn)=-vn:=IntWalk.i64_in _ (by omega)
      have HQ:Hid (Below D x7 (W8.setCell ⟨D,1,none⟩ (.int .i64 (-vn)))∧AtC (W8.setCell ⟨D,1,none⟩ (.int .i64 (-vn))) D #[Value.bool vb,.int .i64 (-vn)]):=⟨below_set HV8.out.1 (Nat.le_refl _),HV8.out.2.set 1 (.int .i64 (-vn)) (by simp)⟩
      clear hb HSD HFN HSR
      go_wp2_with fail
      go_meet
      exact⟨by rw [← HA.out];rfl,by rw [← HB.out];exact HQ⟩
    · have hb:¬ negB vn=true:=by simp [negB];omega
      have HA:Hid (eT=SD):=(if_neg hb).symm.trans HSD.out
      have HB:Hid (vn=FN):=(if_neg hb).symm.trans HFN.out
      have i1:decide (vn < 0)=false:=decide_eq_false (by omega)
      clear hb h HSD HFN HSR
      go_wp2_with fail
      go_meet
      exact⟨by rw [← HA.out];rfl,by rw [← HB.out];exact HV8⟩
  case rest=>
  obtain⟨rfl,hC⟩:=hcut
  clear HV8 HVF
  try dsimp only
  repeat (fail_if_success (show Code.wp _ (Code.seq (Code.region 18 _ _) _) _ _ _)
          first | go_values | go_skip | go_guarded | go_step | go_upon | go_back | (simp only [Int.not_lt,Int.not_le] at *;go_simp) | (go_ite <;> go_prune <;> (try go_simp)))
  go_cut [9] (fun v wx=>v=.string SR∧Hid (Below D x7 wx∧AtC wx D #[Value.bool vb,.int .i64 FN]))
  case first=>
    have n0:=hC.out.2 0
    cases vb
    · have HA:Hid (ByteArray.empty=SR):=HSR.out
      clear HSD HFN HSR
      go_wp2_with fail
      go_meet
      exact⟨by rw [← HA.out];rfl,hC⟩
    · have HA:Hid (SD=SR):=HSD.out.symm.trans HSR.out
      clear HSD HFN HSR
      go_wp2_with fail
      go_meet
      exact⟨by rw [← HA.out],hC⟩
  case rest=>
  obtain⟨rfl,hC9⟩:=hcut
  clear hC HSD HFN HSR
  have HK9:=Lib.hid (HKK.out _ hC9.out.1)
  have n0:=hC9.out.2 0
  have n1:=hC9.out.2 1
  have c0:=(HK9.out.2.cell (o:=10) sC.out.1 sC.out.2).trans (HCC.out 10)
  have c1:=(HK9.out.2.cell (o:=11) sC.out.1 sC.out.2).trans (HCC.out 11)
  have c2:=(HK9.out.2.cell (o:=12) sC.out.1 sC.out.2).trans (HCC.out 12)
  have c3:=(HK9.out.2.cell (o:=13) sC.out.1 sC.out.2).trans (HCC.out 13)
  have c4:=(HK9.out.2.cell (o:=14) sC.out.1 sC.out.2).trans (HCC.out 14)
  go_upto_region 20 with fail
  go_cut [] (fun wx=>Hid (RowI S g t8 wx∧Kept S g W3 wx))
  case first=>
    go_region_with ((go_at_call 88;refine (rowNum f8 (HK9.out.1.keep (bdrew (Below.refl _ _))) (by omega)).mono ?_;rintro r y3 ⟨rfl,hp3,hk3⟩))
    all_goals go_wp2_with fail
    all_goals go_meet
    all_goals exact Lib.hid ⟨hp3,HK9.out.2.trans hk3.undrew⟩
  case rest=>
  have HK10:=hcut
  clear hcut HK9 hC9 HKK n0 n1 c0 c1 c2 c3 c4
  go_wp2_with fail
  refine (rowText f9 HK10.out.1 (by omega)).mono ?_
  rintro r x11 ⟨rfl,hp,hk⟩
  have HK11:Hid (RowI S g t9 x11∧Kept S g W3 x11):=⟨hp,HK10.out.2.trans hk⟩
  clear hp hk HK10
  have HB6:Hid (Below w.heap.size w _):=HB2.out.trans (HK11.out.2.below (B:=w.heap.size) (by omega) (fun k hk=>sW.out k (by omega)))
  go_wp2_with fail
  refine (rowDone HK11.out.1 (by omega)).mono ?_
  intro r w7 h7
  have h8:=DonePost.put HB6.out h7
  rw [HX2.out] at h8
  obtain⟨v,rfl,h9⟩:=h8
  have H9:=Lib.hid h9
  clear h7 h9
  go_wp2_with fail
  go_ret2
  exact⟨v,rfl,H9.out⟩
def senOf (t y:ByteArray) (X:List ByteArray×Int):(ByteArray×ByteArray×List ByteArray)×Int:=if X.2=0 then ((t,y,X.1),0) else ((ByteArray.empty,ByteArray.empty,[]),X.2)
set_option maxRecDepth 8000 in
set_option maxHeartbeats 4000000 in
theorem r30Put_1 {t:ByteArray} {G R S V U:List Value} {X:List ByteArray×Int} {w:World} (hl:Hid (Lens G R S V U)) (HP:∀ W,Below w.heap.size w W→Hid (Calls Tryz.prog 36 #[.agg G.toArray] W (PutPost X W))):Calls Tryz.prog 18 #[.agg (nmL 1 t G R S V U).toArray] w (SenOut (senOf t ⟨#[71,71,65]⟩ X) w):=by
  obtain⟨fs,E⟩:=X
  have hs:(Tryz.prog.info? 32).map (·.size)=some G.length:=by rw [hl.out.g];exact onGga_size
  have HSZ:=Lib.hid hs
  clear hs
  go_enter Tryz.func18,Tryz.ntmps18
  go_wp2_with (first
    | (refine wpList_box_new rfl _ _ rfl (nmL 1 t G R S V U).toArray rfl ?_;intro W1 hW1;have HG:=Lib.hid (Blk.new hW1);have HBE:=Lib.hid hW1.bel;have HS1:=Lib.hid hW1.sz;clear hW1)
    | (refine wpList_alloc_new rfl 24 rfl #[.string ByteArray.empty,.string ByteArray.empty,.slice none 0 0] (by kernel_rfl) ?_;intro W2 hW2;have HR:=Lib.hid (Blk.newL (L:=[.string ByteArray.empty,.string ByteArray.empty,.slice none 0 0]) hW2 rfl);have HG2:Hid (Blk W2 w.heap.size (nmL 1 t G R S V U)):=(HG.out.grew hW2);have HBE2:=Lib.hid (bthen HBE.out hW2.bel);have HS2:=Lib.hid hW2.sz;have c0:=HG2.out.cell 0 rfl;clear hW2 HG HBE)
    | (refine wpList_load_mid rfl 32 _ rfl w.heap.size 2 rfl G _ (HG2.out.nm hl.out).g Tryz.underlying32 rfl HSZ.out ?_))
  refine (HP _ HBE2.out).out.mono ?_
  rintro r W7 ⟨y,rfl,B,d,rfl,hB,hst,hfr,hb⟩
  have HST:=Lib.hid hst
  have HHB:=Lib.hid hB
  have HFR:=Lib.hid hfr
  have HG7:=Lib.hid (HG2.out.on hb)
  have HR7:=Lib.hid (HR.out.on hb)
  have HBE7:=Lib.hid (bthen HBE2.out hb)
  have c1:=HG7.out.cell 1 rfl
  clear hst hB hb hfr HG2 HR HBE2 HP c0
  by_cases h0:E=0
  · subst h0
    go_wp2_with (first
      | refine wpList_build3 (u:=.string t) (u':=.string ⟨#[71,71,65]⟩) (u'':=.slice B fs.length d) rfl 24 0 1 2 _ _ _ rfl rfl rfl rfl (sen_build t ⟨#[71,71,65]⟩ B fs.length d _) ?_
      | (refine wpList_store_in rfl 24 _ _ rfl W1.heap.size 0 #[.string t,.string ⟨#[71,71,65]⟩,.slice B fs.length d] rfl rfl (HR7.out.there 0 3 (by decide)) sen_size (Ones.arr (L:=[.string t,.string ⟨#[71,71,65]⟩,.slice B fs.length d]) (Ones.of rfl)) ?_;intro W8 hW8;have HR8:=Lib.hid (HR7.out.all hW8 rfl);have HBE8:=Lib.hid (HBE7.out.trans (hW8.below (by have:=HS1.out;omega)));have HS8:=Lib.hid (hW8.strs HST.out (fun a ha=>by have h1:=HFR.out a ha;have h3:=HS2.out;omega));have HZ8:=Lib.hid hW8.sz;clear hW8 HR7 HBE7))
    have HLD:=Lib.hid (run_loadVar_mid (P:=Tryz.prog) _ W1.heap.size 0 24 _ _ HR8.out.rg Tryz.underlying24 rfl sen_size)
    refine bodyPost_ret (v:=.tuple #[.agg #[.string t,.string ⟨#[71,71,65]⟩,.slice B fs.length d],.int .i64 0]) (by rw [results_cell_tmp rfl];simp [asAddr,Result.andThen,HLD.out]) rfl ?_
    exact⟨_,rfl,⟨B,d,rfl,by rw [HZ8.out];exact HS8.out⟩,HBE8.out⟩
  · have HX:Hid (senOf t ⟨#[71,71,65]⟩ (fs,E)=((ByteArray.empty,ByteArray.empty,[]),E)):=if_neg h0
    have hne:(E != 0)=true:=by rw [bne_iff_ne];exact h0
    go_wp2_with (first
      | refine wpList_build0 rfl 24 rfl (sen_zero _) ?_
      | (refine wpList_store_in rfl 24 _ _ rfl W1.heap.size 0 #[.string ByteArray.empty,.string ByteArray.empty,.slice none 0 0] rfl rfl (HR7.out.there 0 3 (by decide)) sen_size (Ones.arr (L:=[.string ByteArray.empty,.string ByteArray.empty,.slice none 0 0]) (Ones.of rfl)) ?_;intro W8 hW8;have HR8:=Lib.hid (HR7.out.all hW8 rfl);have HBE8:=Lib.hid (HBE7.out.trans (hW8.below (by have:=HS1.out;omega)));clear hW8 HR7 HBE7))
    have HLD:=Lib.hid (run_loadVar_mid (P:=Tryz.prog) _ W1.heap.size 0 24 _ _ HR8.out.rg Tryz.underlying24 rfl sen_size)
    refine bodyPost_ret (v:=.tuple #[.agg #[.string ByteArray.empty,.string ByteArray.empty,.slice none 0 0],.int .i64 E]) (by rw [results_cell_tmp rfl];simp [asAddr,Result.andThen,HLD.out]) rfl ?_
    rw [HX.out]
    exact⟨_,rfl,SenV.zero _,HBE8.out⟩
set_option maxRecDepth 8000 in
set_option maxHeartbeats 4000000 in
theorem r30Put_2 {t:ByteArray} {G R S V U:List Value} {X:List ByteArray×Int} {w:World} (hl:Hid (Lens G R S V U)) (HP:∀ W,Below w.heap.size w W→Hid (Calls Tryz.prog 37 #[.agg R.toArray] W (PutPost X W))):Calls Tryz.prog 18 #[.agg (nmL 2 t G R S V U).toArray] w (SenOut (senOf t ⟨#[82,77,67]⟩ X) w):=by
  obtain⟨fs,E⟩:=X
  have hs:(Tryz.prog.info? 36).map (·.size)=some R.length:=by rw [hl.out.r];exact onRmc_size
  have HSZ:=Lib.hid hs
  clear hs
  go_enter Tryz.func18,Tryz.ntmps18
  go_wp2_with (first
    | (refine wpList_box_new rfl _ _ rfl (nmL 2 t G R S V U).toArray rfl ?_;intro W1 hW1;have HG:=Lib.hid (Blk.new hW1);have HBE:=Lib.hid hW1.bel;have HS1:=Lib.hid hW1.sz;clear hW1)
    | (refine wpList_alloc_new rfl 24 rfl #[.string ByteArray.empty,.string ByteArray.empty,.slice none 0 0] (by kernel_rfl) ?_;intro W2 hW2;have HR:=Lib.hid (Blk.newL (L:=[.string ByteArray.empty,.string ByteArray.empty,.slice none 0 0]) hW2 rfl);have HG2:Hid (Blk W2 w.heap.size (nmL 2 t G R S V U)):=(HG.out.grew hW2);have HBE2:=Lib.hid (bthen HBE.out hW2.bel);have HS2:=Lib.hid hW2.sz;have c0:=HG2.out.cell 0 rfl;clear hW2 HG HBE)
    | (refine wpList_load_mid rfl 36 _ rfl w.heap.size 24 rfl R _ (HG2.out.nm hl.out).r Tryz.underlying36 rfl HSZ.out ?_))
  refine (HP _ HBE2.out).out.mono ?_
  rintro r W7 ⟨y,rfl,B,d,rfl,hB,hst,hfr,hb⟩
  have HST:=Lib.hid hst
  have HHB:=Lib.hid hB
  have HFR:=Lib.hid hfr
  have HG7:=Lib.hid (HG2.out.on hb)
  have HR7:=Lib.hid (HR.out.on hb)
  have HBE7:=Lib.hid (bthen HBE2.out hb)
  have c1:=HG7.out.cell 1 rfl
  clear hst hB hb hfr HG2 HR HBE2 HP c0
  by_cases h0:E=0
  · subst h0
    go_wp2_with (first
      | refine wpList_build3 (u:=.string t) (u':=.string ⟨#[82,77,67]⟩) (u'':=.slice B fs.length d) rfl 24 0 1 2 _ _ _ rfl rfl rfl rfl (sen_build t ⟨#[82,77,67]⟩ B fs.length d _) ?_
      | (refine wpList_store_in rfl 24 _ _ rfl W1.heap.size 0 #[.string t,.string ⟨#[82,77,67]⟩,.slice B fs.length d] rfl rfl (HR7.out.there 0 3 (by decide)) sen_size (Ones.arr (L:=[.string t,.string ⟨#[82,77,67]⟩,.slice B fs.length d]) (Ones.of rfl)) ?_;intro W8 hW8;have HR8:=Lib.hid (HR7.out.all hW8 rfl);have HBE8:=Lib.hid (HBE7.out.trans (hW8.below (by have:=HS1.out;omega)));have HS8:=Lib.hid (hW8.strs HST.out (fun a ha=>by have h1:=HFR.out a ha;have h3:=HS2.out;omega));have HZ8:=Lib.hid hW8.sz;clear hW8 HR7 HBE7))
    have HLD:=Lib.hid (run_loadVar_mid (P:=Tryz.prog) _ W1.heap.size 0 24 _ _ HR8.out.rg Tryz.underlying24 rfl sen_size)
    refine bodyPost_ret (v:=.tuple #[.agg #[.string t,.string ⟨#[82,77,67]⟩,.slice B fs.length d],.int .i64 0]) (by rw [results_cell_tmp rfl];simp [asAddr,Result.andThen,HLD.out]) rfl ?_
    exact⟨_,rfl,⟨B,d,rfl,by rw [HZ8.out];exact HS8.out⟩,HBE8.out⟩
  · have HX:Hid (senOf t ⟨#[82,77,67]⟩ (fs,E)=((ByteArray.empty,ByteArray.empty,[]),E)):=if_neg h0
    have hne:(E != 0)=true:=by rw [bne_iff_ne];exact h0
    go_wp2_with (first
      | refine wpList_build0 rfl 24 rfl (sen_zero _) ?_
      | (refine wpList_store_in rfl 24 _ _ rfl W1.heap.size 0 #[.string ByteArray.empty,.string ByteArray.empty,.slice none 0 0] rfl rfl (HR7.out.there 0 3 (by decide)) sen_size (Ones.arr (L:=[.string ByteArray.empty,.string ByteArray.empty,.slice none 0 0]) (Ones.of rfl)) ?_;intro W8 hW8;have HR8:=Lib.hid (HR7.out.all hW8 rfl);have HBE8:=Lib.hid (HBE7.out.trans (hW8.below (by have:=HS1.out;omega)));clear hW8 HR7 HBE7))
    have HLD:=Lib.hid (run_loadVar_mid (P:=Tryz.prog) _ W1.heap.size 0 24 _ _ HR8.out.rg Tryz.underlying24 rfl sen_size)
    refine bodyPost_ret (v:=.tuple #[.agg #[.string ByteArray.empty,.string ByteArray.empty,.slice none 0 0],.int .i64 E]) (by rw [results_cell_tmp rfl];simp [asAddr,Result.andThen,HLD.out]) rfl ?_
    rw [HX.out]
    exact⟨_,rfl,SenV.zero _,HBE8.out⟩
set_option maxRecDepth 8000 in
set_option maxHeartbeats 4000000 in
theorem r30Put_3 {t:ByteArray} {G R S V U:List Value} {X:List ByteArray×Int} {w:World} (hl:Hid (Lens G R S V U)) (HP:∀ W,Below w.heap.size w W→Hid (Calls Tryz.prog 38 #[.agg S.toArray] W (PutPost X W))):Calls Tryz.prog 18 #[.agg (nmL 3 t G R S V U).toArray] w (SenOut (senOf t ⟨#[71,83,65]⟩ X) w):=by
  obtain⟨fs,E⟩:=X
  have hs:(Tryz.prog.info? 39).map (·.size)=some S.length:=by rw [hl.out.s];exact onGsa_size
  have HSZ:=Lib.hid hs
  clear hs
  go_enter Tryz.func18,Tryz.ntmps18
  go_wp2_with (first
    | (refine wpList_box_new rfl _ _ rfl (nmL 3 t G R S V U).toArray rfl ?_;intro W1 hW1;have HG:=Lib.hid (Blk.new hW1);have HBE:=Lib.hid hW1.bel;have HS1:=Lib.hid hW1.sz;clear hW1)
    | (refine wpList_alloc_new rfl 24 rfl #[.string ByteArray.empty,.string ByteArray.empty,.slice none 0 0] (by kernel_rfl) ?_;intro W2 hW2;have HR:=Lib.hid (Blk.newL (L:=[.string ByteArray.empty,.string ByteArray.empty,.slice none 0 0]) hW2 rfl);have HG2:Hid (Blk W2 w.heap.size (nmL 3 t G R S V U)):=(HG.out.grew hW2);have HBE2:=Lib.hid (bthen HBE.out hW2.bel);have HS2:=Lib.hid hW2.sz;have c0:=HG2.out.cell 0 rfl;clear hW2 HG HBE)
    | (refine wpList_load_mid rfl 39 _ rfl w.heap.size 44 rfl S _ (HG2.out.nm hl.out).s Tryz.underlying39 rfl HSZ.out ?_))
  refine (HP _ HBE2.out).out.mono ?_
  rintro r W7 ⟨y,rfl,B,d,rfl,hB,hst,hfr,hb⟩
  have HST:=Lib.hid hst
  have HHB:=Lib.hid hB
  have HFR:=Lib.hid hfr
  have HG7:=Lib.hid (HG2.out.on hb)
  have HR7:=Lib.hid (HR.out.on hb)
  have HBE7:=Lib.hid (bthen HBE2.out hb)
  have c1:=HG7.out.cell 1 rfl
  clear hst hB hb hfr HG2 HR HBE2 HP c0
  by_cases h0:E=0
  · subst h0
    go_wp2_with (first
      | refine wpList_build3 (u:=.string t) (u':=.string ⟨#[71,83,65]⟩) (u'':=.slice B fs.length d) rfl 24 0 1 2 _ _ _ rfl rfl rfl rfl (sen_build t ⟨#[71,83,65]⟩ B fs.length d _) ?_
      | (refine wpList_store_in rfl 24 _ _ rfl W1.heap.size 0 #[.string t,.string ⟨#[71,83,65]⟩,.slice B fs.length d] rfl rfl (HR7.out.there 0 3 (by decide)) sen_size (Ones.arr (L:=[.string t,.string ⟨#[71,83,65]⟩,.slice B fs.length d]) (Ones.of rfl)) ?_;intro W8 hW8;have HR8:=Lib.hid (HR7.out.all hW8 rfl);have HBE8:=Lib.hid (HBE7.out.trans (hW8.below (by have:=HS1.out;omega)));have HS8:=Lib.hid (hW8.strs HST.out (fun a ha=>by have h1:=HFR.out a ha;have h3:=HS2.out;omega));have HZ8:=Lib.hid hW8.sz;clear hW8 HR7 HBE7))
    have HLD:=Lib.hid (run_loadVar_mid (P:=Tryz.prog) _ W1.heap.size 0 24 _ _ HR8.out.rg Tryz.underlying24 rfl sen_size)
    refine bodyPost_ret (v:=.tuple #[.agg #[.string t,.string ⟨#[71,83,65]⟩,.slice B fs.length d],.int .i64 0]) (by rw [results_cell_tmp rfl];simp [asAddr,Result.andThen,HLD.out]) rfl ?_
    exact⟨_,rfl,⟨B,d,rfl,by rw [HZ8.out];exact HS8.out⟩,HBE8.out⟩
  · have HX:Hid (senOf t ⟨#[71,83,65]⟩ (fs,E)=((ByteArray.empty,ByteArray.empty,[]),E)):=if_neg h0
    have hne:(E != 0)=true:=by rw [bne_iff_ne];exact h0
    go_wp2_with (first
      | refine wpList_build0 rfl 24 rfl (sen_zero _) ?_
      | (refine wpList_store_in rfl 24 _ _ rfl W1.heap.size 0 #[.string ByteArray.empty,.string ByteArray.empty,.slice none 0 0] rfl rfl (HR7.out.there 0 3 (by decide)) sen_size (Ones.arr (L:=[.string ByteArray.empty,.string ByteArray.empty,.slice none 0 0]) (Ones.of rfl)) ?_;intro W8 hW8;have HR8:=Lib.hid (HR7.out.all hW8 rfl);have HBE8:=Lib.hid (HBE7.out.trans (hW8.below (by have:=HS1.out;omega)));clear hW8 HR7 HBE7))
    have HLD:=Lib.hid (run_loadVar_mid (P:=Tryz.prog) _ W1.heap.size 0 24 _ _ HR8.out.rg Tryz.underlying24 rfl sen_size)
    refine bodyPost_ret (v:=.tuple #[.agg #[.string ByteArray.empty,.string ByteArray.empty,.slice none 0 0],.int .i64 E]) (by rw [results_cell_tmp rfl];simp [asAddr,Result.andThen,HLD.out]) rfl ?_
    rw [HX.out]
    exact⟨_,rfl,SenV.zero _,HBE8.out⟩
set_option maxRecDepth 8000 in
set_option maxHeartbeats 4000000 in
theorem r30Put_4 {t:ByteArray} {G R S V U:List Value} {X:List ByteArray×Int} {w:World} (hl:Hid (Lens G R S V U)) (HP:∀ W,Below w.heap.size w W→Hid (Calls Tryz.prog 39 #[.agg V.toArray] W (PutPost X W))):Calls Tryz.prog 18 #[.agg (nmL 4 t G R S V U).toArray] w (SenOut (senOf t ⟨#[86,84,71]⟩ X) w):=by
  obtain⟨fs,E⟩:=X
  have hs:(Tryz.prog.info? 41).map (·.size)=some V.length:=by rw [hl.out.v];exact onVtg_size
  have HSZ:=Lib.hid hs
  clear hs
  go_enter Tryz.func18,Tryz.ntmps18
  go_wp2_with (first
    | (refine wpList_box_new rfl _ _ rfl (nmL 4 t G R S V U).toArray rfl ?_;intro W1 hW1;have HG:=Lib.hid (Blk.new hW1);have HBE:=Lib.hid hW1.bel;have HS1:=Lib.hid hW1.sz;clear hW1)
    | (refine wpList_alloc_new rfl 24 rfl #[.string ByteArray.empty,.string ByteArray.empty,.slice none 0 0] (by kernel_rfl) ?_;intro W2 hW2;have HR:=Lib.hid (Blk.newL (L:=[.string ByteArray.empty,.string ByteArray.empty,.slice none 0 0]) hW2 rfl);have HG2:Hid (Blk W2 w.heap.size (nmL 4 t G R S V U)):=(HG.out.grew hW2);have HBE2:=Lib.hid (bthen HBE.out hW2.bel);have HS2:=Lib.hid hW2.sz;have c0:=HG2.out.cell 0 rfl;clear hW2 HG HBE)
    | (refine wpList_load_mid rfl 41 _ rfl w.heap.size 53 rfl V _ (HG2.out.nm hl.out).v Tryz.underlying41 rfl HSZ.out ?_))
  refine (HP _ HBE2.out).out.mono ?_
  rintro r W7 ⟨y,rfl,B,d,rfl,hB,hst,hfr,hb⟩
  have HST:=Lib.hid hst
  have HHB:=Lib.hid hB
  have HFR:=Lib.hid hfr
  have HG7:=Lib.hid (HG2.out.on hb)
  have HR7:=Lib.hid (HR.out.on hb)
  have HBE7:=Lib.hid (bthen HBE2.out hb)
  have c1:=HG7.out.cell 1 rfl
  clear hst hB hb hfr HG2 HR HBE2 HP c0
  by_cases h0:E=0
  · subst h0
    go_wp2_with (first
      | refine wpList_build3 (u:=.string t) (u':=.string ⟨#[86,84,71]⟩) (u'':=.slice B fs.length d) rfl 24 0 1 2 _ _ _ rfl rfl rfl rfl (sen_build t ⟨#[86,84,71]⟩ B fs.length d _) ?_
      | (refine wpList_store_in rfl 24 _ _ rfl W1.heap.size 0 #[.string t,.string ⟨#[86,84,71]⟩,.slice B fs.length d] rfl rfl (HR7.out.there 0 3 (by decide)) sen_size (Ones.arr (L:=[.string t,.string ⟨#[86,84,71]⟩,.slice B fs.length d]) (Ones.of rfl)) ?_;intro W8 hW8;have HR8:=Lib.hid (HR7.out.all hW8 rfl);have HBE8:=Lib.hid (HBE7.out.trans (hW8.below (by have:=HS1.out;omega)));have HS8:=Lib.hid (hW8.strs HST.out (fun a ha=>by have h1:=HFR.out a ha;have h3:=HS2.out;omega));have HZ8:=Lib.hid hW8.sz;clear hW8 HR7 HBE7))
    have HLD:=Lib.hid (run_loadVar_mid (P:=Tryz.prog) _ W1.heap.size 0 24 _ _ HR8.out.rg Tryz.underlying24 rfl sen_size)
    refine bodyPost_ret (v:=.tuple #[.agg #[.string t,.string ⟨#[86,84,71]⟩,.slice B fs.length d],.int .i64 0]) (by rw [results_cell_tmp rfl];simp [asAddr,Result.andThen,HLD.out]) rfl ?_
    exact⟨_,rfl,⟨B,d,rfl,by rw [HZ8.out];exact HS8.out⟩,HBE8.out⟩
  · have HX:Hid (senOf t ⟨#[86,84,71]⟩ (fs,E)=((ByteArray.empty,ByteArray.empty,[]),E)):=if_neg h0
    have hne:(E != 0)=true:=by rw [bne_iff_ne];exact h0
    go_wp2_with (first
      | refine wpList_build0 rfl 24 rfl (sen_zero _) ?_
      | (refine wpList_store_in rfl 24 _ _ rfl W1.heap.size 0 #[.string ByteArray.empty,.string ByteArray.empty,.slice none 0 0] rfl rfl (HR7.out.there 0 3 (by decide)) sen_size (Ones.arr (L:=[.string ByteArray.empty,.string ByteArray.empty,.slice none 0 0]) (Ones.of rfl)) ?_;intro W8 hW8;have HR8:=Lib.hid (HR7.out.all hW8 rfl);have HBE8:=Lib.hid (HBE7.out.trans (hW8.below (by have:=HS1.out;omega)));clear hW8 HR7 HBE7))
    have HLD:=Lib.hid (run_loadVar_mid (P:=Tryz.prog) _ W1.heap.size 0 24 _ _ HR8.out.rg Tryz.underlying24 rfl sen_size)
    refine bodyPost_ret (v:=.tuple #[.agg #[.string ByteArray.empty,.string ByteArray.empty,.slice none 0 0],.int .i64 E]) (by rw [results_cell_tmp rfl];simp [asAddr,Result.andThen,HLD.out]) rfl ?_
    rw [HX.out]
    exact⟨_,rfl,SenV.zero _,HBE8.out⟩
set_option maxRecDepth 8000 in
set_option maxHeartbeats 4000000 in
theorem r30Put_5 {t:ByteArray} {G R S V U:List Value} {X:List ByteArray×Int} {w:World} (hl:Hid (Lens G R S V U)) (HP:∀ W,Below w.heap.size w W→Hid (Calls Tryz.prog 40 #[.agg U.toArray] W (PutPost X W))):Calls Tryz.prog 18 #[.agg (nmL 5 t G R S V U).toArray] w (SenOut (senOf t ⟨#[71,83,86]⟩ X) w):=by
  obtain⟨fs,E⟩:=X
  have hs:(Tryz.prog.info? 44).map (·.size)=some U.length:=by rw [hl.out.u];exact onGsv_size
  have HSZ:=Lib.hid hs
  clear hs
  go_enter Tryz.func18,Tryz.ntmps18
  go_wp2_with (first
    | (refine wpList_box_new rfl _ _ rfl (nmL 5 t G R S V U).toArray rfl ?_;intro W1 hW1;have HG:=Lib.hid (Blk.new hW1);have HBE:=Lib.hid hW1.bel;have HS1:=Lib.hid hW1.sz;clear hW1)
    | (refine wpList_alloc_new rfl 24 rfl #[.string ByteArray.empty,.string ByteArray.empty,.slice none 0 0] (by kernel_rfl) ?_;intro W2 hW2;have HR:=Lib.hid (Blk.newL (L:=[.string ByteArray.empty,.string ByteArray.empty,.slice none 0 0]) hW2 rfl);have HG2:Hid (Blk W2 w.heap.size (nmL 5 t G R S V U)):=(HG.out.grew hW2);have HBE2:=Lib.hid (bthen HBE.out hW2.bel);have HS2:=Lib.hid hW2.sz;have c0:=HG2.out.cell 0 rfl;clear hW2 HG HBE)
    | (refine wpList_load_mid rfl 44 _ rfl w.heap.size 61 rfl U _ (HG2.out.nm hl.out).u Tryz.underlying44 rfl HSZ.out ?_))
  refine (HP _ HBE2.out).out.mono ?_
  rintro r W7 ⟨y,rfl,B,d,rfl,hB,hst,hfr,hb⟩
  have HST:=Lib.hid hst
  have HHB:=Lib.hid hB
  have HFR:=Lib.hid hfr
  have HG7:=Lib.hid (HG2.out.on hb)
  have HR7:=Lib.hid (HR.out.on hb)
  have HBE7:=Lib.hid (bthen HBE2.out hb)
  have c1:=HG7.out.cell 1 rfl
  clear hst hB hb hfr HG2 HR HBE2 HP c0
  by_cases h0:E=0
  · subst h0
    go_wp2_with (first
      | refine wpList_build3 (u:=.string t) (u':=.string ⟨#[71,83,86]⟩) (u'':=.slice B fs.length d) rfl 24 0 1 2 _ _ _ rfl rfl rfl rfl (sen_build t ⟨#[71,83,86]⟩ B fs.length d _) ?_
      | (refine wpList_store_in rfl 24 _ _ rfl W1.heap.size 0 #[.string t,.string ⟨#[71,83,86]⟩,.slice B fs.length d] rfl rfl (HR7.out.there 0 3 (by decide)) sen_size (Ones.arr (L:=[.string t,.string ⟨#[71,83,86]⟩,.slice B fs.length d]) (Ones.of rfl)) ?_;intro W8 hW8;have HR8:=Lib.hid (HR7.out.all hW8 rfl);have HBE8:=Lib.hid (HBE7.out.trans (hW8.below (by have:=HS1.out;omega)));have HS8:=Lib.hid (hW8.strs HST.out (fun a ha=>by have h1:=HFR.out a ha;have h3:=HS2.out;omega));have HZ8:=Lib.hid hW8.sz;clear hW8 HR7 HBE7))
    have HLD:=Lib.hid (run_loadVar_mid (P:=Tryz.prog) _ W1.heap.size 0 24 _ _ HR8.out.rg Tryz.underlying24 rfl sen_size)
    refine bodyPost_ret (v:=.tuple #[.agg #[.string t,.string ⟨#[71,83,86]⟩,.slice B fs.length d],.int .i64 0]) (by rw [results_cell_tmp rfl];simp [asAddr,Result.andThen,HLD.out]) rfl ?_
    exact⟨_,rfl,⟨B,d,rfl,by rw [HZ8.out];exact HS8.out⟩,HBE8.out⟩
  · have HX:Hid (senOf t ⟨#[71,83,86]⟩ (fs,E)=((ByteArray.empty,ByteArray.empty,[]),E)):=if_neg h0
    have hne:(E != 0)=true:=by rw [bne_iff_ne];exact h0
    go_wp2_with (first
      | refine wpList_build0 rfl 24 rfl (sen_zero _) ?_
      | (refine wpList_store_in rfl 24 _ _ rfl W1.heap.size 0 #[.string ByteArray.empty,.string ByteArray.empty,.slice none 0 0] rfl rfl (HR7.out.there 0 3 (by decide)) sen_size (Ones.arr (L:=[.string ByteArray.empty,.string ByteArray.empty,.slice none 0 0]) (Ones.of rfl)) ?_;intro W8 hW8;have HR8:=Lib.hid (HR7.out.all hW8 rfl);have HBE8:=Lib.hid (HBE7.out.trans (hW8.below (by have:=HS1.out;omega)));clear hW8 HR7 HBE7))
    have HLD:=Lib.hid (run_loadVar_mid (P:=Tryz.prog) _ W1.heap.size 0 24 _ _ HR8.out.rg Tryz.underlying24 rfl sen_size)
    refine bodyPost_ret (v:=.tuple #[.agg #[.string ByteArray.empty,.string ByteArray.empty,.slice none 0 0],.int .i64 E]) (by rw [results_cell_tmp rfl];simp [asAddr,Result.andThen,HLD.out]) rfl ?_
    rw [HX.out]
    exact⟨_,rfl,SenV.zero _,HBE8.out⟩
set_option maxRecDepth 8000 in
set_option maxHeartbeats 4000000 in
theorem r30Put_no {k:Int} {t:ByteArray} {G R S V U:List Value} {w:World} (h:¬ (1≤k∧k≤5)):Calls Tryz.prog 18 #[.agg (nmL k t G R S V U).toArray] w (SenOut ((ByteArray.empty,ByteArray.empty,[]),6) w):=by
  have b1:(k==1)=false:=by simp;omega
  have b2:(k==2)=false:=by simp;omega
  have b3:(k==3)=false:=by simp;omega
  have b4:(k==4)=false:=by simp;omega
  have b5:(k==5)=false:=by simp;omega
  clear h
  go_enter Tryz.func18,Tryz.ntmps18
  go_wp2_with (first
    | (refine wpList_box_new rfl _ _ rfl (nmL k t G R S V U).toArray rfl ?_;intro W1 hW1;have HG:=Lib.hid (Blk.new hW1);have HBE:=Lib.hid hW1.bel;have HS1:=Lib.hid hW1.sz;clear hW1)
    | (refine wpList_alloc_new rfl 24 rfl #[.string ByteArray.empty,.string ByteArray.empty,.slice none 0 0] (by kernel_rfl) ?_;intro W2 hW2;have HR:=Lib.hid (Blk.newL (L:=[.string ByteArray.empty,.string ByteArray.empty,.slice none 0 0]) hW2 rfl);have HG2:Hid (Blk W2 w.heap.size (nmL k t G R S V U)):=(HG.out.grew hW2);have HBE2:=Lib.hid (bthen HBE.out hW2.bel);have HS2:=Lib.hid hW2.sz;have c0:=HG2.out.cell 0 rfl;clear hW2 HG HBE)
    | refine wpList_build0 rfl 24 rfl (sen_zero _) ?_
    | (refine wpList_store_in rfl 24 _ _ rfl W1.heap.size 0 #[.string ByteArray.empty,.string ByteArray.empty,.slice none 0 0] rfl rfl (HR.out.there 0 3 (by decide)) sen_size (Ones.arr (L:=[.string ByteArray.empty,.string ByteArray.empty,.slice none 0 0]) (Ones.of rfl)) ?_;intro W8 hW8;have HR8:=Lib.hid (HR.out.all hW8 rfl);have HBE8:=Lib.hid (HBE2.out.trans (hW8.below (by have:=HS1.out;omega)));clear hW8 HR HBE2))
  have HLD:=Lib.hid (run_loadVar_mid (P:=Tryz.prog) _ W1.heap.size 0 24 _ _ HR8.out.rg Tryz.underlying24 rfl sen_size)
  refine bodyPost_ret (v:=.tuple #[.agg #[.string ByteArray.empty,.string ByteArray.empty,.slice none 0 0],.int .i64 6]) (by rw [results_cell_tmp rfl];simp [asAddr,Result.andThen,HLD.out]) rfl ?_
  exact⟨_,rfl,SenV.zero _,HBE8.out⟩
theorem r30Put_any {lo:Nat} {C:Array Value} {m:NmD} {w:World} (h:NmV lo w C m) (h1:m.s.ids.length≤1000000) (h2:m.u.L.length≤1000000):Calls Tryz.prog 18 #[.agg C] w (SenOut (put30 m) w):=by
  obtain⟨x,y,rfl,⟨A,c,rfl,hs⟩,⟨B,d,rfl,hv⟩⟩:=h
  by_cases hk:1≤m.k∧m.k≤5
  · obtain⟨k,t,g,r,s,v,u⟩:=m
    simp only at hk h1 h2 hs hv
    have hl:=fun x y=>nmLens ⟨k,t,g,r,s,v,u⟩ x y
    rcases (by omega:k=1∨k=2∨k=3∨k=4∨k=5) with rfl | rfl | rfl | rfl | rfl
    · exact r30Put_1 (X:=putGga g) (hl _ _) fun W _=>r25Put_any _ _ _ _ _ _ _ _ _ _ _ _ _ _ _ _ _ _ _ _ _ _ W
    · exact r30Put_2 (X:=putRmc r) (hl _ _) fun W _=>r26Put_any _ _ _ _ _ _ _ _ _ _ _ _ _ _ _ _ _ _ _ _ W
    · exact r30Put_3 (X:=putGsa s) (hl _ _) fun W hW=>r27Put_any s.a s.f A c s.ids s.p0.1 s.p0.2 s.p1.1 s.p1.2 s.p2.1 s.p2.2 W (bk_on hs hW).ints h1
    · exact r30Put_4 (X:=putVtg [v.1,v.2.1,v.2.2.1,v.2.2.2]) (hl _ _) fun W _=>r28Put_any _ _ _ _ _ _ _ _ W
    · exact r30Put_5 (X:=putGsv u) (hl _ _) fun W hW=>r29Put_any u.T u.N u.S B d u.L W (bk_on hv hW).vws h2
  · rw [put30_no hk]
    exact r30Put_no hk
theorem r30Encode_any {lo:Nat} {C:Array Value} {m:NmD} {w:World} (hC:NmV lo w C m) (h0:m.t.size≤1000) (h1:m.s.ids.length≤1000000) (h2:m.u.L.length≤1000000):Calls Tryz.prog 19 #[.agg C] w (EncOut (enc30 m) w):=
  r30Encode_go (X:=put30 m) (Y:=putS (put30 m).1.1 (put30 m).1.2.1 (put30 m).1.2.2) hC (fun W hb=>r30Put_any (hC.on hb) h1 h2) fun h A c W hs=>by
    obtain⟨-,h4,h5⟩:=put30_zero h
    obtain⟨h6,h7⟩:=putF30_facts h4
    rw [h5] at hs ⊢
    have:=word30_size m.k
    exact r22Put_any m.t (word30 m.k) (putF30 m).1 A c W (by omega) (fun f hf=>Nat.le_trans (h7 f hf) (by omega)) (by omega) (by omega) hs
theorem strs_on {w W:World} {A:Option Addr} {fs:List ByteArray} (h:Strs w w.heap.size A fs) (hb:Below w.heap.size w W):Strs W W.heap.size A fs:=by
  intro k hk
  obtain⟨b,off,h1,h2,h3⟩:=h.below hb (Nat.le_refl _) k hk
  exact⟨b,off,h1,Nat.lt_of_lt_of_le h2 hb.size,h3⟩
def zSenA:Array Value:=#[.string ByteArray.empty,.string ByteArray.empty,.slice none 0 0]
theorem zSen_le:0+3≤zSenA.toList.length:=Nat.le_refl 3
theorem zero_Sen (w:World):(zeroValue 24).run Tryz.prog w=.ok (.agg zSenA) w:=by kernel_rfl
def senA (T Y:ByteArray) (A:Option Addr) (n c:Nat):Array Value:=#[.string T,.string Y,.slice A n c]
theorem sen3_size (T Y:ByteArray) (A:Option Addr) (n c:Nat):(Tryz.prog.info? 24).map (·.size)=some (senA T Y A n c).size:=by kernel_rfl
theorem sen3_ones (T Y:ByteArray) (A:Option Addr) (n c:Nat):(senA T Y A n c).all (·.oneCell')=true:=by
  refine toList_all fun v hv=>?_
  simp only [senA,List.mem_cons,List.not_mem_nil,or_false] at hv
  rcases hv with rfl | rfl | rfl <;> rfl
set_option maxRecDepth 8000 in
set_option maxHeartbeats 2000000 in
theorem nmeaPuts_few {C:Array Value} {m:NmD} {w:World} (hC:Hid (NmV 0 w C m)) (hg:Hid (m.t.size≤maxLen∧m.s.ids.length≤maxLen∧m.u.L.length≤maxLen)) (hf:few30 m=false) :
    Calls Tryz.prog 5 #[.agg C] w fun e w'=>e=.returned (.bool true)∧Below w.heap.size w w':=by
  have HK:=fun W=>Lib.hid (knows30_any W)
  have HF:∀ W,NmV 0 W C m→Hid (Calls Tryz.prog 16 #[.agg C] W fun e w'=>e=.returned (.bool false)∧Below W.heap.size W w'):=fun W h=>Lib.hid (by rw [← hf];exact r30Few_any h hg.out.1 hg.out.2.1 hg.out.2.2)
  clear hf
  go_enter Tryz.func5,Tryz.ntmps5
  go_wp2_with (first
    | (refine wpList_box_new rfl _ _ rfl C rfl ?_;intro W1 hW1;have HM1:=Lib.hid (Blk.newL (L:=C.toList) hW1 rfl);have HC1:=Lib.hid (hC.out.on hW1.bel);have HB1:=Lib.hid hW1.bel;clear hW1)
    | refine wpList_load_mid rfl 46 _ rfl w.heap.size 0 rfl C.toList _ HM1.out.rg Tryz.underlying46 rfl (by rw [Array.length_toList];exact nm_sizeC hC.out) ?_)
  refine (HF _ HC1.out).out.mono ?_
  rintro e w1 ⟨rfl,hb⟩
  have HB2:=Lib.hid (bthen HB1.out hb)
  clear hb HB1 HM1 HC1 HF
  go_wp2_with fail
  refine (HK _).out.mono ?_
  rintro e w2 ⟨rfl,hb⟩
  have HB3:=Lib.hid (bthen HB2.out hb)
  clear hb HB2 HK
  go_wp2_with fail
  go_ret
  exact⟨rfl,HB3.out⟩
set_option maxRecDepth 8000 in
set_option maxHeartbeats 8000000 in
theorem nmeaPuts_go {C:Array Value} {m M:NmD} {X:(ByteArray×ByteArray×List ByteArray)×Int} {U:ByteArray} {E:Int} {w:World} (hC:Hid (NmV 0 w C m)) (hg:Hid (m.t.size≤maxLen∧m.s.ids.length≤maxLen∧m.u.L.length≤maxLen)) (hf:few30 m=true) (hX:Hid (X.1.2.2.length≤maxLen))
    (H1:∀ W,NmV 0 W C m→Hid (Calls Tryz.prog 17 #[.agg C] W (SenOut X W))) (H2:∀ W,NmV 0 W C m→Hid (Calls Tryz.prog 18 #[.agg C] W (SenOut X W)))
    (H3:∀ W,NmV 0 W C m→Hid (Calls Tryz.prog 15 #[.agg C] W (EncOut (U,E) W))) (H4:∀ W,NmV 0 W C m→Hid (Calls Tryz.prog 19 #[.agg C] W (EncOut (U,E) W)))
    (H5:∀ W,NmV 0 W C m→Hid (Calls Tryz.prog 21 #[.agg C] W fun e w'=>∃ D,e=.returned (.agg D)∧NmV W.heap.size w' D M∧Below W.heap.size W w'))
    (H6:∀ W,NmV 0 W C m→Hid (Calls Tryz.prog 22 #[.agg C] W fun e w'=>∃ D,e=.returned (.agg D)∧NmV W.heap.size w' D M∧Below W.heap.size W w')) (hm:Hid (M.s.ids.length≤1000000∧M.u.L.length≤1000000))
    (H7:Hid (∀ W A B c d,Strs W W.heap.size A X.1.2.2→Strs W W.heap.size B X.1.2.2→Calls Tryz.prog 20 #[.agg (senA X.1.1 X.1.2.1 A X.1.2.2.length c),.agg (senA X.1.1 X.1.2.1 B X.1.2.2.length d)] W fun e w'=>e=.returned (.bool true)∧Below W.heap.size W w')) :
    Calls Tryz.prog 5 #[.agg C] w fun e w'=>e=.returned (.bool true)∧Below w.heap.size w w':=by
  obtain⟨⟨T,Y,fs⟩,F⟩:=X
  have H7:Hid (∀ W A B c d,Strs W W.heap.size A fs→Strs W W.heap.size B fs→Calls Tryz.prog 20 #[.agg (senA T Y A fs.length c),.agg (senA T Y B fs.length d)] W fun e w'=>e=.returned (.bool true)∧Below W.heap.size W w'):=H7
  have HK:=fun W=>Lib.hid (knows30_any W)
  have HF:∀ W,NmV 0 W C m→Hid (Calls Tryz.prog 16 #[.agg C] W fun e w'=>e=.returned (.bool true)∧Below W.heap.size W w'):=fun W h=>Lib.hid (by rw [← hf];exact r30Few_any h hg.out.1 hg.out.2.1 hg.out.2.2)
  clear hf
  go_enter Tryz.func5,Tryz.ntmps5
  go_wp2_with (first
    | (refine wpList_box_new rfl _ _ rfl C rfl ?_;intro W1 hW1;have HM1:=Lib.hid (Blk.newL (L:=C.toList) hW1 rfl);have HC1:=Lib.hid (hC.out.on hW1.bel);have HB1:=Lib.hid hW1.bel;clear hW1)
    | refine wpList_load_mid rfl 46 _ rfl w.heap.size 0 rfl C.toList _ HM1.out.rg Tryz.underlying46 rfl (by rw [Array.length_toList];exact nm_sizeC hC.out) ?_)
  refine (HF _ HC1.out).out.mono ?_
  rintro e w1 ⟨rfl,hb⟩
  have HB2:=Lib.hid (bthen HB1.out hb)
  have HM2:=Lib.hid (HM1.out.on hb)
  have HC2:=Lib.hid (HC1.out.on hb)
  clear hb HB1 HM1 HC1 HF
  go_wp2_with fail
  refine (HK _).out.mono ?_
  rintro e w2 ⟨rfl,hb⟩
  have HB3:=Lib.hid (bthen HB2.out hb)
  have HM3:=Lib.hid (HM2.out.on hb)
  have HC3:=Lib.hid (HC2.out.on hb)
  clear hb HB2 HK HM2 HC2
  go_wp2_with (refine wpList_load_mid rfl 46 _ rfl w.heap.size 0 rfl C.toList _ HM3.out.rg Tryz.underlying46 rfl (by rw [Array.length_toList];exact nm_sizeC hC.out) ?_)
  refine (H1 _ HC3.out).out.mono ?_
  rintro e w3 ⟨v,rfl,⟨A,c,rfl,hs⟩,hb⟩
  have HS4:=Lib.hid hs
  have HB4:=Lib.hid (bthen HB3.out hb)
  have HM4:=Lib.hid (HM3.out.on hb)
  have HC4:=Lib.hid (HC3.out.on hb)
  clear hb hs HB3 HM3 HC3 H1
  dsimp only
  generalize hn:fs.length=n at *
  have HN:=Lib.hid hn
  clear hn
  go_upto_region 4 with (first
    | (refine wpList_alloc_new rfl 24 rfl zSenA (zero_Sen _) ?_;intro Wa hWa;have HA:=Lib.hid (Blk.newL (L:=zSenA.toList) hWa rfl);have HWa:=Lib.hid hWa.bel;clear hWa)
    | (refine wpList_store_in rfl 24 _ _ rfl w3.heap.size 0 (senA T Y A n c) rfl rfl (HA.out.there 0 3 zSen_le) (sen3_size _ _ _ _ _) (sen3_ones _ _ _ _ _) ?_;intro W4 hs;have HP4:Hid (Blk W4 w3.heap.size (senA T Y A n c).toList):=Lib.hid (HA.out.all hs rfl);have HL4:=Lib.hid (HWa.out.trans (hs.below (Nat.le_refl _)));clear hs HA HWa))
  try go_frame
  have HS5:=Lib.hid (strs_on HS4.out HL4.out)
  have HB5:=Lib.hid (bthen HB4.out HL4.out)
  have HM5:=Lib.hid (HM4.out.on HL4.out)
  have HC5:=Lib.hid (HC4.out.on HL4.out)
  clear HS4 HB4 HM4 HC4 HL4
  go_wp2_with (refine wpList_load_mid rfl 46 _ rfl w.heap.size 0 rfl C.toList _ HM5.out.rg Tryz.underlying46 rfl (by rw [Array.length_toList];exact nm_sizeC hC.out) ?_)
  refine (H2 _ HC5.out).out.mono ?_
  rintro e w5 ⟨v,rfl,⟨B,d,rfl,hs⟩,hb⟩
  have HS6:=Lib.hid (strs_on HS5.out hb)
  have HT6:=Lib.hid hs
  have HP6:=Lib.hid (HP4.out.on hb)
  have HB6:=Lib.hid (bthen HB5.out hb)
  have HM6:=Lib.hid (HM5.out.on hb)
  have HC6:=Lib.hid (HC5.out.on hb)
  clear hb hs HS5 HB5 HM5 HC5 H2 HP4
  dsimp only
  rw [HN.out]
  go_upto_region 5 with (first
    | (refine wpList_alloc_new rfl 24 rfl zSenA (zero_Sen _) ?_;intro Wa hWa;have HA:=Lib.hid (Blk.newL (L:=zSenA.toList) hWa rfl);have HWa:=Lib.hid hWa.bel;clear hWa)
    | (refine wpList_store_in rfl 24 _ _ rfl w5.heap.size 0 (senA T Y B n d) rfl rfl (HA.out.there 0 3 zSen_le) (sen3_size _ _ _ _ _) (sen3_ones _ _ _ _ _) ?_;intro W6 hs;have HR6:Hid (Blk W6 w5.heap.size (senA T Y B n d).toList):=Lib.hid (HA.out.all hs rfl);have HL6:=Lib.hid (HWa.out.trans (hs.below (Nat.le_refl _)));clear hs HA HWa))
  try go_frame
  have HS7:=Lib.hid (strs_on HS6.out HL6.out)
  have HT7:=Lib.hid (strs_on HT6.out HL6.out)
  have HP7:=Lib.hid (HP6.out.on HL6.out)
  have HB7:=Lib.hid (bthen HB6.out HL6.out)
  have HM7:=Lib.hid (HM6.out.on HL6.out)
  have HC7:=Lib.hid (HC6.out.on HL6.out)
  clear HS6 HT6 HP6 HB6 HM6 HC6 HL6
  go_wp2_with (refine wpList_load_mid rfl 46 _ rfl w.heap.size 0 rfl C.toList _ HM7.out.rg Tryz.underlying46 rfl (by rw [Array.length_toList];exact nm_sizeC hC.out) ?_)
  refine (H3 _ HC7.out).out.mono ?_
  rintro e we7 ⟨rfl,hb⟩
  have HS8:=Lib.hid (strs_on HS7.out hb)
  have HT8:=Lib.hid (strs_on HT7.out hb)
  have HP8:=Lib.hid (HP7.out.on hb)
  have HR8:=Lib.hid (HR6.out.on hb)
  have HB8:=Lib.hid (bthen HB7.out hb)
  have HM8:=Lib.hid (HM7.out.on hb)
  have HC8:=Lib.hid (HC7.out.on hb)
  clear hb HS7 HT7 HP7 HR6 HB7 HM7 HC7 H3
  dsimp only
  go_wp2_with (refine wpList_load_mid rfl 46 _ rfl w.heap.size 0 rfl C.toList _ HM8.out.rg Tryz.underlying46 rfl (by rw [Array.length_toList];exact nm_sizeC hC.out) ?_)
  refine (H4 _ HC8.out).out.mono ?_
  rintro e we8 ⟨rfl,hb⟩
  have HS9:=Lib.hid (strs_on HS8.out hb)
  have HT9:=Lib.hid (strs_on HT8.out hb)
  have HP9:=Lib.hid (HP8.out.on hb)
  have HR9:=Lib.hid (HR8.out.on hb)
  have HB9:=Lib.hid (bthen HB8.out hb)
  have HM9:=Lib.hid (HM8.out.on hb)
  have HC9:=Lib.hid (HC8.out.on hb)
  clear hb HS8 HT8 HP8 HR8 HB8 HM8 HC8 H4
  dsimp only
  go_upto_region 7 with fail
  try go_frame
  try (apply wp_seq_k;intro K_ HK_)
  have i0:(F==F)=true:=beq_self_eq_true _
  have i1:(E==E)=true:=beq_self_eq_true _
  have i2:(U.toList==U.toList)=true:=beq_self_eq_true _
  have hS0:Below we8.heap.size we8 we8.drew:=(Below.refl _ _).drew
  refine wp_region_held_drew (S:=fun w'=>Below we8.heap.size we8 w') (by kernel_rfl) hS0 (fun hHeld0=>?_)
  refine wpAnyH_take (i:=0) (oi:=⟨some 39,_,_,_,_,_⟩) (v:=_) rfl (by kernel_rfl) (by kernel_rfl) (by kernel_rfl) (fun _ _ _ h=>h) (yieldsIf_load_mid (by rfl) 24 _ rfl w3.heap.size 0 rfl (senA T Y A n c).toList _ (fun w' hSw=>(HP9.out.on hSw).rg) Tryz.underlying24 rfl (by rw [Array.length_toList];exact sen3_size _ _ _ _ _)) (by assumption) ?_
  try go_frame
  refine wpAnyH_take (i:=1) (oi:=⟨some 40,_,_,_,_,_⟩) (v:=_) rfl (by kernel_rfl) (by kernel_rfl) (by kernel_rfl) (fun _ _ _ h=>h) (yieldsIf_load_mid (by rfl) 24 _ rfl w5.heap.size 0 rfl (senA T Y B n d).toList _ (fun w' hSw=>(HR9.out.on hSw).rg) Tryz.underlying24 rfl (by rw [Array.length_toList];exact sen3_size _ _ _ _ _)) (by assumption) ?_
  try go_frame
  refine wpAnyH_ready (rs:=[2]) (by kernel_rfl) (by simp) ?_
  refine AllReadyH.cons (o:=⟨some 41,_,_,_,_,_⟩) rfl (fun K hK=>?_) AllReadyH.nil
  rw [if_pos (by rfl)]
  go_step
  refine (H7.out _ A B c d (strs_on HS9.out hHeld0) (strs_on HT9.out hHeld0)).mono ?_
  rintro e v2 ⟨rfl,hb⟩
  have hS2:Below we8.heap.size we8 v2:=hHeld0.trans (hb.mono hHeld0.size)
  clear hb
  try go_frame
  refine hK.out _ _ (hS2) (fun hHeld=>?_)
  clear hK K
  try go_frame
  refine wpAnyH_take (i:=3) (oi:=⟨some 42,_,_,_,_,_⟩) (v:=?_) rfl (by kernel_rfl) (by kernel_rfl) (by kernel_rfl) (fun _ _ _ h=>h) (Or.inl ⟨by rfl,?_⟩) (by assumption) ?_
  rotate_left
  · intro w' hSw
    go_simp
    try with_reducible rfl
  try go_frame
  refine wpAnyH_take (i:=4) (oi:=⟨some 43,_,_,_,_,_⟩) (v:=?_) rfl (by kernel_rfl) (by kernel_rfl) (by kernel_rfl) (fun _ _ _ h=>h) (Or.inl ⟨by rfl,?_⟩) (by assumption) ?_
  rotate_left
  · intro w' hSw
    go_simp
    try with_reducible rfl
  try go_frame
  refine wpAnyH_take (i:=6) (oi:=⟨some 45,_,_,_,_,_⟩) (v:=?_) rfl (by kernel_rfl) (by kernel_rfl) (by kernel_rfl) (fun _ _ _ h=>h) (Or.inl ⟨by rfl,?_⟩) (by assumption) ?_
  rotate_left
  · intro w' hSw
    go_simp
    try with_reducible rfl
  try go_frame
  refine wpAnyH_ready (rs:=[5]) (by kernel_rfl) (by simp) ?_
  refine AllReadyH.cons (o:=⟨some 44,_,_,_,_,_⟩) rfl (fun K hK=>?_) AllReadyH.nil
  rw [if_pos (by rfl)]
  go_step
  refine (num30_any _ _).mono ?_
  rintro e W' ⟨rfl,rfl⟩
  try go_frame
  refine hK.out _ _ (hS2) (fun hHeld=>?_)
  clear hK K
  try go_frame
  refine wpAnyH_ready (rs:=[7]) (by kernel_rfl) (by simp) ?_
  refine AllReadyH.cons (o:=⟨some 46,_,_,_,_,_⟩) rfl (fun K hK=>?_) AllReadyH.nil
  rw [if_pos (by rfl)]
  go_step
  refine (num30_any _ _).mono ?_
  rintro e W' ⟨rfl,rfl⟩
  try go_frame
  refine hK.out _ _ (hS2) (fun hHeld=>?_)
  clear hK K
  try go_frame
  refine wpAnyH_take (i:=8) (oi:=⟨some 47,_,_,_,_,_⟩) (v:=?_) rfl (by kernel_rfl) (by kernel_rfl) (by kernel_rfl) (fun _ _ _ h=>h) (Or.inl ⟨by rfl,?_⟩) (by assumption) ?_
  rotate_left
  · intro w' hSw
    go_simp
    try with_reducible rfl
  try go_frame
  refine wpAnyH_take (i:=9) (oi:=⟨some 48,_,_,_,_,_⟩) (v:=?_) rfl (by kernel_rfl) (by kernel_rfl) (by kernel_rfl) (fun _ _ _ h=>h) (Or.inl ⟨by rfl,?_⟩) (by assumption) ?_
  rotate_left
  · intro w' hSw
    go_simp
    try with_reducible rfl
  try go_frame
  refine wpAnyH_take (i:=10) (oi:=⟨some 49,_,_,_,_,_⟩) (v:=?_) rfl (by kernel_rfl) (by kernel_rfl) (by kernel_rfl) (fun _ _ _ h=>h) (Or.inl ⟨by rfl,?_⟩) (by assumption) ?_
  rotate_left
  · intro w' hSw
    go_simp
    try with_reducible rfl
  try go_frame
  refine wpAnyH_take (i:=11) (oi:=⟨some 50,_,_,_,_,_⟩) (v:=?_) rfl (by kernel_rfl) (by kernel_rfl) (by kernel_rfl) (fun _ _ _ h=>h) (Or.inl ⟨by rfl,?_⟩) (by assumption) ?_
  rotate_left
  · intro w' hSw
    go_simp
    try with_reducible rfl
  try go_frame
  refine wpAnyH_take (i:=12) (oi:=⟨some 51,_,_,_,_,_⟩) (v:=?_) rfl (by kernel_rfl) (by kernel_rfl) (by kernel_rfl) (fun _ _ _ h=>h) (Or.inl ⟨by rfl,?_⟩) (by assumption) ?_
  rotate_left
  · intro w' hSw
    go_simp
    try with_reducible rfl
  try go_frame
  refine wpAnyH_take (i:=13) (oi:=⟨some 52,_,_,_,_,_⟩) (v:=?_) rfl (by kernel_rfl) (by kernel_rfl) (by kernel_rfl) (fun _ _ _ h=>h) (Or.inl ⟨by rfl,?_⟩) (by assumption) ?_
  rotate_left
  · intro w' hSw
    go_simp
    try with_reducible rfl
  try go_frame
  refine wpAnyH_take (i:=14) (oi:=⟨some 53,_,_,_,_,_⟩) (v:=?_) rfl (by kernel_rfl) (by kernel_rfl) (by kernel_rfl) (fun _ _ _ h=>h) (Or.inl ⟨by rfl,?_⟩) (by assumption) ?_
  rotate_left
  · intro w' hSw
    go_simp
    try with_reducible rfl
  try go_frame
  refine wpAnyH_take (i:=15) (oi:=⟨some 54,_,_,_,_,_⟩) (v:=?_) rfl (by kernel_rfl) (by kernel_rfl) (by kernel_rfl) (fun _ _ _ h=>h) (Or.inl ⟨by rfl,?_⟩) (by assumption) ?_
  rotate_left
  · intro w' hSw
    go_simp
    try with_reducible rfl
  try go_frame
  refine wpAnyH_take (i:=16) (oi:=⟨some 55,_,_,_,_,_⟩) (v:=?_) rfl (by kernel_rfl) (by kernel_rfl) (by kernel_rfl) (fun _ _ _ h=>h) (Or.inl ⟨by rfl,?_⟩) (by assumption) ?_
  rotate_left
  · intro w' hSw
    go_simp
    try with_reducible rfl
  try go_frame
  refine wpAnyH_take (i:=18) (oi:=⟨some 57,_,_,_,_,_⟩) (v:=?_) rfl (by kernel_rfl) (by kernel_rfl) (by kernel_rfl) (fun _ _ _ h=>h) (Or.inl ⟨by rfl,?_⟩) (by assumption) ?_
  rotate_left
  · intro w' hSw
    go_simp
    try with_reducible rfl
  try go_frame
  refine wpAnyH_ready (rs:=[17]) (by kernel_rfl) (by simp) ?_
  refine AllReadyH.cons (o:=⟨some 56,_,_,_,_,_⟩) rfl (fun K hK=>?_) AllReadyH.nil
  rw [if_pos (by rfl)]
  go_step
  refine (num30_any _ _).mono ?_
  rintro e W' ⟨rfl,rfl⟩
  try go_frame
  refine hK.out _ _ (hS2) (fun hHeld=>?_)
  clear hK K
  try go_frame
  refine wpAnyH_ready (rs:=[19]) (by kernel_rfl) (by simp) ?_
  refine AllReadyH.cons (o:=⟨some 58,_,_,_,_,_⟩) rfl (fun K hK=>?_) AllReadyH.nil
  rw [if_pos (by rfl)]
  go_step
  refine (num30_any _ _).mono ?_
  rintro e W' ⟨rfl,rfl⟩
  try go_frame
  refine hK.out _ _ (hS2) (fun hHeld=>?_)
  clear hK K
  try go_frame
  refine wpAnyH_take (i:=20) (oi:=⟨some 59,_,_,_,_,_⟩) (v:=?_) rfl (by kernel_rfl) (by kernel_rfl) (by kernel_rfl) (fun _ _ _ h=>h) (Or.inl ⟨by rfl,?_⟩) (by assumption) ?_
  rotate_left
  · intro w' hSw
    go_simp
    try with_reducible rfl
  try go_frame
  refine wpAnyH_take (i:=21) (oi:=⟨some 60,_,_,_,_,_⟩) (v:=?_) rfl (by kernel_rfl) (by kernel_rfl) (by kernel_rfl) (fun _ _ _ h=>h) (Or.inl ⟨by rfl,?_⟩) (by assumption) ?_
  rotate_left
  · intro w' hSw
    go_simp
    try with_reducible rfl
  try go_frame
  refine wpAnyH_take (i:=22) (oi:=⟨some 61,_,_,_,_,_⟩) (v:=?_) rfl (by kernel_rfl) (by kernel_rfl) (by kernel_rfl) (fun _ _ _ h=>h) (Or.inl ⟨by rfl,?_⟩) (by assumption) ?_
  rotate_left
  · intro w' hSw
    go_simp
    try with_reducible rfl
  try go_frame
  refine wpAnyH_take (i:=23) (oi:=⟨some 62,_,_,_,_,_⟩) (v:=_) rfl (by kernel_rfl) (by kernel_rfl) (by kernel_rfl) (fun _ _ _ h=>h) (yieldsIf_load_mid (by rfl) 46 _ rfl w.heap.size 0 rfl C.toList _ (fun w' hSw=>(HM9.out.on hSw).rg) Tryz.underlying46 rfl (by rw [Array.length_toList];exact nm_sizeC hC.out)) (by assumption) ?_
  try go_frame
  refine wpAnyH_take (i:=25) (oi:=⟨some 64,_,_,_,_,_⟩) (v:=_) rfl (by kernel_rfl) (by kernel_rfl) (by kernel_rfl) (fun _ _ _ h=>h) (yieldsIf_load_mid (by rfl) 46 _ rfl w.heap.size 0 rfl C.toList _ (fun w' hSw=>(HM9.out.on hSw).rg) Tryz.underlying46 rfl (by rw [Array.length_toList];exact nm_sizeC hC.out)) (by assumption) ?_
  try go_frame
  refine wpAnyH_ready (rs:=[24]) (by kernel_rfl) (by simp) ?_
  refine AllReadyH.cons (o:=⟨some 63,_,_,_,_,_⟩) rfl (fun K hK=>?_) AllReadyH.nil
  rw [if_pos (by rfl)]
  go_step
  refine (H5 _ (HC9.out.on hS2)).out.mono ?_
  rintro e pa ⟨Da,rfl,hDa,hba⟩
  have hSa:Below we8.heap.size we8 pa:=hS2.trans (hba.mono hS2.size)
  try go_frame
  refine hK.out _ _ (hSa) (fun hHeld=>?_)
  clear hK K
  try go_frame
  refine wpAnyH_ready (rs:=[26]) (by kernel_rfl) (by simp) ?_
  refine AllReadyH.cons (o:=⟨some 65,_,_,_,_,_⟩) rfl (fun K hK=>?_) AllReadyH.nil
  rw [if_pos (by rfl)]
  go_step
  refine (H6 _ (HC9.out.on hSa)).out.mono ?_
  rintro e pb ⟨Db,rfl,hDb,hbb⟩
  have hSb:Below we8.heap.size we8 pb:=hSa.trans (hbb.mono hSa.size)
  have hDa:=hDa.on hbb
  try go_frame
  refine hK.out _ _ (hSb) (fun hHeld=>?_)
  clear hK K
  try go_frame
  refine wpAnyH_ready (rs:=[27]) (by kernel_rfl) (by simp) ?_
  refine AllReadyH.cons (o:=⟨some 66,_,_,_,_,_⟩) rfl (fun K hK=>?_) AllReadyH.nil
  rw [if_pos (by rfl)]
  go_step
  refine (r30Same_any hDa hDb hm.out.1 hm.out.2).mono ?_
  rintro e v9 ⟨rfl,hb9⟩
  have hS9:Below we8.heap.size we8 v9:=hSb.trans (hb9.mono hSb.size)
  try go_frame
  refine hK.out _ _ (hS9) (fun hHeld=>?_)
  clear hK K
  try go_frame
  refine wpAnyH_take (i:=28) (oi:=⟨some 67,_,_,_,_,_⟩) (v:=?_) rfl (by kernel_rfl) (by kernel_rfl) (by kernel_rfl) (fun _ _ _ h=>h) (Or.inl ⟨by rfl,?_⟩) (by assumption) ?_
  rotate_left
  · intro w' hSw
    go_simp
    try with_reducible rfl
  try go_frame
  refine wpAnyH_take (i:=29) (oi:=⟨some 2,_,_,_,_,_⟩) (v:=?_) rfl (by kernel_rfl) (by kernel_rfl) (by kernel_rfl) (fun _ _ _ h=>h) (Or.inl ⟨by rfl,?_⟩) (by assumption) ?_
  rotate_left
  · intro w' hSw
    go_simp
    try with_reducible rfl
  try go_frame
  refine wpAnyH_done (by kernel_rfl) ?_ _
  try go_frame
  go_wp2_with fail
  go_ret
  exact⟨rfl,bthen HB9.out hS9⟩
theorem nmeaPuts_any (C:Array Value) (m:NmD) (w:World) (hC:NmV 0 w C m) (g1:m.t.size≤maxLen) (g2:m.s.ids.length≤maxLen) (g3:m.u.L.length≤maxLen) :
    Calls Tryz.prog 5 #[.agg C] w fun e w'=>e=.returned (.bool true)∧Below w.heap.size w w':=by
  have HC:=Lib.hid hC
  have HG:Hid (m.t.size≤maxLen∧m.s.ids.length≤maxLen∧m.u.L.length≤maxLen):=⟨g1,g2,g3⟩
  cases hf:few30 m with
  | false=>exact nmeaPuts_few HC HG hf
  | true=>
    obtain⟨f1,f2,f3⟩:=few30_of hf
    have hl:(put30 m).1.2.2.length≤maxLen:=by
      unfold maxLen
      by_cases h:(put30 m).2=0
      · obtain⟨-,h4,h5⟩:=put30_zero h
        rw [h5]
        have:=(putF30_facts h4).1
        show (putF30 m).1.length≤_
        omega
      · have e:(put30 m).1.2.2=[]:=by
          by_cases hk:1≤m.k∧m.k≤5
          · by_cases h0:(putF30 m).2=0
            · exact absurd (by rw [put30_ok hk rfl h0]) h
            · rw [put30_bad hk rfl h0]
          · rw [put30_no hk]
        rw [e]
        exact Nat.zero_le _
    refine nmeaPuts_go (X:=put30 m) (U:=(enc30 m).1) (E:=(enc30 m).2) (M:=plain30 m) HC HG hf hl (fun W hW=>?_) (fun W hW=>?_) (fun W hW=>?_) (fun W hW=>?_) (fun W hW=>?_) (fun W hW=>?_) (plain30_ids (by omega) (by omega)) (Lib.hid fun W A B c d hA hB=>?_)
    · exact nmPut_any hW (by omega) (by omega)
    · exact r30Put_any hW (by omega) (by omega)
    · exact nmEncode_any hW (by omega) (by omega) (by omega)
    · exact r30Encode_any hW (by omega) (by omega) (by omega)
    · exact nmPlain_any hW (by omega) (by omega)
    · exact r30Plain_any hW (by omega) (by omega)
    · refine (r22Same_any _ _ _ _ A B _ _ c d W hl hA hB).mono ?_
      rintro e w' ⟨rfl,hb⟩
      exact⟨by rw [decide_eq_true ⟨rfl,rfl,rfl⟩],hb⟩
end Go.Proofs.YtoabkoniegmkaaaGreat
