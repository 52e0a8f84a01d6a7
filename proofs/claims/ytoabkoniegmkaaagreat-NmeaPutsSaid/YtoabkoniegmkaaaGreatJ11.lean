/- Layer 28: Put, and the reference's. Printed by genvtg4.py. -/
import Derived.Test.YtoabkoniegmkaaaGreatJ10
namespace Go.Proofs.YtoabkoniegmkaaaGreat
set_option linter.unusedVariables false
open Go.RowKit
theorem TextsPost.after {fs:List ByteArray} {w w1:World} {v:Value} {w':World} (hb:Below w.heap.size w w1) (h:TextsPost fs w1 v w'):TextsPost fs w v w':=by
  obtain⟨A,c,h1,h2,h3,h4,h5⟩:=h
  exact⟨A,c,h1,h2,h3,h4.less hb.size,bthen hb h5⟩
def PutPost (x:List ByteArray×Int) (w:World) (r:Ending) (w':World):Prop:=∃ v,r=.returned (.tuple #[v,.int .i64 x.2])∧TextsPost x.1 w v w'
theorem DonePost.put {s:Rd} {w w1 w':World} {r:Ending} (hb:Below w.heap.size w w1) (h:DonePost s.1 s.2 w1 r w'):PutPost (wrDone s) w r w':=by
  obtain⟨v,h1,h2⟩:=h
  exact⟨v,h1,h2.after hb⟩
theorem vtg_chain {b0 b1 b2 b3:Bool} {n0 n1 n2 n3:Int} {s1 s2 s3 s4:Rd} (h0:Hid (wrCol ⟨1,3,2,0,36000,⟨#[84]⟩⟩ (b0,n0) (0,[])=s1)) (h1:Hid (wrCol ⟨1,3,2,0,36000,⟨#[77]⟩⟩ (b1,n1) s1=s2)) (h2:Hid (wrCol ⟨1,4,2,0,999999,⟨#[78]⟩⟩ (b2,n2) s2=s3)) (h3:Hid (wrCol ⟨1,4,2,0,999999,⟨#[75]⟩⟩ (b3,n3) s3=s4)) :
    putVtg [(b0,n0),(b1,n1),(b2,n2),(b3,n3)]=wrDone s4∧s1.2.length=2∧s2.2.length=4∧s3.2.length=6∧s4.2.length=8:=by
  have h0:=h0.out
  have h1:=h1.out
  have h2:=h2.out
  have h3:=h3.out
  refine⟨?_,?_,?_,?_,?_⟩
  · show wrDone (wrCol _ _ (wrCol _ _ (wrCol _ _ (wrCol _ _ _))))=_
    rw [h0,h1,h2,h3]
  · rw [← h0,wrCol_len];rfl
  · rw [← h1,wrCol_len,← h0,wrCol_len];rfl
  · rw [← h2,wrCol_len,← h1,wrCol_len,← h0,wrCol_len];rfl
  · rw [← h3,wrCol_len,← h2,wrCol_len,← h1,wrCol_len,← h0,wrCol_len];rfl
set_option maxRecDepth 8000 in
set_option maxHeartbeats 4000000 in
theorem vtgPut_any (b0:Bool) (n0:Int) (b1:Bool) (n1:Int) (b2:Bool) (n2:Int) (b3:Bool) (n3:Int) (w:World) :
    Calls Tryz.prog 277 #[vtgV b0 n0 b1 n1 b2 n2 b3 n3] w (PutPost (putVtg [(b0,n0),(b1,n1),(b2,n2),(b3,n3)]) w):=by
  obtain⟨s1,e1⟩:∃ s1,Hid (wrCol ⟨1,3,2,0,36000,⟨#[84]⟩⟩ (b0,n0) (0,[])=s1):=⟨_,rfl⟩
  obtain⟨s2,e2⟩:∃ s2,Hid (wrCol ⟨1,3,2,0,36000,⟨#[77]⟩⟩ (b1,n1) s1=s2):=⟨_,rfl⟩
  obtain⟨s3,e3⟩:∃ s3,Hid (wrCol ⟨1,4,2,0,999999,⟨#[78]⟩⟩ (b2,n2) s2=s3):=⟨_,rfl⟩
  obtain⟨s4,e4⟩:∃ s4,Hid (wrCol ⟨1,4,2,0,999999,⟨#[75]⟩⟩ (b3,n3) s3=s4):=⟨_,rfl⟩
  obtain⟨hput,l1,l2,l3,l4⟩:=vtg_chain e1 e2 e3 e4
  have HPUT:=Lib.hid hput
  rw [hput]
  clear hput
  have HM:Hid (∀ o,(w.alloc (.cells (vtgC b0 n0 b1 n1 b2 n2 b3 n3) 41)).cell? ⟨w.heap.size,o,none⟩=(vtgC b0 n0 b1 n1 b2 n2 b3 n3)[o]?):=fun o=>World.cell?_alloc_at _ _ _ _ rfl
  have HB1:=Lib.hid (below_new w (.cells (vtgC b0 n0 b1 n1 b2 n2 b3 n3) 41))
  have hz1:(w.alloc (.cells (vtgC b0 n0 b1 n1 b2 n2 b3 n3) 41)).heap.size=w.heap.size+1:=by simp
  have HZ1:=Lib.hid hz1
  clear hz1
  go_enter Tryz.func277,Tryz.ntmps277
  go_wp2_with fail
  generalize hW1:w.alloc (.cells (vtgC b0 n0 b1 n1 b2 n2 b3 n3) 41)=W1 at *
  clear hW1
  refine penRow.mono ?_
  rintro r w2 ⟨rfl,hp2,hb2,hz2⟩
  have HP2:=Lib.hid hp2
  have HB2:=Lib.hid hb2
  have HZ2:=Lib.hid hz2
  clear hp2 hb2 hz2
  go_wp2_with fail
  have HB3:=Lib.hid (below_new w2 (.cells #[.pointer (some ⟨W1.heap.size,0,none⟩)] 256))
  have HP3:Hid ((w2.alloc (.cells #[.pointer (some ⟨W1.heap.size,0,none⟩)] 256)).cell? ⟨w2.heap.size,0,none⟩=some (.pointer (some ⟨W1.heap.size,0,none⟩))):=World.cell?_alloc_at _ _ _ _ rfl
  have HZ3:Hid ((w2.alloc (.cells #[.pointer (some ⟨W1.heap.size,0,none⟩)] 256)).heap.size=w2.heap.size+1):=by show _=_;simp
  generalize hW3:w2.alloc (.cells #[.pointer (some ⟨W1.heap.size,0,none⟩)] 256)=W3 at *
  clear hW3
  refine (vtgcolumns_any _).mono ?_
  rintro r w4 ⟨C,rfl,hc,hC1,hC2,hb4⟩
  have HC4:=Lib.hid hc
  have HC1:=Lib.hid hC1
  have HC2:=Lib.hid hC2
  have HB4:=Lib.hid hb4
  clear hc hC1 hC2 hb4
  go_wp2_with fail
  refine (vtgnumbers_any _ _).mono ?_
  rintro r w5 ⟨rfl,hd,hD,hb5⟩
  have h25:Below w2.heap.size w2 w5:=bthen (bthen HB3.out HB4.out) hb5
  have hp5:=HP2.out.also h25
  have hz1:=HZ1.out
  have hz2:=HZ2.out
  have hz3:=HZ3.out
  have hC1:=HC1.out
  have hC2:=HC2.out
  have hz4:=HB4.out.size
  have hz5:=hb5.size
  have hz25:=h25.size
  have hB15:Below W1.heap.size W1 w5:=bthen HB2.out h25
  obtain⟨S,hS⟩:∃ S,Also (fun k=>k < W1.heap.size+1) w2 w5=S:=⟨_,rfl⟩
  have sW:∀ k,k < W1.heap.size+1→S k:=fun k hk=>by rw [← hS];exact .inl hk
  have s2:∀ k,w2.heap.size≤k→k < w5.heap.size→S k:=fun k hk h=>by rw [← hS];exact .inr ⟨hk,h⟩
  rw [hS] at hp5
  have hcP:w5.cell? ⟨w2.heap.size,0,none⟩=some (.pointer (some ⟨W1.heap.size,0,none⟩)):=((bcell (bthen HB4.out hb5)).1 _ 0 (by omega)).trans HP3.out
  have hcM:∀ o,w5.cell? ⟨w.heap.size,o,none⟩=(vtgC b0 n0 b1 n1 b2 n2 b3 n3)[o]?:=fun o=>((bcell hB15).1 _ o (by omega)).trans (HM.out o)
  have hcC:∀ o,w5.cell? ⟨C,o,none⟩=clCells[o]?:=fun o=>((bcell hb5).1 _ o hC2).trans (HC4.out o)
  have A0:Hid (ColAt S W1.heap.size w2.heap.size w.heap.size 0 b0 n0 w5):=⟨hcP,s2 _ (by omega) (by omega),by omega,sW _ (by omega),by omega,hcM 0,hcM 1⟩
  have A1:Hid (ColAt S W1.heap.size w2.heap.size w.heap.size 2 b1 n1 w5):=⟨hcP,s2 _ (by omega) (by omega),by omega,sW _ (by omega),by omega,hcM 2,hcM 3⟩
  have A2:Hid (ColAt S W1.heap.size w2.heap.size w.heap.size 4 b2 n2 w5):=⟨hcP,s2 _ (by omega) (by omega),by omega,sW _ (by omega),by omega,hcM 4,hcM 5⟩
  have A3:Hid (ColAt S W1.heap.size w2.heap.size w.heap.size 6 b3 n3 w5):=⟨hcP,s2 _ (by omega) (by omega),by omega,sW _ (by omega),by omega,hcM 6,hcM 7⟩
  have HSI:Hid (∀ wr,(∃ s,PenI S W1.heap.size s wr)→Kept S W1.heap.size w5 wr→W1.heap.size < wr.heap.size):=fun wr _ hk=>by have:=hk.size;omega
  have HCC:Hid (∀ wr,Kept S W1.heap.size w5 wr→(∀ o,wr.cell? ⟨C,o,none⟩=clCells[o]?)∧(∀ o,wr.cell? ⟨w4.heap.size,o,none⟩=(ptrC w.heap.size)[o]?)):=fun wr hk=>
    ⟨fun o=>(hk.cell (s2 _ (by omega) (by omega)) (by omega)).trans (hcC o),fun o=>(hk.cell (s2 _ (by omega) (by omega)) (by omega)).trans (hd o)⟩
  have HPP:Hid (∀ wr,Kept S W1.heap.size w5 wr→wr.cell? ⟨w2.heap.size,0,none⟩=some (.pointer (some ⟨W1.heap.size,0,none⟩))):=fun wr hk=>(hk.cell (s2 _ (by omega) (by omega)) (by omega)).trans hcP
  have HFIN:Hid (∀ wr,Kept S W1.heap.size w5 wr→Below w.heap.size w wr):=fun wr hk=>Below.trans ((HB1.out.trans (hB15.mono (by omega)))) (hk.below (by omega) (fun k hk2=>sW k (by omega)))
  have HP5:=Lib.hid hp5
  clear hp5 hcP hcM hcC hd hS sW s2 hD hz1 hz2 hz3 hC1 hC2 hz4 hz5 hz25 h25 hB15 hb5 HC4 HB4 HZ3 HP3 HB3 HZ2 HB2 HP2 HZ1 HB1 HM HC1 HC2
  go_wp2_with fail
  refine (vtgbothPut_any (M:=w.heap.size) (P:=w2.heap.size) (I0:=fun wr=>PenI S W1.heap.size (0,[]) wr∧Kept S W1.heap.size w5 wr) (I1:=fun wr=>PenI S W1.heap.size s1 wr∧Kept S W1.heap.size w5 wr) (I2:=fun wr=>PenI S W1.heap.size s2 wr∧Kept S W1.heap.size w5 wr) (I3:=fun wr=>PenI S W1.heap.size s3 wr∧Kept S W1.heap.size w5 wr) (I4:=fun wr=>PenI S W1.heap.size s4 wr∧Kept S W1.heap.size w5 wr) ⟨HP5.out,Kept.refl _ _ _⟩ ?_ ?_ ?_ ?_ ?_).mono ?_
  · exact fun wr h=>by rcases h with h | h | h | h <;> exact HCC.out wr h.2
  · exact fun wr h=>(vtgPut1_any e1 (h.1.keep (bdrew (Below.refl _ _))) (HSI.out wr ⟨_,h.1⟩ h.2) (by decide) ((A0.out.keep h.2).keep ⟨rfl,rfl,rfl,Nat.le_refl _,fun _ _ _=>rfl⟩)).mono fun r w' q=>⟨q.1,q.2.1,h.2.trans q.2.2.undrew⟩
  · exact fun wr h=>(vtgPut1_any e2 (h.1.keep (bdrew (Below.refl _ _))) (HSI.out wr ⟨_,h.1⟩ h.2) (by omega) ((A1.out.keep h.2).keep ⟨rfl,rfl,rfl,Nat.le_refl _,fun _ _ _=>rfl⟩)).mono fun r w' q=>⟨q.1,q.2.1,h.2.trans q.2.2.undrew⟩
  · exact fun wr h=>(vtgPut1_any e3 (h.1.keep (bdrew (Below.refl _ _))) (HSI.out wr ⟨_,h.1⟩ h.2) (by omega) ((A2.out.keep h.2).keep ⟨rfl,rfl,rfl,Nat.le_refl _,fun _ _ _=>rfl⟩)).mono fun r w' q=>⟨q.1,q.2.1,h.2.trans q.2.2.undrew⟩
  · exact fun wr h=>(vtgPut1_any e4 (h.1.keep (bdrew (Below.refl _ _))) (HSI.out wr ⟨_,h.1⟩ h.2) (by omega) ((A3.out.keep h.2).keep ⟨rfl,rfl,rfl,Nat.le_refl _,fun _ _ _=>rfl⟩)).mono fun r w' q=>⟨q.1,q.2.1,h.2.trans q.2.2.undrew⟩
  rintro r w6 ⟨rfl,hp6,hk6⟩
  have hcP:=HPP.out w6 hk6
  have HB6:=Lib.hid (HFIN.out w6 hk6)
  have HD:=Lib.hid (penDone hp6 (by omega))
  clear hp6 hk6
  go_wp2_with fail
  refine HD.out.mono ?_
  intro r w7 h7
  have h8:=DonePost.put HB6.out h7
  obtain⟨v,rfl,h9⟩:=h8
  clear h7
  have H9:=Lib.hid h9
  clear h9
  go_wp2_with fail
  go_ret2
  exact⟨v,rfl,H9.out⟩
set_option maxRecDepth 8000 in
set_option maxHeartbeats 4000000 in
theorem r28Put_any (b0:Bool) (n0:Int) (b1:Bool) (n1:Int) (b2:Bool) (n2:Int) (b3:Bool) (n3:Int) (w:World) :
    Calls Tryz.prog 39 #[vtgV b0 n0 b1 n1 b2 n2 b3 n3] w (PutPost (putVtg [(b0,n0),(b1,n1),(b2,n2),(b3,n3)]) w):=by
  obtain⟨s1,e1⟩:∃ s1,Hid (wrCol ⟨1,3,2,0,36000,⟨#[84]⟩⟩ (b0,n0) (0,[])=s1):=⟨_,rfl⟩
  obtain⟨s2,e2⟩:∃ s2,Hid (wrCol ⟨1,3,2,0,36000,⟨#[77]⟩⟩ (b1,n1) s1=s2):=⟨_,rfl⟩
  obtain⟨s3,e3⟩:∃ s3,Hid (wrCol ⟨1,4,2,0,999999,⟨#[78]⟩⟩ (b2,n2) s2=s3):=⟨_,rfl⟩
  obtain⟨s4,e4⟩:∃ s4,Hid (wrCol ⟨1,4,2,0,999999,⟨#[75]⟩⟩ (b3,n3) s3=s4):=⟨_,rfl⟩
  obtain⟨hput,l1,l2,l3,l4⟩:=vtg_chain e1 e2 e3 e4
  rw [hput]
  clear hput
  have HM:Hid (∀ o,((w.alloc (.cells (vtgC b0 n0 b1 n1 b2 n2 b3 n3) 41)).alloc (.cells #[.slice none 0 0,.int .i64 0,.int .i64 0] 112)).cell? ⟨w.heap.size,o,none⟩=(vtgC b0 n0 b1 n1 b2 n2 b3 n3)[o]?):=fun o=>(World.cell?_alloc_past _ _ _ (by simp)).trans (World.cell?_alloc_at _ _ _ _ rfl)
  have HB1:Hid (Below w.heap.size w ((w.alloc (.cells (vtgC b0 n0 b1 n1 b2 n2 b3 n3) 41)).alloc (.cells #[.slice none 0 0,.int .i64 0,.int .i64 0] 112))):=bthen (below_new w _) (below_new _ _)
  have hz1:(w.alloc (.cells (vtgC b0 n0 b1 n1 b2 n2 b3 n3) 41)).heap.size=w.heap.size+1:=by simp
  have HR0:=Lib.hid (rowNew (w:=w.alloc (.cells (vtgC b0 n0 b1 n1 b2 n2 b3 n3) 41)))
  rw [hz1] at HR0
  clear hz1
  obtain⟨S,hS⟩:∃ S,(fun k=>k < w.heap.size+1+1)=S:=⟨_,rfl⟩
  have sW:Hid (∀ k,k < w.heap.size+1+1→S k):=fun k hk=>by rw [← hS];exact hk
  rw [hS] at HR0
  clear hS
  go_enter Tryz.func39,Tryz.ntmps39
  go_upto_region 2 with fail
  generalize hW1:(w.alloc (.cells (vtgC b0 n0 b1 n1 b2 n2 b3 n3) 41)).alloc (.cells #[.slice none 0 0,.int .i64 0,.int .i64 0] 112)=W1 at *
  clear hW1
  have HK0:Hid (RowI S (w.heap.size+1) (0,[]) W1∧Kept S (w.heap.size+1) W1 W1):=⟨HR0.out,Kept.refl _ _ _⟩
  clear HR0
  obtain⟨t0,f0⟩:∃ t,Hid (wrNum 1 3 2 0 36000 (b0,n0) (0,[])=t):=⟨_,rfl⟩
  have g0:Hid (wrText (unitT b0 ⟨#[84]⟩) 0 t0=s1):=by show _=_;rw [← f0.out];exact e1.out
  have lt0:t0.2.length=1:=by rw [← f0.out,wrNum_len];rfl
  have m0:=(HK0.out.2.cell (b:=w.heap.size) (o:=0) (sW.out _ (by omega)) (by omega)).trans (HM.out 0)
  have m1:=(HK0.out.2.cell (b:=w.heap.size) (o:=1) (sW.out _ (by omega)) (by omega)).trans (HM.out 1)
  simp only [vtgC,List.getElem?_toArray,List.getElem?_cons_succ,List.getElem?_cons_zero] at m0 m1
  go_cut [] (fun wx=>Hid (RowI S (w.heap.size+1) t0 wx∧Kept S (w.heap.size+1) W1 wx))
  case first=>
    go_region_with (first | (go_at_call 63;refine (r28Course_any _).mono ?_;rintro r w2 ⟨rfl,hb2⟩;have k2:=Lib.hid (Kept.undrew (Kept.of_below (S:=S) (g:=w.heap.size+1) hb2 HK0.out.1.bd));have R2:=Lib.hid (HK0.out.1.keep (w':=w2) (Below.trans (bdrew (Below.refl _ _)) hb2));have q0:=(k2.out.cell (b:=w.heap.size) (o:=0) (sW.out _ (by omega)) (by omega)).trans m0;have q1:=(k2.out.cell (b:=w.heap.size) (o:=1) (sW.out _ (by omega)) (by omega)).trans m1) | (go_at_call 88;refine (rowNum f0 R2.out (by decide)).mono ?_;rintro r w3 ⟨rfl,hp3,hk3⟩))
    all_goals go_wp2_with fail
    all_goals go_meet
    all_goals exact Lib.hid ⟨hp3,HK0.out.2.trans (k2.out.trans hk3)⟩
  case rest=>
  have HK1:=hcut
  clear m0 m1 hcut HK0
  have m0:=(HK1.out.2.cell (b:=w.heap.size) (o:=0) (sW.out _ (by omega)) (by omega)).trans (HM.out 0)
  have m1:=(HK1.out.2.cell (b:=w.heap.size) (o:=1) (sW.out _ (by omega)) (by omega)).trans (HM.out 1)
  simp only [vtgC,List.getElem?_toArray,List.getElem?_cons_succ,List.getElem?_cons_zero] at m0 m1
  go_wp2_with fail
  refine (r25PutUnit_any g0 HK1.out.1 (by omega)).mono ?_
  rintro r x0 ⟨rfl,hp,hk⟩
  have HK0:=Lib.hid (show RowI S (w.heap.size+1) s1 x0∧Kept S (w.heap.size+1) W1 x0 from ⟨hp,HK1.out.2.trans hk⟩)
  clear hp hk HK1 m0 m1
  go_upto_region 4 with fail
  obtain⟨t1,f1⟩:∃ t,Hid (wrNum 1 3 2 0 36000 (b1,n1) s1=t):=⟨_,rfl⟩
  have g1:Hid (wrText (unitT b1 ⟨#[77]⟩) 0 t1=s2):=by show _=_;rw [← f1.out];exact e2.out
  have lt1:t1.2.length=3:=by rw [← f1.out,wrNum_len,l1]
  have m0:=(HK0.out.2.cell (b:=w.heap.size) (o:=2) (sW.out _ (by omega)) (by omega)).trans (HM.out 2)
  have m1:=(HK0.out.2.cell (b:=w.heap.size) (o:=3) (sW.out _ (by omega)) (by omega)).trans (HM.out 3)
  simp only [vtgC,List.getElem?_toArray,List.getElem?_cons_succ,List.getElem?_cons_zero] at m0 m1
  go_cut [] (fun wx=>Hid (RowI S (w.heap.size+1) t1 wx∧Kept S (w.heap.size+1) W1 wx))
  case first=>
    go_region_with (first | (go_at_call 63;refine (r28Course_any _).mono ?_;rintro r w2 ⟨rfl,hb2⟩;have k2:=Lib.hid (Kept.undrew (Kept.of_below (S:=S) (g:=w.heap.size+1) hb2 HK0.out.1.bd));have R2:=Lib.hid (HK0.out.1.keep (w':=w2) (Below.trans (bdrew (Below.refl _ _)) hb2));have q0:=(k2.out.cell (b:=w.heap.size) (o:=2) (sW.out _ (by omega)) (by omega)).trans m0;have q1:=(k2.out.cell (b:=w.heap.size) (o:=3) (sW.out _ (by omega)) (by omega)).trans m1) | (go_at_call 88;refine (rowNum f1 R2.out (by omega)).mono ?_;rintro r w3 ⟨rfl,hp3,hk3⟩))
    all_goals go_wp2_with fail
    all_goals go_meet
    all_goals exact Lib.hid ⟨hp3,HK0.out.2.trans (k2.out.trans hk3)⟩
  case rest=>
  have HK1:=hcut
  clear m0 m1 hcut HK0
  have m0:=(HK1.out.2.cell (b:=w.heap.size) (o:=2) (sW.out _ (by omega)) (by omega)).trans (HM.out 2)
  have m1:=(HK1.out.2.cell (b:=w.heap.size) (o:=3) (sW.out _ (by omega)) (by omega)).trans (HM.out 3)
  simp only [vtgC,List.getElem?_toArray,List.getElem?_cons_succ,List.getElem?_cons_zero] at m0 m1
  go_wp2_with fail
  refine (r25PutUnit_any g1 HK1.out.1 (by omega)).mono ?_
  rintro r x1 ⟨rfl,hp,hk⟩
  have HK0:=Lib.hid (show RowI S (w.heap.size+1) s2 x1∧Kept S (w.heap.size+1) W1 x1 from ⟨hp,HK1.out.2.trans hk⟩)
  clear hp hk HK1 m0 m1
  go_upto_region 6 with fail
  obtain⟨t2,f2⟩:∃ t,Hid (wrNum 1 4 2 0 999999 (b2,n2) s2=t):=⟨_,rfl⟩
  have g2:Hid (wrText (unitT b2 ⟨#[78]⟩) 0 t2=s3):=by show _=_;rw [← f2.out];exact e3.out
  have lt2:t2.2.length=5:=by rw [← f2.out,wrNum_len,l2]
  have m0:=(HK0.out.2.cell (b:=w.heap.size) (o:=4) (sW.out _ (by omega)) (by omega)).trans (HM.out 4)
  have m1:=(HK0.out.2.cell (b:=w.heap.size) (o:=5) (sW.out _ (by omega)) (by omega)).trans (HM.out 5)
  simp only [vtgC,List.getElem?_toArray,List.getElem?_cons_succ,List.getElem?_cons_zero] at m0 m1
  go_cut [] (fun wx=>Hid (RowI S (w.heap.size+1) t2 wx∧Kept S (w.heap.size+1) W1 wx))
  case first=>
    go_region_with (first | (go_at_call 64;refine (r28Speed_any _).mono ?_;rintro r w2 ⟨rfl,hb2⟩;have k2:=Lib.hid (Kept.undrew (Kept.of_below (S:=S) (g:=w.heap.size+1) hb2 HK0.out.1.bd));have R2:=Lib.hid (HK0.out.1.keep (w':=w2) (Below.trans (bdrew (Below.refl _ _)) hb2));have q0:=(k2.out.cell (b:=w.heap.size) (o:=4) (sW.out _ (by omega)) (by omega)).trans m0;have q1:=(k2.out.cell (b:=w.heap.size) (o:=5) (sW.out _ (by omega)) (by omega)).trans m1) | (go_at_call 88;refine (rowNum f2 R2.out (by omega)).mono ?_;rintro r w3 ⟨rfl,hp3,hk3⟩))
    all_goals go_wp2_with fail
    all_goals go_meet
    all_goals exact Lib.hid ⟨hp3,HK0.out.2.trans (k2.out.trans hk3)⟩
  case rest=>
  have HK1:=hcut
  clear m0 m1 hcut HK0
  have m0:=(HK1.out.2.cell (b:=w.heap.size) (o:=4) (sW.out _ (by omega)) (by omega)).trans (HM.out 4)
  have m1:=(HK1.out.2.cell (b:=w.heap.size) (o:=5) (sW.out _ (by omega)) (by omega)).trans (HM.out 5)
  simp only [vtgC,List.getElem?_toArray,List.getElem?_cons_succ,List.getElem?_cons_zero] at m0 m1
  go_wp2_with fail
  refine (r25PutUnit_any g2 HK1.out.1 (by omega)).mono ?_
  rintro r x2 ⟨rfl,hp,hk⟩
  have HK0:=Lib.hid (show RowI S (w.heap.size+1) s3 x2∧Kept S (w.heap.size+1) W1 x2 from ⟨hp,HK1.out.2.trans hk⟩)
  clear hp hk HK1 m0 m1
  go_upto_region 8 with fail
  obtain⟨t3,f3⟩:∃ t,Hid (wrNum 1 4 2 0 999999 (b3,n3) s3=t):=⟨_,rfl⟩
  have g3:Hid (wrText (unitT b3 ⟨#[75]⟩) 0 t3=s4):=by show _=_;rw [← f3.out];exact e4.out
  have lt3:t3.2.length=7:=by rw [← f3.out,wrNum_len,l3]
  have m0:=(HK0.out.2.cell (b:=w.heap.size) (o:=6) (sW.out _ (by omega)) (by omega)).trans (HM.out 6)
  have m1:=(HK0.out.2.cell (b:=w.heap.size) (o:=7) (sW.out _ (by omega)) (by omega)).trans (HM.out 7)
  simp only [vtgC,List.getElem?_toArray,List.getElem?_cons_succ,List.getElem?_cons_zero] at m0 m1
  go_cut [] (fun wx=>Hid (RowI S (w.heap.size+1) t3 wx∧Kept S (w.heap.size+1) W1 wx))
  case first=>
    go_region_with (first | (go_at_call 64;refine (r28Speed_any _).mono ?_;rintro r w2 ⟨rfl,hb2⟩;have k2:=Lib.hid (Kept.undrew (Kept.of_below (S:=S) (g:=w.heap.size+1) hb2 HK0.out.1.bd));have R2:=Lib.hid (HK0.out.1.keep (w':=w2) (Below.trans (bdrew (Below.refl _ _)) hb2));have q0:=(k2.out.cell (b:=w.heap.size) (o:=6) (sW.out _ (by omega)) (by omega)).trans m0;have q1:=(k2.out.cell (b:=w.heap.size) (o:=7) (sW.out _ (by omega)) (by omega)).trans m1) | (go_at_call 88;refine (rowNum f3 R2.out (by omega)).mono ?_;rintro r w3 ⟨rfl,hp3,hk3⟩))
    all_goals go_wp2_with fail
    all_goals go_meet
    all_goals exact Lib.hid ⟨hp3,HK0.out.2.trans (k2.out.trans hk3)⟩
  case rest=>
  have HK1:=hcut
  clear m0 m1 hcut HK0
  have m0:=(HK1.out.2.cell (b:=w.heap.size) (o:=6) (sW.out _ (by omega)) (by omega)).trans (HM.out 6)
  have m1:=(HK1.out.2.cell (b:=w.heap.size) (o:=7) (sW.out _ (by omega)) (by omega)).trans (HM.out 7)
  simp only [vtgC,List.getElem?_toArray,List.getElem?_cons_succ,List.getElem?_cons_zero] at m0 m1
  go_wp2_with fail
  refine (r25PutUnit_any g3 HK1.out.1 (by omega)).mono ?_
  rintro r x3 ⟨rfl,hp,hk⟩
  have HK0:=Lib.hid (show RowI S (w.heap.size+1) s4 x3∧Kept S (w.heap.size+1) W1 x3 from ⟨hp,HK1.out.2.trans hk⟩)
  clear hp hk HK1 m0 m1
  go_wp2_with fail
  have HB6:Hid (Below w.heap.size w x3):=Below.trans HB1.out (HK0.out.2.below (by omega) (fun k hk=>sW.out k (by omega)))
  refine (rowDone HK0.out.1 (by omega)).mono ?_
  intro r w7 h7
  have h8:=DonePost.put HB6.out h7
  obtain⟨v,rfl,h9⟩:=h8
  clear h7
  have H9:=Lib.hid h9
  clear h9
  go_wp2_with fail
  go_ret2
  exact⟨v,rfl,H9.out⟩
end Go.Proofs.YtoabkoniegmkaaaGreat
