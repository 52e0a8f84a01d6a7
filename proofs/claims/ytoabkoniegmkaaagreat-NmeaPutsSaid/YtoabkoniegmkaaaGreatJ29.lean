/- Layer 27: the reference's Put. Printed by gengsab.py. -/
import Derived.Test.YtoabkoniegmkaaaGreatJ21
import Derived.Test.YtoabkoniegmkaaaGreatJ11
import Derived.RangeFuncNested
import Derived.RangeFuncBound
import Derived.RangeFuncCalls
import Derived.RangeFuncLeaves
import Derived.Shelf.Abstract
import Derived.Shelf.RegionOpen
import Derived.OwnWalkIn
import Derived.TacticsInMore
import Derived.LoopNIn
import Derived.LoopIn
namespace Go.Proofs.YtoabkoniegmkaaaGreat
set_option linter.unusedVariables false
open Go.RowKit
theorem wrIds_snoc (l:List (Bool×Int)) (k:Nat) (h:k < l.length) (s:Rd):wrIds (l.take (k+1)) s=wrNum 1 3 0 1 255 l[k] (wrIds (l.take k) s):=by
  unfold wrIds
  rw [List.take_succ_eq_append_getElem h,List.foldl_append]
  rfl
theorem nums12_at (ids:List Int) (k:Nat) (h:ids.length≤12) (hk:k < (nums12 ids).length):(nums12 ids)[k]=if hq:k < ids.length then (true,ids[k]) else (false,0):=by
  unfold nums12 at hk ⊢
  by_cases hq:k < ids.length
  · rw [dif_pos hq,List.getElem_append_left (by simpa using hq)]
    simp
  · rw [dif_neg hq,List.getElem_append_right (by simpa using hq)]
    simp
theorem textsNone27 (w w':World) (hb:Below w.heap.size w w'):TextsPost [] w (.slice none 0 0) w':=⟨none,0,rfl,fun _=>rfl,fun k hk=>absurd hk (by simp),FreshA.none_,hb⟩
theorem alike_ids:∀ (l:List (Bool×Int)) (a b:Rd),Alike a b→Alike (wrIds l a) (wrIds l b)
  | [],_,_,h=>h
  | n :: l,a,b,h=>alike_ids l _ _ (h.num _ _ _ _ _ _)
theorem wrIds_len (l:List (Bool×Int)):∀ s:Rd,(wrIds l s).2.length=s.2.length+l.length:=by
  induction l with
  | nil=>intro s;simp [wrIds]
  | cons n l ih=>
    intro s
    show (wrIds l (wrNum 1 3 0 1 255 n s)).2.length=_
    rw [ih,wrNum_len,List.length_cons]
    omega
set_option maxRecDepth 8000 in
theorem r27Put_long (a:Bool) (f:Int) (A:Option Addr) (n c:Nat) (b0:Bool) (n0:Int) (b1:Bool) (n1:Int) (b2:Bool) (n2:Int) (w:World) (hn:(12:Int) < (n:Int)) (hm:n≤1000000):Calls Tryz.prog 38 #[gsaV a f A n c b0 n0 b1 n1 b2 n2] w (PutPost ([],7) w):=by
  go_enter Tryz.func38,Tryz.ntmps38
  go_wp2
  go_ret2
  exact⟨_,rfl,textsNone27 _ _ (below_new _ _)⟩
set_option maxRecDepth 8000 in
set_option maxHeartbeats 8000000 in
theorem r27Put_ok (a:Bool) (f:Int) (A:Option Addr) (n c:Nat) (L:List Int) (b0:Bool) (n0:Int) (b1:Bool) (n1:Int) (b2:Bool) (n2:Int) (w:World) (hn:Hid (L.length=n)) (hs:Hid (Ints w w.heap.size A L)) (h12:n≤12):Calls Tryz.prog 38 #[gsaV a f A n c b0 n0 b1 n1 b2 n2] w (PutPost (putGsa ⟨a,f,L,(b0,n0),(b1,n1),(b2,n2)⟩) w):=by
  obtain⟨s1,e1⟩:∃ s,Hid (wrText (modeT a) 0 (0,[])=s):=⟨_,rfl⟩
  obtain⟨s2,e2⟩:∃ s,Hid (wrDigR 1 3 f s1=s):=⟨_,rfl⟩
  obtain⟨s3,e3⟩:∃ s,Hid (wrIds (nums12 L) s2=s):=⟨_,rfl⟩
  obtain⟨s4,e4⟩:∃ s,Hid (wrNum 1 3 2 0 99999 (b0,n0) s3=s):=⟨_,rfl⟩
  obtain⟨s5,e5⟩:∃ s,Hid (wrNum 1 3 2 0 99999 (b1,n1) s4=s):=⟨_,rfl⟩
  obtain⟨s6,e6⟩:∃ s,Hid (wrNum 1 3 2 0 99999 (b2,n2) s5=s):=⟨_,rfl⟩
  have HPUT:Hid (putGsa ⟨a,f,L,(b0,n0),(b1,n1),(b2,n2)⟩=wrDone s6):=by
    show _=_
    unfold putGsa
    rw [if_neg (by show ¬ 12 < L.length;rw [hn.out];omega)]
    simp only
    have h1:Alike (wrDig 1 3 f (wrText (modeT a) 0 (0,[]))) s2:=by
      rw [← e2.out,← e1.out]
      exact (Alike.refl _).dig _ _ _
    have h2:=(((alike_ids (nums12 L) _ _ h1).num 1 3 2 0 99999 (b0,n0)).num 1 3 2 0 99999 (b1,n1)).num 1 3 2 0 99999 (b2,n2)
    rw [h2.done,e3.out,e4.out,e5.out,e6.out]
  have l1:s1.2.length=1:=by rw [← e1.out,wrText_len];rfl
  have l2:s2.2.length≤2:=by
    rw [← e2.out]
    unfold wrDigR
    split
    · show s1.2.length≤2;omega
    · rw [wrText_len];omega
  have l3:s3.2.length≤14:=by rw [← e3.out,wrIds_len,nums12_len L (by rw [hn.out];exact h12)];omega
  have l4:s4.2.length≤15:=by rw [← e4.out,wrNum_len];omega
  have l5:s5.2.length≤16:=by rw [← e5.out,wrNum_len];omega
  have l6:s6.2.length≤17:=by rw [← e6.out,wrNum_len];omega
  rw [HPUT.out]
  clear HPUT
  obtain⟨X,hX⟩:∃ X,wrDone s6=X:=⟨_,rfl⟩
  have HX:=Lib.hid hX
  rw [hX]
  clear hX
  have hb1:=below_new w (.cells (gsaC a f A n c b0 n0 b1 n1 b2 n2) 39)
  have hz1:(w.alloc (.cells (gsaC a f A n c b0 n0 b1 n1 b2 n2) 39)).heap.size=w.heap.size+1:=by simp
  have hb3:=below_new (w.alloc (.cells (gsaC a f A n c b0 n0 b1 n1 b2 n2) 39)) (.cells #[.slice none 0 0,.int .i64 0,.int .i64 0] 112)
  have HR:=Lib.hid (rowNew (w:=w.alloc (.cells (gsaC a f A n c b0 n0 b1 n1 b2 n2) 39)))
  rw [hz1] at HR
  have HM:Hid (∀ o,((w.alloc (.cells (gsaC a f A n c b0 n0 b1 n1 b2 n2) 39)).alloc (.cells #[.slice none 0 0,.int .i64 0,.int .i64 0] 112)).cell? ⟨w.heap.size,o,none⟩=(gsaC a f A n c b0 n0 b1 n1 b2 n2)[o]?):=fun o=>(World.cell?_alloc_past _ _ _ (by simp)).trans (World.cell?_alloc_at _ _ _ _ rfl)
  have HB:=Lib.hid (bthen hb1 hb3)
  have HSV:Hid (Ints ((w.alloc (.cells (gsaC a f A n c b0 n0 b1 n1 b2 n2) 39)).alloc (.cells #[.slice none 0 0,.int .i64 0,.int .i64 0] 112)) w.heap.size A L):=hs.out.below (bthen hb1 hb3) (Nat.le_refl _)
  have i0:(n:Int)≤12:=by omega
  obtain⟨S0,hS⟩:∃ S0,(fun k=>k < w.heap.size+1+1)=S0:=⟨_,rfl⟩
  have sW:Hid (∀ k,k < w.heap.size+1+1→S0 k):=fun k hk=>by rw [← hS];exact hk
  rw [hS] at HR
  clear hS hb1 hb3 hz1
  go_enter Tryz.func38,Tryz.ntmps38
  try dsimp only
  repeat (fail_if_success (show Code.wp _ (Code.seq (Code.region 4 _ _) _) _ _ _)
          first | go_values | go_skip | go_guarded | go_step | go_upon | go_back | (simp only [Int.not_lt,Int.not_le] at *;go_simp) | (go_ite <;> go_prune <;> (try go_simp)))
  generalize hW3:(w.alloc (.cells (gsaC a f A n c b0 n0 b1 n1 b2 n2) 39)).alloc (.cells #[.slice none 0 0,.int .i64 0,.int .i64 0] 112)=W3 at *
  clear hW3
  have HK0:Hid (RowI S0 (w.heap.size+1) (0,[]) W3∧Kept S0 (w.heap.size+1) W3 W3):=⟨HR.out,Kept.refl _ _ _⟩
  clear HR
  go_cut [] (fun wx=>Hid (RowI S0 (w.heap.size+1) s1 wx∧Kept S0 (w.heap.size+1) W3 wx))
  case first=>
    have m0:=HM.out 0
    cases a with
    | true=>
      go_wp2_with fail
      refine (rowText e1 HK0.out.1 (by decide)).mono ?_
      rintro r x2 ⟨rfl,hp,hk⟩
      have HK1:Hid (RowI S0 (w.heap.size+1) s1 x2∧Kept S0 (w.heap.size+1) W3 x2):=⟨hp,HK0.out.2.trans hk⟩
      clear hp hk
      go_wp2_with fail
      go_meet
      exact HK1
    | false=>
      go_wp2_with fail
      refine (rowText e1 HK0.out.1 (by decide)).mono ?_
      rintro r x2 ⟨rfl,hp,hk⟩
      have HK1:Hid (RowI S0 (w.heap.size+1) s1 x2∧Kept S0 (w.heap.size+1) W3 x2):=⟨hp,HK0.out.2.trans hk⟩
      clear hp hk
      go_wp2_with fail
      go_meet
      exact HK1
  case rest=>
  have HK1:=hcut
  clear hcut HK0
  have m1:=(HK1.out.2.cell (b:=w.heap.size) (o:=1) (sW.out _ (by omega)) (by omega)).trans (HM.out 1)
  go_wp2_with fail
  refine (r25PutDigit_any e2 (by omega) (by omega) HK1.out.1 (by omega)).mono ?_
  rintro r x3 ⟨rfl,hp,hk⟩
  have HK2:Hid (RowI S0 (w.heap.size+1) s2 x3∧Kept S0 (w.heap.size+1) W3 x3):=⟨hp,HK1.out.2.trans hk⟩
  clear hp hk HK1 m1
  have HI0:Hid (∃ sk,sk=wrIds ((nums12 L).take 0) s2∧sk.2.length≤2+0∧RowI S0 (w.heap.size+1) sk x3∧Kept S0 (w.heap.size+1) W3 x3):=⟨s2,rfl,by omega,HK2.out.1,HK2.out.2⟩
  clear HK2
  go_wp2_with fail
  go_loopw [5] (fun i wr=>∃ k:Nat,i=.int .i64 (k:Int)∧k≤12∧Hid (∃ sk,sk=wrIds ((nums12 L).take k) s2∧sk.2.length≤2+k∧RowI S0 (w.heap.size+1) sk wr∧Kept S0 (w.heap.size+1) W3 wr)) (fun i _=>12 - (intOf i).toNat)
  case atStart=>exact⟨0,rfl,by omega,HI0⟩
  case round=>
    clear HI0
    obtain⟨k,rfl,hk,hI⟩:=hrel
    obtain⟨sk,hsk,hlk,hpk,hkk⟩:=hI.out
    by_cases hlt:k < 12
    · have hnl:k < (nums12 L).length:=by rw [nums12_len L (by rw [hn.out];exact h12)];exact hlt
      have hnx:=wrIds_snoc (nums12 L) k hnl s2
      rw [← hsk,nums12_at L k (by rw [hn.out];exact h12) hnl] at hnx
      have i1:(k:Int) < 12:=by omega
      have i2:(0:Int)≤(k:Int):=by omega
      have m2:=(hkk.cell (b:=w.heap.size) (o:=2) (sW.out _ (by omega)) (by omega)).trans (HM.out 2)
      have hzr:w.heap.size < wr.heap.size:=hpk.bd _ (sW.out _ (by omega))
      have m3:=(World.cell?_alloc_past (w:=wr) (.cells #[.bool false,.int .i64 0] 30) w.heap.size 2 hzr).trans m2
      by_cases hkn:k < n
      · have hkl:k < L.length:=by rw [hn.out];exact hkn
        obtain⟨b,off,hAb,hb,hc⟩:=HSV.out k hkl
        subst hAb
        rw [dif_pos hkl] at hnx
        generalize L[k]=v at *
        obtain⟨q1,f0⟩:∃ s,Hid (wrNum 1 3 0 1 255 (true,v) sk=s):=⟨_,rfl⟩
        rw [f0.out] at hnx
        have HNX:=Lib.hid hnx
        have hc0:=(hkk.cell (b:=b) (o:=off+k) (sW.out _ (by omega)) (by omega)).trans hc
        have hc1:=(World.cell?_alloc_past (w:=wr) (.cells #[.bool false,.int .i64 0] 30) b (off+k) (by omega)).trans hc0
        clear hc0
        have i3:(k:Int) < (n:Int):=by omega
        have hb9:=below_new wr (.cells #[.bool true,.int .i64 v] 30)
        have HK0:Hid (RowI S0 (w.heap.size+1) sk (wr.alloc (.cells #[.bool true,.int .i64 v] 30))∧Kept S0 (w.heap.size+1) W3 (wr.alloc (.cells #[.bool true,.int .i64 v] 30))):=⟨hpk.keep hb9,hkk.trans (Kept.of_below hb9 hpk.bd)⟩
        have y0:(wr.alloc (.cells #[.bool true,.int .i64 v] 30)).cell? ⟨wr.heap.size,0,none⟩=some (.bool true):=World.cell?_alloc_at _ _ _ _ rfl
        have y1:(wr.alloc (.cells #[.bool true,.int .i64 v] 30)).cell? ⟨wr.heap.size,1,none⟩=some (.int .i64 v):=World.cell?_alloc_at _ _ _ _ rfl
        have hVz:wr.heap.size < (wr.alloc (.cells #[.bool true,.int .i64 v] 30)).heap.size:=by simp
        have HVZ:=Lib.hid hVz
        clear hc hb9 hpk hkk hI hsk hVz hnx
        go_upto_region 14 with fail
        generalize hW9:wr.alloc (.cells #[.bool true,.int .i64 v] 30)=W9 at *
        generalize hV:wr.heap.size=V at *
        clear hV hW9 hc1 m2 m3 hzr
        go_region_with (first | (go_at_call 61;refine (r27Id_any _).mono ?_;rintro r y3 ⟨rfl,hb2⟩;have k2:=Lib.hid (Kept.undrew (Kept.of_below (S:=S0) (g:=w.heap.size+1) hb2 HK0.out.1.bd));have R2:=Lib.hid (HK0.out.1.keep (w':=y3) (Below.trans (bdrew (Below.refl _ _)) hb2));have z0:=((bcell hb2).1 V 0 HVZ.out).trans y0;have z1:=((bcell hb2).1 V 1 HVZ.out).trans y1) | (go_at_call 88;refine (rowNum f0 R2.out (by omega)).mono ?_;rintro r y4 ⟨rfl,hp3,hk3⟩))
        all_goals go_wp2_with fail
        all_goals have HK1:=Lib.hid (show RowI S0 (w.heap.size+1) q1 _∧Kept S0 (w.heap.size+1) W3 _ from ⟨hp3,HK0.out.2.trans (k2.out.trans hk3)⟩)
        all_goals go_roundw
        all_goals first | exact⟨k+1,by go_num,by omega,Lib.hid ⟨q1,HNX.out.symm,by rw [← f0.out,wrNum_len];omega,HK1.out.1,HK1.out.2⟩⟩ | (simp [intOf];omega)
      · have hkl:¬ k < L.length:=by rw [hn.out];exact hkn
        rw [dif_neg hkl] at hnx
        obtain⟨q1,f0⟩:∃ s,Hid (wrNum 1 3 0 1 255 (false,0) sk=s):=⟨_,rfl⟩
        rw [f0.out] at hnx
        have HNX:=Lib.hid hnx
        have i3:(n:Int)≤(k:Int):=by omega
        have hb9:=below_new wr (.cells #[.bool false,.int .i64 0] 30)
        have HK0:Hid (RowI S0 (w.heap.size+1) sk (wr.alloc (.cells #[.bool false,.int .i64 0] 30))∧Kept S0 (w.heap.size+1) W3 (wr.alloc (.cells #[.bool false,.int .i64 0] 30))):=⟨hpk.keep hb9,hkk.trans (Kept.of_below hb9 hpk.bd)⟩
        have y0:(wr.alloc (.cells #[.bool false,.int .i64 0] 30)).cell? ⟨wr.heap.size,0,none⟩=some (.bool false):=World.cell?_alloc_at _ _ _ _ rfl
        have y1:(wr.alloc (.cells #[.bool false,.int .i64 0] 30)).cell? ⟨wr.heap.size,1,none⟩=some (.int .i64 0):=World.cell?_alloc_at _ _ _ _ rfl
        have HVZ:Hid (wr.heap.size < (wr.alloc (.cells #[.bool false,.int .i64 0] 30)).heap.size):=by show _ < _;simp
        clear hb9 hpk hkk hI hsk hnx
        go_upto_region 14 with fail
        generalize hW9:wr.alloc (.cells #[.bool false,.int .i64 0] 30)=W9 at *
        generalize hV:wr.heap.size=V at *
        clear hV hW9 m2 m3 hzr
        go_region_with (first | (go_at_call 61;refine (r27Id_any _).mono ?_;rintro r y3 ⟨rfl,hb2⟩;have k2:=Lib.hid (Kept.undrew (Kept.of_below (S:=S0) (g:=w.heap.size+1) hb2 HK0.out.1.bd));have R2:=Lib.hid (HK0.out.1.keep (w':=y3) (Below.trans (bdrew (Below.refl _ _)) hb2));have z0:=((bcell hb2).1 V 0 HVZ.out).trans y0;have z1:=((bcell hb2).1 V 1 HVZ.out).trans y1) | (go_at_call 88;refine (rowNum f0 R2.out (by omega)).mono ?_;rintro r y4 ⟨rfl,hp3,hk3⟩))
        all_goals go_wp2_with fail
        all_goals have HK1:=Lib.hid (show RowI S0 (w.heap.size+1) q1 _∧Kept S0 (w.heap.size+1) W3 _ from ⟨hp3,HK0.out.2.trans (k2.out.trans hk3)⟩)
        all_goals go_roundw
        all_goals first | exact⟨k+1,by go_num,by omega,Lib.hid ⟨q1,HNX.out.symm,by rw [← f0.out,wrNum_len];omega,HK1.out.1,HK1.out.2⟩⟩ | (simp [intOf];omega)
    · obtain rfl:k=12:=by omega
      have hs3:sk=s3:=by
        rw [hsk,List.take_of_length_le (by rw [nums12_len L (by rw [hn.out];exact h12)];omega)]
        exact e3.out
      subst hs3
      have HK0:Hid (RowI S0 (w.heap.size+1) sk wr∧Kept S0 (w.heap.size+1) W3 wr):=⟨hpk,hkk⟩
      clear hI hsk hpk hkk hlk HSV
      have m0:=(HK0.out.2.cell (b:=w.heap.size) (o:=3) (sW.out _ (by omega)) (by omega)).trans (HM.out 3)
      have m1:=(HK0.out.2.cell (b:=w.heap.size) (o:=4) (sW.out _ (by omega)) (by omega)).trans (HM.out 4)
      go_upto_region 15 with fail
      go_cut [] (fun wx=>Hid (RowI S0 (w.heap.size+1) s4 wx∧Kept S0 (w.heap.size+1) W3 wx))
      case first=>
        go_region_with (first | (go_at_call 62;refine (r27Dop_any _).mono ?_;rintro r y3 ⟨rfl,hb2⟩;have k2:=Lib.hid (Kept.undrew (Kept.of_below (S:=S0) (g:=w.heap.size+1) hb2 HK0.out.1.bd));have R2:=Lib.hid (HK0.out.1.keep (w':=y3) (Below.trans (bdrew (Below.refl _ _)) hb2));have z0:=(k2.out.cell (b:=w.heap.size) (o:=3) (sW.out _ (by omega)) (by omega)).trans m0;have z1:=(k2.out.cell (b:=w.heap.size) (o:=4) (sW.out _ (by omega)) (by omega)).trans m1) | (go_at_call 88;refine (rowNum e4 R2.out (by omega)).mono ?_;rintro r y4 ⟨rfl,hp3,hk3⟩))
        all_goals go_wp2_with fail
        all_goals go_meet
        all_goals exact Lib.hid ⟨hp3,HK0.out.2.trans (k2.out.trans hk3)⟩
      case rest=>
      have HK1:=hcut
      clear hcut HK0 m0 m1
      have HK0:=HK1
      clear HK1
      have m0:=(HK0.out.2.cell (b:=w.heap.size) (o:=5) (sW.out _ (by omega)) (by omega)).trans (HM.out 5)
      have m1:=(HK0.out.2.cell (b:=w.heap.size) (o:=6) (sW.out _ (by omega)) (by omega)).trans (HM.out 6)
      go_upto_region 16 with fail
      go_cut [] (fun wx=>Hid (RowI S0 (w.heap.size+1) s5 wx∧Kept S0 (w.heap.size+1) W3 wx))
      case first=>
        go_region_with (first | (go_at_call 62;refine (r27Dop_any _).mono ?_;rintro r y3 ⟨rfl,hb2⟩;have k2:=Lib.hid (Kept.undrew (Kept.of_below (S:=S0) (g:=w.heap.size+1) hb2 HK0.out.1.bd));have R2:=Lib.hid (HK0.out.1.keep (w':=y3) (Below.trans (bdrew (Below.refl _ _)) hb2));have z0:=(k2.out.cell (b:=w.heap.size) (o:=5) (sW.out _ (by omega)) (by omega)).trans m0;have z1:=(k2.out.cell (b:=w.heap.size) (o:=6) (sW.out _ (by omega)) (by omega)).trans m1) | (go_at_call 88;refine (rowNum e5 R2.out (by omega)).mono ?_;rintro r y4 ⟨rfl,hp3,hk3⟩))
        all_goals go_wp2_with fail
        all_goals go_meet
        all_goals exact Lib.hid ⟨hp3,HK0.out.2.trans (k2.out.trans hk3)⟩
      case rest=>
      have HK1:=hcut
      clear hcut HK0 m0 m1
      have HK0:=HK1
      clear HK1
      have m0:=(HK0.out.2.cell (b:=w.heap.size) (o:=7) (sW.out _ (by omega)) (by omega)).trans (HM.out 7)
      have m1:=(HK0.out.2.cell (b:=w.heap.size) (o:=8) (sW.out _ (by omega)) (by omega)).trans (HM.out 8)
      go_upto_region 17 with fail
      go_cut [] (fun wx=>Hid (RowI S0 (w.heap.size+1) s6 wx∧Kept S0 (w.heap.size+1) W3 wx))
      case first=>
        go_region_with (first | (go_at_call 62;refine (r27Dop_any _).mono ?_;rintro r y3 ⟨rfl,hb2⟩;have k2:=Lib.hid (Kept.undrew (Kept.of_below (S:=S0) (g:=w.heap.size+1) hb2 HK0.out.1.bd));have R2:=Lib.hid (HK0.out.1.keep (w':=y3) (Below.trans (bdrew (Below.refl _ _)) hb2));have z0:=(k2.out.cell (b:=w.heap.size) (o:=7) (sW.out _ (by omega)) (by omega)).trans m0;have z1:=(k2.out.cell (b:=w.heap.size) (o:=8) (sW.out _ (by omega)) (by omega)).trans m1) | (go_at_call 88;refine (rowNum e6 R2.out (by omega)).mono ?_;rintro r y4 ⟨rfl,hp3,hk3⟩))
        all_goals go_wp2_with fail
        all_goals go_meet
        all_goals exact Lib.hid ⟨hp3,HK0.out.2.trans (k2.out.trans hk3)⟩
      case rest=>
      have HK1:=hcut
      clear hcut HK0 m0 m1
      have HK0:=HK1
      clear HK1
      have HB6:=Lib.hid (Below.trans HB.out (HK0.out.2.below (B:=w.heap.size) (by omega) (fun k hk=>sW.out k (by omega))))
      go_wp2_with fail
      refine (rowDone HK0.out.1 (by omega)).mono ?_
      intro r w7 h7
      have h8:=DonePost.put HB6.out h7
      rw [HX.out] at h8
      obtain⟨v,rfl,h9⟩:=h8
      clear h7
      have H9:=Lib.hid h9
      clear h9
      go_wp2_with fail
      go_ret2
      exact⟨v,rfl,H9.out⟩
theorem r27Put_any (a:Bool) (f:Int) (A:Option Addr) (c:Nat) (L:List Int) (b0:Bool) (n0:Int) (b1:Bool) (n1:Int) (b2:Bool) (n2:Int) (w:World) (hs:Ints w w.heap.size A L) (hm:L.length≤1000000):Calls Tryz.prog 38 #[gsaV a f A L.length c b0 n0 b1 n1 b2 n2] w (PutPost (putGsa ⟨a,f,L,(b0,n0),(b1,n1),(b2,n2)⟩) w):=by
  by_cases h:12 < L.length
  · have:putGsa ⟨a,f,L,(b0,n0),(b1,n1),(b2,n2)⟩=([],7):=if_pos h
    rw [this]
    exact r27Put_long a f A L.length c b0 n0 b1 n1 b2 n2 w (by omega) hm
  · exact r27Put_ok a f A L.length c L b0 n0 b1 n1 b2 n2 w rfl hs (by omega)
open Go.RowKit Go.Shelf
attribute [local go_sem] Oper.semAt_some
theorem PenI.wide {S:Nat→Prop} {g:Nat} {s:Rd} {w:World} (h:PenI S g s w):∃ S':Nat→Prop,(∀ k,S k→S' k)∧PenI S' g s w∧∀ (k:Nat) (o:Obj),w.heap[k]?=some o→o.isCells=false→S' k∧k≠g:=by
  obtain⟨v,h1,h3,h4⟩:=h
  refine⟨fun k=>k < w.heap.size∧v.ownBlock≠some k,fun k hk=>⟨h3 k hk,fun q=>h4 k q hk⟩,⟨v,h1,fun k hk=>hk.1,fun k hk q=>q.2 hk⟩,fun k o ho hc=>?_⟩
  obtain⟨p0,p1,p2,p3,p4,p5⟩:=h1
  obtain⟨og,ho',hcg⟩:=cells_of_cell p0
  refine⟨⟨(Array.getElem?_eq_some_iff.1 ho).1,fun q=>?_⟩,fun q=>?_⟩
  · rcases p5.2 with hn | ⟨b,cap,cur,rfl,hb,hg,-⟩
    · rw [hn.1] at q;simp [Value.ownBlock] at q
    · simp only [Value.ownBlock,Option.some.injEq] at q
      subst q
      rw [hg] at ho;cases ho;simp [Obj.isCells] at hc
  · subst q
    rw [show w.heap[k]?=some og from ho'] at ho;cases ho;rw [hcg] at hc;cases hc
theorem PenI.grown {S:Nat→Prop} {g:Nat} {s:Rd} {w w':World} {row:Option Nat} (h:PenI S g s w) (hg:w.grownBy w' row) (hr:∀ r,row=some r→∃ o:Obj,w.heap[r]?=some o∧o.isCells=false):PenI S g s w':=by
  obtain⟨v,⟨p0,p1,p2,p3,p4,p5⟩,h3,h4⟩:=h
  refine⟨v,⟨cell_kept p0 hg hr,cell_kept p1 hg hr,cell_kept p2 hg hr,fun o=>?_,Nat.lt_of_lt_of_le p4 hg.size,p5.kept hg ?_⟩,fun k hk=>Nat.lt_of_lt_of_le (h3 k hk) hg.size,h4⟩
  · obtain⟨og,ho',hcg⟩:=cells_of_cell p0
    exact (World.frozen?_of_block (a:=⟨g,o,none⟩) (grownBy_keeps_cells hg hr ho' hcg)).trans (p3 o)
  · rcases p5.2 with hn | ⟨b,cap,cur,rfl,hb,hgb,-⟩
    · rw [hn.1];exact .inl rfl
    · refine .inr (fun q=>?_)
      obtain⟨o,ho,hc⟩:=hr b q.symm
      rw [hgb] at ho;cases ho;simp [Obj.isCells] at hc
theorem Kept.grown {S:Nat→Prop} {g:Nat} {w0 w w':World} {row:Option Nat} (h:Kept S g w0 w) (hg:w.grownBy w' row) (hr:∀ r,row=some r→¬ S r) (hb:∀ k,S k→k < w.heap.size):Kept S g w0 w':=
  ⟨hg.os.trans h.os,hg.tape.trans h.tape,hg.output.trans h.output,Nat.le_trans h.size hg.size,fun k hk hne=>(hg.block k (hb k hk) (fun q=>hr k q.symm hk)).trans (h.block k hk hne)⟩
theorem Kept.putObj {S:Nat→Prop} {g B:Nat} (hb:∀ k,S k→k < B) (W:World) (l:Nat) (o o':Obj) (hl:B≤l) (_:W.heap[l]?=some o) (_:o.isCells=false) (_:o.isWalk=false):Kept S g W (W.putObj l o'):=
  ⟨rfl,rfl,rfl,by simp,fun k hk _=>World.putObj_heap_other (fun q=>by have:=hb k hk;omega)⟩
theorem Kept.keepsFrom {S:Nat→Prop} {g B:Nat} {w w':World} (h:Kept S g w w') (hs:∀ (k:Nat) (o:Obj),w.heap[k]?=some o→o.isCells=false→S k∧k≠g):KeepsFrom B w w':=
  ⟨h.size,fun k o _ ho hc=>(h.block k (hs k o ho hc).1 (hs k o ho hc).2).trans ho⟩
theorem gsamode_any (a:Bool) (w:World):Calls Tryz.prog 272 #[.bool a] w fun e w'=>e=.returned (.string (modeT a))∧Below w.heap.size w w':=by
  cases a
  · go_enter Tryz.func272,Tryz.ntmps272
    go_wp2
    go_ret
    exact⟨rfl,Below.refl _ _⟩
  · go_enter Tryz.func272,Tryz.ntmps272
    go_wp2
    go_ret
    exact⟨rfl,Below.refl _ _⟩
theorem gsakind_any (n:Int) (w:World):Calls Tryz.prog 273 #[.int .i64 n] w fun e w'=>e=.returned (.tuple #[.string (digS 1 3 n),.int .i64 (digE 1 3 n)])∧Below w.heap.size w w':=by
  by_cases h1:n < 1
  · have e1:digS 1 3 n=ByteArray.empty:=if_pos (.inl h1)
    have e2:digE 1 3 n=5:=if_pos (.inl h1)
    rw [e1,e2]
    clear e1 e2
    go_enter Tryz.func273,Tryz.ntmps273
    go_wp2
    go_ret2
    exact⟨rfl,Below.refl _ _⟩
  by_cases h2:3 < n
  · have e1:digS 1 3 n=ByteArray.empty:=if_pos (.inr h2)
    have e2:digE 1 3 n=5:=if_pos (.inr h2)
    rw [e1,e2]
    clear e1 e2
    go_enter Tryz.func273,Tryz.ntmps273
    go_wp2
    go_ret2
    exact⟨rfl,Below.refl _ _⟩
  · have e1:digS 1 3 n=digT n:=if_neg (by omega)
    have e2:digE 1 3 n=0:=if_neg (by omega)
    rw [e1,e2]
    clear e1 e2
    have i1:1≤n:=by omega
    have i2:n≤3:=by omega
    have kc:=run_conv1 (P:=Tryz.prog) 141 9 5 Tryz.underlying141 Tryz.underlying5 Tryz.underlying9
    clear h1 h2
    go_enter Tryz.func273,Tryz.ntmps273
    go_wp2
    all_goals go_ret2
    all_goals exact⟨rfl,below_new _ _⟩
theorem gsatwelve_any (A:Option Addr) (n c:Nat) (w:World):Calls Tryz.prog 274 #[.slice A n c] w fun e w'=>e=.returned (.func (.func 275) #[] #[.pointer (some ⟨w.heap.size,0,none⟩)])∧w'=w.alloc (.cells #[.slice A n c] 37):=by
  go_enter Tryz.func274,Tryz.ntmps274
  go_wp2
  go_ret
  exact⟨rfl,rfl⟩
set_option maxRecDepth 100000 in
set_option maxHeartbeats 2000000 in
theorem twelve1_in (m l bx g B:Nat) (hm:1≤m) (S:Nat→Prop) (A:Option Addr) (n c:Nat) (L:List Int) (hn:Hid (L.length=n)) (h12:n≤12) (J Jx:List (Bool×Int)→World→Prop) (hJ:∀ pre W o,J pre W→J pre (W.alloc o))
    (hY:∀ pre x W,J pre W→pre.length < 12→YieldAt Fence.wide (m - 1) Tryz.prog l #[numV x.1 x.2] W fun e W'=>
      (e=.returned (.bool true)∧J (pre++[x]) W'∧Kept S g W W')∨(e=.returned (.bool false)∧Jx (pre++[x]) W'))
    (W:World) (hbx:W.cell? ⟨bx,0,none⟩=some (.slice A n c)) (hsx:Hid (S bx∧bx≠g)) (hS:∀ k,S k→k < B) (hB:B≤W.heap.size) (hA:Hid (∀ k (hk:k < L.length),∃ b off,A=some ⟨b,off,none⟩∧S b∧b≠g∧W.cell? ⟨b,off+k,none⟩=some (.int .i64 L[k]))) (h0:J [] W) :
    CallsIn Fence.wide m Tryz.prog 275 #[.func (.yield l) #[] #[],.pointer (some ⟨bx,0,none⟩)] W fun e W'=>(∃ v,e=.returned v) ∧
      ((∃ ys,ys=nums12 L∧J ys W')∨(∃ pre,True∧Jx pre W')):=by
  have HJ:=Lib.hid hJ
  have HY:=Lib.hid hY
  have HS:=Lib.hid hS
  have HBX:=Lib.hid hbx
  have HB:=Lib.hid hB
  clear hJ hY hbx hS hB
  have HL12:Hid ((nums12 L).length=12):=nums12_len L (by rw [hn.out];exact h12)
  refine callsIn_of_wp Tryz.func275 rfl trivial ?_ rfl
  simp only [Tryz.ntmps275,List.size_toArray,List.length_cons,List.length_nil,Nat.reduceAdd,Nat.reduceSub,Array.replicate_succ,Array.replicate_zero,List.push_toArray,List.append_toArray,List.nil_append,List.cons_append]
  gi_wp2
  gi_loopw [5] (fun i wr=>∃ k:Nat,k≤12∧i=.int .i64 k∧Hid (J ((nums12 L).take k) wr∧Kept S g W wr)) (fun i _=>12 - (intOf i).toNat)
  case atStart=>exact⟨0,Nat.zero_le _,rfl,h0,Kept.refl _ _ _⟩
  case round=>
    obtain⟨k,hk,rfl,hI⟩:=hrel
    have cbx:=(hI.out.2.cell (o:=0) hsx.out.1 hsx.out.2).trans HBX.out
    by_cases hlt:k < 12
    · have hnl:k < (nums12 L).length:=by rw [HL12.out];exact hlt
      have hat:=nums12_at L k (by rw [hn.out];exact h12) hnl
      have htk:(nums12 L).take (k+1)=(nums12 L).take k++[(nums12 L)[k]]:=List.take_succ_eq_append_getElem hnl
      have HTK:=Lib.hid htk
      clear htk
      have i1:(k:Int) < 12:=by omega
      have hbw:bx < wr.heap.size:=by have:=HS.out _ hsx.out.1;have:=HB.out;have:=hI.out.2.size;omega
      by_cases hkn:k < n
      · have hkl:k < L.length:=by rw [hn.out];exact hkn
        obtain⟨b,off,hAb,hb1,hb2,hc⟩:=hA.out k hkl
        subst hAb
        rw [dif_pos hkl] at hat
        rw [hat] at HTK
        clear hat
        generalize L[k]=v at *
        have hc1:=(hI.out.2.cell (b:=b) (o:=off+k) hb1 hb2).trans hc
        have i3:(k:Int) < (n:Int):=by omega
        have hbb:b < wr.heap.size:=by have:=HS.out _ hb1;have:=HB.out;have:=hI.out.2.size;omega
        obtain⟨fn,tmps,assign,body,hy,hR⟩:=HY.out _ (true,v) _ (HJ.out _ wr (.cells #[.bool true,.int .i64 v] 30) hI.out.1) (by rw [List.length_take,HL12.out];omega)
        dsimp only at hy
        have HR:=Lib.hid hR
        clear hR hc
        gi_wp2
        refine HR.out.mono ?_
        rintro e W3 (⟨rfl,hJ3,hk3⟩ | ⟨rfl,hJx3⟩)
        · have HI3:Hid (J ((nums12 L).take (k+1)) W3∧Kept S g W W3):=⟨by rw [HTK.out];exact hJ3,(hI.out.2.trans (Kept.of_below (below_new wr _) (fun q hq=>Nat.lt_of_lt_of_le (Nat.lt_of_lt_of_le (HS.out q hq) HB.out) hI.out.2.size))).trans hk3⟩
          clear hJ3 hk3 hI
          gi_wp2
          go_roundw
          case rel=>exact⟨k+1,by omega,by simp,HI3⟩
          case measure=>simp [intOf];omega
        · have HI3:=Lib.hid hJx3
          clear hJx3 hI
          gi_wp2
          refine bodyPost_ret (results_none rfl _ _ _) rfl ?_
          exact⟨⟨_,rfl⟩,.inr ⟨_,trivial,HI3.out⟩⟩
      · have hkl:¬ k < L.length:=by rw [hn.out];exact hkn
        rw [dif_neg hkl] at hat
        rw [hat] at HTK
        clear hat
        have i3:(n:Int)≤(k:Int):=by omega
        obtain⟨fn,tmps,assign,body,hy,hR⟩:=HY.out _ (false,0) _ (HJ.out _ wr (.cells #[.bool false,.int .i64 0] 30) hI.out.1) (by rw [List.length_take,HL12.out];omega)
        dsimp only at hy
        have HR:=Lib.hid hR
        clear hR
        gi_wp2
        refine HR.out.mono ?_
        rintro e W3 (⟨rfl,hJ3,hk3⟩ | ⟨rfl,hJx3⟩)
        · have HI3:Hid (J ((nums12 L).take (k+1)) W3∧Kept S g W W3):=⟨by rw [HTK.out];exact hJ3,(hI.out.2.trans (Kept.of_below (below_new wr _) (fun q hq=>Nat.lt_of_lt_of_le (Nat.lt_of_lt_of_le (HS.out q hq) HB.out) hI.out.2.size))).trans hk3⟩
          clear hJ3 hk3 hI
          gi_wp2
          go_roundw
          case rel=>exact⟨k+1,by omega,by simp,HI3⟩
          case measure=>simp [intOf];omega
        · have HI3:=Lib.hid hJx3
          clear hJx3 hI
          gi_wp2
          refine bodyPost_ret (results_none rfl _ _ _) rfl ?_
          exact⟨⟨_,rfl⟩,.inr ⟨_,trivial,HI3.out⟩⟩
    · obtain rfl:k=12:=by omega
      have hall:(nums12 L).take 12=nums12 L:=List.take_of_length_le (by rw [HL12.out];omega)
      have HI3:Hid (J (nums12 L) wr):=by have:=hI.out.1;rw [hall] at this;exact this
      clear hI hall
      gi_wp2
      go_end0
      exact⟨⟨_,rfl⟩,.inl ⟨_,rfl,HI3.out⟩⟩
theorem twelve_stops (m bx g:Nat) (hm:1≤m) (S:Nat→Prop) (A:Option Addr) (n c:Nat) (L:List Int) (hn:Hid (L.length=n)) (h12:n≤12) (w:World) (hbx:w.cell? ⟨bx,0,none⟩=some (.slice A n c)) (hsx:Hid (S bx∧bx≠g)) (hS:∀ k,S k→k < w.heap.size) (hA:Hid (∀ k (hk:k < L.length),∃ b off,A=some ⟨b,off,none⟩∧S b∧b≠g∧w.cell? ⟨b,off+k,none⟩=some (.int .i64 L[k]))) :
    SeqStopsK Fence.wide m Tryz.prog 275 #[.pointer (some ⟨bx,0,none⟩)] (fun x:Bool×Int=>#[numV x.1 x.2]) (Kept S g) (fun ys=>ys=nums12 L) (fun _=>True) 12 w:=fun l J Jx W hW hJ _ hY h0=>
  twelve1_in m l bx g w.heap.size hm S A n c L hn h12 J Jx (fun pre X o h=>hJ pre X _ none h (World.grownBy_alloc X o none) (fun r e=>by cases e)) hY W ((hW.cell (p:=⟨bx,0,none⟩) (hS _ hsx.out.1)).trans hbx) hsx hS hW.size
    (fun k hk=>by obtain⟨b,off,h1,h2,h3,h4⟩:=hA.out k hk;exact⟨b,off,h1,h2,h3,(hW.cell (p:=⟨b,off+k,none⟩) (hS _ h2)).trans h4⟩) h0
end Go.Proofs.YtoabkoniegmkaaaGreat
