/- Layer 45: a line's step, of the reference. -/
import Derived.Test.YtaiepcgfofpmjaaGreatS20
import Derived.Test.YtaiepcgfofpmjaaGreatS12
import Derived.Test.YtaiepcgfofpmjaaGreatS17
namespace Go.Proofs.YtaiepcgfofpmjaaGreat
set_option linter.unusedVariables false
open Go.RowKit
set_option maxRecDepth 8000 in
set_option maxHeartbeats 8000000 in
theorem r45Line_go (s:ByteArray) (w:World) (hs:s.size≤100000000) (w0 w1:List UInt8) (more:List (List UInt8)) (hws:splitB 32 s.data.toList=w0 :: w1 :: more):Calls Tryz.prog 27 #[.string s] w (LineOut (lineW s.data.toList) w):=by
  have HZ:=fun W=>Lib.hid (zero_Stp W)
  have HSP:=fun W=>Lib.hid (r45Split_any s 32 W hs)
  have HLW:Hid (lineW s.data.toList=stepW (w0 :: w1 :: more)):=by show _=_;rw [← hws];rfl
  have hsl:s.data.toList.length≤100000000:=by simp;omega
  have HML:Hid (∀ l∈w0 :: w1 :: more,l.length≤100000000):=fun l hl=>by
    have:=split_part 32 s.data.toList l (by rw [hws];exact hl)
    omega
  have hwl:=split_len 32 s.data.toList
  rw [hws] at HSP hwl
  have HWL:Hid ((w0 :: w1 :: more).length≤100000001):=by show _≤_;omega
  clear hsl hwl hws
  go_enter Tryz.func27,Tryz.ntmps27
  go_wp2_with (refine wpList_alloc_new rfl 30 rfl stZ.toArray (HZ _).out ?_;intro W1 hW;have HK1:=Lib.hid (Blk.newL (L:=stZ) hW rfl);have HB1:=Lib.hid hW.bel;have HS1:=Lib.hid hW.sz;clear hW)
  refine (HSP _).out.mono ?_
  rintro e w2 ⟨A,c,rfl,hf,hb,hc⟩
  have HK2:=Lib.hid (HK1.out.on hb)
  have HB2:=Lib.hid (HB1.out.trans (hb.mono HB1.out.size))
  have HZ2:Hid (w.heap.size < w2.heap.size):=HK2.out.lt
  obtain⟨A2,hA2,hf2⟩:=slice_two _ c hf rfl (by simp) hc
  obtain⟨b,off,rfl,k0,k1⟩:=str_zero hf (Below.refl _ w2) w0 w1 more rfl
  have HF2:Hid (FlatQ (fun _=>True) w2 A2 (more.map strL)):=Lib.hid (hf2.less fun _ _=>trivial)
  have HCC:Hid (∀ W:World,Below w2.heap.size w2 W→W.cell? ⟨b,off,none⟩=some (.string (toB w0))∧W.cell? ⟨b,off+1,none⟩=some (.string (toB w1))):=Lib.hid fun W hW=>⟨(hW.cell (p:=⟨b,off,none⟩) (World.block_lt_of_cell? w2 _ k0)).trans k0,(hW.cell (p:=⟨b,off+1,none⟩) (World.block_lt_of_cell? w2 _ k1)).trans k1⟩
  have hn2:(2:Int)≤((w0 :: w1 :: more).length:Int):=by rw [List.length_cons,List.length_cons];omega
  have hnl:(w0 :: w1 :: more).length - 2=more.length:=by rw [List.length_cons,List.length_cons];omega
  have hn0:0 < (w0 :: w1 :: more).length:=by simp
  have hn1:1 < (w0 :: w1 :: more).length:=by simp
  rw [hnl] at hA2
  generalize hN:(w0 :: w1 :: more).length=N at *
  have HNL:=Lib.hid hnl
  clear hf hf2 hb hnl hN
  go_upto_region 2 with fail
  go_upto_region 3 with (first
    | (refine wpList_alloc_new rfl 30 rfl stZ.toArray (HZ _).out ?_;intro W3 hW;have HK3:=Lib.hid (HK2.out.on hW.bel);have HN3:=Lib.hid (Blk.newL (L:=stZ) hW rfl);have HB3:=Lib.hid (HB2.out.trans (hW.bel.mono HB2.out.size));have HS3:=Lib.hid hW.sz;have HG3:=Lib.hid hW.bel;clear hW)
    | (refine wpList_store_in rfl 30 _ _ rfl w2.heap.size 0 stZ.toArray rfl rfl (HN3.out.there 0 7 (Nat.le_refl _)) (st_size rfl) (st_ones _ _ _ _ _ _ _ _ _ _ _ _ _) ?_;intro W4 hs;have HK4:=Lib.hid (HK3.out.far hs (by have:=HZ2.out;omega));have HN4:=Lib.hid (HN3.out.all hs rfl);have HB4:=Lib.hid (HB3.out.trans (hs.below (by have:=HZ2.out;omega)));have HG4:=Lib.hid (HG3.out.trans (hs.below (Nat.le_refl _)));have HS4:=Lib.hid hs.sz;clear hs))
  have k0:=(HCC.out W4 HG4.out).1
  have k1:=(HCC.out W4 HG4.out).2
  by_cases hb0:w0=wBytes
  · subst hb0
    have f0:((toB wBytes).toList==[98,121,116,101,115])=true:=by rw [txt_is];decide
    have HBY:=fun W=>Lib.hid (r45Bytes_any (toB w1) W (by rw [size_B];exact HML.out w1 (by simp)))
    rw [toList_B] at HBY
    generalize toB wBytes=X0 at *
    generalize toB w1=X1 at *
    go_wp2_with fail
    refine (HBY _).out.mono ?_
    rintro e w5 ⟨hor,hb⟩
    have HK5:=Lib.hid (HK4.out.on hb)
    have HN5:=Lib.hid (HN4.out.on hb)
    have HB5:=Lib.hid (HB4.out.trans (hb.mono HB4.out.size))
    have HZ4:Hid (w.heap.size < W4.heap.size):=HK4.out.lt
    clear hb
    rcases hor with ⟨hn,rfl⟩ | ⟨bs,B,cb,hn,rfl,hfb,-⟩
    · have HO:Hid (lineW s.data.toList=none):=by show _=_;rw [HLW.out,stepW_bytes,hn]
      clear hn
      go_wp2_with (first
        | (refine wpList_load_mid rfl 30 _ rfl w2.heap.size 0 rfl stZ _ HN5.out.rg Tryz.underlying30 rfl (by kernel_rfl) ?_)
        | (refine wpList_store_in rfl 30 _ _ rfl w.heap.size 0 (stZ).toArray rfl rfl (HK5.out.there 0 7 (Nat.le_refl _)) (st_size rfl) (st_ones _ _ _ _ _ _ _ _ _ _ _ _ _) ?_;intro W9 hs;have HLD:=Lib.hid (st_load rfl (HK5.out.all hs rfl));have HB9:=Lib.hid (HB5.out.trans (hs.below (Nat.le_refl _)));have HF9:=Lib.hid hs.far;have HS9:=Lib.hid hs.sz;clear hs))
      exact bodyPost_ret (v:=.tuple #[.agg (stZ).toArray,.int .i64 3]) (by rw [results_cell_tmp rfl];simp [asAddr,Result.andThen,HLD.out]) rfl (⟨.inl ⟨HO.out,rfl⟩,HB9.out⟩)
    · by_cases hm:more=[]
      · have HO:Hid (lineW s.data.toList=some (.bytes bs)):=by show _=_;rw [HLW.out,stepW_bytes,hn];exact if_pos hm
        have hN2:N=2:=by have h:=HNL.out;rw [hm,List.length_nil] at h;omega
        subst hN2
        have HFB:=Lib.hid hfb
        clear hn hm hfb
        go_wp2_with (refine wpList_store_in rfl 30 _ _ rfl w.heap.size 0 (stL 0 B bs.length cb 0 0 none 0 0 0 none 0 0).toArray rfl rfl (HK5.out.there 0 7 (Nat.le_refl _)) (st_size rfl) (st_ones _ _ _ _ _ _ _ _ _ _ _ _ _) ?_;intro W9 hs;have HLD:=Lib.hid (st_load rfl (HK5.out.all hs rfl));have HB9:=Lib.hid (HB5.out.trans (hs.below (Nat.le_refl _)));have HF9:=Lib.hid hs.far;have HS9:=Lib.hid hs.sz;clear hs)
        exact bodyPost_ret (v:=.tuple #[.agg (stL 0 B bs.length cb 0 0 none 0 0 0 none 0 0).toArray,.int .i64 0]) (by rw [results_cell_tmp rfl];simp [asAddr,Result.andThen,HLD.out]) rfl (⟨.inr ⟨_,_,HO.out,rfl,StpM.raw (b:=bs) (v:=[]) (l:=[]) ((HFB.out.keep fun k q=>HF9.out k (by have:=HZ4.out;omega)).less fun k q=>⟨by have:=HZ4.out;omega,by have:=HS9.out;omega⟩) (FlatQ.nil _ _ _) (FlatQ.nil _ _ _)⟩,HB9.out⟩)
      · have HO:Hid (lineW s.data.toList=none):=by show _=_;rw [HLW.out,stepW_bytes,hn];exact if_neg hm
        have hml:0 < more.length:=List.length_pos_iff.2 hm
        have f9:((N:Int) != 2)=true:=by have h:=HNL.out;rw [bne_iff_ne];omega
        clear hn hm hfb hml
        go_wp2_with (first
          | (refine wpList_load_mid rfl 30 _ rfl w2.heap.size 0 rfl stZ _ HN5.out.rg Tryz.underlying30 rfl (by kernel_rfl) ?_)
          | (refine wpList_store_in rfl 30 _ _ rfl w.heap.size 0 (stZ).toArray rfl rfl (HK5.out.there 0 7 (Nat.le_refl _)) (st_size rfl) (st_ones _ _ _ _ _ _ _ _ _ _ _ _ _) ?_;intro W9 hs;have HLD:=Lib.hid (st_load rfl (HK5.out.all hs rfl));have HB9:=Lib.hid (HB5.out.trans (hs.below (Nat.le_refl _)));have HF9:=Lib.hid hs.far;have HS9:=Lib.hid hs.sz;clear hs))
        exact bodyPost_ret (v:=.tuple #[.agg (stZ).toArray,.int .i64 3]) (by rw [results_cell_tmp rfl];simp [asAddr,Result.andThen,HLD.out]) rfl (⟨.inl ⟨HO.out,rfl⟩,HB9.out⟩)
  by_cases h1:w0=wTick
  · subst h1
    clear hb0
    have HQ:=Lib.hid (stepW_num (w0:=wTick) (by decide) w1 more)
    have f0:((toB wTick).toList==[98,121,116,101,115])=false:=by rw [txt_is];decide
    have f1:((toB wTick).toList==[116,105,99,107])=true:=by rw [txt_is];decide
    have HNU:=fun W=>Lib.hid (r45Number_any (toB w1) W)
    rw [toList_B] at HNU
    generalize toB wTick=X0 at *
    generalize toB w1=X1 at *
    by_cases hm:more=[]
    · have hN2:N=2:=by have h:=HNL.out;rw [hm,List.length_nil] at h;omega
      have HM:Hid (more=[]):=hm
      subst hN2
      clear hm
      go_wp2_with fail
      refine (HNU _).out.mono ?_
      rintro e w5 ⟨⟨n,is,rfl,hnm⟩,hb⟩
      have HNM:=Lib.hid hnm
      have HK5:=Lib.hid (HK4.out.on hb)
      have HN5:=Lib.hid (HN4.out.on hb)
      have HB5:=Lib.hid (HB4.out.trans (hb.mono HB4.out.size))
      have HG5:=Lib.hid (HG4.out.trans (hb.mono HG4.out.size))
      have c0:=(HCC.out w5 HG5.out).1
      clear hb hnm
      cases is with
      | false=>
        have HO:Hid (lineW s.data.toList=none):=by show _=_;rw [HLW.out,HQ.out,HNM.out];rfl
        go_wp2_with (first
          | (refine wpList_load_mid rfl 30 _ rfl w2.heap.size 0 rfl stZ _ HN5.out.rg Tryz.underlying30 rfl (by kernel_rfl) ?_)
          | (refine wpList_store_in rfl 30 _ _ rfl w.heap.size 0 (stZ).toArray rfl rfl (HK5.out.there 0 7 (Nat.le_refl _)) (st_size rfl) (st_ones _ _ _ _ _ _ _ _ _ _ _ _ _) ?_;intro W9 hs;have HLD:=Lib.hid (st_load rfl (HK5.out.all hs rfl));have HB9:=Lib.hid (HB5.out.trans (hs.below (Nat.le_refl _)));have HF9:=Lib.hid hs.far;have HS9:=Lib.hid hs.sz;clear hs))
        exact bodyPost_ret (v:=.tuple #[.agg (stZ).toArray,.int .i64 3]) (by rw [results_cell_tmp rfl];simp [asAddr,Result.andThen,HLD.out]) rfl (⟨.inl ⟨HO.out,rfl⟩,HB9.out⟩)
      | true=>
        have HO:Hid (lineW s.data.toList=some (.tick n)):=by show _=_;rw [HLW.out,HQ.out,HNM.out,HM.out];rfl
        go_wp2_with (refine wpList_store_in rfl 30 _ _ rfl w.heap.size 0 (stL 1 none 0 0 n 0 none 0 0 0 none 0 0).toArray rfl rfl (HK5.out.there 0 7 (Nat.le_refl _)) (st_size rfl) (st_ones _ _ _ _ _ _ _ _ _ _ _ _ _) ?_;intro W9 hs;have HLD:=Lib.hid (st_load rfl (HK5.out.all hs rfl));have HB9:=Lib.hid (HB5.out.trans (hs.below (Nat.le_refl _)));have HF9:=Lib.hid hs.far;have HS9:=Lib.hid hs.sz;clear hs)
        exact bodyPost_ret (v:=.tuple #[.agg (stL 1 none 0 0 n 0 none 0 0 0 none 0 0).toArray,.int .i64 0]) (by rw [results_cell_tmp rfl];simp [asAddr,Result.andThen,HLD.out]) rfl (⟨.inr ⟨_,_,HO.out,rfl,StpM.num _ _ _ _⟩,HB9.out⟩)
    · have hN2:((N:Int)==2)=false:=by have h:=HNL.out;have:=List.length_pos_iff.2 hm;rw [beq_eq_false_iff_ne];omega
      have HM:Hid (¬ more=[]):=hm
      clear hm
      go_wp2_with fail
      refine (HNU _).out.mono ?_
      rintro e w5 ⟨⟨n,is,rfl,hnm⟩,hb⟩
      have HNM:=Lib.hid hnm
      have HK5:=Lib.hid (HK4.out.on hb)
      have HN5:=Lib.hid (HN4.out.on hb)
      have HB5:=Lib.hid (HB4.out.trans (hb.mono HB4.out.size))
      have HG5:=Lib.hid (HG4.out.trans (hb.mono HG4.out.size))
      have c0:=(HCC.out w5 HG5.out).1
      clear hb hnm
      cases is with
      | false=>
        have HO:Hid (lineW s.data.toList=none):=by show _=_;rw [HLW.out,HQ.out,HNM.out];rfl
        go_wp2_with (first
          | (refine wpList_load_mid rfl 30 _ rfl w2.heap.size 0 rfl stZ _ HN5.out.rg Tryz.underlying30 rfl (by kernel_rfl) ?_)
          | (refine wpList_store_in rfl 30 _ _ rfl w.heap.size 0 (stZ).toArray rfl rfl (HK5.out.there 0 7 (Nat.le_refl _)) (st_size rfl) (st_ones _ _ _ _ _ _ _ _ _ _ _ _ _) ?_;intro W9 hs;have HLD:=Lib.hid (st_load rfl (HK5.out.all hs rfl));have HB9:=Lib.hid (HB5.out.trans (hs.below (Nat.le_refl _)));have HF9:=Lib.hid hs.far;have HS9:=Lib.hid hs.sz;clear hs))
        exact bodyPost_ret (v:=.tuple #[.agg (stZ).toArray,.int .i64 3]) (by rw [results_cell_tmp rfl];simp [asAddr,Result.andThen,HLD.out]) rfl (⟨.inl ⟨HO.out,rfl⟩,HB9.out⟩)
      | true=>
        have HO:Hid (lineW s.data.toList=none):=by show _=_;rw [HLW.out,HQ.out,HNM.out];exact if_neg HM.out
        go_wp2_with (first
          | (refine wpList_load_mid rfl 30 _ rfl w2.heap.size 0 rfl stZ _ HN5.out.rg Tryz.underlying30 rfl (by kernel_rfl) ?_)
          | (refine wpList_store_in rfl 30 _ _ rfl w.heap.size 0 (stZ).toArray rfl rfl (HK5.out.there 0 7 (Nat.le_refl _)) (st_size rfl) (st_ones _ _ _ _ _ _ _ _ _ _ _ _ _) ?_;intro W9 hs;have HLD:=Lib.hid (st_load rfl (HK5.out.all hs rfl));have HB9:=Lib.hid (HB5.out.trans (hs.below (Nat.le_refl _)));have HF9:=Lib.hid hs.far;have HS9:=Lib.hid hs.sz;clear hs))
        exact bodyPost_ret (v:=.tuple #[.agg (stZ).toArray,.int .i64 3]) (by rw [results_cell_tmp rfl];simp [asAddr,Result.andThen,HLD.out]) rfl (⟨.inl ⟨HO.out,rfl⟩,HB9.out⟩)
  by_cases h2:w0=wLog
  · subst h2
    clear hb0 h1
    have HQ:=Lib.hid (stepW_num (w0:=wLog) (by decide) w1 more)
    have f0:((toB wLog).toList==[98,121,116,101,115])=false:=by rw [txt_is];decide
    have f1:((toB wLog).toList==[116,105,99,107])=false:=by rw [txt_is];decide
    have f2:((toB wLog).toList==[108,111,103])=true:=by rw [txt_is];decide
    have HNU:=fun W=>Lib.hid (r45Number_any (toB w1) W)
    rw [toList_B] at HNU
    generalize toB wLog=X0 at *
    generalize toB w1=X1 at *
    by_cases hm:more=[]
    · have hN2:N=2:=by have h:=HNL.out;rw [hm,List.length_nil] at h;omega
      have HM:Hid (more=[]):=hm
      subst hN2
      clear hm
      go_wp2_with fail
      refine (HNU _).out.mono ?_
      rintro e w5 ⟨⟨n,is,rfl,hnm⟩,hb⟩
      have HNM:=Lib.hid hnm
      have HK5:=Lib.hid (HK4.out.on hb)
      have HN5:=Lib.hid (HN4.out.on hb)
      have HB5:=Lib.hid (HB4.out.trans (hb.mono HB4.out.size))
      have HG5:=Lib.hid (HG4.out.trans (hb.mono HG4.out.size))
      have c0:=(HCC.out w5 HG5.out).1
      clear hb hnm
      cases is with
      | false=>
        have HO:Hid (lineW s.data.toList=none):=by show _=_;rw [HLW.out,HQ.out,HNM.out];rfl
        go_wp2_with (first
          | (refine wpList_load_mid rfl 30 _ rfl w2.heap.size 0 rfl stZ _ HN5.out.rg Tryz.underlying30 rfl (by kernel_rfl) ?_)
          | (refine wpList_store_in rfl 30 _ _ rfl w.heap.size 0 (stZ).toArray rfl rfl (HK5.out.there 0 7 (Nat.le_refl _)) (st_size rfl) (st_ones _ _ _ _ _ _ _ _ _ _ _ _ _) ?_;intro W9 hs;have HLD:=Lib.hid (st_load rfl (HK5.out.all hs rfl));have HB9:=Lib.hid (HB5.out.trans (hs.below (Nat.le_refl _)));have HF9:=Lib.hid hs.far;have HS9:=Lib.hid hs.sz;clear hs))
        exact bodyPost_ret (v:=.tuple #[.agg (stZ).toArray,.int .i64 3]) (by rw [results_cell_tmp rfl];simp [asAddr,Result.andThen,HLD.out]) rfl (⟨.inl ⟨HO.out,rfl⟩,HB9.out⟩)
      | true=>
        have HO:Hid (lineW s.data.toList=some (.log n)):=by show _=_;rw [HLW.out,HQ.out,HNM.out,HM.out];rfl
        go_wp2_with (refine wpList_store_in rfl 30 _ _ rfl w.heap.size 0 (stL 3 none 0 0 n 0 none 0 0 0 none 0 0).toArray rfl rfl (HK5.out.there 0 7 (Nat.le_refl _)) (st_size rfl) (st_ones _ _ _ _ _ _ _ _ _ _ _ _ _) ?_;intro W9 hs;have HLD:=Lib.hid (st_load rfl (HK5.out.all hs rfl));have HB9:=Lib.hid (HB5.out.trans (hs.below (Nat.le_refl _)));have HF9:=Lib.hid hs.far;have HS9:=Lib.hid hs.sz;clear hs)
        exact bodyPost_ret (v:=.tuple #[.agg (stL 3 none 0 0 n 0 none 0 0 0 none 0 0).toArray,.int .i64 0]) (by rw [results_cell_tmp rfl];simp [asAddr,Result.andThen,HLD.out]) rfl (⟨.inr ⟨_,_,HO.out,rfl,StpM.num _ _ _ _⟩,HB9.out⟩)
    · have hN2:((N:Int)==2)=false:=by have h:=HNL.out;have:=List.length_pos_iff.2 hm;rw [beq_eq_false_iff_ne];omega
      have HM:Hid (¬ more=[]):=hm
      clear hm
      go_wp2_with fail
      refine (HNU _).out.mono ?_
      rintro e w5 ⟨⟨n,is,rfl,hnm⟩,hb⟩
      have HNM:=Lib.hid hnm
      have HK5:=Lib.hid (HK4.out.on hb)
      have HN5:=Lib.hid (HN4.out.on hb)
      have HB5:=Lib.hid (HB4.out.trans (hb.mono HB4.out.size))
      have HG5:=Lib.hid (HG4.out.trans (hb.mono HG4.out.size))
      have c0:=(HCC.out w5 HG5.out).1
      clear hb hnm
      cases is with
      | false=>
        have HO:Hid (lineW s.data.toList=none):=by show _=_;rw [HLW.out,HQ.out,HNM.out];rfl
        go_wp2_with (first
          | (refine wpList_load_mid rfl 30 _ rfl w2.heap.size 0 rfl stZ _ HN5.out.rg Tryz.underlying30 rfl (by kernel_rfl) ?_)
          | (refine wpList_store_in rfl 30 _ _ rfl w.heap.size 0 (stZ).toArray rfl rfl (HK5.out.there 0 7 (Nat.le_refl _)) (st_size rfl) (st_ones _ _ _ _ _ _ _ _ _ _ _ _ _) ?_;intro W9 hs;have HLD:=Lib.hid (st_load rfl (HK5.out.all hs rfl));have HB9:=Lib.hid (HB5.out.trans (hs.below (Nat.le_refl _)));have HF9:=Lib.hid hs.far;have HS9:=Lib.hid hs.sz;clear hs))
        exact bodyPost_ret (v:=.tuple #[.agg (stZ).toArray,.int .i64 3]) (by rw [results_cell_tmp rfl];simp [asAddr,Result.andThen,HLD.out]) rfl (⟨.inl ⟨HO.out,rfl⟩,HB9.out⟩)
      | true=>
        have HO:Hid (lineW s.data.toList=none):=by show _=_;rw [HLW.out,HQ.out,HNM.out];exact if_neg HM.out
        go_wp2_with (first
          | (refine wpList_load_mid rfl 30 _ rfl w2.heap.size 0 rfl stZ _ HN5.out.rg Tryz.underlying30 rfl (by kernel_rfl) ?_)
          | (refine wpList_store_in rfl 30 _ _ rfl w.heap.size 0 (stZ).toArray rfl rfl (HK5.out.there 0 7 (Nat.le_refl _)) (st_size rfl) (st_ones _ _ _ _ _ _ _ _ _ _ _ _ _) ?_;intro W9 hs;have HLD:=Lib.hid (st_load rfl (HK5.out.all hs rfl));have HB9:=Lib.hid (HB5.out.trans (hs.below (Nat.le_refl _)));have HF9:=Lib.hid hs.far;have HS9:=Lib.hid hs.sz;clear hs))
        exact bodyPost_ret (v:=.tuple #[.agg (stZ).toArray,.int .i64 3]) (by rw [results_cell_tmp rfl];simp [asAddr,Result.andThen,HLD.out]) rfl (⟨.inl ⟨HO.out,rfl⟩,HB9.out⟩)
  by_cases h3:w0=wSend
  · subst h3
    clear hb0 h1 h2
    have HQ:=Lib.hid (stepW_num (w0:=wSend) (by decide) w1 more)
    have f0:((toB wSend).toList==[98,121,116,101,115])=false:=by rw [txt_is];decide
    have f1:((toB wSend).toList==[116,105,99,107])=false:=by rw [txt_is];decide
    have f2:((toB wSend).toList==[108,111,103])=false:=by rw [txt_is];decide
    have f3:((toB wSend).toList==[115,101,110,100])=true:=by rw [txt_is];decide
    have HNU:=fun W=>Lib.hid (r45Number_any (toB w1) W)
    rw [toList_B] at HNU
    generalize toB wSend=X0 at *
    generalize toB w1=X1 at *
    have HCL:=fun (W:World) (hW:Below w2.heap.size w2 W)=>Lib.hid (r45Rest_any A2 (c - 2) more (HF2.out.lt.below hW fun b q=>q.2) (by have:=HWL.out;have:=HNL.out;omega))
    go_wp2_with fail
    refine (HNU _).out.mono ?_
    rintro e w5 ⟨⟨n,is,rfl,hnm⟩,hb⟩
    have HNM:=Lib.hid hnm
    have HK5:=Lib.hid (HK4.out.on hb)
    have HN5:=Lib.hid (HN4.out.on hb)
    have HB5:=Lib.hid (HB4.out.trans (hb.mono HB4.out.size))
    have HG5:=Lib.hid (HG4.out.trans (hb.mono HG4.out.size))
    have c0:=(HCC.out w5 HG5.out).1
    clear hb hnm
    cases is with
    | false=>
      have HO:Hid (lineW s.data.toList=none):=by show _=_;rw [HLW.out,HQ.out,HNM.out];rfl
      go_wp2_with (first
        | (refine wpList_load_mid rfl 30 _ rfl w2.heap.size 0 rfl stZ _ HN5.out.rg Tryz.underlying30 rfl (by kernel_rfl) ?_)
        | (refine wpList_store_in rfl 30 _ _ rfl w.heap.size 0 (stZ).toArray rfl rfl (HK5.out.there 0 7 (Nat.le_refl _)) (st_size rfl) (st_ones _ _ _ _ _ _ _ _ _ _ _ _ _) ?_;intro W9 hs;have HLD:=Lib.hid (st_load rfl (HK5.out.all hs rfl));have HB9:=Lib.hid (HB5.out.trans (hs.below (Nat.le_refl _)));have HF9:=Lib.hid hs.far;have HS9:=Lib.hid hs.sz;clear hs))
      exact bodyPost_ret (v:=.tuple #[.agg (stZ).toArray,.int .i64 3]) (by rw [results_cell_tmp rfl];simp [asAddr,Result.andThen,HLD.out]) rfl (⟨.inl ⟨HO.out,rfl⟩,HB9.out⟩)
    | true=>
      go_wp2_with fail
      refine (HCL _ HG5.out).out.mono ?_
      rintro e w6 ⟨hor,hb⟩
      have HK6:=Lib.hid (HK5.out.on hb)
      have HN6:=Lib.hid (HN5.out.on hb)
      have HB6:=Lib.hid (HB5.out.trans (hb.mono HB5.out.size))
      have HZ5:Hid (w.heap.size < w5.heap.size):=HK5.out.lt
      clear hb
      rcases hor with ⟨hn,rfl⟩ | ⟨ns,A9,c9,hn,rfl,hf,-⟩
      · have HO:Hid (lineW s.data.toList=none):=by show _=_;rw [HLW.out,HQ.out,HNM.out];show (numsW more).map _=_;rw [hn];rfl
        clear hn
        go_wp2_with (first
          | (refine wpList_load_mid rfl 30 _ rfl w2.heap.size 0 rfl stZ _ HN6.out.rg Tryz.underlying30 rfl (by kernel_rfl) ?_)
          | (refine wpList_store_in rfl 30 _ _ rfl w.heap.size 0 (stZ).toArray rfl rfl (HK6.out.there 0 7 (Nat.le_refl _)) (st_size rfl) (st_ones _ _ _ _ _ _ _ _ _ _ _ _ _) ?_;intro W9 hs;have HLD:=Lib.hid (st_load rfl (HK6.out.all hs rfl));have HB9:=Lib.hid (HB6.out.trans (hs.below (Nat.le_refl _)));have HF9:=Lib.hid hs.far;have HS9:=Lib.hid hs.sz;clear hs))
        exact bodyPost_ret (v:=.tuple #[.agg (stZ).toArray,.int .i64 3]) (by rw [results_cell_tmp rfl];simp [asAddr,Result.andThen,HLD.out]) rfl (⟨.inl ⟨HO.out,rfl⟩,HB9.out⟩)
      · have HO:Hid (lineW s.data.toList=some (.send n ns)):=by show _=_;rw [HLW.out,HQ.out,HNM.out];show (numsW more).map _=_;rw [hn];rfl
        have HF:=Lib.hid hf
        clear hn hf
        go_wp2_with (refine wpList_store_in rfl 30 _ _ rfl w.heap.size 0 (stL 2 none 0 0 0 n A9 ns.length c9 0 none 0 0).toArray rfl rfl (HK6.out.there 0 7 (Nat.le_refl _)) (st_size rfl) (st_ones _ _ _ _ _ _ _ _ _ _ _ _ _) ?_;intro W9 hs;have HLD:=Lib.hid (st_load rfl (HK6.out.all hs rfl));have HB9:=Lib.hid (HB6.out.trans (hs.below (Nat.le_refl _)));have HF9:=Lib.hid hs.far;have HS9:=Lib.hid hs.sz;clear hs)
        exact bodyPost_ret (v:=.tuple #[.agg (stL 2 none 0 0 0 n A9 ns.length c9 0 none 0 0).toArray,.int .i64 0]) (by rw [results_cell_tmp rfl];simp [asAddr,Result.andThen,HLD.out]) rfl (⟨.inr ⟨_,_,HO.out,rfl,StpM.raw (b:=[]) (v:=ns) (l:=[]) (FlatQ.nil _ _ _) ((HF.out.keep fun k q=>HF9.out k (by have:=HZ5.out;omega)).less fun k q=>⟨by have:=HZ5.out;omega,by have:=HS9.out;omega⟩) (FlatQ.nil _ _ _)⟩,HB9.out⟩)
  by_cases h4:w0=wAsk
  · subst h4
    clear hb0 h1 h2 h3
    have HQ:=Lib.hid (stepW_num (w0:=wAsk) (by decide) w1 more)
    have f0:((toB wAsk).toList==[98,121,116,101,115])=false:=by rw [txt_is];decide
    have f1:((toB wAsk).toList==[116,105,99,107])=false:=by rw [txt_is];decide
    have f2:((toB wAsk).toList==[108,111,103])=false:=by rw [txt_is];decide
    have f3:((toB wAsk).toList==[115,101,110,100])=false:=by rw [txt_is];decide
    have f4:((toB wAsk).toList==[97,115,107])=true:=by rw [txt_is];decide
    have HNU:=fun W=>Lib.hid (r45Number_any (toB w1) W)
    rw [toList_B] at HNU
    generalize toB wAsk=X0 at *
    generalize toB w1=X1 at *
    have HCL:=fun (W:World) (hW:Below w2.heap.size w2 W)=>Lib.hid (r45Pairs_any A2 (c - 2) more (HF2.out.lt.below hW fun b q=>q.2) (by have:=HWL.out;have:=HNL.out;omega) (fun l hl=>HML.out l (by simp [hl])))
    go_wp2_with fail
    refine (HNU _).out.mono ?_
    rintro e w5 ⟨⟨n,is,rfl,hnm⟩,hb⟩
    have HNM:=Lib.hid hnm
    have HK5:=Lib.hid (HK4.out.on hb)
    have HN5:=Lib.hid (HN4.out.on hb)
    have HB5:=Lib.hid (HB4.out.trans (hb.mono HB4.out.size))
    have HG5:=Lib.hid (HG4.out.trans (hb.mono HG4.out.size))
    have c0:=(HCC.out w5 HG5.out).1
    clear hb hnm
    cases is with
    | false=>
      have HO:Hid (lineW s.data.toList=none):=by show _=_;rw [HLW.out,HQ.out,HNM.out];rfl
      go_wp2_with (first
        | (refine wpList_load_mid rfl 30 _ rfl w2.heap.size 0 rfl stZ _ HN5.out.rg Tryz.underlying30 rfl (by kernel_rfl) ?_)
        | (refine wpList_store_in rfl 30 _ _ rfl w.heap.size 0 (stZ).toArray rfl rfl (HK5.out.there 0 7 (Nat.le_refl _)) (st_size rfl) (st_ones _ _ _ _ _ _ _ _ _ _ _ _ _) ?_;intro W9 hs;have HLD:=Lib.hid (st_load rfl (HK5.out.all hs rfl));have HB9:=Lib.hid (HB5.out.trans (hs.below (Nat.le_refl _)));have HF9:=Lib.hid hs.far;have HS9:=Lib.hid hs.sz;clear hs))
      exact bodyPost_ret (v:=.tuple #[.agg (stZ).toArray,.int .i64 3]) (by rw [results_cell_tmp rfl];simp [asAddr,Result.andThen,HLD.out]) rfl (⟨.inl ⟨HO.out,rfl⟩,HB9.out⟩)
    | true=>
      go_wp2_with fail
      refine (HCL _ HG5.out).out.mono ?_
      rintro e w6 ⟨hor,hb⟩
      have HK6:=Lib.hid (HK5.out.on hb)
      have HN6:=Lib.hid (HN5.out.on hb)
      have HB6:=Lib.hid (HB5.out.trans (hb.mono HB5.out.size))
      have HZ5:Hid (w.heap.size < w5.heap.size):=HK5.out.lt
      clear hb
      rcases hor with ⟨hn,rfl⟩ | ⟨ns,A9,c9,hn,rfl,hf,-⟩
      · have HO:Hid (lineW s.data.toList=none):=by show _=_;rw [HLW.out,HQ.out,HNM.out];show (pairsW more).map _=_;rw [hn];rfl
        clear hn
        go_wp2_with (first
          | (refine wpList_load_mid rfl 30 _ rfl w2.heap.size 0 rfl stZ _ HN6.out.rg Tryz.underlying30 rfl (by kernel_rfl) ?_)
          | (refine wpList_store_in rfl 30 _ _ rfl w.heap.size 0 (stZ).toArray rfl rfl (HK6.out.there 0 7 (Nat.le_refl _)) (st_size rfl) (st_ones _ _ _ _ _ _ _ _ _ _ _ _ _) ?_;intro W9 hs;have HLD:=Lib.hid (st_load rfl (HK6.out.all hs rfl));have HB9:=Lib.hid (HB6.out.trans (hs.below (Nat.le_refl _)));have HF9:=Lib.hid hs.far;have HS9:=Lib.hid hs.sz;clear hs))
        exact bodyPost_ret (v:=.tuple #[.agg (stZ).toArray,.int .i64 3]) (by rw [results_cell_tmp rfl];simp [asAddr,Result.andThen,HLD.out]) rfl (⟨.inl ⟨HO.out,rfl⟩,HB9.out⟩)
      · have HO:Hid (lineW s.data.toList=some (.ask n ns)):=by show _=_;rw [HLW.out,HQ.out,HNM.out];show (pairsW more).map _=_;rw [hn];rfl
        have HF:=Lib.hid hf
        clear hn hf
        go_wp2_with (refine wpList_store_in rfl 30 _ _ rfl w.heap.size 0 (stL 4 none 0 0 0 0 none 0 0 n A9 ns.length c9).toArray rfl rfl (HK6.out.there 0 7 (Nat.le_refl _)) (st_size rfl) (st_ones _ _ _ _ _ _ _ _ _ _ _ _ _) ?_;intro W9 hs;have HLD:=Lib.hid (st_load rfl (HK6.out.all hs rfl));have HB9:=Lib.hid (HB6.out.trans (hs.below (Nat.le_refl _)));have HF9:=Lib.hid hs.far;have HS9:=Lib.hid hs.sz;clear hs)
        exact bodyPost_ret (v:=.tuple #[.agg (stL 4 none 0 0 0 0 none 0 0 n A9 ns.length c9).toArray,.int .i64 0]) (by rw [results_cell_tmp rfl];simp [asAddr,Result.andThen,HLD.out]) rfl (⟨.inr ⟨_,_,HO.out,rfl,StpM.raw (b:=[]) (v:=[]) (l:=ns) (FlatQ.nil _ _ _) (FlatQ.nil _ _ _) ((HF.out.keep fun k q=>HF9.out k (by have:=HZ5.out;omega)).less fun k q=>⟨by have:=HZ5.out;omega,by have:=HS9.out;omega⟩)⟩,HB9.out⟩)
  have HQ:=Lib.hid (stepW_num hb0 w1 more)
  have HQ2:Hid (∀ n,stepQ w0 n more=none):=fun n=>by unfold stepQ;rw [if_neg h1,if_neg h2,if_neg h3,if_neg h4]
  have f0:((toB w0).toList==[98,121,116,101,115])=false:=by rw [txt_is];exact decide_eq_false hb0
  have f1:((toB w0).toList==[116,105,99,107])=false:=by rw [txt_is];exact decide_eq_false h1
  have f2:((toB w0).toList==[108,111,103])=false:=by rw [txt_is];exact decide_eq_false h2
  have f3:((toB w0).toList==[115,101,110,100])=false:=by rw [txt_is];exact decide_eq_false h3
  have f4:((toB w0).toList==[97,115,107])=false:=by rw [txt_is];exact decide_eq_false h4
  have HNU:=fun W=>Lib.hid (r45Number_any (toB w1) W)
  rw [toList_B] at HNU
  clear hb0 h1 h2 h3 h4
  generalize toB w0=X0 at *
  generalize toB w1=X1 at *
  go_wp2_with fail
  refine (HNU _).out.mono ?_
  rintro e w5 ⟨⟨n,is,rfl,hnm⟩,hb⟩
  have HNM:=Lib.hid hnm
  have HK5:=Lib.hid (HK4.out.on hb)
  have HN5:=Lib.hid (HN4.out.on hb)
  have HB5:=Lib.hid (HB4.out.trans (hb.mono HB4.out.size))
  have HG5:=Lib.hid (HG4.out.trans (hb.mono HG4.out.size))
  have c0:=(HCC.out w5 HG5.out).1
  clear hb hnm
  cases is with
  | false=>
    have HO:Hid (lineW s.data.toList=none):=by show _=_;rw [HLW.out,HQ.out,HNM.out];rfl
    go_wp2_with (first
      | (refine wpList_load_mid rfl 30 _ rfl w2.heap.size 0 rfl stZ _ HN5.out.rg Tryz.underlying30 rfl (by kernel_rfl) ?_)
      | (refine wpList_store_in rfl 30 _ _ rfl w.heap.size 0 (stZ).toArray rfl rfl (HK5.out.there 0 7 (Nat.le_refl _)) (st_size rfl) (st_ones _ _ _ _ _ _ _ _ _ _ _ _ _) ?_;intro W9 hs;have HLD:=Lib.hid (st_load rfl (HK5.out.all hs rfl));have HB9:=Lib.hid (HB5.out.trans (hs.below (Nat.le_refl _)));have HF9:=Lib.hid hs.far;have HS9:=Lib.hid hs.sz;clear hs))
    exact bodyPost_ret (v:=.tuple #[.agg (stZ).toArray,.int .i64 3]) (by rw [results_cell_tmp rfl];simp [asAddr,Result.andThen,HLD.out]) rfl (⟨.inl ⟨HO.out,rfl⟩,HB9.out⟩)
  | true=>
    have HO:Hid (lineW s.data.toList=none):=by show _=_;rw [HLW.out,HQ.out,HNM.out];exact HQ2.out n
    go_wp2_with (first
      | (refine wpList_load_mid rfl 30 _ rfl w2.heap.size 0 rfl stZ _ HN5.out.rg Tryz.underlying30 rfl (by kernel_rfl) ?_)
      | (refine wpList_store_in rfl 30 _ _ rfl w.heap.size 0 (stZ).toArray rfl rfl (HK5.out.there 0 7 (Nat.le_refl _)) (st_size rfl) (st_ones _ _ _ _ _ _ _ _ _ _ _ _ _) ?_;intro W9 hs;have HLD:=Lib.hid (st_load rfl (HK5.out.all hs rfl));have HB9:=Lib.hid (HB5.out.trans (hs.below (Nat.le_refl _)));have HF9:=Lib.hid hs.far;have HS9:=Lib.hid hs.sz;clear hs))
    exact bodyPost_ret (v:=.tuple #[.agg (stZ).toArray,.int .i64 3]) (by rw [results_cell_tmp rfl];simp [asAddr,Result.andThen,HLD.out]) rfl (⟨.inl ⟨HO.out,rfl⟩,HB9.out⟩)
set_option maxHeartbeats 4000000 in
theorem r45Line_any (s:ByteArray) (w:World) (hs:s.size≤100000000):Calls Tryz.prog 27 #[.string s] w (LineOut (lineW s.data.toList) w):=by
  match hws:splitB 32 s.data.toList with
  | w0 :: w1 :: more=>exact r45Line_go s w hs w0 w1 more hws
  | []=>exact absurd hws (splitB_ne _ _)
  | [w0]=>
    have HZ:=fun W=>Lib.hid (zero_Stp W)
    have HSP:=fun W=>Lib.hid (r45Split_any s 32 W hs)
    have HO:Hid (lineW s.data.toList=none):=by show _=_;unfold lineW;rw [hws];rfl
    rw [hws] at HSP
    have hl1:[w0].length=1:=rfl
    unfold StrsOut at HSP
    rw [hl1] at HSP
    clear hws hl1
    go_enter Tryz.func27,Tryz.ntmps27
    go_wp2_with (refine wpList_alloc_new rfl 30 rfl stZ.toArray (HZ _).out ?_;intro W1 hW;have HK1:=Lib.hid (Blk.newL (L:=stZ) hW rfl);have HB1:=Lib.hid hW.bel;have HS1:=Lib.hid hW.sz;clear hW)
    refine (HSP _).out.mono ?_
    rintro e w2 ⟨A,c,rfl,hf,hb,hc⟩
    have HK2:=Lib.hid (HK1.out.on hb)
    have HB2:=Lib.hid (HB1.out.trans (hb.mono HB1.out.size))
    have HZ2:Hid (w.heap.size < w2.heap.size):=HK2.out.lt
    clear hf hb hc
    go_wp2_with (first
      | (refine wpList_alloc_new rfl 30 rfl stZ.toArray (HZ _).out ?_;intro W3 hW;have HK3:=Lib.hid (HK2.out.on hW.bel);have HN3:=Lib.hid (Blk.newL (L:=stZ) hW rfl);have HB3:=Lib.hid (HB2.out.trans (hW.bel.mono HB2.out.size));have HS3:=Lib.hid hW.sz;have HG3:=Lib.hid hW.bel;clear hW)
      | (refine wpList_store_in rfl 30 _ _ rfl w2.heap.size 0 stZ.toArray rfl rfl (HN3.out.there 0 7 (Nat.le_refl _)) (st_size rfl) (st_ones _ _ _ _ _ _ _ _ _ _ _ _ _) ?_;intro W4 hs;have HK4:=Lib.hid (HK3.out.far hs (by have:=HZ2.out;omega));have HN4:=Lib.hid (HN3.out.all hs rfl);have HB4:=Lib.hid (HB3.out.trans (hs.below (by have:=HZ2.out;omega)));have HG4:=Lib.hid (HG3.out.trans (hs.below (Nat.le_refl _)));have HS4:=Lib.hid hs.sz;clear hs)
      | (refine wpList_load_mid rfl 30 _ rfl w2.heap.size 0 rfl stZ _ HN4.out.rg Tryz.underlying30 rfl (by kernel_rfl) ?_)
      | (refine wpList_store_in rfl 30 _ _ rfl w.heap.size 0 (stZ).toArray rfl rfl (HK4.out.there 0 7 (Nat.le_refl _)) (st_size rfl) (st_ones _ _ _ _ _ _ _ _ _ _ _ _ _) ?_;intro W9 hs;have HLD:=Lib.hid (st_load rfl (HK4.out.all hs rfl));have HB9:=Lib.hid (HB4.out.trans (hs.below (Nat.le_refl _)));have HF9:=Lib.hid hs.far;have HS9:=Lib.hid hs.sz;clear hs))
    exact bodyPost_ret (v:=.tuple #[.agg (stZ).toArray,.int .i64 3]) (by rw [results_cell_tmp rfl];simp [asAddr,Result.andThen,HLD.out]) rfl (⟨.inl ⟨HO.out,rfl⟩,HB9.out⟩)
theorem stp_info:(Tryz.prog.info? 30).map (fun i=>(i.zero,i.size,i.bytes))=some (some (.agg stZ.toArray),7,104):=by kernel_rfl
theorem pushT {w0 w:World} {v:Value} {n:Nat} {xs:List Value} (h:OwnR w0 30 7 v n xs w) (C:List Value) (hC:C.length=7) (h1:C.toArray.all (·.oneCell')=true) (hn:n≤1000000000) (ty:TypeId) :
    ∃ v' w',(Builtin.append_ #[32,32] ty #[v,.slice (some ⟨w.heap.size,0,none⟩) 1 1]).run Tryz.prog (w.alloc (.cells C.toArray 30))=.ok v' w'∧OwnR w0 30 7 v' (n+1) (xs++C) w':=by
  have:=h.push (ty:=ty) stp_info Tryz.underlying32 rfl (by decide) C.toArray (by simpa using hC) (fun u q=>(Array.all_eq_true_iff_forall_mem.1 h1) u (by simpa using q)) (by unfold maxLen;omega) (by omega)
  simpa using this
structure StpsM (Q:Nat→Prop) (w:World) (Cs:List (List Value)) (ss:List StpK):Prop where
  len:Cs.length=ss.length
  at_:∀ i (h:i < Cs.length) (h':i < ss.length),StpM Q w Cs[i] ss[i]
theorem StpsM.nil (Q:Nat→Prop) (w:World):StpsM Q w [] []:=⟨rfl,fun i h=>absurd h (Nat.not_lt_zero _)⟩
theorem StpsM.keep {Q R:Nat→Prop} {w w':World} {Cs:List (List Value)} {ss:List StpK} (h:StpsM Q w Cs ss) (hk:∀ b,Q b→w'.heap[b]?=w.heap[b]?) (hr:∀ b,Q b→R b):StpsM R w' Cs ss:=⟨h.len,fun i h1 h2=>(h.at_ i h1 h2).keep hk hr⟩
theorem StpsM.snoc {Q:Nat→Prop} {w:World} {Cs:List (List Value)} {ss:List StpK} {C:List Value} {s:StpK} (h:StpsM Q w Cs ss) (hs:StpM Q w C s):StpsM Q w (Cs++[C]) (ss++[s]):=by
  refine⟨by rw [List.length_append,List.length_append,h.len];rfl,fun i h1 h2=>?_⟩
  have hl:=h.len
  rw [List.length_append,List.length_singleton] at h1
  by_cases q:i < Cs.length
  · rw [List.getElem_append_left q,List.getElem_append_left (by omega)]
    exact h.at_ i q (by omega)
  · rw [List.getElem_append_right (by omega),List.getElem_append_right (by omega)]
    simp only [List.getElem_singleton]
    exact hs
def ReadR (R:Option (List Stp)×Nat) (w:World) (e:Ending) (w':World):Prop:=
  ((R.1=none∧e=.returned (.tuple #[.slice none 0 0,.int .i64 (R.2:Int),.int .i64 3]))∨∃ ss A c Cs,R=(some ss,0)∧e=.returned (.tuple #[.slice A ss.length c,.int .i64 0,.int .i64 0])∧FlatQ (fun b=>w.heap.size≤b∧b < w'.heap.size) w' A (List.flatten Cs)∧StpsM (fun b=>w.heap.size≤b∧b < w'.heap.size) w' Cs (ss.map rawK)∧ss.length≤c)∧Below w.heap.size w w'
def ReadOut (l:List UInt8) (w:World) (e:Ending) (w':World):Prop:=ReadR (readW 0 (splitB 10 l) []) w e w'
def RowT (w:World) (v:Value) (ss:List Stp) (W:World):Prop:=∃ Cs,OwnR w 30 7 v ss.length (List.flatten Cs) W∧StpsM (fun b=>w.heap.size≤b∧b < W.heap.size∧v.ownBlock≠some b) W Cs (ss.map rawK)
theorem read_step {ws:List (List UInt8)} {k:Nat} {ss:List Stp} (hk:k < ws.length) (h:readW 0 ws []=readW k (ws.drop k) ss) :
    (ws[k]=[]→readW 0 ws []=readW (k+1) (ws.drop (k+1)) ss)∧(ws[k]≠[]→lineW ws[k]=none→readW 0 ws []=(none,k+1))∧(ws[k]≠[]→∀ s,lineW ws[k]=some s→readW 0 ws []=readW (k+1) (ws.drop (k+1)) (ss++[s])):=by
  rw [List.drop_eq_getElem_cons hk,readW] at h
  refine⟨fun q=>?_,fun q r=>?_,fun q s r=>?_⟩
  · rw [if_pos q] at h;exact h
  · rw [if_neg q,r] at h;exact h
  · rw [if_neg q,r] at h;exact h
theorem read_end {ws:List (List UInt8)} {k:Nat} {ss:List Stp} (hk:ws.length≤k) (h:readW 0 ws []=readW k (ws.drop k) ss):readW 0 ws []=(some ss,0):=by
  rw [h,List.drop_of_length_le hk]
  rfl
theorem RowT.push {w W:World} {v:Value} {ss:List Stp} (h:RowT w v ss W) (s:Stp) (C:List Value) (hC:StpM (fun b=>w.heap.size≤b∧b < W.heap.size∧v.ownBlock≠some b) W C (rawK s)) (hn:ss.length≤1000000000) (ty:TypeId) :
    ∃ v' W',(Builtin.append_ #[32,32] ty #[v,.slice (some ⟨W.heap.size,0,none⟩) 1 1]).run Tryz.prog (W.alloc (.cells C.toArray 30))=.ok v' W'∧RowT w v' (ss++[s]) W':=by
  obtain⟨Cs,ho,hs⟩:=h
  obtain⟨i,q1,q2,q3,q4⟩:=info_parts stp_info
  obtain⟨v',W',r1,r2,r3,r4⟩:=run_append_mine (P:=Tryz.prog) (W.alloc (.cells C.toArray 30)) 32 ty 30 i (.agg stZ.toArray) 7 104 Tryz.underlying32 q1 q2 q3 q4 rfl (by decide) w.heap.size v ss.length _ (ho.1.alloc _) (R:=fun _=>True) (some ⟨W.heap.size,0,none⟩) 1 1 C (by rw [hC.len]) (fun j u hu=>⟨W.heap.size,0,rfl,trivial,by rw [World.cell?_alloc_at _ _ _ _ rfl,Nat.zero_add];simpa using hu⟩) (fun u q=>(Array.all_eq_true_iff_forall_mem.1 hC.ones) u (by simpa using q)) (by unfold maxLen;omega) (by omega) (by have:=ho.2.size;simp;omega)
  have hg:=grew_alloc1 r3
  have hk:∀ b,(w.heap.size≤b∧b < W.heap.size∧v.ownBlock≠some b)→W'.heap[b]?=W.heap[b]?:=fun b q=>hg.block b q.2.1 fun e=>q.2.2 e.symm
  have hr:∀ b,(w.heap.size≤b∧b < W.heap.size∧v.ownBlock≠some b)→(w.heap.size≤b∧b < W'.heap.size∧v'.ownBlock≠some b):=fun b q=>⟨q.1,Nat.lt_of_lt_of_le q.2.1 hg.size,by
    rcases r4 with e | e
    · rw [e];exact q.2.2
    · rw [e];intro z;injection z with z;simp at z;omega⟩
  refine⟨v',W',r1,Cs++[C],⟨?_,?_⟩,?_⟩
  · rw [List.length_append,List.length_singleton]
    rw [show (Cs++[C]).flatten=Cs.flatten++C by simp]
    exact r2
  · exact ho.2.grown hg ho.2.size fun k q=>(own_cells ho.1 q).1
  · rw [List.map_append]
    exact (hs.keep hk hr).snoc (hC.keep hk hr)
theorem RowT.own {w W:World} {v:Value} {ss:List Stp} (h:RowT w v ss W) (b:Nat) (hb:W.heap.size≤b):v.ownBlock≠some b:=fun q=>by
  obtain⟨Cs,ho,-⟩:=h
  obtain⟨-,cs,z⟩:=own_cells ho.1 q
  have:=(Array.getElem?_eq_some_iff.1 z).1
  omega
theorem RowT.on {w W W':World} {v:Value} {ss:List Stp} (h:RowT w v ss W) (hb:Below W.heap.size W W'):RowT w v ss W':=by
  obtain⟨Cs,ho,hs⟩:=h
  exact⟨Cs,ho.on hb,hs.keep (fun b q=>hb.block b q.2.1) fun b q=>⟨q.1,Nat.lt_of_lt_of_le q.2.1 hb.size,q.2.2⟩⟩
theorem RowT.done {w W:World} {v:Value} {ss:List Stp} {R:Option (List Stp)×Nat} {w0:World} (h:RowT w v ss W) (hR:R=(some ss,0)) (hb:Below w0.heap.size w0 w):ReadR R w0 (.returned (.tuple #[v,.int .i64 0,.int .i64 0])) W:=by
  obtain⟨Cs,ho,hs⟩:=h
  obtain⟨A,c,h1,h2,h3⟩:=ho.flat
  have hz:=hb.size
  exact⟨.inr ⟨ss,A,c,Cs,hR,by rw [h1],h3.less fun b q=>⟨by omega,q.2⟩,hs.keep (fun _ _=>rfl) (fun b q=>⟨by omega,q.2.1⟩),h2⟩,bthen hb ho.2⟩
set_option maxHeartbeats 4000000 in
theorem r45Read_any (s:ByteArray) (w:World) (hs:s.size≤100000000):Calls Tryz.prog 23 #[.string s] w (ReadOut s.data.toList w):=by
  have HSP:=fun W=>Lib.hid (r45Split_any s 10 W hs)
  have hsl:s.data.toList.length≤100000000:=by simp;omega
  have HML:Hid (∀ l∈splitB 10 s.data.toList,l.length≤100000000):=fun l hl=>by
    have:=split_part 10 s.data.toList l hl
    omega
  have hwl:=split_len 10 s.data.toList
  unfold ReadOut
  obtain⟨ws,hws⟩:∃ ws,splitB 10 s.data.toList=ws:=⟨_,rfl⟩
  rw [hws] at HSP HML hwl ⊢
  obtain⟨R,hR⟩:∃ R,readW 0 ws []=R:=⟨_,rfl⟩
  have HR0:=Lib.hid hR
  rw [hR]
  have hZ:=fun W=>Lib.hid (zero_Stp W)
  obtain⟨N,hN⟩:∃ N,ws.length=N:=⟨_,rfl⟩
  have HL:=Lib.hid hN
  unfold StrsOut at HSP
  rw [hN] at HSP hwl
  have hNl:N≤100000001:=by omega
  clear hsl hwl hN hR hws
  go_enter Tryz.func23,Tryz.ntmps23
  go_wp2_with fail
  refine (HSP _).out.mono ?_
  rintro e w2 ⟨A,c,rfl,hf,hb,hc⟩
  have HB2:=Lib.hid hb
  have HF:=Lib.hid hf
  clear hf hb HSP
  go_wp2_with fail
  go_loopg [6,7] N (fun g v iv wr=>∃ (k:Nat) (ss:List Stp),iv=.int .i64 k∧k≤N∧N - k≤g∧ss.length≤k∧Hid (RowT w2 v ss wr)∧Hid (readW 0 ws []=readW k (ws.drop k) ss))
  case atStart=>exact⟨0,[],rfl,by omega,by omega,by simp,⟨[],OwnR.nil _ _ _ (Below.refl _ _),StpsM.nil _ _⟩,by rw [List.drop_zero];exact Lib.hid rfl⟩
  case round=>
    obtain⟨k,ss,rfl,hk,hg,hsl,HO,HS⟩:=hrel
    have HBR:Hid (Below w2.heap.size w2 wr):=by obtain⟨Cs,ho,-⟩:=HO.out;exact ho.2
    by_cases hlt:k < N
    · have hkl:k < ws.length:=by rw [HL.out];exact hlt
      obtain⟨b,off,rfl,k0⟩:=str_at HF.out HBR.out k hkl
      obtain⟨h1,h2,h3⟩:=read_step hkl HS.out
      have H1:=Lib.hid h1
      have H2:=Lib.hid h2
      have H3:=Lib.hid h3
      have HLN:=fun W=>Lib.hid (r45Line_any (toB ws[k]) W (by rw [size_B];exact HML.out _ (List.getElem_mem hkl)))
      rw [toList_B] at HLN
      have hem:(toB ws[k]).toList.isEmpty=decide (ws[k]=[]):=by rw [txt_eq,toList_B];cases ws[k] <;> rfl
      generalize ws[k]=x at *
      generalize toB x=X at *
      clear h1 h2 h3 HS
      by_cases h0:x=[]
      · have HN:=Lib.hid (H1.out h0)
        rw [decide_eq_true h0] at hem
        clear h0
        go_wp2_with fail
        go_roundg (N - (k+1))
        case rel=>exact⟨k+1,ss,by go_num,by omega,by omega,by omega,HO,HN⟩
        case measure=>omega
      · rw [decide_eq_false h0] at hem
        have HX0:=Lib.hid h0
        clear h0
        go_wp2_with fail
        refine (HLN _).out.mono ?_
        rintro e w3 ⟨hor,hb⟩
        have HB3:=Lib.hid (bthen HBR.out hb)
        rcases hor with ⟨ho,rfl⟩ | ⟨sx,C,ho,rfl,hst⟩
        · have HN:=Lib.hid (H2.out HX0.out ho)
          have HE:Hid (R.1=none∧R.2=k+1):=by show _∧_;rw [← HR0.out,HN.out];exact⟨rfl,rfl⟩
          clear hb ho
          go_wp2_with fail
          go_ret3
          exact⟨.inl ⟨HE.out.1,by rw [HE.out.2];rfl⟩,bthen (bthen HB2.out HB3.out) (below_new _ _)⟩
        · have HN:=Lib.hid (H3.out HX0.out sx ho)
          have HOW:=HO.out.own
          have HST:Hid (StpM (fun b=>w2.heap.size≤b∧b < (w3.alloc (.cells C.toArray 30)).heap.size∧u6.ownBlock≠some b) (w3.alloc (.cells C.toArray 30)) C (rawK sx)):=Lib.hid (hst.keep (fun b q=>(below_new w3 _).block b q.2) fun b q=>⟨by have:=HBR.out.size;omega,by simp;omega,HOW b q.1⟩)
          obtain⟨v',W',hr,hrow⟩:=((HO.out.on hb).on (below_new w3 (.cells C.toArray 30))).push sx C HST.out (by omega) 32
          have HRW:=Lib.hid hrow
          obtain⟨A1,c1,A2,c2,A3,c3,rfl,-⟩:=hst.it
          unfold stpC at hr
          rw [World.size_alloc] at hr
          have HR:=Lib.hid hr
          clear hr hrow hst hb ho HOW HST
          unfold stpC
          go_wp2_with (at_builtin;refine wpList_append_known rfl _ _ 32 rfl _ _ _ rfl rfl HR.out ?_)
          go_roundg (N - (k+1))
          case rel=>exact⟨k+1,ss++[sx],by go_num,by omega,by omega,by rw [List.length_append,List.length_singleton];omega,HRW,HN⟩
          case measure=>omega
    · have hge:(N:Int)≤(k:Int):=by omega
      have HE:Hid (R=(some ss,0)):=by show _=_;rw [← HR0.out];exact read_end (by rw [HL.out];omega) HS.out
      clear HS
      go_wp2_with fail
      go_ret3
      exact HO.out.done HE.out HB2.out
open Go.RowKit Go.Shelf
attribute [local go_sem] Oper.semAt_some
theorem FlatQ.keepC {Q:Nat→Prop} {w w':World} {A:Option Addr} {xs:List Value} (h:FlatQ Q w A xs) (hk:∀ b o,Q b→w.heap[b]?=some o→o.isCells=true→w'.heap[b]?=w.heap[b]?):FlatQ Q w' A xs:=fun j u hu=>by
  obtain⟨b,off,h1,h2,h3⟩:=h j u hu
  obtain⟨o,ho,hc⟩:=cells_of_cell h3
  exact⟨b,off,h1,h2,(World.cell?_of_block (a:=⟨b,off+j,none⟩) (hk b o h2 ho hc)).trans h3⟩
theorem StpsM.keepC {Q R:Nat→Prop} {w w':World} {Cs:List (List Value)} {ss:List StpK} (h:StpsM Q w Cs ss) (hk:∀ b o,Q b→w.heap[b]?=some o→o.isCells=true→w'.heap[b]?=w.heap[b]?) (hr:∀ b,Q b→R b):StpsM R w' Cs ss:=⟨h.len,fun i h1 h2=>by
  obtain⟨A1,c1,A2,c2,A3,c3,e,q1,q2,q3⟩:=(h.at_ i h1 h2).it
  exact⟨⟨A1,c1,A2,c2,A3,c3,e,(q1.keepC hk).less hr,(q2.keepC hk).less hr,(q3.keepC hk).less hr⟩⟩⟩
structure RdY (w:World) (n:Int) (v:Value) (ss:List Stp) (W:World):Prop where
  row:∃ Cs,W.ownsRow (w.heap.size+7) 30 7 v ss.length (List.flatten Cs)∧StpsM (fun b=>w.heap.size+7≤b∧b < W.heap.size∧v.ownBlock≠some b) W Cs (ss.map rawK)
  h0:W.heap[w.heap.size]?=some (.cells #[.slice none 0 0] 32 (0,0))
  h1:W.heap[w.heap.size+1]?=some (.cells #[.int .i64 0] 3 (0,0))
  h2:W.heap[w.heap.size+2]?=some (.cells #[.int .i64 0] 76 (0,0))
  h3:W.heap[w.heap.size+3]?=some (.cells #[v] 32 (0,0))
  h4:W.heap[w.heap.size+4]?=some (.cells #[.int .i64 n] 3 (0,0))
  bel:Below w.heap.size w W
  size:w.heap.size+7≤W.heap.size
theorem one_at {W:World} {b:Nat} {v:Value} {T:TypeId} (h:W.heap[b]?=some (.cells #[v] T (0,0))):W.cell? ⟨b,0,none⟩=some v∧W.frozen? ⟨b,0,none⟩=false:=by
  constructor
  · simp [World.cell?,h]
  · simp [World.frozen?,h]
theorem RdY.grown {w W W':World} {n:Int} {v:Value} {ss:List Stp} {row:Option Nat} (h:RdY w n v ss W) (hg:W.grownBy W' row) (hr:∀ k,row=some k→w.heap.size+5≤k∧((W.heap[k]?).map Obj.isCells=some false∨k < w.heap.size+7)):RdY w n v ss W':=by
  obtain⟨⟨Cs,ho,hs⟩,h0,h1,h2,h3,h4,hb,hz⟩:=h
  have nr:∀ k,v.ownBlock=some k→row≠some k:=fun k q e=>by
    obtain⟨z1,cs,z2⟩:=own_cells ho q
    rcases (hr k e).2 with z | z
    · rw [z2] at z;cases z
    · omega
  have fx:∀ k o,k < w.heap.size+5→W.heap[k]?=some o→W'.heap[k]?=some o:=fun k o hk hko=>(hg.block k (Array.getElem?_eq_some_iff.1 hko).1 fun e=>by have:=(hr k e.symm).1;omega).trans hko
  refine⟨⟨Cs,own_kept ho hg fun k e q=>nr k q e,?_⟩,fx _ _ (by omega) h0,fx _ _ (by omega) h1,fx _ _ (by omega) h2,fx _ _ (by omega) h3,fx _ _ (by omega) h4,hb.grown hg hb.size fun k e=>by have:=(hr k e).1;omega,Nat.le_trans hz hg.size⟩
  refine hs.keepC (fun b o q ho hc=>hg.block b q.2.1 fun e=>?_) fun b q=>⟨q.1,Nat.lt_of_lt_of_le q.2.1 hg.size,q.2.2⟩
  rcases (hr b e.symm).2 with z | z
  · rw [ho] at z;injection z with z;rw [hc] at z;cases z
  · omega
theorem RdY.on {w W W':World} {n:Int} {v:Value} {ss:List Stp} (h:RdY w n v ss W) (hb:Below W.heap.size W W'):RdY w n v ss W':=by
  obtain⟨⟨Cs,ho,hs⟩,h0,h1,h2,h3,h4,hbb,hz⟩:=h
  have fx:∀ k o,W.heap[k]?=some o→W'.heap[k]?=some o:=fun k o hko=>(hb.block k (Array.getElem?_eq_some_iff.1 hko).1).trans hko
  exact⟨⟨Cs,own_on ho hb,hs.keep (fun b q=>hb.block b q.2.1) fun b q=>⟨q.1,Nat.lt_of_lt_of_le q.2.1 hb.size,q.2.2⟩⟩,fx _ _ h0,fx _ _ h1,fx _ _ h2,fx _ _ h3,fx _ _ h4,bthen hbb hb,Nat.le_trans hz hb.size⟩
theorem RdY.count {w W:World} {n:Int} {v:Value} {ss:List Stp} (h:RdY w n v ss W) (m:Int):RdY w m v ss (W.setCell ⟨w.heap.size+4,0,none⟩ (.int .i64 m)):=by
  obtain⟨⟨Cs,ho,hs⟩,h0,h1,h2,h3,h4,hbb,hz⟩:=h
  have fx:∀ k,k≠w.heap.size+4→(W.setCell ⟨w.heap.size+4,0,none⟩ (.int .i64 m)).heap[k]?=W.heap[k]?:=fun k q=>Below.heap_setCell _ _ _ _ q
  exact⟨⟨Cs,own_set ho (by omega) _,hs.keep (fun b q=>fx b (by omega)) fun b q=>⟨q.1,by simpa using q.2.1,q.2.2⟩⟩,(fx _ (by omega)).trans h0,(fx _ (by omega)).trans h1,(fx _ (by omega)).trans h2,(fx _ (by omega)).trans h3,one_setCell h4,hbb.setCell (by show w.heap.size≤w.heap.size+4;omega) _,by simpa using hz⟩
theorem RdY.push {w W:World} {n:Int} {v:Value} {ss:List Stp} (h:RdY w n v ss W) (s:Stp) (C:List Value) (hC:StpM (fun b=>w.heap.size+7≤b∧b < W.heap.size∧v.ownBlock≠some b) W C (rawK s)) (hn:ss.length≤1000000000) (ty:TypeId) :
    ∃ A m c W',(Builtin.append_ #[32,32] ty #[v,.slice (some ⟨W.heap.size,0,none⟩) 1 1]).run Tryz.prog (W.alloc (.cells C.toArray 30))=.ok (.slice A m c) W'∧W'.cell? ⟨w.heap.size+3,0,none⟩=some v∧W'.frozen? ⟨w.heap.size+3,0,none⟩=false∧RdY w n (.slice A m c) (ss++[s]) (W'.setCell ⟨w.heap.size+3,0,none⟩ (.slice A m c))∧KeepsFrom (w.heap.size+7) W (W'.setCell ⟨w.heap.size+3,0,none⟩ (.slice A m c))∧(∀ k,k < w.heap.size+7→k≠w.heap.size+3→(W'.setCell ⟨w.heap.size+3,0,none⟩ (.slice A m c)).heap[k]?=W.heap[k]?):=by
  obtain⟨⟨Cs,ho,hs⟩,h0,h1,h2,h3,h4,hbb,hz⟩:=h
  obtain⟨i,q1,q2,q3,q4⟩:=info_parts stp_info
  obtain⟨v',W',r1,r2,r3,r4⟩:=run_append_mine (P:=Tryz.prog) (W.alloc (.cells C.toArray 30)) 32 ty 30 i (.agg stZ.toArray) 7 104 Tryz.underlying32 q1 q2 q3 q4 rfl (by decide) (w.heap.size+7) v ss.length _ (ho.alloc _) (R:=fun _=>True) (some ⟨W.heap.size,0,none⟩) 1 1 C (by rw [hC.len]) (fun j u hu=>⟨W.heap.size,0,rfl,trivial,by rw [World.cell?_alloc_at _ _ _ _ rfl,Nat.zero_add];simpa using hu⟩) (fun u q=>(Array.all_eq_true_iff_forall_mem.1 hC.ones) u (by simpa using q)) (by unfold maxLen;omega) (by omega) (by simp;omega)
  have hg:=grew_alloc1 r3
  obtain⟨A,c,rfl,-,-⟩:=flatq_own r2
  have hob:∀ k,v.ownBlock=some k→w.heap.size+7≤k:=fun k q=>(own_cells ho q).1
  have hk:∀ b,b < W.heap.size→v.ownBlock≠some b→W'.heap[b]?=W.heap[b]?:=fun b q z=>hg.block b q fun e=>z e.symm
  have fx:∀ k o,k < w.heap.size+7→W.heap[k]?=some o→W'.heap[k]?=some o:=fun k o q hko=>(hk k (by omega) fun e=>by have:=hob k e;omega).trans hko
  have sx:∀ k,k≠w.heap.size+3→(W'.setCell ⟨w.heap.size+3,0,none⟩ (.slice A (ss.length+1) c)).heap[k]?=W'.heap[k]?:=fun k q=>Below.heap_setCell _ _ _ _ q
  have hr:∀ b,(w.heap.size+7≤b∧b < W.heap.size∧v.ownBlock≠some b)→(w.heap.size+7≤b∧b < (W'.setCell ⟨w.heap.size+3,0,none⟩ (.slice A (ss.length+1) c)).heap.size∧(Value.slice A (ss.length+1) c).ownBlock≠some b):=fun b q=>⟨q.1,by have:=hg.size;simp;omega,by
    rcases r4 with e | e
    · rw [e];exact q.2.2
    · rw [e];intro z;injection z with z;simp at z;omega⟩
  have h3':=fx _ _ (by omega) h3
  refine⟨A,ss.length+1,c,W',r1,(one_at h3').1,(one_at h3').2,⟨⟨Cs++[C],?_,?_⟩,(sx _ (by omega)).trans (fx _ _ (by omega) h0),(sx _ (by omega)).trans (fx _ _ (by omega) h1),(sx _ (by omega)).trans (fx _ _ (by omega) h2),one_setCell h3',(sx _ (by omega)).trans (fx _ _ (by omega) h4),(hbb.grown hg hbb.size fun k e=>by have:=hob k e;omega).setCell (by show w.heap.size≤w.heap.size+3;omega) _,by have:=hg.size;simp;omega⟩,⟨by simpa using hg.size,fun k o hkl hko hc=>?_⟩,fun k q z=>(sx k z).trans (hk k (by omega) fun e=>by have:=hob k e;omega)⟩
  · rw [List.length_append,List.length_singleton,show (Cs++[C]).flatten=Cs.flatten++C by simp]
    exact own_set r2 (by omega) _
  · rw [List.map_append]
    exact (hs.keep (fun b q=>(sx b (by omega)).trans (hk b q.2.1 q.2.2)) hr).snoc (hC.keep (fun b q=>(sx b (by omega)).trans (hk b q.2.1 q.2.2)) hr)
  · rw [sx k (by omega)]
    refine (hk k (Array.getElem?_eq_some_iff.1 hko).1 fun e=>?_).trans hko
    obtain⟨-,cs,z⟩:=own_cells ho e
    rw [hko] at z
    injection z with z
    subst z
    cases hc
structure RdX (w:World) (n:Int) (W:World):Prop where
  h0:W.cell? ⟨w.heap.size,0,none⟩=some (.slice none 0 0)
  h1:W.cell? ⟨w.heap.size+1,0,none⟩=some (.int .i64 n)
  h2:W.cell? ⟨w.heap.size+2,0,none⟩=some (.int .i64 3)
  bel:Below w.heap.size w W
theorem RdX.grown {w W W':World} {n:Int} {row:Option Nat} (h:RdX w n W) (hg:W.grownBy W' row) (hr:∀ k,row=some k→w.heap.size+5≤k):RdX w n W':=by
  have fx:∀ k v,k < w.heap.size+5→W.cell? ⟨k,0,none⟩=some v→W'.cell? ⟨k,0,none⟩=some v:=fun k v hk hko=>(World.cell?_of_block (a:=⟨k,0,none⟩) (hg.block k (World.block_lt_of_cell? W _ hko) fun e=>by have:=hr k e.symm;omega)).trans hko
  exact⟨fx _ _ (by omega) h.h0,fx _ _ (by omega) h.h1,fx _ _ (by omega) h.h2,h.bel.grown hg h.bel.size fun k e=>by have:=hr k e;omega⟩
theorem there_one {W:World} {b:Nat} {v:Value} {T:TypeId} (h:W.heap[b]?=some (.cells #[v] T (0,0))):W.there b 0 1:=fun j hj=>by
  obtain rfl:j=0:=by omega
  exact⟨by rw [(one_at h).1];rfl,(one_at h).2⟩
theorem stored_cell {w W:World} {b:Nat} {v:Value} (hs:Stored w W b 0 [v]):W.cell? ⟨b,0,none⟩=some v:=hs.rg 0 v rfl
open Go.RowKit Go.Shelf
attribute [local go_sem] Oper.semAt_some
def WrtI (a:Nat) (l:List UInt8) (w:World):Prop:=∃ v,Blk w a [v,.bool true,.bool false]∧w.ownsRow (a+1) 5 1 v l.length (bsV l)
theorem WrtI.on {a:Nat} {l:List UInt8} {w w':World} (h:WrtI a l w) (hb:Below w.heap.size w w'):WrtI a l w':=by
  obtain⟨v,h1,h2⟩:=h
  exact⟨v,h1.on hb,own_on h2 hb⟩
theorem rowFine_blk {w:World} {a:Nat} {v:Value} (h:Blk w a [v,.bool true,.bool false]):Calls Tryz.prog 289 #[.pointer (some ⟨a,0,none⟩)] w fun e w'=>e=.returned (.bool true)∧w=w':=by
  have c1:=h.cell 1 (v:=.bool true) rfl
  have c2:=h.cell 2 (v:=.bool false) rfl
  clear h
  go_enter Tryz.func289,Tryz.ntmps289
  go_wp2
  go_ret
  exact⟨rfl,rfl⟩
theorem wrtFail_any {w:World} {a:Nat} {l:List UInt8} (h:WrtI a l w):Calls Tryz.prog 242 #[.pointer (some ⟨a,0,none⟩)] w fun e w'=>e=.returned (.bool false)∧w=w':=by
  obtain⟨v,h,-⟩:=h
  have HC:=Lib.hid (rowFine_blk h)
  clear h
  go_enter Tryz.func242,Tryz.ntmps242
  go_wp2_with (refine HC.out.mono ?_;rintro e w1 ⟨rfl,rfl⟩)
  go_ret
  exact⟨rfl,rfl⟩
theorem bsV_app1 (l:List UInt8) (x:UInt8):bsV (l++[x])=bsV l++[.int .u8 (x.toNat:Int)]:=by simp [bsV,bV]
def PutJ (w:World) (a n0:Nat) (l pre:List UInt8) (W:World):Prop:=
  ∃ v,Blk W a [v,.bool true,.bool false]∧W.ownsRow (a+1) 5 1 v (l.length+pre.length) (bsV (l++pre))∧Below a w W∧W.heap[n0]?=some (.cells #[.pointer (some ⟨a,0,none⟩)] 318 (0,0))∧(∀ k,v.ownBlock=some k→k < n0∨n0+3≤k)∧n0+3≤W.heap.size
theorem PutJ.grown {w:World} {a n0:Nat} {l pre:List UInt8} {W W':World} {row:Option Nat} (h:PutJ w a n0 l pre W) (ha:a < n0) (hg:W.grownBy W' row) (hr:∀ k,row=some k→n0 < k∧(n0+3≤k→∃ o,W.heap[k]?=some o∧o.isCells=false)):PutJ w a n0 l pre W':=by
  obtain⟨v,h1,h2,h3,h4,h5,h6⟩:=h
  have hne:∀ k,row=some k→v.ownBlock≠some k:=fun k q e=>by
    rcases h5 k e with z | z
    · have:=(hr k q).1;omega
    · obtain⟨o,ho,hc⟩:=(hr k q).2 z
      obtain⟨-,cs,x⟩:=own_cells h2 e
      rw [x] at ho
      cases ho
      cases hc
  have hk:∀ k,k≤n0→k < W.heap.size→W'.heap[k]?=W.heap[k]?:=fun k q z=>hg.block k z fun e=>by have:=(hr k e.symm).1;omega
  exact⟨v,h1.kept (hk a (by omega) (by omega)) hg.size,own_kept h2 hg hne,h3.grown hg (by have:=h3.size;omega) fun k q=>by have:=(hr k q).1;omega,(hk n0 (Nat.le_refl _) (by omega)).trans h4,h5,Nat.le_trans h6 hg.size⟩
def MarkPostT (P:Program) (fn:Func) (R:Ending→World→Prop) (_:Exit→Act→World→Prop):Exit→Act→World→Prop
  | .ret,a,w=>bodyPostM Fence.wide 8 P fn R .ret a w
  | .normal,a,w=>bodyPostM Fence.wide 8 P fn R .normal a w
  | _,_,_=>False
theorem calls_of_markT {P:Program} {f:FuncId} {fn:Func} {c:Code} {args:Array Value} {w:World} {R:Ending→World→Prop} (hf:P.funcs[f]?=some fn) (hb:fn.body=some c)
    (h:c.wp P (MarkPostT P fn R (bodyPost P fn R)) { tmps:=args++Array.replicate (fn.ntmps - args.size) undef,defers:=[] } w):Calls P f args w R:=by
  refine (callsIn_wide (n:=8)).1 (callsIn_of_wp_marks hf hb trivial (wpIn_wide.2 (wp_mono h ?_)) rfl)
  intro e a w' hq
  cases e with
  | ret=>exact hq
  | normal=>exact hq
  | _=>exact hq.elim
set_option maxRecDepth 8000 in
set_option maxHeartbeats 4000000 in
theorem wrtPut_any {w:World} {a:Nat} {l:List UInt8} (n v:Nat) (h:WrtI a l w) (h8:n≤8) (hv:v < 18446744073709551616) (hl:l.length≤10000000) :
    Calls Tryz.prog 241 #[.pointer (some ⟨a,0,none⟩),.int .i64 (n:Int),.int .u64 (v:Int),.bool true] w fun e w'=>e=.returned (.tuple #[])∧WrtI a (l++leB n v) w'∧Below a w w':=by
  obtain⟨v0,hb0,ho0⟩:=h
  have ha:a < w.heap.size:=hb0.lt
  refine calls_of_markT Tryz.func241 rfl ?_
  simp only [Tryz.ntmps241,List.size_toArray,List.length_cons,List.length_nil,Nat.reduceAdd,Nat.reduceSub,Array.replicate_succ,Array.replicate_zero,List.push_toArray,List.append_toArray,List.nil_append,List.cons_append]
  have HFA:=Lib.hid (wrtFail_any (WrtI.on ⟨v0,hb0,ho0⟩ (below_new w (.cells #[.pointer (some ⟨a,0,none⟩)] 318))))
  go_wp2_with fail
  refine HFA.out.mono ?_
  rintro e w1 ⟨rfl,rfl⟩
  go_wp2_with fail
  refine (octBytes_any (n:Int) (v:Int) _).mono ?_
  rintro e w1 ⟨rfl,rfl⟩
  go_wp2_with fail
  have hz5:(((w.alloc (.cells #[.pointer (some ⟨a,0,none⟩)] 318)).alloc (.cells #[.int .i64 (n:Int)] 3)).alloc (.cells #[.int .u64 (v:Int)] 211)).heap.size=w.heap.size+3:=by simp
  have hbel:Below w.heap.size w (((w.alloc (.cells #[.pointer (some ⟨a,0,none⟩)] 318)).alloc (.cells #[.int .i64 (n:Int)] 3)).alloc (.cells #[.int .u64 (v:Int)] 211)):=bthen (bthen (below_new _ _) (below_new _ _)) (below_new _ _)
  have hI0:PutJ w a w.heap.size l [] (((w.alloc (.cells #[.pointer (some ⟨a,0,none⟩)] 318)).alloc (.cells #[.int .i64 (n:Int)] 3)).alloc (.cells #[.int .u64 (v:Int)] 211)):=by
    refine⟨v0,hb0.on hbel,by rw [List.append_nil];exact own_on ho0 hbel,hbel.mono (by omega),(Below.heap_alloc _ _ _ (by simp only [World.size_alloc];omega)).trans ((Below.heap_alloc _ _ _ (by simp)).trans (heap_alloc_at w _)),fun k q=>?_,by omega⟩
    obtain⟨-,cs,z⟩:=own_cells ho0 q
    exact .inl (Array.getElem?_eq_some_iff.1 z).1
  have hcs:(((w.alloc (.cells #[.pointer (some ⟨a,0,none⟩)] 318)).alloc (.cells #[.int .i64 (n:Int)] 3)).alloc (.cells #[.int .u64 (v:Int)] 211)).cell? ⟨w.heap.size+1,0,none⟩=some (.int .i64 (n:Int)):=by
    rw [World.cell?_alloc_past _ _ _ (by simp only [World.size_alloc];omega),World.cell?_alloc_at _ _ _ _ (by simp)];rfl
  have hbf:(((w.alloc (.cells #[.pointer (some ⟨a,0,none⟩)] 318)).alloc (.cells #[.int .i64 (n:Int)] 3)).alloc (.cells #[.int .u64 (v:Int)] 211)).frozen? ⟨w.heap.size+1+1,0,none⟩=false:=by
    simp only [frozen?_alloc_cells]
    unfold World.frozen?
    rw [Array.getElem?_eq_none (by show w.heap.size≤w.heap.size+1+1;omega)]
  have hbs:(((w.alloc (.cells #[.pointer (some ⟨a,0,none⟩)] 318)).alloc (.cells #[.int .i64 (n:Int)] 3)).alloc (.cells #[.int .u64 (v:Int)] 211)).cell? ⟨w.heap.size+1+1,0,none⟩=some (.int .u64 (v:Int)):=by
    rw [World.cell?_alloc_at _ _ _ _ (by simp)];rfl
  generalize ((w.alloc (.cells #[.pointer (some ⟨a,0,none⟩)] 318)).alloc (.cells #[.int .i64 (n:Int)] 3)).alloc (.cells #[.int .u64 (v:Int)] 211)=W5 at *
  clear HFA hbel
  refine (wpIn_wide (n:=8)).1 ?_
  refine wpIn_rangeBoxN (by omega) (gf:=333) (lb:=#[.pointer (some ⟨w.heap.size+1,0,none⟩),.pointer (some ⟨w.heap.size+1+1,0,none⟩)]) rfl (enters_of Tryz.func333 (by kernel_rfl) rfl) (bx:=w.heap.size+1+1) (by omega) (N:=fun k=>k=w.heap.size+1∨k=w.heap.size+1+1) (fun k q=>by omega)
    (octBytes_stops 7 (w.heap.size+1) (w.heap.size+1+1) (by omega) n v hv h8 W5 hbs hbf hcs (by omega) (by omega) (by omega) _ ⟨.inr rfl,.inl rfl⟩) (fun _=>rfl)
    (fun pre W=>PutJ w a w.heap.size l pre W) (fun _ _ _=>False) ?own ?ownx ?box hI0
    (fun T x=>(T.setIfInBounds 22 (.int .u8 (x.toNat:Int))).setIfInBounds 8 (.int .u8 (x.toNat:Int))) ?assign ?body ?done ?stop
  case own=>
    rintro pre W W' row h hg hr
    exact h.grown ha hg fun k q=>⟨by have:=(hr k q).1;omega,fun _=>(hr k q).2⟩
  case ownx=>intro c pre W W' row h _ _;exact h
  case box=>
    rintro pre W W' h hg
    exact h.grown ha hg fun k q=>by cases q;exact⟨by omega,fun z=>by omega⟩
  case assign=>
    intro l x W K hK
    gi_wp2
    exact hK
  case body=>
    rintro lp pre x W ⟨v1,hI1,hI2,hI3,hI4,hI5,hI6⟩ ⟨rest,hrest⟩
    simp only [List.setIfInBounds_toArray,List.set_cons_zero,List.set_cons_succ]
    have hn:pre.length≤8:=by
      have h1:=congrArg List.length hrest
      rw [leB_len,List.length_append] at h1
      omega
    obtain⟨i0,q1,q2,q3,q4⟩:=info_parts byte_infoS
    obtain⟨v',W8,hr,ho,hg,hw⟩:=run_append_mine (P:=Tryz.prog) (W.drew.alloc (.cells #[.int .u8 (x.toNat:Int)] 5)) 22 22 5 i0 _ 1 1 Tryz.underlying22 q1 q2 q3 q4 rfl (by decide) (a+1) v1 _ _ (World.ownsRow.alloc (w:=W.drew) hI2 _) (R:=fun _=>True) (some ⟨W.drew.heap.size,0,none⟩) 1 1 [.int .u8 (x.toNat:Int)] rfl (fun j u hu=>⟨W.drew.heap.size,0,rfl,trivial,by rw [World.cell?_alloc_at _ _ _ _ rfl,Nat.zero_add];simpa using hu⟩) (fun _ q=>one_cell q rfl) (by unfold maxLen;omega) (by omega) (by simp only [World.size_alloc];have:=hI1.lt;show a+1≤W.heap.size+1;omega)
    have hg1:W.drew.grownBy W8 v1.ownBlock:=grew_alloc1 hg
    have hne:∀ k,k≤w.heap.size+2→v1.ownBlock=some k→a < k∧k < w.heap.size:=fun k z q=>by
      have h1:=(own_cells hI2 q).1
      rcases hI5 k q with y | y <;> omega
    have hk:∀ k,k≤w.heap.size+2→(k=a∨w.heap.size≤k)→W8.heap[k]?=W.heap[k]?:=fun k z y=>hg1.block k (by show k < W.heap.size;omega) fun e=>by have:=hne k z e.symm;omega
    have HB8:Hid (Blk W8 a [v1,.bool true,.bool false]):=hI1.kept (hk a (by omega) (.inl rfl)) hg1.size
    have HS8:Hid (W8.heap[w.heap.size]?=W.drew.heap[w.heap.size]?):=hk _ (by omega) (.inr (Nat.le_refl _))
    have HP0:Hid (W.drew.heap[w.heap.size]?=some (.cells #[.pointer (some ⟨a,0,none⟩)] 318 (0,0))):=hI4
    have HV:Hid (∃ A c,v'=.slice A (l.length+pre.length+1) c):=by obtain⟨A,c,z,-,-⟩:=flatq_own ho;exact⟨A,c,z⟩
    have HS7:Hid ((W.drew.alloc (.cells #[.int .u8 (x.toNat:Int)] 5)).heap[w.heap.size]?=W.drew.heap[w.heap.size]?):=Below.heap_alloc _ _ _ (by show w.heap.size < W.heap.size;omega)
    have HC5:Hid (W.drew.cell? ⟨a,0,none⟩=some v1):=hI1.cell 0 rfl
    have HC6:Hid ((W.drew.alloc (.cells #[.int .u8 (x.toNat:Int)] 5)).cell? ⟨a,0,none⟩=some v1):=(World.cell?_alloc_past _ _ _ (by show a < W.heap.size;omega)).trans HC5.out
    obtain⟨A9,c9,rfl⟩:=HV.out
    have HFN:Hid (∀ W9,Stored W8 W9 a 0 [.slice A9 (l.length+pre.length+1) c9]→W9.heap[w.heap.size]?=W.drew.heap[w.heap.size]?∧KeepsFrom W5.heap.size W W9∧(∀ k,(k=w.heap.size+1∨k=w.heap.size+1+1)→W9.heap[k]?=W.heap[k]?)∧PutJ w a w.heap.size l (pre++[x]) W9):=Lib.hid fun W9 hs=>by
      have e9:∀ k,k≤w.heap.size+2→w.heap.size≤k→W9.heap[k]?=W.heap[k]?:=fun k z y=>(hs.far k (by omega)).trans (hk k z (.inr y))
      refine⟨e9 _ (by omega) (Nat.le_refl _),⟨by rw [hs.sz];exact hg1.size,fun k o z y c=>?_⟩,fun k q=>e9 k (by omega) (by omega),⟨_,Blk.put (A:=[]) (M:=[v1]) (D:=[.bool true,.bool false]) HB8.out hs rfl rfl,?_,?_,(e9 _ (by omega) (Nat.le_refl _)).trans hI4,fun k q=>?_,by rw [hs.sz];exact Nat.le_trans hI6 hg1.size⟩⟩
      · rw [hs.far k (by omega)]
        refine (hg1.block k (Array.getElem?_eq_some_iff.1 y).1 fun e=>?_).trans y
        obtain⟨-,cs,x2⟩:=own_cells hI2 e.symm
        rw [y] at x2
        cases x2
        cases c
      · rw [List.length_append,← List.append_assoc,bsV_app1]
        refine own_kept ho (row:=some a) ⟨hs.os,hs.tape,hs.output,Nat.le_of_eq hs.sz.symm,fun k _ z=>hs.far k fun q=>z (by rw [q])⟩ fun k q e=>?_
        cases q
        have:=(own_cells ho e).1
        omega
      · exact ((bdrew hI3).grown hg1 (Nat.le_of_lt hI1.lt) fun k q=>by have:=(own_cells hI2 q).1;omega).trans (hs.below (Nat.le_refl _))
      · rcases hw with z | z
        · exact hI5 k (z ▸ q)
        · rw [z] at q
          cases q
          exact .inr (by simp only [World.size_alloc];show _≤W.heap.size+1;omega)
    have HR:=Lib.hid hr
    clear hg hg1 hr ho hw hk hne hI1 hI2 hI3 hI4 hI5 hI6 hI0 hbs hbf hcs q1 q2 q3 q4 HV hb0 ho0
    apply wpIn_block
    refine wpIn_regionD (r:=some lp) (S:=fun w'=>w'.heap[w.heap.size]?=W.drew.heap[w.heap.size]?) (fun ⟨_,_,h⟩=>h) (by simp) (by kernel_rfl) rfl (fun hHeld0=>?_)
    refine wpAnyH_take (i:=0) (oi:=⟨some 23,_,_,_,_,_⟩) (v:=?_) rfl (by kernel_rfl) (by kernel_rfl) (by kernel_rfl) (fun _ _ _ h=>h) (Or.inl ⟨by rfl,?_⟩) (by assumption) ?_
    rotate_left
    · intro w' hSw
      have c4:=(one_at (hSw.trans HP0.out)).1
      go_simp
      try with_reducible rfl
    try go_frame
    refine wpAnyH_take (i:=1) (oi:=⟨some 24,_,_,_,_,_⟩) (v:=?_) rfl (by kernel_rfl) (by kernel_rfl) (by kernel_rfl) (fun _ _ _ h=>h) (Or.inl ⟨by rfl,?_⟩) (by assumption) ?_
    rotate_left
    · intro w' hSw
      have c4:=(one_at (hSw.trans HP0.out)).1
      go_simp
      try with_reducible rfl
    try go_frame
    refine wpAnyH_take (i:=2) (oi:=⟨some 25,_,_,_,_,_⟩) (v:=?_) rfl (by kernel_rfl) (by kernel_rfl) (by kernel_rfl) (fun _ _ _ h=>h) (Or.inl ⟨by rfl,?_⟩) (by assumption) ?_
    rotate_left
    · intro w' hSw
      go_simp
      try with_reducible rfl
    try go_frame
    refine wpAnyH_take (i:=3) (oi:=⟨some 26,_,_,_,_,_⟩) (v:=?_) rfl (by kernel_rfl) (by kernel_rfl) (by kernel_rfl) (fun _ _ _ h=>h) (Or.inl ⟨by rfl,?_⟩) (by assumption) ?_
    rotate_left
    · intro w' hSw
      go_simp
      try with_reducible rfl
    try go_frame
    refine wpAnyH_take (i:=4) (oi:=⟨some 27,_,_,_,_,_⟩) (v:=?_) rfl (by kernel_rfl) (by kernel_rfl) (by kernel_rfl) (fun _ _ _ h=>h) (Or.inl ⟨by rfl,?_⟩) (by assumption) ?_
    rotate_left
    · intro w' hSw
      go_simp
      try with_reducible rfl
    try go_frame
    refine wpAnyH_take (i:=6) (oi:=⟨some 29,_,_,_,_,_⟩) (v:=?_) rfl (by kernel_rfl) (by kernel_rfl) (by kernel_rfl) (fun _ _ _ h=>h) (Or.inl ⟨by rfl,?_⟩) (by assumption) ?_
    rotate_left
    · intro w' hSw
      go_simp
      try with_reducible rfl
    try go_frame
    refine wpAnyH_ready (rs:=[5,7]) (by kernel_rfl) (by simp) ?_
    refine AllReadyH.cons (o:=⟨some 28,_,_,_,_,_⟩) rfl (fun K hK=>?_) (AllReadyH.cons (o:=⟨some 30,_,_,_,_,_⟩) rfl (fun K hK=>?_) AllReadyH.nil)
    · rw [if_pos (by rfl)]
      have c5:=HC5.out
      go_step
      refine hK.out _ _ hHeld0 (fun hHeld=>?_)
      clear hK K
      try go_frame
      refine wpAnyH_ready (rs:=[7]) (by kernel_rfl) (by simp) ?_
      refine AllReadyH.cons (o:=⟨some 30,_,_,_,_,_⟩) rfl (fun K hK=>?_) AllReadyH.nil
      rw [if_pos (by rfl)]
      go_step
      refine hK.out _ _ HS7.out (fun hHeld=>?_)
      clear hK K
      try go_frame
      refine wpAnyH_ready (rs:=[8]) (by kernel_rfl) (by simp) ?_
      refine AllReadyH.cons (o:=⟨some 31,_,_,_,_,_⟩) rfl (fun K hK=>?_) AllReadyH.nil
      refine step_append_known rfl _ _ 22 rfl _ _ _ rfl rfl HR.out ?_
      refine hK.out _ _ HS8.out (fun hHeld=>?_)
      clear hK K
      try go_frame
      refine wpAnyH_take (i:=9) (oi:=⟨some 32,_,_,_,_,_⟩) (v:=?_) rfl (by kernel_rfl) (by kernel_rfl) (by kernel_rfl) (fun _ _ _ h=>h) (Or.inl ⟨by rfl,?_⟩) (by assumption) ?_
      rotate_left
      · intro w' hSw
        go_simp
        try with_reducible rfl
      try go_frame
      refine wpAnyH_take (i:=10) (oi:=⟨some 33,_,_,_,_,_⟩) (v:=?_) rfl (by kernel_rfl) (by kernel_rfl) (by kernel_rfl) (fun _ _ _ h=>h) (Or.inl ⟨by rfl,?_⟩) (by assumption) ?_
      rotate_left
      · intro w' hSw
        go_simp
        try with_reducible rfl
      try go_frame
      refine wpAnyH_take (i:=11) (oi:=⟨some 34,_,_,_,_,_⟩) (v:=?_) rfl (by kernel_rfl) (by kernel_rfl) (by kernel_rfl) (fun _ _ _ h=>h) (Or.inl ⟨by rfl,?_⟩) (by assumption) ?_
      rotate_left
      · intro w' hSw
        go_simp
        try with_reducible rfl
      try go_frame
      refine wpAnyH_ready (rs:=[12]) (by kernel_rfl) (by simp) ?_
      refine AllReadyH.cons (o:=⟨none,_,_,_,_,_⟩) rfl (fun K hK=>?_) AllReadyH.nil
      rw [if_pos (by rfl)]
      refine wp_store_one 22 _ _ rfl a 0 (.slice A9 (l.length+pre.length+1) c9) rfl rfl (HB8.out.there 0 1 (by simp)) (by kernel_rfl) rfl rfl ?_
      intro W9 hs
      have HF:=Lib.hid (HFN.out W9 hs)
      clear hs
      refine hK.out _ _ HF.out.1 (fun hHeld=>?_)
      clear hK K
      try go_frame
      refine wpAnyH_done (by kernel_rfl) ?_ _
      try go_frame
      exact HF.out.2
    · rw [if_pos (by rfl)]
      go_step
      refine hK.out _ _ HS7.out (fun hHeld=>?_)
      clear hK K
      try go_frame
      refine wpAnyH_ready (rs:=[5]) (by kernel_rfl) (by simp) ?_
      refine AllReadyH.cons (o:=⟨some 28,_,_,_,_,_⟩) rfl (fun K hK=>?_) AllReadyH.nil
      rw [if_pos (by rfl)]
      have c5:(W.alloc (.cells #[.int .u8 (x.toNat:Int)] 5)).drew.cell? ⟨a,0,none⟩=some v1:=HC6.out
      go_step
      refine hK.out _ _ HS7.out (fun hHeld=>?_)
      clear hK K
      try go_frame
      refine wpAnyH_ready (rs:=[8]) (by kernel_rfl) (by simp) ?_
      refine AllReadyH.cons (o:=⟨some 31,_,_,_,_,_⟩) rfl (fun K hK=>?_) AllReadyH.nil
      refine step_append_known rfl _ _ 22 rfl _ _ _ rfl rfl HR.out ?_
      refine hK.out _ _ HS8.out (fun hHeld=>?_)
      clear hK K
      try go_frame
      refine wpAnyH_take (i:=9) (oi:=⟨some 32,_,_,_,_,_⟩) (v:=?_) rfl (by kernel_rfl) (by kernel_rfl) (by kernel_rfl) (fun _ _ _ h=>h) (Or.inl ⟨by rfl,?_⟩) (by assumption) ?_
      rotate_left
      · intro w' hSw
        go_simp
        try with_reducible rfl
      try go_frame
      refine wpAnyH_take (i:=10) (oi:=⟨some 33,_,_,_,_,_⟩) (v:=?_) rfl (by kernel_rfl) (by kernel_rfl) (by kernel_rfl) (fun _ _ _ h=>h) (Or.inl ⟨by rfl,?_⟩) (by assumption) ?_
      rotate_left
      · intro w' hSw
        go_simp
        try with_reducible rfl
      try go_frame
      refine wpAnyH_take (i:=11) (oi:=⟨some 34,_,_,_,_,_⟩) (v:=?_) rfl (by kernel_rfl) (by kernel_rfl) (by kernel_rfl) (fun _ _ _ h=>h) (Or.inl ⟨by rfl,?_⟩) (by assumption) ?_
      rotate_left
      · intro w' hSw
        go_simp
        try with_reducible rfl
      try go_frame
      refine wpAnyH_ready (rs:=[12]) (by kernel_rfl) (by simp) ?_
      refine AllReadyH.cons (o:=⟨none,_,_,_,_,_⟩) rfl (fun K hK=>?_) AllReadyH.nil
      rw [if_pos (by rfl)]
      refine wp_store_one 22 _ _ rfl a 0 (.slice A9 (l.length+pre.length+1) c9) rfl rfl (HB8.out.there 0 1 (by simp)) (by kernel_rfl) rfl rfl ?_
      intro W9 hs
      have HF:=Lib.hid (HFN.out W9 hs)
      clear hs
      refine hK.out _ _ HF.out.1 (fun hHeld=>?_)
      clear hK K
      try go_frame
      refine wpAnyH_done (by kernel_rfl) ?_ _
      try go_frame
      exact HF.out.2
  case done=>
    rintro D xs W hD hS hI hK
    have HS:=Lib.hid hS
    have HI:=Lib.hid hI
    have HK:=Lib.hid hK
    clear hI0 hbs hbf hcs hS hI hK
    refine⟨by simp,.inl ⟨_,_,rfl,run_takeDeferred HK.out,?_⟩⟩
    have hI2:=PutJ.grown HI.out ha (grownBy_putObj' W D (.deferred none)) fun k e=>by
      cases e
      exact⟨by omega,fun _=>⟨_,HK.out,rfl⟩⟩
    refine⟨.tuple #[],by simp [results,Tryz.results241,go_sem],?_⟩
    rw [HS.out] at hI2
    obtain⟨v2,h1,h2,h3,-⟩:=hI2
    exact⟨rfl,⟨v2,h1,by rw [List.length_append];exact h2⟩,h3⟩
  case stop=>
    rintro D pre W hD hrest hX hK
    exact hX.elim
end Go.Proofs.YtaiepcgfofpmjaaGreat
