/- Layer 30: with, the second half. Printed by gennm2.py. -/
import Derived.Test.YtoabkoniegmkaaaGreatJ14
namespace Go.Proofs.YtoabkoniegmkaaaGreat
set_option linter.unusedVariables false
open Go.RowKit
set_option maxRecDepth 8000 in
set_option maxHeartbeats 4000000 in
theorem nmwith_4 {t:ByteArray} {V:List Value} (hl:Hid (V.length=8)) (ho:Hid (Ones V)) (w:World):Calls Tryz.prog 24 #[.string t,.iface 101 (.agg V.toArray)] w fun e w'=>e=.returned (.tuple #[.agg (nmL 4 t zGga zRmc zGsa V zGsv).toArray,.string ⟨#[86,84,71]⟩])∧Below w.heap.size w w':=by
  have HA0:=fun W=>Lib.hid (assert_Vtg_Gga V W)
  have HA1:=fun W=>Lib.hid (assert_Vtg_Rmc V W)
  have HA2:=fun W=>Lib.hid (assert_Vtg_Gsa V W)
  have HA3:=fun W=>Lib.hid (assert_Vtg_Vtg V W)
  have HZ:=fun W=>Lib.hid (zero_onVtg W)
  have HZN:=fun W=>Lib.hid (zero_Nm W)
  have HBN:=fun W=>Lib.hid (build_Nm t W)
  go_enter Tryz.func24,Tryz.ntmps24
  go_upto_region 1 with (refine wpList_alloc_new rfl _ rfl zNm (HZN _).out ?_;intro W1 hW1;have HK4:=Lib.hid (Blk.newL (L:=nmL 0 ByteArray.empty zGga zRmc zGsa zVtg zGsv) hW1 rfl);have HBE1:=Lib.hid hW1.bel;have HS1:=Lib.hid hW1.sz;clear hW1)
  go_upto_region 2 with (first
    | refine wpList_build1 (u:=.string t) rfl _ 1 _ rfl rfl (HBN _).out ?_
    | (refine wpList_alloc_new rfl _ rfl zNm (HZN _).out ?_;intro W2 hW2;have HK6a:=Lib.hid (Blk.newL (L:=nmL 0 ByteArray.empty zGga zRmc zGsa zVtg zGsv) hW2 rfl);have HK4a:=Lib.hid (HK4.out.grew hW2);have HBE2:=Lib.hid (bthen HBE1.out hW2.bel);have HS2:=Lib.hid hW2.sz;clear hW2 HBE1)
    | (refine wpList_store_in rfl _ _ _ rfl W1.heap.size 0 (nmL 0 t zGga zRmc zGsa zVtg zGsv).toArray rfl rfl (HK6a.out.thereA (nmL_same zLens zLens)) (nm_sizeL zLens) (Ones.arr (nmL_ones zones.1 zones.2.1 zones.2.2.1 zones.2.2.2.1 zones.2.2.2.2)) ?_;intro W3 hW3;have HK6:Hid (Blk W3 W1.heap.size (nmL 0 t zGga zRmc zGsa zVtg zGsv)):=(HK6a.out.all hW3 (nmL_same zLens zLens));have HK4b:=Lib.hid (HK4a.out.far hW3 (by have:=HS1.out;omega));have HBE3:=Lib.hid (HBE2.out.trans (hW3.below (by have:=HS1.out;omega)));have HS3:=Lib.hid hW3.sz;clear hW3 HK6a HK4 HK4a HBE2))
  go_upto_region 18 with (first
    | refine wpList_assert rfl _ _ _ _ rfl rfl (HA0 _).out ?_
    | refine wpList_assert rfl _ _ _ _ rfl rfl (HA1 _).out ?_
    | refine wpList_assert rfl _ _ _ _ rfl rfl (HA2 _).out ?_
    | refine wpList_assert rfl _ _ _ _ rfl rfl (HA3 _).out ?_
    | (refine wpList_alloc_new rfl _ rfl zVtg.toArray (HZ _).out ?_;intro W4 hW4;have HK7a:=Lib.hid (Blk.newL (L:=zVtg) hW4 rfl);have HK4c:=Lib.hid (HK4b.out.grew hW4);have HK6c:=Lib.hid (HK6.out.grew hW4);have HBE4:=Lib.hid (bthen HBE3.out hW4.bel);have HS4:=Lib.hid hW4.sz;clear hW4 HBE3 HK4b HK6)
    | (refine wpList_store_in rfl _ _ _ rfl W3.heap.size 0 V.toArray rfl rfl (HK7a.out.thereA hl.out) (by rw [size_onVtg,List.size_toArray,hl.out]) (Ones.arr ho.out) ?_;intro W5 hW5;have HK7:Hid (Blk W5 W3.heap.size V):=HK7a.out.all hW5 hl.out;have HK6d:=Lib.hid (HK6c.out.far hW5 (by have:=HS1.out;have:=HS2.out;have:=HS3.out;omega));have HK4d:=Lib.hid (HK4c.out.far hW5 (by have:=HS1.out;have:=HS2.out;have:=HS3.out;omega));have HBE5:=Lib.hid (HBE4.out.trans (hW5.below (by have:=HS1.out;have:=HS2.out;have:=HS3.out;omega)));have HS5:=Lib.hid hW5.sz;clear hW5 HK7a HK6c HK4c HBE4))
  try go_frame
  clear HA0
  clear HA1
  clear HA2
  clear HA3
  clear HZ HZN HBN
  have hS0:W5.drew.rangeAt W3.heap.size 0 V∧W5.drew.there W1.heap.size 0 65:=⟨HK7.out.drew.rg,HK6d.out.drew.nm65 zLens⟩
  refine wp_region_held_drew (S:=fun w'=>w'.rangeAt W3.heap.size 0 V∧w'.there W1.heap.size 0 65) (by kernel_rfl) hS0 (fun hHeld=>?_)
  refine wpAnyH_take (i:=0) (oi:=_) (v:=?_) rfl (by kernel_rfl) (by kernel_rfl) (by kernel_rfl) (fun _ _ _ h=>h) (Or.inl ⟨by rfl,?_⟩) (by assumption) ?_
  rotate_left
  · intro w hSw
    go_simp
    try with_reducible rfl
  try go_frame
  refine wpAnyH_take (i:=1) (oi:=_) (v:=_) rfl (by kernel_rfl) (by kernel_rfl) (by kernel_rfl) (fun _ _ _ h=>h) (yieldsIf_load_mid (by rfl) 41 _ rfl W3.heap.size 0 rfl V _ (fun w h=>h.1) Tryz.underlying41 rfl (by rw [onVtg_size,hl.out])) (by assumption) ?_
  try go_frame
  refine wpAnyH_take (i:=2) (oi:=_) (v:=?_) rfl (by kernel_rfl) (by kernel_rfl) (by kernel_rfl) (fun _ _ _ h=>h) (Or.inl ⟨by rfl,?_⟩) (by assumption) ?_
  rotate_left
  · intro w hSw
    go_simp
    try with_reducible rfl
  try go_frame
  refine wpAnyH_ready (rs:=[3]) (by kernel_rfl) (by simp) ?_
  refine AllReadyH.cons (o:=_) rfl (fun K hK=>?_) AllReadyH.nil
  rw [if_pos (by rfl)]
  refine wp_store_one _ _ _ rfl W1.heap.size 0 (.int .i64 4) rfl rfl (World.there.sub hHeld.2 0 1 (by omega)) rfl rfl rfl ?_
  intro W6 hW6
  have HK7':=Lib.hid (HK7.out.drew.far hW6 (by have:=HS1.out;have:=HS2.out;have:=HS3.out;omega));have HK6e:=Lib.hid (HK6d.out.drew.putK hW6);have HK4e:=Lib.hid (HK4d.out.drew.far hW6 (by have:=HS1.out;have:=HS2.out;have:=HS3.out;omega));have HBE6:=Lib.hid (HBE5.out.trans (hW6.drew.below (by have:=HS1.out;have:=HS2.out;have:=HS3.out;omega)));have HS6:Hid (W6.heap.size=W5.heap.size):=hW6.sz
  clear hW6 HK7 HK6d HK4d HBE5
  refine hK.out _ _ ⟨HK7'.out.rg,HK6e.out.nm65 zLens⟩ (fun hHeld=>?_)
  clear hK K
  try go_frame
  refine wpAnyH_take (i:=4) (oi:=_) (v:=?_) rfl (by kernel_rfl) (by kernel_rfl) (by kernel_rfl) (fun _ _ _ h=>h) (Or.inl ⟨by rfl,?_⟩) (by assumption) ?_
  rotate_left
  · intro w hSw
    go_simp
    try with_reducible rfl
  try go_frame
  refine wpAnyH_ready (rs:=[5]) (by kernel_rfl) (by simp) ?_
  refine AllReadyH.cons (o:=_) rfl (fun K hK=>?_) AllReadyH.nil
  rw [if_pos (by rfl)]
  refine wp_store_in _ _ _ rfl W1.heap.size 53 V.toArray rfl rfl (HK6e.out.there 53 _ (by rw [List.size_toArray,hl.out,nmL_len zLens];omega)) (by rw [onVtg_size,List.size_toArray,hl.out]) (Ones.arr ho.out) ?_
  intro W7 hW7
  have HK6f:Hid (Blk W7 W1.heap.size (nmL 4 t zGga zRmc zGsa V zGsv)):=HK6e.out.putV hW7 zLens hl.out;have HK4f:=Lib.hid (HK4e.out.far hW7 (by have:=HS1.out;omega));have HK7'':=Lib.hid (HK7'.out.far hW7 (by have:=HS1.out;have:=HS2.out;have:=HS3.out;omega));have HBE7:=Lib.hid (HBE6.out.trans (hW7.below (by have:=HS1.out;have:=HS2.out;have:=HS3.out;omega)));have HS7:=Lib.hid hW7.sz
  clear hW7 HK6e HK4e HBE6 HK7'
  refine hK.out _ _ ⟨HK7''.out.rg,HK6f.out.nm65 (zLens.withV hl.out)⟩ (fun hHeld=>?_)
  clear hK K
  try go_frame
  refine wpAnyH_done (by kernel_rfl) ?_ _
  clear hS0 hHeld
  clear HK7'' HS1 HS2 HS3 HS4 HS5 HS6 HS7
  go_wp2_with (first
    | refine wpList_load_mid rfl 46 _ rfl W1.heap.size 0 rfl (nmL 4 t zGga zRmc zGsa V zGsv) _ HK6f.out.rg Tryz.underlying46 rfl (nm_sizeL (zLens.withV hl.out)) ?_
    | (refine wpList_store_in rfl _ _ _ rfl w.heap.size 0 (nmL 4 t zGga zRmc zGsa V zGsv).toArray rfl rfl (HK4f.out.thereA (nmL_same (zLens.withV hl.out) zLens)) (nm_sizeL (zLens.withV hl.out)) (Ones.arr (nmL_ones zones.1 zones.2.1 zones.2.2.1 ho.out zones.2.2.2.2)) ?_;intro W8 hW8;have HK:Hid (Blk W8 w.heap.size (nmL 4 t zGga zRmc zGsa V zGsv)):=HK4f.out.all hW8 (nmL_same (zLens.withV hl.out) zLens);have HBE8:=Lib.hid (HBE7.out.trans (hW8.below (Nat.le_refl _)));clear hW8))
  have HLD:=Lib.hid (run_loadVar_mid (P:=Tryz.prog) W8 w.heap.size 0 46 (nmL 4 t zGga zRmc zGsa V zGsv) _ HK.out.rg Tryz.underlying46 rfl (nm_sizeL (zLens.withV hl.out)))
  clear HK
  refine bodyPost_ret (v:=.tuple #[.agg (nmL 4 t zGga zRmc zGsa V zGsv).toArray,.string ⟨#[86,84,71]⟩]) (by rw [results_cell_tmp rfl];simp [asAddr,Result.andThen,HLD.out]) rfl ?_
  exact⟨rfl,HBE8.out⟩
set_option maxRecDepth 8000 in
set_option maxHeartbeats 4000000 in
theorem nmwith_5 {t:ByteArray} (w:World) {T N S:Int} {A:Option Addr} {c:Nat} {D:List V4} (hs:FlatQ (fun b=>b < w.heap.size) w A (vsC D)) (hm:D.length≤1000000):Calls Tryz.prog 24 #[.string t,.iface 103 (.agg ([.int .i64 T,.int .i64 N,.int .i64 S,.slice A D.length c]:List Value).toArray)] w fun e w'=>∃ B d,e=.returned (.tuple #[.agg (nmL 5 t zGga zRmc zGsa zVtg ([.int .i64 T,.int .i64 N,.int .i64 S,.slice B D.length d])).toArray,.string ⟨#[71,83,86]⟩])∧FlatQ (fun b=>w.heap.size≤b∧b < w'.heap.size) w' B (vsC D)∧Below w.heap.size w w':=by
  obtain⟨Up,hG⟩:∃ L,([.int .i64 T,.int .i64 N,.int .i64 S,.slice A D.length c]:List Value)=L:=⟨_,rfl⟩
  have hl:Hid (Up.length=4):=by rw [← hG];exact rfl
  have ho:Hid (Ones Up):=by rw [← hG];exact Ones.of rfl
  have HG:=Lib.hid hG
  obtain⟨n,hn⟩:∃ n,D.length=n:=⟨_,rfl⟩
  have HN:=Lib.hid hn
  have HHS:=Lib.hid hs
  have HHM:=Lib.hid hm
  rw [hG]
  clear hG hs hm hn
  have HA0:=fun W=>Lib.hid (assert_Gsv_Gga Up W)
  have HA1:=fun W=>Lib.hid (assert_Gsv_Rmc Up W)
  have HA2:=fun W=>Lib.hid (assert_Gsv_Gsa Up W)
  have HA3:=fun W=>Lib.hid (assert_Gsv_Vtg Up W)
  have HA4:=fun W=>Lib.hid (assert_Gsv_Gsv Up W)
  have HZ:=fun W=>Lib.hid (zero_onGsv W)
  have HZN:=fun W=>Lib.hid (zero_Nm W)
  have HBN:=fun W=>Lib.hid (build_Nm t W)
  go_enter Tryz.func24,Tryz.ntmps24
  go_upto_region 1 with (refine wpList_alloc_new rfl _ rfl zNm (HZN _).out ?_;intro W1 hW1;have HK4:=Lib.hid (Blk.newL (L:=nmL 0 ByteArray.empty zGga zRmc zGsa zVtg zGsv) hW1 rfl);have HBE1:=Lib.hid hW1.bel;have HS1:=Lib.hid hW1.sz;clear hW1)
  go_upto_region 2 with (first
    | refine wpList_build1 (u:=.string t) rfl _ 1 _ rfl rfl (HBN _).out ?_
    | (refine wpList_alloc_new rfl _ rfl zNm (HZN _).out ?_;intro W2 hW2;have HK6a:=Lib.hid (Blk.newL (L:=nmL 0 ByteArray.empty zGga zRmc zGsa zVtg zGsv) hW2 rfl);have HK4a:=Lib.hid (HK4.out.grew hW2);have HBE2:=Lib.hid (bthen HBE1.out hW2.bel);have HS2:=Lib.hid hW2.sz;clear hW2 HBE1)
    | (refine wpList_store_in rfl _ _ _ rfl W1.heap.size 0 (nmL 0 t zGga zRmc zGsa zVtg zGsv).toArray rfl rfl (HK6a.out.thereA (nmL_same zLens zLens)) (nm_sizeL zLens) (Ones.arr (nmL_ones zones.1 zones.2.1 zones.2.2.1 zones.2.2.2.1 zones.2.2.2.2)) ?_;intro W3 hW3;have HK6:Hid (Blk W3 W1.heap.size (nmL 0 t zGga zRmc zGsa zVtg zGsv)):=(HK6a.out.all hW3 (nmL_same zLens zLens));have HK4b:=Lib.hid (HK4a.out.far hW3 (by have:=HS1.out;omega));have HBE3:=Lib.hid (HBE2.out.trans (hW3.below (by have:=HS1.out;omega)));have HS3:=Lib.hid hW3.sz;clear hW3 HK6a HK4 HK4a HBE2))
  go_upto_region 22 with (first
    | refine wpList_assert rfl _ _ _ _ rfl rfl (HA0 _).out ?_
    | refine wpList_assert rfl _ _ _ _ rfl rfl (HA1 _).out ?_
    | refine wpList_assert rfl _ _ _ _ rfl rfl (HA2 _).out ?_
    | refine wpList_assert rfl _ _ _ _ rfl rfl (HA3 _).out ?_
    | refine wpList_assert rfl _ _ _ _ rfl rfl (HA4 _).out ?_
    | (refine wpList_alloc_new rfl _ rfl zGsv.toArray (HZ _).out ?_;intro W4 hW4;have HK7a:=Lib.hid (Blk.newL (L:=zGsv) hW4 rfl);have HK4c:=Lib.hid (HK4b.out.grew hW4);have HK6c:=Lib.hid (HK6.out.grew hW4);have HBE4:=Lib.hid (bthen HBE3.out hW4.bel);have HS4:=Lib.hid hW4.sz;clear hW4 HBE3 HK4b HK6)
    | (refine wpList_store_in rfl _ _ _ rfl W3.heap.size 0 Up.toArray rfl rfl (HK7a.out.thereA hl.out) (by rw [size_onGsv,List.size_toArray,hl.out]) (Ones.arr ho.out) ?_;intro W5 hW5;have HK7:Hid (Blk W5 W3.heap.size Up):=HK7a.out.all hW5 hl.out;have HK6d:=Lib.hid (HK6c.out.far hW5 (by have:=HS1.out;have:=HS2.out;have:=HS3.out;omega));have HK4d:=Lib.hid (HK4c.out.far hW5 (by have:=HS1.out;have:=HS2.out;have:=HS3.out;omega));have HBE5:=Lib.hid (HBE4.out.trans (hW5.below (by have:=HS1.out;have:=HS2.out;have:=HS3.out;omega)));have HS5:=Lib.hid hW5.sz;clear hW5 HK7a HK6c HK4c HBE4))
  try go_frame
  clear HA0
  clear HA1
  clear HA2
  clear HA3
  clear HA4
  clear HZ HZN HBN
  have hS0:W5.drew.rangeAt W3.heap.size 0 Up∧W5.drew.there W1.heap.size 0 65:=⟨HK7.out.drew.rg,HK6d.out.drew.nm65 zLens⟩
  refine wp_region_held_drew (S:=fun w'=>w'.rangeAt W3.heap.size 0 Up∧w'.there W1.heap.size 0 65) (by kernel_rfl) hS0 (fun hHeld=>?_)
  refine wpAnyH_take (i:=0) (oi:=_) (v:=?_) rfl (by kernel_rfl) (by kernel_rfl) (by kernel_rfl) (fun _ _ _ h=>h) (Or.inl ⟨by rfl,?_⟩) (by assumption) ?_
  rotate_left
  · intro w hSw
    go_simp
    try with_reducible rfl
  try go_frame
  refine wpAnyH_take (i:=1) (oi:=_) (v:=_) rfl (by kernel_rfl) (by kernel_rfl) (by kernel_rfl) (fun _ _ _ h=>h) (yieldsIf_load_mid (by rfl) 44 _ rfl W3.heap.size 0 rfl Up _ (fun w h=>h.1) Tryz.underlying44 rfl (by rw [onGsv_size,hl.out])) (by assumption) ?_
  try go_frame
  refine wpAnyH_take (i:=2) (oi:=_) (v:=?_) rfl (by kernel_rfl) (by kernel_rfl) (by kernel_rfl) (fun _ _ _ h=>h) (Or.inl ⟨by rfl,?_⟩) (by assumption) ?_
  rotate_left
  · intro w hSw
    go_simp
    try with_reducible rfl
  try go_frame
  refine wpAnyH_ready (rs:=[3]) (by kernel_rfl) (by simp) ?_
  refine AllReadyH.cons (o:=_) rfl (fun K hK=>?_) AllReadyH.nil
  rw [if_pos (by rfl)]
  refine wp_store_one _ _ _ rfl W1.heap.size 0 (.int .i64 5) rfl rfl (World.there.sub hHeld.2 0 1 (by omega)) rfl rfl rfl ?_
  intro W6 hW6
  have HK7':=Lib.hid (HK7.out.drew.far hW6 (by have:=HS1.out;have:=HS2.out;have:=HS3.out;omega));have HK6e:=Lib.hid (HK6d.out.drew.putK hW6);have HK4e:=Lib.hid (HK4d.out.drew.far hW6 (by have:=HS1.out;have:=HS2.out;have:=HS3.out;omega));have HBE6:=Lib.hid (HBE5.out.trans (hW6.drew.below (by have:=HS1.out;have:=HS2.out;have:=HS3.out;omega)));have HS6:Hid (W6.heap.size=W5.heap.size):=hW6.sz
  clear hW6 HK7 HK6d HK4d HBE5
  refine hK.out _ _ ⟨HK7'.out.rg,HK6e.out.nm65 zLens⟩ (fun hHeld=>?_)
  clear hK K
  try go_frame
  refine wpAnyH_take (i:=4) (oi:=_) (v:=?_) rfl (by kernel_rfl) (by kernel_rfl) (by kernel_rfl) (fun _ _ _ h=>h) (Or.inl ⟨by rfl,?_⟩) (by assumption) ?_
  rotate_left
  · intro w hSw
    go_simp
    try with_reducible rfl
  try go_frame
  refine wpAnyH_ready (rs:=[5]) (by kernel_rfl) (by simp) ?_
  refine AllReadyH.cons (o:=_) rfl (fun K hK=>?_) AllReadyH.nil
  rw [if_pos (by rfl)]
  refine wp_store_in _ _ _ rfl W1.heap.size 61 Up.toArray rfl rfl (HK6e.out.there 61 _ (by rw [List.size_toArray,hl.out,nmL_len zLens];omega)) (by rw [onGsv_size,List.size_toArray,hl.out]) (Ones.arr ho.out) ?_
  intro W7 hW7
  have HK6f:Hid (Blk W7 W1.heap.size (nmL 5 t zGga zRmc zGsa zVtg Up)):=HK6e.out.putU hW7 zLens hl.out;have HK4f:=Lib.hid (HK4e.out.far hW7 (by have:=HS1.out;omega));have HK7'':=Lib.hid (HK7'.out.far hW7 (by have:=HS1.out;have:=HS2.out;have:=HS3.out;omega));have HBE7:=Lib.hid (HBE6.out.trans (hW7.below (by have:=HS1.out;have:=HS2.out;have:=HS3.out;omega)));have HS7:=Lib.hid hW7.sz
  clear hW7 HK6e HK4e HBE6 HK7'
  refine hK.out _ _ ⟨HK7''.out.rg,HK6f.out.nm65 (zLens.withU hl.out)⟩ (fun hHeld=>?_)
  clear hK K
  try go_frame
  refine wpAnyH_done (by kernel_rfl) ?_ _
  clear hS0 hHeld
  have HX:Hid (Blk W7 W3.heap.size ([.int .i64 T,.int .i64 N,.int .i64 S,.slice A n c])):=by have h:=HK7''.out;rw [← HG.out,HN.out] at h;exact h
  have hC:=CloneV_all A D c W7 (HHS.out.below HBE7.out (fun b h=>h)) HHM.out
  rw [HN.out] at hC
  have HC:=Lib.hid hC
  have g0:W7.cell? ⟨W3.heap.size,3,none⟩=some (.slice A n c):=HX.out.cell 3 rfl
  clear hC
  go_wp2_with fail
  refine HC.out.mono ?_
  rintro e W9 ⟨Bq,d,rfl,hf,hb⟩
  have HF9:=Lib.hid hf
  have HK6g:=Lib.hid (HK6f.out.on hb);have HK4g:=Lib.hid (HK4f.out.on hb);have HBE9:=Lib.hid (bthen HBE7.out hb);have HB9:=Lib.hid hb
  clear hf hb g0 HK6f HK4f HK7'' HX HC
  go_upto_region 24 with (refine wpList_store_one rfl _ _ _ rfl W1.heap.size 64 (.slice Bq n d) rfl rfl (HK6g.out.there 64 1 (by rw [nmL_len (zLens.withU hl.out)];omega)) rfl rfl rfl ?_;intro WA hWA;have HFA:=Lib.hid (flat_far HF9.out hWA (by have:=HS1.out;have:=HS2.out;have:=HS3.out;have:=HS4.out;have:=HS5.out;have:=HS6.out;have:=HS7.out;omega));have HZA:Hid (WA.heap.size=W9.heap.size∧w.heap.size < W7.heap.size):=⟨hWA.sz,by have:=HS1.out;have:=HS2.out;have:=HS3.out;have:=HS4.out;have:=HS5.out;have:=HS6.out;have:=HS7.out;omega⟩;have HK6h:Hid (Blk WA W1.heap.size (nmL 5 t zGga zRmc zGsa zVtg ([.int .i64 T,.int .i64 N,.int .i64 S,.slice Bq n d]))):=nmslice_Gsv HK6g.out hWA HG.out;have HK4h:=Lib.hid (HK4g.out.far hWA (by have:=HS1.out;omega));have HBE7:=Lib.hid (HBE9.out.trans (hWA.below (by have:=HS1.out;omega)));clear hWA HK6g HK4g HBE9)
  clear HS2 HS3 HS4 HS5 HS6 HS7 HF9 HB9
  try go_frame
  go_wp2_with (first
    | refine wpList_load_mid rfl 46 _ rfl W1.heap.size 0 rfl (nmL 5 t zGga zRmc zGsa zVtg ([.int .i64 T,.int .i64 N,.int .i64 S,.slice Bq n d])) _ HK6h.out.rg Tryz.underlying46 rfl (nm_sizeL (zLens.withU rfl)) ?_
    | (refine wpList_store_in rfl _ _ _ rfl w.heap.size 0 (nmL 5 t zGga zRmc zGsa zVtg ([.int .i64 T,.int .i64 N,.int .i64 S,.slice Bq n d])).toArray rfl rfl (HK4h.out.thereA (nmL_same (zLens.withU rfl) zLens)) (nm_sizeL (zLens.withU rfl)) (Ones.arr (nmL_ones zones.1 zones.2.1 zones.2.2.1 zones.2.2.2.1 (Ones.of rfl))) ?_;intro W8 hW8;have HK:Hid (Blk W8 w.heap.size (nmL 5 t zGga zRmc zGsa zVtg ([.int .i64 T,.int .i64 N,.int .i64 S,.slice Bq n d]))):=HK4h.out.all hW8 (nmL_same (zLens.withU rfl) zLens);have HBE8:=Lib.hid (HBE7.out.trans (hW8.below (Nat.le_refl _)));have HFB:=Lib.hid (flat_far HFA.out hW8 HZA.out.2);have HZB:Hid (W8.heap.size=W9.heap.size):=hW8.sz.trans HZA.out.1;clear hW8 HFA))
  have HLD:=Lib.hid (run_loadVar_mid (P:=Tryz.prog) W8 w.heap.size 0 46 (nmL 5 t zGga zRmc zGsa zVtg ([.int .i64 T,.int .i64 N,.int .i64 S,.slice Bq n d])) _ HK.out.rg Tryz.underlying46 rfl (nm_sizeL (zLens.withU rfl)))
  clear HK
  refine bodyPost_ret (v:=.tuple #[.agg (nmL 5 t zGga zRmc zGsa zVtg ([.int .i64 T,.int .i64 N,.int .i64 S,.slice Bq n d])).toArray,.string ⟨#[71,83,86]⟩]) (by rw [results_cell_tmp rfl];simp [asAddr,Result.andThen,HLD.out]) rfl ?_
  exact⟨Bq,d,by rw [HN.out],HFB.out.less (fun b hb=>⟨by have:=HZA.out.2;omega,by have:=HZB.out;omega⟩),HBE8.out⟩
set_option maxRecDepth 8000 in
set_option maxHeartbeats 4000000 in
theorem nmwith_no {t:ByteArray} (w:World):Calls Tryz.prog 24 #[.string t,.nilIface] w fun e w'=>e=.returned (.tuple #[.agg (nmL 0 t zGga zRmc zGsa zVtg zGsv).toArray,.string ⟨#[]⟩])∧Below w.heap.size w w':=by
  have HA0:=fun W=>Lib.hid (assert_nil_Gga W)
  have HA1:=fun W=>Lib.hid (assert_nil_Rmc W)
  have HA2:=fun W=>Lib.hid (assert_nil_Gsa W)
  have HA3:=fun W=>Lib.hid (assert_nil_Vtg W)
  have HA4:=fun W=>Lib.hid (assert_nil_Gsv W)
  have HZN:=fun W=>Lib.hid (zero_Nm W)
  have HBN:=fun W=>Lib.hid (build_Nm t W)
  go_enter Tryz.func24,Tryz.ntmps24
  go_upto_region 1 with (refine wpList_alloc_new rfl _ rfl zNm (HZN _).out ?_;intro W1 hW1;have HK4:=Lib.hid (Blk.newL (L:=nmL 0 ByteArray.empty zGga zRmc zGsa zVtg zGsv) hW1 rfl);have HBE1:=Lib.hid hW1.bel;have HS1:=Lib.hid hW1.sz;clear hW1)
  go_upto_region 2 with (first
    | refine wpList_build1 (u:=.string t) rfl _ 1 _ rfl rfl (HBN _).out ?_
    | (refine wpList_alloc_new rfl _ rfl zNm (HZN _).out ?_;intro W2 hW2;have HK6a:=Lib.hid (Blk.newL (L:=nmL 0 ByteArray.empty zGga zRmc zGsa zVtg zGsv) hW2 rfl);have HK4a:=Lib.hid (HK4.out.grew hW2);have HBE2:=Lib.hid (bthen HBE1.out hW2.bel);have HS2:=Lib.hid hW2.sz;clear hW2 HBE1)
    | (refine wpList_store_in rfl _ _ _ rfl W1.heap.size 0 (nmL 0 t zGga zRmc zGsa zVtg zGsv).toArray rfl rfl (HK6a.out.thereA (nmL_same zLens zLens)) (nm_sizeL zLens) (Ones.arr (nmL_ones zones.1 zones.2.1 zones.2.2.1 zones.2.2.2.1 zones.2.2.2.2)) ?_;intro W3 hW3;have HK6:Hid (Blk W3 W1.heap.size (nmL 0 t zGga zRmc zGsa zVtg zGsv)):=(HK6a.out.all hW3 (nmL_same zLens zLens));have HK4b:=Lib.hid (HK4a.out.far hW3 (by have:=HS1.out;omega));have HBE3:=Lib.hid (HBE2.out.trans (hW3.below (by have:=HS1.out;omega)));have HS3:=Lib.hid hW3.sz;clear hW3 HK6a HK4 HK4a HBE2))
  go_upto_region 25 with (first
    | refine wpList_assert rfl _ _ _ _ rfl rfl (HA0 _).out ?_
    | refine wpList_assert rfl _ _ _ _ rfl rfl (HA1 _).out ?_
    | refine wpList_assert rfl _ _ _ _ rfl rfl (HA2 _).out ?_
    | refine wpList_assert rfl _ _ _ _ rfl rfl (HA3 _).out ?_
    | refine wpList_assert rfl _ _ _ _ rfl rfl (HA4 _).out ?_)
  try go_frame
  go_wp2_with (first
    | refine wpList_load_mid rfl 46 _ rfl W1.heap.size 0 rfl (nmL 0 t zGga zRmc zGsa zVtg zGsv) _ HK6.out.rg Tryz.underlying46 rfl (nm_sizeL zLens) ?_
    | (refine wpList_store_in rfl _ _ _ rfl w.heap.size 0 (nmL 0 t zGga zRmc zGsa zVtg zGsv).toArray rfl rfl (HK4b.out.thereA (nmL_same zLens zLens)) (nm_sizeL zLens) (Ones.arr (nmL_ones zones.1 zones.2.1 zones.2.2.1 zones.2.2.2.1 zones.2.2.2.2)) ?_;intro W8 hW8;have HK:Hid (Blk W8 w.heap.size (nmL 0 t zGga zRmc zGsa zVtg zGsv)):=HK4b.out.all hW8 (nmL_same zLens zLens);have HBE8:=Lib.hid (HBE3.out.trans (hW8.below (Nat.le_refl _)));clear hW8))
  have HLD:=Lib.hid (run_loadVar_mid (P:=Tryz.prog) W8 w.heap.size 0 46 (nmL 0 t zGga zRmc zGsa zVtg zGsv) _ HK.out.rg Tryz.underlying46 rfl (nm_sizeL zLens))
  clear HK
  refine bodyPost_ret (v:=.tuple #[.agg (nmL 0 t zGga zRmc zGsa zVtg zGsv).toArray,.string ⟨#[]⟩]) (by rw [results_cell_tmp rfl];simp [asAddr,Result.andThen,HLD.out]) rfl ?_
  exact⟨rfl,HBE8.out⟩
end Go.Proofs.YtoabkoniegmkaaaGreat
