/- Layer 30: with. Printed by gennm2.py. -/
import Derived.Test.YtoabkoniegmkaaaGreatJ00
import Derived.Test.YtoabkoniegmkaaaGreatJ12
import Derived.Test.YtoabkoniegmkaaaGreatJ13
import Derived.Deep.DeepCutAuto
import Derived.Deep.CutBlock
import Derived.Maps.RangeWalk
namespace Go.Proofs.YtoabkoniegmkaaaGreat
set_option linter.unusedVariables false
open Go.RowKit
theorem flat_far {w W:World} {b' o m M:Nat} {cs:List Value} {A:Option Addr} {xs:List Value} (h:FlatQ (fun b=>m≤b∧b < M) w A xs) (hs:Stored w W b' o cs) (hb:b' < m):FlatQ (fun b=>m≤b∧b < M) W A xs:=
  h.keep fun b hq=>hs.far b (by omega)
theorem nmslice_Gsa {w W:World} {b:Nat} {t:ByteArray} {Sp:List Value} {a:Bool} {f:Int} {b0:Bool} {n0:Int} {b1:Bool} {n1:Int} {b2:Bool} {n2:Int} {x y:Value} (h:Blk w b (nmL 3 t zGga zRmc Sp zVtg zGsv)) (hs:Stored w W b 46 [y]) (e:[.bool a,.int .i64 f,x,.bool b0,.int .i64 n0,.bool b1,.int .i64 n1,.bool b2,.int .i64 n2]=Sp):Blk W b (nmL 3 t zGga zRmc [.bool a,.int .i64 f,y,.bool b0,.int .i64 n0,.bool b1,.int .i64 n1,.bool b2,.int .i64 n2] zVtg zGsv):=by
  subst e
  exact Blk.put (A:=.int .i64 3 :: .string t :: (zGga++(zRmc++[.bool a,.int .i64 f]))) (M:=[x]) (D:=[.bool b0,.int .i64 n0,.bool b1,.int .i64 n1,.bool b2,.int .i64 n2]++(zVtg++zGsv)) h hs rfl rfl
theorem nmslice_Gsv {w W:World} {b:Nat} {t:ByteArray} {Up:List Value} {T N S:Int} {x y:Value} (h:Blk w b (nmL 5 t zGga zRmc zGsa zVtg Up)) (hs:Stored w W b 64 [y]) (e:[.int .i64 T,.int .i64 N,.int .i64 S,x]=Up):Blk W b (nmL 5 t zGga zRmc zGsa zVtg [.int .i64 T,.int .i64 N,.int .i64 S,y]):=by
  subst e
  exact Blk.put (A:=.int .i64 5 :: .string t :: (zGga++(zRmc++(zGsa++(zVtg++[.int .i64 T,.int .i64 N,.int .i64 S]))))) (M:=[x]) (D:=[]) h hs rfl rfl
set_option maxRecDepth 8000 in
set_option maxHeartbeats 4000000 in
theorem nmwith_1 {t:ByteArray} {G:List Value} (hl:Hid (G.length=22)) (ho:Hid (Ones G)) (w:World):Calls Tryz.prog 24 #[.string t,.iface 95 (.agg G.toArray)] w fun e w'=>e=.returned (.tuple #[.agg (nmL 1 t G zRmc zGsa zVtg zGsv).toArray,.string ⟨#[71,71,65]⟩])∧Below w.heap.size w w':=by
  have HA0:=fun W=>Lib.hid (assert_Gga_Gga G W)
  have HZ:=fun W=>Lib.hid (zero_onGga W)
  have HZN:=fun W=>Lib.hid (zero_Nm W)
  have HBN:=fun W=>Lib.hid (build_Nm t W)
  go_enter Tryz.func24,Tryz.ntmps24
  go_upto_region 1 with (refine wpList_alloc_new rfl _ rfl zNm (HZN _).out ?_;intro W1 hW1;have HK4:=Lib.hid (Blk.newL (L:=nmL 0 ByteArray.empty zGga zRmc zGsa zVtg zGsv) hW1 rfl);have HBE1:=Lib.hid hW1.bel;have HS1:=Lib.hid hW1.sz;clear hW1)
  go_upto_region 2 with (first
    | refine wpList_build1 (u:=.string t) rfl _ 1 _ rfl rfl (HBN _).out ?_
    | (refine wpList_alloc_new rfl _ rfl zNm (HZN _).out ?_;intro W2 hW2;have HK6a:=Lib.hid (Blk.newL (L:=nmL 0 ByteArray.empty zGga zRmc zGsa zVtg zGsv) hW2 rfl);have HK4a:=Lib.hid (HK4.out.grew hW2);have HBE2:=Lib.hid (bthen HBE1.out hW2.bel);have HS2:=Lib.hid hW2.sz;clear hW2 HBE1)
    | (refine wpList_store_in rfl _ _ _ rfl W1.heap.size 0 (nmL 0 t zGga zRmc zGsa zVtg zGsv).toArray rfl rfl (HK6a.out.thereA (nmL_same zLens zLens)) (nm_sizeL zLens) (Ones.arr (nmL_ones zones.1 zones.2.1 zones.2.2.1 zones.2.2.2.1 zones.2.2.2.2)) ?_;intro W3 hW3;have HK6:Hid (Blk W3 W1.heap.size (nmL 0 t zGga zRmc zGsa zVtg zGsv)):=(HK6a.out.all hW3 (nmL_same zLens zLens));have HK4b:=Lib.hid (HK4a.out.far hW3 (by have:=HS1.out;omega));have HBE3:=Lib.hid (HBE2.out.trans (hW3.below (by have:=HS1.out;omega)));have HS3:=Lib.hid hW3.sz;clear hW3 HK6a HK4 HK4a HBE2))
  go_upto_region 5 with (first
    | refine wpList_assert rfl _ _ _ _ rfl rfl (HA0 _).out ?_
    | (refine wpList_alloc_new rfl _ rfl zGga.toArray (HZ _).out ?_;intro W4 hW4;have HK7a:=Lib.hid (Blk.newL (L:=zGga) hW4 rfl);have HK4c:=Lib.hid (HK4b.out.grew hW4);have HK6c:=Lib.hid (HK6.out.grew hW4);have HBE4:=Lib.hid (bthen HBE3.out hW4.bel);have HS4:=Lib.hid hW4.sz;clear hW4 HBE3 HK4b HK6)
    | (refine wpList_store_in rfl _ _ _ rfl W3.heap.size 0 G.toArray rfl rfl (HK7a.out.thereA hl.out) (by rw [size_onGga,List.size_toArray,hl.out]) (Ones.arr ho.out) ?_;intro W5 hW5;have HK7:Hid (Blk W5 W3.heap.size G):=HK7a.out.all hW5 hl.out;have HK6d:=Lib.hid (HK6c.out.far hW5 (by have:=HS1.out;have:=HS2.out;have:=HS3.out;omega));have HK4d:=Lib.hid (HK4c.out.far hW5 (by have:=HS1.out;have:=HS2.out;have:=HS3.out;omega));have HBE5:=Lib.hid (HBE4.out.trans (hW5.below (by have:=HS1.out;have:=HS2.out;have:=HS3.out;omega)));have HS5:=Lib.hid hW5.sz;clear hW5 HK7a HK6c HK4c HBE4))
  try go_frame
  clear HA0
  clear HZ HZN HBN
  have hS0:W5.drew.rangeAt W3.heap.size 0 G∧W5.drew.there W1.heap.size 0 65:=⟨HK7.out.drew.rg,HK6d.out.drew.nm65 zLens⟩
  refine wp_region_held_drew (S:=fun w'=>w'.rangeAt W3.heap.size 0 G∧w'.there W1.heap.size 0 65) (by kernel_rfl) hS0 (fun hHeld=>?_)
  refine wpAnyH_take (i:=0) (oi:=_) (v:=?_) rfl (by kernel_rfl) (by kernel_rfl) (by kernel_rfl) (fun _ _ _ h=>h) (Or.inl ⟨by rfl,?_⟩) (by assumption) ?_
  rotate_left
  · intro w hSw
    go_simp
    try with_reducible rfl
  try go_frame
  refine wpAnyH_take (i:=1) (oi:=_) (v:=_) rfl (by kernel_rfl) (by kernel_rfl) (by kernel_rfl) (fun _ _ _ h=>h) (yieldsIf_load_mid (by rfl) 32 _ rfl W3.heap.size 0 rfl G _ (fun w h=>h.1) Tryz.underlying32 rfl (by rw [onGga_size,hl.out])) (by assumption) ?_
  try go_frame
  refine wpAnyH_take (i:=2) (oi:=_) (v:=?_) rfl (by kernel_rfl) (by kernel_rfl) (by kernel_rfl) (fun _ _ _ h=>h) (Or.inl ⟨by rfl,?_⟩) (by assumption) ?_
  rotate_left
  · intro w hSw
    go_simp
    try with_reducible rfl
  try go_frame
  refine wpAnyH_ready (rs:=[3]) (by kernel_rfl) (by simp) ?_
  refine AllReadyH.cons (o:=_) rfl (fun K hK=>?_) AllReadyH.nil
  rw [if_pos (by rfl)]
  refine wp_store_one _ _ _ rfl W1.heap.size 0 (.int .i64 1) rfl rfl (World.there.sub hHeld.2 0 1 (by omega)) rfl rfl rfl ?_
  intro W6 hW6
  have HK7':=Lib.hid (HK7.out.drew.far hW6 (by have:=HS1.out;have:=HS2.out;have:=HS3.out;omega));have HK6e:=Lib.hid (HK6d.out.drew.putK hW6);have HK4e:=Lib.hid (HK4d.out.drew.far hW6 (by have:=HS1.out;have:=HS2.out;have:=HS3.out;omega));have HBE6:=Lib.hid (HBE5.out.trans (hW6.drew.below (by have:=HS1.out;have:=HS2.out;have:=HS3.out;omega)));have HS6:Hid (W6.heap.size=W5.heap.size):=hW6.sz
  clear hW6 HK7 HK6d HK4d HBE5
  refine hK.out _ _ ⟨HK7'.out.rg,HK6e.out.nm65 zLens⟩ (fun hHeld=>?_)
  clear hK K
  try go_frame
  refine wpAnyH_take (i:=4) (oi:=_) (v:=?_) rfl (by kernel_rfl) (by kernel_rfl) (by kernel_rfl) (fun _ _ _ h=>h) (Or.inl ⟨by rfl,?_⟩) (by assumption) ?_
  rotate_left
  · intro w hSw
    go_simp
    try with_reducible rfl
  try go_frame
  refine wpAnyH_ready (rs:=[5]) (by kernel_rfl) (by simp) ?_
  refine AllReadyH.cons (o:=_) rfl (fun K hK=>?_) AllReadyH.nil
  rw [if_pos (by rfl)]
  refine wp_store_in _ _ _ rfl W1.heap.size 2 G.toArray rfl rfl (HK6e.out.there 2 _ (by rw [List.size_toArray,hl.out,nmL_len zLens];omega)) (by rw [onGga_size,List.size_toArray,hl.out]) (Ones.arr ho.out) ?_
  intro W7 hW7
  have HK6f:Hid (Blk W7 W1.heap.size (nmL 1 t G zRmc zGsa zVtg zGsv)):=HK6e.out.putG hW7 zLens hl.out;have HK4f:=Lib.hid (HK4e.out.far hW7 (by have:=HS1.out;omega));have HK7'':=Lib.hid (HK7'.out.far hW7 (by have:=HS1.out;have:=HS2.out;have:=HS3.out;omega));have HBE7:=Lib.hid (HBE6.out.trans (hW7.below (by have:=HS1.out;have:=HS2.out;have:=HS3.out;omega)));have HS7:=Lib.hid hW7.sz
  clear hW7 HK6e HK4e HBE6 HK7'
  refine hK.out _ _ ⟨HK7''.out.rg,HK6f.out.nm65 (zLens.withG hl.out)⟩ (fun hHeld=>?_)
  clear hK K
  try go_frame
  refine wpAnyH_done (by kernel_rfl) ?_ _
  clear hS0 hHeld
  clear HK7'' HS1 HS2 HS3 HS4 HS5 HS6 HS7
  go_wp2_with (first
    | refine wpList_load_mid rfl 46 _ rfl W1.heap.size 0 rfl (nmL 1 t G zRmc zGsa zVtg zGsv) _ HK6f.out.rg Tryz.underlying46 rfl (nm_sizeL (zLens.withG hl.out)) ?_
    | (refine wpList_store_in rfl _ _ _ rfl w.heap.size 0 (nmL 1 t G zRmc zGsa zVtg zGsv).toArray rfl rfl (HK4f.out.thereA (nmL_same (zLens.withG hl.out) zLens)) (nm_sizeL (zLens.withG hl.out)) (Ones.arr (nmL_ones ho.out zones.2.1 zones.2.2.1 zones.2.2.2.1 zones.2.2.2.2)) ?_;intro W8 hW8;have HK:Hid (Blk W8 w.heap.size (nmL 1 t G zRmc zGsa zVtg zGsv)):=HK4f.out.all hW8 (nmL_same (zLens.withG hl.out) zLens);have HBE8:=Lib.hid (HBE7.out.trans (hW8.below (Nat.le_refl _)));clear hW8))
  have HLD:=Lib.hid (run_loadVar_mid (P:=Tryz.prog) W8 w.heap.size 0 46 (nmL 1 t G zRmc zGsa zVtg zGsv) _ HK.out.rg Tryz.underlying46 rfl (nm_sizeL (zLens.withG hl.out)))
  clear HK
  refine bodyPost_ret (v:=.tuple #[.agg (nmL 1 t G zRmc zGsa zVtg zGsv).toArray,.string ⟨#[71,71,65]⟩]) (by rw [results_cell_tmp rfl];simp [asAddr,Result.andThen,HLD.out]) rfl ?_
  exact⟨rfl,HBE8.out⟩
set_option maxRecDepth 8000 in
set_option maxHeartbeats 4000000 in
theorem nmwith_2 {t:ByteArray} {R:List Value} (hl:Hid (R.length=20)) (ho:Hid (Ones R)) (w:World):Calls Tryz.prog 24 #[.string t,.iface 97 (.agg R.toArray)] w fun e w'=>e=.returned (.tuple #[.agg (nmL 2 t zGga R zGsa zVtg zGsv).toArray,.string ⟨#[82,77,67]⟩])∧Below w.heap.size w w':=by
  have HA0:=fun W=>Lib.hid (assert_Rmc_Gga R W)
  have HA1:=fun W=>Lib.hid (assert_Rmc_Rmc R W)
  have HZ:=fun W=>Lib.hid (zero_onRmc W)
  have HZN:=fun W=>Lib.hid (zero_Nm W)
  have HBN:=fun W=>Lib.hid (build_Nm t W)
  go_enter Tryz.func24,Tryz.ntmps24
  go_upto_region 1 with (refine wpList_alloc_new rfl _ rfl zNm (HZN _).out ?_;intro W1 hW1;have HK4:=Lib.hid (Blk.newL (L:=nmL 0 ByteArray.empty zGga zRmc zGsa zVtg zGsv) hW1 rfl);have HBE1:=Lib.hid hW1.bel;have HS1:=Lib.hid hW1.sz;clear hW1)
  go_upto_region 2 with (first
    | refine wpList_build1 (u:=.string t) rfl _ 1 _ rfl rfl (HBN _).out ?_
    | (refine wpList_alloc_new rfl _ rfl zNm (HZN _).out ?_;intro W2 hW2;have HK6a:=Lib.hid (Blk.newL (L:=nmL 0 ByteArray.empty zGga zRmc zGsa zVtg zGsv) hW2 rfl);have HK4a:=Lib.hid (HK4.out.grew hW2);have HBE2:=Lib.hid (bthen HBE1.out hW2.bel);have HS2:=Lib.hid hW2.sz;clear hW2 HBE1)
    | (refine wpList_store_in rfl _ _ _ rfl W1.heap.size 0 (nmL 0 t zGga zRmc zGsa zVtg zGsv).toArray rfl rfl (HK6a.out.thereA (nmL_same zLens zLens)) (nm_sizeL zLens) (Ones.arr (nmL_ones zones.1 zones.2.1 zones.2.2.1 zones.2.2.2.1 zones.2.2.2.2)) ?_;intro W3 hW3;have HK6:Hid (Blk W3 W1.heap.size (nmL 0 t zGga zRmc zGsa zVtg zGsv)):=(HK6a.out.all hW3 (nmL_same zLens zLens));have HK4b:=Lib.hid (HK4a.out.far hW3 (by have:=HS1.out;omega));have HBE3:=Lib.hid (HBE2.out.trans (hW3.below (by have:=HS1.out;omega)));have HS3:=Lib.hid hW3.sz;clear hW3 HK6a HK4 HK4a HBE2))
  go_upto_region 9 with (first
    | refine wpList_assert rfl _ _ _ _ rfl rfl (HA0 _).out ?_
    | refine wpList_assert rfl _ _ _ _ rfl rfl (HA1 _).out ?_
    | (refine wpList_alloc_new rfl _ rfl zRmc.toArray (HZ _).out ?_;intro W4 hW4;have HK7a:=Lib.hid (Blk.newL (L:=zRmc) hW4 rfl);have HK4c:=Lib.hid (HK4b.out.grew hW4);have HK6c:=Lib.hid (HK6.out.grew hW4);have HBE4:=Lib.hid (bthen HBE3.out hW4.bel);have HS4:=Lib.hid hW4.sz;clear hW4 HBE3 HK4b HK6)
    | (refine wpList_store_in rfl _ _ _ rfl W3.heap.size 0 R.toArray rfl rfl (HK7a.out.thereA hl.out) (by rw [size_onRmc,List.size_toArray,hl.out]) (Ones.arr ho.out) ?_;intro W5 hW5;have HK7:Hid (Blk W5 W3.heap.size R):=HK7a.out.all hW5 hl.out;have HK6d:=Lib.hid (HK6c.out.far hW5 (by have:=HS1.out;have:=HS2.out;have:=HS3.out;omega));have HK4d:=Lib.hid (HK4c.out.far hW5 (by have:=HS1.out;have:=HS2.out;have:=HS3.out;omega));have HBE5:=Lib.hid (HBE4.out.trans (hW5.below (by have:=HS1.out;have:=HS2.out;have:=HS3.out;omega)));have HS5:=Lib.hid hW5.sz;clear hW5 HK7a HK6c HK4c HBE4))
  try go_frame
  clear HA0
  clear HA1
  clear HZ HZN HBN
  have hS0:W5.drew.rangeAt W3.heap.size 0 R∧W5.drew.there W1.heap.size 0 65:=⟨HK7.out.drew.rg,HK6d.out.drew.nm65 zLens⟩
  refine wp_region_held_drew (S:=fun w'=>w'.rangeAt W3.heap.size 0 R∧w'.there W1.heap.size 0 65) (by kernel_rfl) hS0 (fun hHeld=>?_)
  refine wpAnyH_take (i:=0) (oi:=_) (v:=?_) rfl (by kernel_rfl) (by kernel_rfl) (by kernel_rfl) (fun _ _ _ h=>h) (Or.inl ⟨by rfl,?_⟩) (by assumption) ?_
  rotate_left
  · intro w hSw
    go_simp
    try with_reducible rfl
  try go_frame
  refine wpAnyH_take (i:=1) (oi:=_) (v:=_) rfl (by kernel_rfl) (by kernel_rfl) (by kernel_rfl) (fun _ _ _ h=>h) (yieldsIf_load_mid (by rfl) 36 _ rfl W3.heap.size 0 rfl R _ (fun w h=>h.1) Tryz.underlying36 rfl (by rw [onRmc_size,hl.out])) (by assumption) ?_
  try go_frame
  refine wpAnyH_take (i:=2) (oi:=_) (v:=?_) rfl (by kernel_rfl) (by kernel_rfl) (by kernel_rfl) (fun _ _ _ h=>h) (Or.inl ⟨by rfl,?_⟩) (by assumption) ?_
  rotate_left
  · intro w hSw
    go_simp
    try with_reducible rfl
  try go_frame
  refine wpAnyH_ready (rs:=[3]) (by kernel_rfl) (by simp) ?_
  refine AllReadyH.cons (o:=_) rfl (fun K hK=>?_) AllReadyH.nil
  rw [if_pos (by rfl)]
  refine wp_store_one _ _ _ rfl W1.heap.size 0 (.int .i64 2) rfl rfl (World.there.sub hHeld.2 0 1 (by omega)) rfl rfl rfl ?_
  intro W6 hW6
  have HK7':=Lib.hid (HK7.out.drew.far hW6 (by have:=HS1.out;have:=HS2.out;have:=HS3.out;omega));have HK6e:=Lib.hid (HK6d.out.drew.putK hW6);have HK4e:=Lib.hid (HK4d.out.drew.far hW6 (by have:=HS1.out;have:=HS2.out;have:=HS3.out;omega));have HBE6:=Lib.hid (HBE5.out.trans (hW6.drew.below (by have:=HS1.out;have:=HS2.out;have:=HS3.out;omega)));have HS6:Hid (W6.heap.size=W5.heap.size):=hW6.sz
  clear hW6 HK7 HK6d HK4d HBE5
  refine hK.out _ _ ⟨HK7'.out.rg,HK6e.out.nm65 zLens⟩ (fun hHeld=>?_)
  clear hK K
  try go_frame
  refine wpAnyH_take (i:=4) (oi:=_) (v:=?_) rfl (by kernel_rfl) (by kernel_rfl) (by kernel_rfl) (fun _ _ _ h=>h) (Or.inl ⟨by rfl,?_⟩) (by assumption) ?_
  rotate_left
  · intro w hSw
    go_simp
    try with_reducible rfl
  try go_frame
  refine wpAnyH_ready (rs:=[5]) (by kernel_rfl) (by simp) ?_
  refine AllReadyH.cons (o:=_) rfl (fun K hK=>?_) AllReadyH.nil
  rw [if_pos (by rfl)]
  refine wp_store_in _ _ _ rfl W1.heap.size 24 R.toArray rfl rfl (HK6e.out.there 24 _ (by rw [List.size_toArray,hl.out,nmL_len zLens];omega)) (by rw [onRmc_size,List.size_toArray,hl.out]) (Ones.arr ho.out) ?_
  intro W7 hW7
  have HK6f:Hid (Blk W7 W1.heap.size (nmL 2 t zGga R zGsa zVtg zGsv)):=HK6e.out.putR hW7 zLens hl.out;have HK4f:=Lib.hid (HK4e.out.far hW7 (by have:=HS1.out;omega));have HK7'':=Lib.hid (HK7'.out.far hW7 (by have:=HS1.out;have:=HS2.out;have:=HS3.out;omega));have HBE7:=Lib.hid (HBE6.out.trans (hW7.below (by have:=HS1.out;have:=HS2.out;have:=HS3.out;omega)));have HS7:=Lib.hid hW7.sz
  clear hW7 HK6e HK4e HBE6 HK7'
  refine hK.out _ _ ⟨HK7''.out.rg,HK6f.out.nm65 (zLens.withR hl.out)⟩ (fun hHeld=>?_)
  clear hK K
  try go_frame
  refine wpAnyH_done (by kernel_rfl) ?_ _
  clear hS0 hHeld
  clear HK7'' HS1 HS2 HS3 HS4 HS5 HS6 HS7
  go_wp2_with (first
    | refine wpList_load_mid rfl 46 _ rfl W1.heap.size 0 rfl (nmL 2 t zGga R zGsa zVtg zGsv) _ HK6f.out.rg Tryz.underlying46 rfl (nm_sizeL (zLens.withR hl.out)) ?_
    | (refine wpList_store_in rfl _ _ _ rfl w.heap.size 0 (nmL 2 t zGga R zGsa zVtg zGsv).toArray rfl rfl (HK4f.out.thereA (nmL_same (zLens.withR hl.out) zLens)) (nm_sizeL (zLens.withR hl.out)) (Ones.arr (nmL_ones zones.1 ho.out zones.2.2.1 zones.2.2.2.1 zones.2.2.2.2)) ?_;intro W8 hW8;have HK:Hid (Blk W8 w.heap.size (nmL 2 t zGga R zGsa zVtg zGsv)):=HK4f.out.all hW8 (nmL_same (zLens.withR hl.out) zLens);have HBE8:=Lib.hid (HBE7.out.trans (hW8.below (Nat.le_refl _)));clear hW8))
  have HLD:=Lib.hid (run_loadVar_mid (P:=Tryz.prog) W8 w.heap.size 0 46 (nmL 2 t zGga R zGsa zVtg zGsv) _ HK.out.rg Tryz.underlying46 rfl (nm_sizeL (zLens.withR hl.out)))
  clear HK
  refine bodyPost_ret (v:=.tuple #[.agg (nmL 2 t zGga R zGsa zVtg zGsv).toArray,.string ⟨#[82,77,67]⟩]) (by rw [results_cell_tmp rfl];simp [asAddr,Result.andThen,HLD.out]) rfl ?_
  exact⟨rfl,HBE8.out⟩
set_option maxRecDepth 8000 in
set_option maxHeartbeats 4000000 in
theorem nmwith_3 {t:ByteArray} (w:World) {a:Bool} {f:Int} {A:Option Addr} {c:Nat} {D:List Int} {b0:Bool} {n0:Int} {b1:Bool} {n1:Int} {b2:Bool} {n2:Int} (hs:FlatQ (fun b=>b < w.heap.size) w A (D.map (Value.int .i64))) (hm:D.length≤1000000):Calls Tryz.prog 24 #[.string t,.iface 99 (.agg ([.bool a,.int .i64 f,.slice A D.length c,.bool b0,.int .i64 n0,.bool b1,.int .i64 n1,.bool b2,.int .i64 n2]:List Value).toArray)] w fun e w'=>∃ B d,e=.returned (.tuple #[.agg (nmL 3 t zGga zRmc ([.bool a,.int .i64 f,.slice B D.length d,.bool b0,.int .i64 n0,.bool b1,.int .i64 n1,.bool b2,.int .i64 n2]) zVtg zGsv).toArray,.string ⟨#[71,83,65]⟩])∧FlatQ (fun b=>w.heap.size≤b∧b < w'.heap.size) w' B (D.map (Value.int .i64))∧Below w.heap.size w w':=by
  obtain⟨Sp,hG⟩:∃ L,([.bool a,.int .i64 f,.slice A D.length c,.bool b0,.int .i64 n0,.bool b1,.int .i64 n1,.bool b2,.int .i64 n2]:List Value)=L:=⟨_,rfl⟩
  have hl:Hid (Sp.length=9):=by rw [← hG];exact rfl
  have ho:Hid (Ones Sp):=by rw [← hG];exact Ones.of rfl
  have HG:=Lib.hid hG
  obtain⟨n,hn⟩:∃ n,D.length=n:=⟨_,rfl⟩
  have HN:=Lib.hid hn
  have HHS:=Lib.hid hs
  have HHM:=Lib.hid hm
  rw [hG]
  clear hG hs hm hn
  have HA0:=fun W=>Lib.hid (assert_Gsa_Gga Sp W)
  have HA1:=fun W=>Lib.hid (assert_Gsa_Rmc Sp W)
  have HA2:=fun W=>Lib.hid (assert_Gsa_Gsa Sp W)
  have HZ:=fun W=>Lib.hid (zero_onGsa W)
  have HZN:=fun W=>Lib.hid (zero_Nm W)
  have HBN:=fun W=>Lib.hid (build_Nm t W)
  go_enter Tryz.func24,Tryz.ntmps24
  go_upto_region 1 with (refine wpList_alloc_new rfl _ rfl zNm (HZN _).out ?_;intro W1 hW1;have HK4:=Lib.hid (Blk.newL (L:=nmL 0 ByteArray.empty zGga zRmc zGsa zVtg zGsv) hW1 rfl);have HBE1:=Lib.hid hW1.bel;have HS1:=Lib.hid hW1.sz;clear hW1)
  go_upto_region 2 with (first
    | refine wpList_build1 (u:=.string t) rfl _ 1 _ rfl rfl (HBN _).out ?_
    | (refine wpList_alloc_new rfl _ rfl zNm (HZN _).out ?_;intro W2 hW2;have HK6a:=Lib.hid (Blk.newL (L:=nmL 0 ByteArray.empty zGga zRmc zGsa zVtg zGsv) hW2 rfl);have HK4a:=Lib.hid (HK4.out.grew hW2);have HBE2:=Lib.hid (bthen HBE1.out hW2.bel);have HS2:=Lib.hid hW2.sz;clear hW2 HBE1)
    | (refine wpList_store_in rfl _ _ _ rfl W1.heap.size 0 (nmL 0 t zGga zRmc zGsa zVtg zGsv).toArray rfl rfl (HK6a.out.thereA (nmL_same zLens zLens)) (nm_sizeL zLens) (Ones.arr (nmL_ones zones.1 zones.2.1 zones.2.2.1 zones.2.2.2.1 zones.2.2.2.2)) ?_;intro W3 hW3;have HK6:Hid (Blk W3 W1.heap.size (nmL 0 t zGga zRmc zGsa zVtg zGsv)):=(HK6a.out.all hW3 (nmL_same zLens zLens));have HK4b:=Lib.hid (HK4a.out.far hW3 (by have:=HS1.out;omega));have HBE3:=Lib.hid (HBE2.out.trans (hW3.below (by have:=HS1.out;omega)));have HS3:=Lib.hid hW3.sz;clear hW3 HK6a HK4 HK4a HBE2))
  go_upto_region 13 with (first
    | refine wpList_assert rfl _ _ _ _ rfl rfl (HA0 _).out ?_
    | refine wpList_assert rfl _ _ _ _ rfl rfl (HA1 _).out ?_
    | refine wpList_assert rfl _ _ _ _ rfl rfl (HA2 _).out ?_
    | (refine wpList_alloc_new rfl _ rfl zGsa.toArray (HZ _).out ?_;intro W4 hW4;have HK7a:=Lib.hid (Blk.newL (L:=zGsa) hW4 rfl);have HK4c:=Lib.hid (HK4b.out.grew hW4);have HK6c:=Lib.hid (HK6.out.grew hW4);have HBE4:=Lib.hid (bthen HBE3.out hW4.bel);have HS4:=Lib.hid hW4.sz;clear hW4 HBE3 HK4b HK6)
    | (refine wpList_store_in rfl _ _ _ rfl W3.heap.size 0 Sp.toArray rfl rfl (HK7a.out.thereA hl.out) (by rw [size_onGsa,List.size_toArray,hl.out]) (Ones.arr ho.out) ?_;intro W5 hW5;have HK7:Hid (Blk W5 W3.heap.size Sp):=HK7a.out.all hW5 hl.out;have HK6d:=Lib.hid (HK6c.out.far hW5 (by have:=HS1.out;have:=HS2.out;have:=HS3.out;omega));have HK4d:=Lib.hid (HK4c.out.far hW5 (by have:=HS1.out;have:=HS2.out;have:=HS3.out;omega));have HBE5:=Lib.hid (HBE4.out.trans (hW5.below (by have:=HS1.out;have:=HS2.out;have:=HS3.out;omega)));have HS5:=Lib.hid hW5.sz;clear hW5 HK7a HK6c HK4c HBE4))
  try go_frame
  clear HA0
  clear HA1
  clear HA2
  clear HZ HZN HBN
  have hS0:W5.drew.rangeAt W3.heap.size 0 Sp∧W5.drew.there W1.heap.size 0 65:=⟨HK7.out.drew.rg,HK6d.out.drew.nm65 zLens⟩
  refine wp_region_held_drew (S:=fun w'=>w'.rangeAt W3.heap.size 0 Sp∧w'.there W1.heap.size 0 65) (by kernel_rfl) hS0 (fun hHeld=>?_)
  refine wpAnyH_take (i:=0) (oi:=_) (v:=?_) rfl (by kernel_rfl) (by kernel_rfl) (by kernel_rfl) (fun _ _ _ h=>h) (Or.inl ⟨by rfl,?_⟩) (by assumption) ?_
  rotate_left
  · intro w hSw
    go_simp
    try with_reducible rfl
  try go_frame
  refine wpAnyH_take (i:=1) (oi:=_) (v:=_) rfl (by kernel_rfl) (by kernel_rfl) (by kernel_rfl) (fun _ _ _ h=>h) (yieldsIf_load_mid (by rfl) 39 _ rfl W3.heap.size 0 rfl Sp _ (fun w h=>h.1) Tryz.underlying39 rfl (by rw [onGsa_size,hl.out])) (by assumption) ?_
  try go_frame
  refine wpAnyH_take (i:=2) (oi:=_) (v:=?_) rfl (by kernel_rfl) (by kernel_rfl) (by kernel_rfl) (fun _ _ _ h=>h) (Or.inl ⟨by rfl,?_⟩) (by assumption) ?_
  rotate_left
  · intro w hSw
    go_simp
    try with_reducible rfl
  try go_frame
  refine wpAnyH_ready (rs:=[3]) (by kernel_rfl) (by simp) ?_
  refine AllReadyH.cons (o:=_) rfl (fun K hK=>?_) AllReadyH.nil
  rw [if_pos (by rfl)]
  refine wp_store_one _ _ _ rfl W1.heap.size 0 (.int .i64 3) rfl rfl (World.there.sub hHeld.2 0 1 (by omega)) rfl rfl rfl ?_
  intro W6 hW6
  have HK7':=Lib.hid (HK7.out.drew.far hW6 (by have:=HS1.out;have:=HS2.out;have:=HS3.out;omega));have HK6e:=Lib.hid (HK6d.out.drew.putK hW6);have HK4e:=Lib.hid (HK4d.out.drew.far hW6 (by have:=HS1.out;have:=HS2.out;have:=HS3.out;omega));have HBE6:=Lib.hid (HBE5.out.trans (hW6.drew.below (by have:=HS1.out;have:=HS2.out;have:=HS3.out;omega)));have HS6:Hid (W6.heap.size=W5.heap.size):=hW6.sz
  clear hW6 HK7 HK6d HK4d HBE5
  refine hK.out _ _ ⟨HK7'.out.rg,HK6e.out.nm65 zLens⟩ (fun hHeld=>?_)
  clear hK K
  try go_frame
  refine wpAnyH_take (i:=4) (oi:=_) (v:=?_) rfl (by kernel_rfl) (by kernel_rfl) (by kernel_rfl) (fun _ _ _ h=>h) (Or.inl ⟨by rfl,?_⟩) (by assumption) ?_
  rotate_left
  · intro w hSw
    go_simp
    try with_reducible rfl
  try go_frame
  refine wpAnyH_ready (rs:=[5]) (by kernel_rfl) (by simp) ?_
  refine AllReadyH.cons (o:=_) rfl (fun K hK=>?_) AllReadyH.nil
  rw [if_pos (by rfl)]
  refine wp_store_in _ _ _ rfl W1.heap.size 44 Sp.toArray rfl rfl (HK6e.out.there 44 _ (by rw [List.size_toArray,hl.out,nmL_len zLens];omega)) (by rw [onGsa_size,List.size_toArray,hl.out]) (Ones.arr ho.out) ?_
  intro W7 hW7
  have HK6f:Hid (Blk W7 W1.heap.size (nmL 3 t zGga zRmc Sp zVtg zGsv)):=HK6e.out.putS hW7 zLens hl.out;have HK4f:=Lib.hid (HK4e.out.far hW7 (by have:=HS1.out;omega));have HK7'':=Lib.hid (HK7'.out.far hW7 (by have:=HS1.out;have:=HS2.out;have:=HS3.out;omega));have HBE7:=Lib.hid (HBE6.out.trans (hW7.below (by have:=HS1.out;have:=HS2.out;have:=HS3.out;omega)));have HS7:=Lib.hid hW7.sz
  clear hW7 HK6e HK4e HBE6 HK7'
  refine hK.out _ _ ⟨HK7''.out.rg,HK6f.out.nm65 (zLens.withS hl.out)⟩ (fun hHeld=>?_)
  clear hK K
  try go_frame
  refine wpAnyH_done (by kernel_rfl) ?_ _
  clear hS0 hHeld
  have HX:Hid (Blk W7 W3.heap.size ([.bool a,.int .i64 f,.slice A n c,.bool b0,.int .i64 n0,.bool b1,.int .i64 n1,.bool b2,.int .i64 n2])):=by have h:=HK7''.out;rw [← HG.out,HN.out] at h;exact h
  have hC:=CloneI_all A D c W7 (HHS.out.below HBE7.out (fun b h=>h)) HHM.out
  rw [HN.out] at hC
  have HC:=Lib.hid hC
  have g0:W7.cell? ⟨W3.heap.size,2,none⟩=some (.slice A n c):=HX.out.cell 2 rfl
  clear hC
  go_wp2_with fail
  refine HC.out.mono ?_
  rintro e W9 ⟨Bq,d,rfl,hf,hb⟩
  have HF9:=Lib.hid hf
  have HK6g:=Lib.hid (HK6f.out.on hb);have HK4g:=Lib.hid (HK4f.out.on hb);have HBE9:=Lib.hid (bthen HBE7.out hb);have HB9:=Lib.hid hb
  clear hf hb g0 HK6f HK4f HK7'' HX HC
  go_upto_region 15 with (refine wpList_store_one rfl _ _ _ rfl W1.heap.size 46 (.slice Bq n d) rfl rfl (HK6g.out.there 46 1 (by rw [nmL_len (zLens.withS hl.out)];omega)) rfl rfl rfl ?_;intro WA hWA;have HFA:=Lib.hid (flat_far HF9.out hWA (by have:=HS1.out;have:=HS2.out;have:=HS3.out;have:=HS4.out;have:=HS5.out;have:=HS6.out;have:=HS7.out;omega));have HZA:Hid (WA.heap.size=W9.heap.size∧w.heap.size < W7.heap.size):=⟨hWA.sz,by have:=HS1.out;have:=HS2.out;have:=HS3.out;have:=HS4.out;have:=HS5.out;have:=HS6.out;have:=HS7.out;omega⟩;have HK6h:Hid (Blk WA W1.heap.size (nmL 3 t zGga zRmc ([.bool a,.int .i64 f,.slice Bq n d,.bool b0,.int .i64 n0,.bool b1,.int .i64 n1,.bool b2,.int .i64 n2]) zVtg zGsv)):=nmslice_Gsa HK6g.out hWA HG.out;have HK4h:=Lib.hid (HK4g.out.far hWA (by have:=HS1.out;omega));have HBE7:=Lib.hid (HBE9.out.trans (hWA.below (by have:=HS1.out;omega)));clear hWA HK6g HK4g HBE9)
  clear HS2 HS3 HS4 HS5 HS6 HS7 HF9 HB9
  try go_frame
  go_wp2_with (first
    | refine wpList_load_mid rfl 46 _ rfl W1.heap.size 0 rfl (nmL 3 t zGga zRmc ([.bool a,.int .i64 f,.slice Bq n d,.bool b0,.int .i64 n0,.bool b1,.int .i64 n1,.bool b2,.int .i64 n2]) zVtg zGsv) _ HK6h.out.rg Tryz.underlying46 rfl (nm_sizeL (zLens.withS rfl)) ?_
    | (refine wpList_store_in rfl _ _ _ rfl w.heap.size 0 (nmL 3 t zGga zRmc ([.bool a,.int .i64 f,.slice Bq n d,.bool b0,.int .i64 n0,.bool b1,.int .i64 n1,.bool b2,.int .i64 n2]) zVtg zGsv).toArray rfl rfl (HK4h.out.thereA (nmL_same (zLens.withS rfl) zLens)) (nm_sizeL (zLens.withS rfl)) (Ones.arr (nmL_ones zones.1 zones.2.1 (Ones.of rfl) zones.2.2.2.1 zones.2.2.2.2)) ?_;intro W8 hW8;have HK:Hid (Blk W8 w.heap.size (nmL 3 t zGga zRmc ([.bool a,.int .i64 f,.slice Bq n d,.bool b0,.int .i64 n0,.bool b1,.int .i64 n1,.bool b2,.int .i64 n2]) zVtg zGsv)):=HK4h.out.all hW8 (nmL_same (zLens.withS rfl) zLens);have HBE8:=Lib.hid (HBE7.out.trans (hW8.below (Nat.le_refl _)));have HFB:=Lib.hid (flat_far HFA.out hW8 HZA.out.2);have HZB:Hid (W8.heap.size=W9.heap.size):=hW8.sz.trans HZA.out.1;clear hW8 HFA))
  have HLD:=Lib.hid (run_loadVar_mid (P:=Tryz.prog) W8 w.heap.size 0 46 (nmL 3 t zGga zRmc ([.bool a,.int .i64 f,.slice Bq n d,.bool b0,.int .i64 n0,.bool b1,.int .i64 n1,.bool b2,.int .i64 n2]) zVtg zGsv) _ HK.out.rg Tryz.underlying46 rfl (nm_sizeL (zLens.withS rfl)))
  clear HK
  refine bodyPost_ret (v:=.tuple #[.agg (nmL 3 t zGga zRmc ([.bool a,.int .i64 f,.slice Bq n d,.bool b0,.int .i64 n0,.bool b1,.int .i64 n1,.bool b2,.int .i64 n2]) zVtg zGsv).toArray,.string ⟨#[71,83,65]⟩]) (by rw [results_cell_tmp rfl];simp [asAddr,Result.andThen,HLD.out]) rfl ?_
  exact⟨Bq,d,by rw [HN.out],HFB.out.less (fun b hb=>⟨by have:=HZA.out.2;omega,by have:=HZB.out;omega⟩),HBE8.out⟩
end Go.Proofs.YtoabkoniegmkaaaGreat
