/- Layer 30: the reference's Take. Printed by gennm9.py. -/
import Derived.Test.YtoabkoniegmkaaaGreatG32
import Derived.Test.YtoabkoniegmkaaaGreatG39
import Derived.Test.YtoabkoniegmkaaaGreatG41
namespace Go.Proofs.YtoabkoniegmkaaaGreat
set_option linter.unusedVariables false
open Go.RowKit
def RdOutF (k:Nat) (S:Nat→World→List Value→Prop) (E:Int) (w:World) (e:Ending) (w':World):Prop:=∃ G:List Value,e=.returned (.tuple #[.agg G.toArray,.int .i64 E])∧G.length=k∧Ones G∧S w.heap.size w' G∧Below w.heap.size w w'
def FarOk (S:Nat→World→List Value→Prop):Prop:=∀ (lo:Nat) (w W:World) (b o:Nat) (cs G:List Value),S lo w G→Stored w W b o cs→b < lo→S lo W G
def TkNm (f:List Value→List Value) (S:Nat→World→List Value→Prop) (E:Int) (w:World) (e:Ending) (w':World):Prop:=
  Below w.heap.size w w'∧((E=0∧∃ G lo,w.heap.size≤lo∧e=.returned (.tuple #[.agg (f G).toArray,.int .i64 0])∧S lo w' G)∨(E≠0∧e=.returned (.tuple #[.agg zNm,.int .i64 E])))
set_option maxRecDepth 8000 in
set_option maxHeartbeats 4000000 in
theorem r30Take_1 {t:ByteArray} {A:Option Addr} {n c:Nat} {Sx:Nat→World→List Value→Prop} {E:Int} {w:World} (hF:Hid (FarOk Sx)) (HP:∀ W,Below w.heap.size w W→Hid (Calls Tryz.prog 25 #[.slice A n c] W (RdOutF 22 Sx E W))):Calls Tryz.prog 10 #[.agg #[.string t,.string ⟨#[71,71,65]⟩,.slice A n c]] w (TkNm (fun Gx=>nmL 1 t Gx zRmc zGsa zVtg zGsv) Sx E w):=by
  go_enter Tryz.func10,Tryz.ntmps10
  go_upto_region 1 with (first
    | (refine wpList_box_new rfl _ _ rfl #[.string t,.string ⟨#[71,71,65]⟩,.slice A n c] rfl ?_;intro W0 hW0;have HS0:=Lib.hid (Blk.newL (L:=[.string t,.string ⟨#[71,71,65]⟩,.slice A n c]) hW0 rfl);have HBE0:=Lib.hid hW0.bel;have HZ0:=Lib.hid hW0.sz;clear hW0)
    | (refine wpList_alloc_new rfl 46 rfl zNm (zero_Nm _) ?_;intro W1 hW1;have HR1:=Lib.hid (Blk.newL (L:=nmL 0 ByteArray.empty zGga zRmc zGsa zVtg zGsv) hW1 rfl);have HBE1:=Lib.hid (bthen HBE0.out hW1.bel);have HS1:=Lib.hid (HS0.out.grew hW1);have HZ1:=Lib.hid hW1.sz;have c0:=HS1.out.cell 0 rfl;clear hW1 HBE0 HS0))
  go_upto_region 2 with (first
    | refine wpList_build1 (u:=.string t) rfl 46 1 _ rfl rfl (build_Nm t _) ?_
    | (refine wpList_alloc_new rfl 46 rfl zNm (zero_Nm _) ?_;intro W2 hW2;have HMa:=Lib.hid (Blk.newL (L:=nmL 0 ByteArray.empty zGga zRmc zGsa zVtg zGsv) hW2 rfl);have HR2:=Lib.hid (HR1.out.grew hW2);have HBE2:=Lib.hid (bthen HBE1.out hW2.bel);have HS2:=Lib.hid (HS1.out.grew hW2);have HZ2:=Lib.hid hW2.sz;clear hW2 HBE1 HS1 HR1 c0)
    | (refine wpList_store_in rfl 46 _ _ rfl W1.heap.size 0 (nmL 0 t zGga zRmc zGsa zVtg zGsv).toArray rfl rfl (HMa.out.thereA (nmL_same zLens zLens)) (nm_sizeL zLens) (Ones.arr (nmL_ones zones.1 zones.2.1 zones.2.2.1 zones.2.2.2.1 zones.2.2.2.2)) ?_;intro W3 hW3;have HM3:Hid (Blk W3 W1.heap.size (nmL 0 t zGga zRmc zGsa zVtg zGsv)):=HMa.out.all hW3 (nmL_same zLens zLens);have HR3:=Lib.hid (HR2.out.far hW3 (by have:=HZ1.out;omega));have HS3:=Lib.hid (HS2.out.far hW3 (by have:=HZ0.out;have:=HZ1.out;omega));have HBE3:=Lib.hid (HBE2.out.trans (hW3.below (by have:=HZ0.out;have:=HZ1.out;omega)));have HZ3:=Lib.hid hW3.sz;have c1:=HS3.out.cell 1 rfl;have c2:=HS3.out.cell 2 rfl;clear hW3 HMa HR2 HS2 HBE2))
  try go_frame
  go_wp2_with (refine wpList_store_one rfl _ _ _ rfl W1.heap.size 0 (.int .i64 1) rfl rfl (HM3.out.there 0 1 (by rw [nmL_len zLens];omega)) rfl rfl rfl ?_;intro W4 hW4;have HM4:=Lib.hid (HM3.out.putK hW4);have HR4:=Lib.hid (HR3.out.far hW4 (by have:=HZ1.out;omega));have HS4:=Lib.hid (HS3.out.far hW4 (by have:=HZ0.out;have:=HZ1.out;omega));have HBE4:=Lib.hid (HBE3.out.trans (hW4.below (by have:=HZ0.out;have:=HZ1.out;omega)));have HZ4:=Lib.hid hW4.sz;clear c1 c2;have c2:=HS4.out.cell 2 rfl;clear hW4 HM3 HR3 HS3 HBE3)
  refine (HP _ HBE4.out).out.mono ?_
  rintro e W5 ⟨Gx,rfl,hl,ho,hs,hb⟩
  have HL:=Lib.hid hl
  have HO:=Lib.hid ho
  have HSX:=Lib.hid hs
  have HM5:=Lib.hid (HM4.out.on hb)
  have HR5:=Lib.hid (HR4.out.on hb)
  have HBE5:=Lib.hid (bthen HBE4.out hb)
  have HZ:Hid (W0.heap.size < W4.heap.size∧W1.heap.size < W4.heap.size∧w.heap.size≤W0.heap.size∧W0.heap.size≠W1.heap.size∧w.heap.size≤W1.heap.size):=by have:=HZ0.out;have:=HZ1.out;have:=HZ2.out;have:=HZ3.out;have:=HZ4.out;refine⟨?_,?_,?_,?_,?_⟩ <;> omega
  clear hl ho hs hb HM4 HR4 HS4 HBE4 HP c2 HZ0 HZ1 HZ2 HZ3 HZ4
  dsimp only
  go_upto_region 20 with (refine wpList_store_in rfl 32 _ _ rfl W1.heap.size 2 Gx.toArray rfl rfl (HM5.out.there 2 _ (by rw [List.size_toArray,HL.out,nmL_len zLens];omega)) (by rw [onGga_size,List.size_toArray,HL.out]) (Ones.arr HO.out) ?_;intro W6 hW6;have HM6:Hid (Blk W6 W1.heap.size (nmL 1 t Gx zRmc zGsa zVtg zGsv)):=HM5.out.putG hW6 zLens HL.out;have HR6:=Lib.hid (HR5.out.far hW6 HZ.out.2.2.2.1);have HBE6:=Lib.hid (HBE5.out.trans (hW6.below HZ.out.2.2.2.2));have HS6:=Lib.hid (hF.out _ _ _ _ _ _ _ HSX.out hW6 HZ.out.2.1);clear hW6 HM5 HR5 HBE5 HSX)
  try go_frame
  by_cases h0:E=0
  · subst h0
    go_wp2_with (first
      | refine wpList_load_mid rfl 46 _ rfl W1.heap.size 0 rfl (nmL 1 t Gx zRmc zGsa zVtg zGsv) _ HM6.out.rg Tryz.underlying46 rfl (nm_sizeL (zLens.withG HL.out)) ?_
      | (refine wpList_store_in rfl 46 _ _ rfl W0.heap.size 0 (nmL 1 t Gx zRmc zGsa zVtg zGsv).toArray rfl rfl (HR6.out.thereA (nmL_same (zLens.withG HL.out) zLens)) (nm_sizeL (zLens.withG HL.out)) (Ones.arr (nmL_ones HO.out zones.2.1 zones.2.2.1 zones.2.2.2.1 zones.2.2.2.2)) ?_;intro W7 hW7;have HM7:Hid (Blk W7 W0.heap.size (nmL 1 t Gx zRmc zGsa zVtg zGsv)):=HR6.out.all hW7 (nmL_same (zLens.withG HL.out) zLens);have HBE7:=Lib.hid (HBE6.out.trans (hW7.below HZ.out.2.2.1));have HS7:=Lib.hid (hF.out _ _ _ _ _ _ _ HS6.out hW7 HZ.out.1);clear hW7 HR6 HBE6 HS6))
    have HLD:=Lib.hid (run_loadVar_mid (P:=Tryz.prog) _ W0.heap.size 0 46 _ _ HM7.out.rg Tryz.underlying46 rfl (nm_sizeL (zLens.withG HL.out)))
    refine bodyPost_ret (v:=.tuple #[.agg (nmL 1 t Gx zRmc zGsa zVtg zGsv).toArray,.int .i64 0]) (by rw [results_cell_tmp rfl];simp [asAddr,Result.andThen,HLD.out]) rfl ?_
    exact⟨HBE7.out,.inl ⟨rfl,Gx,W4.heap.size,by have:=HZ.out;omega,rfl,HS7.out⟩⟩
  · have hne:(E != 0)=true:=by rw [bne_iff_ne];exact h0
    go_wp2_with (first
      | refine wpList_build0 rfl 46 rfl (build_Nm0 _) ?_
      | (refine wpList_store_in rfl 46 _ _ rfl W0.heap.size 0 zNm rfl rfl (nm_thereC HR6.out zLens (NmV.zero 0 w)) (nm_sizeC (NmV.zero 0 w)) (NmV.zero 0 w).ones ?_;intro W7 hW7;have HM7:Hid (Blk W7 W0.heap.size zNm.toList):=HR6.out.all hW7 (nm_lenC (NmV.zero 0 w));have HBE7:=Lib.hid (HBE6.out.trans (hW7.below HZ.out.2.2.1));clear hW7 HR6 HBE6))
    have HLD:=Lib.hid (run_loadVar_mid (P:=Tryz.prog) _ W0.heap.size 0 46 _ _ HM7.out.rg Tryz.underlying46 rfl (by rw [Array.length_toList];exact nm_sizeC (NmV.zero 0 w)))
    refine bodyPost_ret (v:=.tuple #[.agg zNm,.int .i64 E]) (by rw [results_cell_tmp rfl];simp [asAddr,Result.andThen,HLD.out]) rfl ?_
    exact⟨HBE7.out,.inr ⟨h0,rfl⟩⟩
set_option maxRecDepth 8000 in
set_option maxHeartbeats 4000000 in
theorem r30Take_2 {t:ByteArray} {A:Option Addr} {n c:Nat} {Sx:Nat→World→List Value→Prop} {E:Int} {w:World} (hF:Hid (FarOk Sx)) (HP:∀ W,Below w.heap.size w W→Hid (Calls Tryz.prog 26 #[.slice A n c] W (RdOutF 20 Sx E W))):Calls Tryz.prog 10 #[.agg #[.string t,.string ⟨#[82,77,67]⟩,.slice A n c]] w (TkNm (fun Rx=>nmL 2 t zGga Rx zGsa zVtg zGsv) Sx E w):=by
  go_enter Tryz.func10,Tryz.ntmps10
  go_upto_region 1 with (first
    | (refine wpList_box_new rfl _ _ rfl #[.string t,.string ⟨#[82,77,67]⟩,.slice A n c] rfl ?_;intro W0 hW0;have HS0:=Lib.hid (Blk.newL (L:=[.string t,.string ⟨#[82,77,67]⟩,.slice A n c]) hW0 rfl);have HBE0:=Lib.hid hW0.bel;have HZ0:=Lib.hid hW0.sz;clear hW0)
    | (refine wpList_alloc_new rfl 46 rfl zNm (zero_Nm _) ?_;intro W1 hW1;have HR1:=Lib.hid (Blk.newL (L:=nmL 0 ByteArray.empty zGga zRmc zGsa zVtg zGsv) hW1 rfl);have HBE1:=Lib.hid (bthen HBE0.out hW1.bel);have HS1:=Lib.hid (HS0.out.grew hW1);have HZ1:=Lib.hid hW1.sz;have c0:=HS1.out.cell 0 rfl;clear hW1 HBE0 HS0))
  go_upto_region 2 with (first
    | refine wpList_build1 (u:=.string t) rfl 46 1 _ rfl rfl (build_Nm t _) ?_
    | (refine wpList_alloc_new rfl 46 rfl zNm (zero_Nm _) ?_;intro W2 hW2;have HMa:=Lib.hid (Blk.newL (L:=nmL 0 ByteArray.empty zGga zRmc zGsa zVtg zGsv) hW2 rfl);have HR2:=Lib.hid (HR1.out.grew hW2);have HBE2:=Lib.hid (bthen HBE1.out hW2.bel);have HS2:=Lib.hid (HS1.out.grew hW2);have HZ2:=Lib.hid hW2.sz;clear hW2 HBE1 HS1 HR1 c0)
    | (refine wpList_store_in rfl 46 _ _ rfl W1.heap.size 0 (nmL 0 t zGga zRmc zGsa zVtg zGsv).toArray rfl rfl (HMa.out.thereA (nmL_same zLens zLens)) (nm_sizeL zLens) (Ones.arr (nmL_ones zones.1 zones.2.1 zones.2.2.1 zones.2.2.2.1 zones.2.2.2.2)) ?_;intro W3 hW3;have HM3:Hid (Blk W3 W1.heap.size (nmL 0 t zGga zRmc zGsa zVtg zGsv)):=HMa.out.all hW3 (nmL_same zLens zLens);have HR3:=Lib.hid (HR2.out.far hW3 (by have:=HZ1.out;omega));have HS3:=Lib.hid (HS2.out.far hW3 (by have:=HZ0.out;have:=HZ1.out;omega));have HBE3:=Lib.hid (HBE2.out.trans (hW3.below (by have:=HZ0.out;have:=HZ1.out;omega)));have HZ3:=Lib.hid hW3.sz;have c1:=HS3.out.cell 1 rfl;have c2:=HS3.out.cell 2 rfl;clear hW3 HMa HR2 HS2 HBE2))
  try go_frame
  go_wp2_with (refine wpList_store_one rfl _ _ _ rfl W1.heap.size 0 (.int .i64 2) rfl rfl (HM3.out.there 0 1 (by rw [nmL_len zLens];omega)) rfl rfl rfl ?_;intro W4 hW4;have HM4:=Lib.hid (HM3.out.putK hW4);have HR4:=Lib.hid (HR3.out.far hW4 (by have:=HZ1.out;omega));have HS4:=Lib.hid (HS3.out.far hW4 (by have:=HZ0.out;have:=HZ1.out;omega));have HBE4:=Lib.hid (HBE3.out.trans (hW4.below (by have:=HZ0.out;have:=HZ1.out;omega)));have HZ4:=Lib.hid hW4.sz;clear c1 c2;have c2:=HS4.out.cell 2 rfl;clear hW4 HM3 HR3 HS3 HBE3)
  refine (HP _ HBE4.out).out.mono ?_
  rintro e W5 ⟨Rx,rfl,hl,ho,hs,hb⟩
  have HL:=Lib.hid hl
  have HO:=Lib.hid ho
  have HSX:=Lib.hid hs
  have HM5:=Lib.hid (HM4.out.on hb)
  have HR5:=Lib.hid (HR4.out.on hb)
  have HBE5:=Lib.hid (bthen HBE4.out hb)
  have HZ:Hid (W0.heap.size < W4.heap.size∧W1.heap.size < W4.heap.size∧w.heap.size≤W0.heap.size∧W0.heap.size≠W1.heap.size∧w.heap.size≤W1.heap.size):=by have:=HZ0.out;have:=HZ1.out;have:=HZ2.out;have:=HZ3.out;have:=HZ4.out;refine⟨?_,?_,?_,?_,?_⟩ <;> omega
  clear hl ho hs hb HM4 HR4 HS4 HBE4 HP c2 HZ0 HZ1 HZ2 HZ3 HZ4
  dsimp only
  go_upto_region 20 with (refine wpList_store_in rfl 36 _ _ rfl W1.heap.size 24 Rx.toArray rfl rfl (HM5.out.there 24 _ (by rw [List.size_toArray,HL.out,nmL_len zLens];omega)) (by rw [onRmc_size,List.size_toArray,HL.out]) (Ones.arr HO.out) ?_;intro W6 hW6;have HM6:Hid (Blk W6 W1.heap.size (nmL 2 t zGga Rx zGsa zVtg zGsv)):=HM5.out.putR hW6 zLens HL.out;have HR6:=Lib.hid (HR5.out.far hW6 HZ.out.2.2.2.1);have HBE6:=Lib.hid (HBE5.out.trans (hW6.below HZ.out.2.2.2.2));have HS6:=Lib.hid (hF.out _ _ _ _ _ _ _ HSX.out hW6 HZ.out.2.1);clear hW6 HM5 HR5 HBE5 HSX)
  try go_frame
  by_cases h0:E=0
  · subst h0
    go_wp2_with (first
      | refine wpList_load_mid rfl 46 _ rfl W1.heap.size 0 rfl (nmL 2 t zGga Rx zGsa zVtg zGsv) _ HM6.out.rg Tryz.underlying46 rfl (nm_sizeL (zLens.withR HL.out)) ?_
      | (refine wpList_store_in rfl 46 _ _ rfl W0.heap.size 0 (nmL 2 t zGga Rx zGsa zVtg zGsv).toArray rfl rfl (HR6.out.thereA (nmL_same (zLens.withR HL.out) zLens)) (nm_sizeL (zLens.withR HL.out)) (Ones.arr (nmL_ones zones.1 HO.out zones.2.2.1 zones.2.2.2.1 zones.2.2.2.2)) ?_;intro W7 hW7;have HM7:Hid (Blk W7 W0.heap.size (nmL 2 t zGga Rx zGsa zVtg zGsv)):=HR6.out.all hW7 (nmL_same (zLens.withR HL.out) zLens);have HBE7:=Lib.hid (HBE6.out.trans (hW7.below HZ.out.2.2.1));have HS7:=Lib.hid (hF.out _ _ _ _ _ _ _ HS6.out hW7 HZ.out.1);clear hW7 HR6 HBE6 HS6))
    have HLD:=Lib.hid (run_loadVar_mid (P:=Tryz.prog) _ W0.heap.size 0 46 _ _ HM7.out.rg Tryz.underlying46 rfl (nm_sizeL (zLens.withR HL.out)))
    refine bodyPost_ret (v:=.tuple #[.agg (nmL 2 t zGga Rx zGsa zVtg zGsv).toArray,.int .i64 0]) (by rw [results_cell_tmp rfl];simp [asAddr,Result.andThen,HLD.out]) rfl ?_
    exact⟨HBE7.out,.inl ⟨rfl,Rx,W4.heap.size,by have:=HZ.out;omega,rfl,HS7.out⟩⟩
  · have hne:(E != 0)=true:=by rw [bne_iff_ne];exact h0
    go_wp2_with (first
      | refine wpList_build0 rfl 46 rfl (build_Nm0 _) ?_
      | (refine wpList_store_in rfl 46 _ _ rfl W0.heap.size 0 zNm rfl rfl (nm_thereC HR6.out zLens (NmV.zero 0 w)) (nm_sizeC (NmV.zero 0 w)) (NmV.zero 0 w).ones ?_;intro W7 hW7;have HM7:Hid (Blk W7 W0.heap.size zNm.toList):=HR6.out.all hW7 (nm_lenC (NmV.zero 0 w));have HBE7:=Lib.hid (HBE6.out.trans (hW7.below HZ.out.2.2.1));clear hW7 HR6 HBE6))
    have HLD:=Lib.hid (run_loadVar_mid (P:=Tryz.prog) _ W0.heap.size 0 46 _ _ HM7.out.rg Tryz.underlying46 rfl (by rw [Array.length_toList];exact nm_sizeC (NmV.zero 0 w)))
    refine bodyPost_ret (v:=.tuple #[.agg zNm,.int .i64 E]) (by rw [results_cell_tmp rfl];simp [asAddr,Result.andThen,HLD.out]) rfl ?_
    exact⟨HBE7.out,.inr ⟨h0,rfl⟩⟩
set_option maxRecDepth 8000 in
set_option maxHeartbeats 4000000 in
theorem r30Take_3 {t:ByteArray} {A:Option Addr} {n c:Nat} {Sx:Nat→World→List Value→Prop} {E:Int} {w:World} (hF:Hid (FarOk Sx)) (HP:∀ W,Below w.heap.size w W→Hid (Calls Tryz.prog 27 #[.slice A n c] W (RdOutF 9 Sx E W))):Calls Tryz.prog 10 #[.agg #[.string t,.string ⟨#[71,83,65]⟩,.slice A n c]] w (TkNm (fun Sx=>nmL 3 t zGga zRmc Sx zVtg zGsv) Sx E w):=by
  go_enter Tryz.func10,Tryz.ntmps10
  go_upto_region 1 with (first
    | (refine wpList_box_new rfl _ _ rfl #[.string t,.string ⟨#[71,83,65]⟩,.slice A n c] rfl ?_;intro W0 hW0;have HS0:=Lib.hid (Blk.newL (L:=[.string t,.string ⟨#[71,83,65]⟩,.slice A n c]) hW0 rfl);have HBE0:=Lib.hid hW0.bel;have HZ0:=Lib.hid hW0.sz;clear hW0)
    | (refine wpList_alloc_new rfl 46 rfl zNm (zero_Nm _) ?_;intro W1 hW1;have HR1:=Lib.hid (Blk.newL (L:=nmL 0 ByteArray.empty zGga zRmc zGsa zVtg zGsv) hW1 rfl);have HBE1:=Lib.hid (bthen HBE0.out hW1.bel);have HS1:=Lib.hid (HS0.out.grew hW1);have HZ1:=Lib.hid hW1.sz;have c0:=HS1.out.cell 0 rfl;clear hW1 HBE0 HS0))
  go_upto_region 2 with (first
    | refine wpList_build1 (u:=.string t) rfl 46 1 _ rfl rfl (build_Nm t _) ?_
    | (refine wpList_alloc_new rfl 46 rfl zNm (zero_Nm _) ?_;intro W2 hW2;have HMa:=Lib.hid (Blk.newL (L:=nmL 0 ByteArray.empty zGga zRmc zGsa zVtg zGsv) hW2 rfl);have HR2:=Lib.hid (HR1.out.grew hW2);have HBE2:=Lib.hid (bthen HBE1.out hW2.bel);have HS2:=Lib.hid (HS1.out.grew hW2);have HZ2:=Lib.hid hW2.sz;clear hW2 HBE1 HS1 HR1 c0)
    | (refine wpList_store_in rfl 46 _ _ rfl W1.heap.size 0 (nmL 0 t zGga zRmc zGsa zVtg zGsv).toArray rfl rfl (HMa.out.thereA (nmL_same zLens zLens)) (nm_sizeL zLens) (Ones.arr (nmL_ones zones.1 zones.2.1 zones.2.2.1 zones.2.2.2.1 zones.2.2.2.2)) ?_;intro W3 hW3;have HM3:Hid (Blk W3 W1.heap.size (nmL 0 t zGga zRmc zGsa zVtg zGsv)):=HMa.out.all hW3 (nmL_same zLens zLens);have HR3:=Lib.hid (HR2.out.far hW3 (by have:=HZ1.out;omega));have HS3:=Lib.hid (HS2.out.far hW3 (by have:=HZ0.out;have:=HZ1.out;omega));have HBE3:=Lib.hid (HBE2.out.trans (hW3.below (by have:=HZ0.out;have:=HZ1.out;omega)));have HZ3:=Lib.hid hW3.sz;have c1:=HS3.out.cell 1 rfl;have c2:=HS3.out.cell 2 rfl;clear hW3 HMa HR2 HS2 HBE2))
  try go_frame
  go_wp2_with (refine wpList_store_one rfl _ _ _ rfl W1.heap.size 0 (.int .i64 3) rfl rfl (HM3.out.there 0 1 (by rw [nmL_len zLens];omega)) rfl rfl rfl ?_;intro W4 hW4;have HM4:=Lib.hid (HM3.out.putK hW4);have HR4:=Lib.hid (HR3.out.far hW4 (by have:=HZ1.out;omega));have HS4:=Lib.hid (HS3.out.far hW4 (by have:=HZ0.out;have:=HZ1.out;omega));have HBE4:=Lib.hid (HBE3.out.trans (hW4.below (by have:=HZ0.out;have:=HZ1.out;omega)));have HZ4:=Lib.hid hW4.sz;clear c1 c2;have c2:=HS4.out.cell 2 rfl;clear hW4 HM3 HR3 HS3 HBE3)
  refine (HP _ HBE4.out).out.mono ?_
  rintro e W5 ⟨Sx,rfl,hl,ho,hs,hb⟩
  have HL:=Lib.hid hl
  have HO:=Lib.hid ho
  have HSX:=Lib.hid hs
  have HM5:=Lib.hid (HM4.out.on hb)
  have HR5:=Lib.hid (HR4.out.on hb)
  have HBE5:=Lib.hid (bthen HBE4.out hb)
  have HZ:Hid (W0.heap.size < W4.heap.size∧W1.heap.size < W4.heap.size∧w.heap.size≤W0.heap.size∧W0.heap.size≠W1.heap.size∧w.heap.size≤W1.heap.size):=by have:=HZ0.out;have:=HZ1.out;have:=HZ2.out;have:=HZ3.out;have:=HZ4.out;refine⟨?_,?_,?_,?_,?_⟩ <;> omega
  clear hl ho hs hb HM4 HR4 HS4 HBE4 HP c2 HZ0 HZ1 HZ2 HZ3 HZ4
  dsimp only
  go_upto_region 20 with (refine wpList_store_in rfl 39 _ _ rfl W1.heap.size 44 Sx.toArray rfl rfl (HM5.out.there 44 _ (by rw [List.size_toArray,HL.out,nmL_len zLens];omega)) (by rw [onGsa_size,List.size_toArray,HL.out]) (Ones.arr HO.out) ?_;intro W6 hW6;have HM6:Hid (Blk W6 W1.heap.size (nmL 3 t zGga zRmc Sx zVtg zGsv)):=HM5.out.putS hW6 zLens HL.out;have HR6:=Lib.hid (HR5.out.far hW6 HZ.out.2.2.2.1);have HBE6:=Lib.hid (HBE5.out.trans (hW6.below HZ.out.2.2.2.2));have HS6:=Lib.hid (hF.out _ _ _ _ _ _ _ HSX.out hW6 HZ.out.2.1);clear hW6 HM5 HR5 HBE5 HSX)
  try go_frame
  by_cases h0:E=0
  · subst h0
    go_wp2_with (first
      | refine wpList_load_mid rfl 46 _ rfl W1.heap.size 0 rfl (nmL 3 t zGga zRmc Sx zVtg zGsv) _ HM6.out.rg Tryz.underlying46 rfl (nm_sizeL (zLens.withS HL.out)) ?_
      | (refine wpList_store_in rfl 46 _ _ rfl W0.heap.size 0 (nmL 3 t zGga zRmc Sx zVtg zGsv).toArray rfl rfl (HR6.out.thereA (nmL_same (zLens.withS HL.out) zLens)) (nm_sizeL (zLens.withS HL.out)) (Ones.arr (nmL_ones zones.1 zones.2.1 HO.out zones.2.2.2.1 zones.2.2.2.2)) ?_;intro W7 hW7;have HM7:Hid (Blk W7 W0.heap.size (nmL 3 t zGga zRmc Sx zVtg zGsv)):=HR6.out.all hW7 (nmL_same (zLens.withS HL.out) zLens);have HBE7:=Lib.hid (HBE6.out.trans (hW7.below HZ.out.2.2.1));have HS7:=Lib.hid (hF.out _ _ _ _ _ _ _ HS6.out hW7 HZ.out.1);clear hW7 HR6 HBE6 HS6))
    have HLD:=Lib.hid (run_loadVar_mid (P:=Tryz.prog) _ W0.heap.size 0 46 _ _ HM7.out.rg Tryz.underlying46 rfl (nm_sizeL (zLens.withS HL.out)))
    refine bodyPost_ret (v:=.tuple #[.agg (nmL 3 t zGga zRmc Sx zVtg zGsv).toArray,.int .i64 0]) (by rw [results_cell_tmp rfl];simp [asAddr,Result.andThen,HLD.out]) rfl ?_
    exact⟨HBE7.out,.inl ⟨rfl,Sx,W4.heap.size,by have:=HZ.out;omega,rfl,HS7.out⟩⟩
  · have hne:(E != 0)=true:=by rw [bne_iff_ne];exact h0
    go_wp2_with (first
      | refine wpList_build0 rfl 46 rfl (build_Nm0 _) ?_
      | (refine wpList_store_in rfl 46 _ _ rfl W0.heap.size 0 zNm rfl rfl (nm_thereC HR6.out zLens (NmV.zero 0 w)) (nm_sizeC (NmV.zero 0 w)) (NmV.zero 0 w).ones ?_;intro W7 hW7;have HM7:Hid (Blk W7 W0.heap.size zNm.toList):=HR6.out.all hW7 (nm_lenC (NmV.zero 0 w));have HBE7:=Lib.hid (HBE6.out.trans (hW7.below HZ.out.2.2.1));clear hW7 HR6 HBE6))
    have HLD:=Lib.hid (run_loadVar_mid (P:=Tryz.prog) _ W0.heap.size 0 46 _ _ HM7.out.rg Tryz.underlying46 rfl (by rw [Array.length_toList];exact nm_sizeC (NmV.zero 0 w)))
    refine bodyPost_ret (v:=.tuple #[.agg zNm,.int .i64 E]) (by rw [results_cell_tmp rfl];simp [asAddr,Result.andThen,HLD.out]) rfl ?_
    exact⟨HBE7.out,.inr ⟨h0,rfl⟩⟩
set_option maxRecDepth 8000 in
set_option maxHeartbeats 4000000 in
theorem r30Take_4 {t:ByteArray} {A:Option Addr} {n c:Nat} {Sx:Nat→World→List Value→Prop} {E:Int} {w:World} (hF:Hid (FarOk Sx)) (HP:∀ W,Below w.heap.size w W→Hid (Calls Tryz.prog 28 #[.slice A n c] W (RdOutF 8 Sx E W))):Calls Tryz.prog 10 #[.agg #[.string t,.string ⟨#[86,84,71]⟩,.slice A n c]] w (TkNm (fun Vx=>nmL 4 t zGga zRmc zGsa Vx zGsv) Sx E w):=by
  go_enter Tryz.func10,Tryz.ntmps10
  go_upto_region 1 with (first
    | (refine wpList_box_new rfl _ _ rfl #[.string t,.string ⟨#[86,84,71]⟩,.slice A n c] rfl ?_;intro W0 hW0;have HS0:=Lib.hid (Blk.newL (L:=[.string t,.string ⟨#[86,84,71]⟩,.slice A n c]) hW0 rfl);have HBE0:=Lib.hid hW0.bel;have HZ0:=Lib.hid hW0.sz;clear hW0)
    | (refine wpList_alloc_new rfl 46 rfl zNm (zero_Nm _) ?_;intro W1 hW1;have HR1:=Lib.hid (Blk.newL (L:=nmL 0 ByteArray.empty zGga zRmc zGsa zVtg zGsv) hW1 rfl);have HBE1:=Lib.hid (bthen HBE0.out hW1.bel);have HS1:=Lib.hid (HS0.out.grew hW1);have HZ1:=Lib.hid hW1.sz;have c0:=HS1.out.cell 0 rfl;clear hW1 HBE0 HS0))
  go_upto_region 2 with (first
    | refine wpList_build1 (u:=.string t) rfl 46 1 _ rfl rfl (build_Nm t _) ?_
    | (refine wpList_alloc_new rfl 46 rfl zNm (zero_Nm _) ?_;intro W2 hW2;have HMa:=Lib.hid (Blk.newL (L:=nmL 0 ByteArray.empty zGga zRmc zGsa zVtg zGsv) hW2 rfl);have HR2:=Lib.hid (HR1.out.grew hW2);have HBE2:=Lib.hid (bthen HBE1.out hW2.bel);have HS2:=Lib.hid (HS1.out.grew hW2);have HZ2:=Lib.hid hW2.sz;clear hW2 HBE1 HS1 HR1 c0)
    | (refine wpList_store_in rfl 46 _ _ rfl W1.heap.size 0 (nmL 0 t zGga zRmc zGsa zVtg zGsv).toArray rfl rfl (HMa.out.thereA (nmL_same zLens zLens)) (nm_sizeL zLens) (Ones.arr (nmL_ones zones.1 zones.2.1 zones.2.2.1 zones.2.2.2.1 zones.2.2.2.2)) ?_;intro W3 hW3;have HM3:Hid (Blk W3 W1.heap.size (nmL 0 t zGga zRmc zGsa zVtg zGsv)):=HMa.out.all hW3 (nmL_same zLens zLens);have HR3:=Lib.hid (HR2.out.far hW3 (by have:=HZ1.out;omega));have HS3:=Lib.hid (HS2.out.far hW3 (by have:=HZ0.out;have:=HZ1.out;omega));have HBE3:=Lib.hid (HBE2.out.trans (hW3.below (by have:=HZ0.out;have:=HZ1.out;omega)));have HZ3:=Lib.hid hW3.sz;have c1:=HS3.out.cell 1 rfl;have c2:=HS3.out.cell 2 rfl;clear hW3 HMa HR2 HS2 HBE2))
  try go_frame
  go_wp2_with (refine wpList_store_one rfl _ _ _ rfl W1.heap.size 0 (.int .i64 4) rfl rfl (HM3.out.there 0 1 (by rw [nmL_len zLens];omega)) rfl rfl rfl ?_;intro W4 hW4;have HM4:=Lib.hid (HM3.out.putK hW4);have HR4:=Lib.hid (HR3.out.far hW4 (by have:=HZ1.out;omega));have HS4:=Lib.hid (HS3.out.far hW4 (by have:=HZ0.out;have:=HZ1.out;omega));have HBE4:=Lib.hid (HBE3.out.trans (hW4.below (by have:=HZ0.out;have:=HZ1.out;omega)));have HZ4:=Lib.hid hW4.sz;clear c1 c2;have c2:=HS4.out.cell 2 rfl;clear hW4 HM3 HR3 HS3 HBE3)
  refine (HP _ HBE4.out).out.mono ?_
  rintro e W5 ⟨Vx,rfl,hl,ho,hs,hb⟩
  have HL:=Lib.hid hl
  have HO:=Lib.hid ho
  have HSX:=Lib.hid hs
  have HM5:=Lib.hid (HM4.out.on hb)
  have HR5:=Lib.hid (HR4.out.on hb)
  have HBE5:=Lib.hid (bthen HBE4.out hb)
  have HZ:Hid (W0.heap.size < W4.heap.size∧W1.heap.size < W4.heap.size∧w.heap.size≤W0.heap.size∧W0.heap.size≠W1.heap.size∧w.heap.size≤W1.heap.size):=by have:=HZ0.out;have:=HZ1.out;have:=HZ2.out;have:=HZ3.out;have:=HZ4.out;refine⟨?_,?_,?_,?_,?_⟩ <;> omega
  clear hl ho hs hb HM4 HR4 HS4 HBE4 HP c2 HZ0 HZ1 HZ2 HZ3 HZ4
  dsimp only
  go_upto_region 20 with (refine wpList_store_in rfl 41 _ _ rfl W1.heap.size 53 Vx.toArray rfl rfl (HM5.out.there 53 _ (by rw [List.size_toArray,HL.out,nmL_len zLens];omega)) (by rw [onVtg_size,List.size_toArray,HL.out]) (Ones.arr HO.out) ?_;intro W6 hW6;have HM6:Hid (Blk W6 W1.heap.size (nmL 4 t zGga zRmc zGsa Vx zGsv)):=HM5.out.putV hW6 zLens HL.out;have HR6:=Lib.hid (HR5.out.far hW6 HZ.out.2.2.2.1);have HBE6:=Lib.hid (HBE5.out.trans (hW6.below HZ.out.2.2.2.2));have HS6:=Lib.hid (hF.out _ _ _ _ _ _ _ HSX.out hW6 HZ.out.2.1);clear hW6 HM5 HR5 HBE5 HSX)
  try go_frame
  by_cases h0:E=0
  · subst h0
    go_wp2_with (first
      | refine wpList_load_mid rfl 46 _ rfl W1.heap.size 0 rfl (nmL 4 t zGga zRmc zGsa Vx zGsv) _ HM6.out.rg Tryz.underlying46 rfl (nm_sizeL (zLens.withV HL.out)) ?_
      | (refine wpList_store_in rfl 46 _ _ rfl W0.heap.size 0 (nmL 4 t zGga zRmc zGsa Vx zGsv).toArray rfl rfl (HR6.out.thereA (nmL_same (zLens.withV HL.out) zLens)) (nm_sizeL (zLens.withV HL.out)) (Ones.arr (nmL_ones zones.1 zones.2.1 zones.2.2.1 HO.out zones.2.2.2.2)) ?_;intro W7 hW7;have HM7:Hid (Blk W7 W0.heap.size (nmL 4 t zGga zRmc zGsa Vx zGsv)):=HR6.out.all hW7 (nmL_same (zLens.withV HL.out) zLens);have HBE7:=Lib.hid (HBE6.out.trans (hW7.below HZ.out.2.2.1));have HS7:=Lib.hid (hF.out _ _ _ _ _ _ _ HS6.out hW7 HZ.out.1);clear hW7 HR6 HBE6 HS6))
    have HLD:=Lib.hid (run_loadVar_mid (P:=Tryz.prog) _ W0.heap.size 0 46 _ _ HM7.out.rg Tryz.underlying46 rfl (nm_sizeL (zLens.withV HL.out)))
    refine bodyPost_ret (v:=.tuple #[.agg (nmL 4 t zGga zRmc zGsa Vx zGsv).toArray,.int .i64 0]) (by rw [results_cell_tmp rfl];simp [asAddr,Result.andThen,HLD.out]) rfl ?_
    exact⟨HBE7.out,.inl ⟨rfl,Vx,W4.heap.size,by have:=HZ.out;omega,rfl,HS7.out⟩⟩
  · have hne:(E != 0)=true:=by rw [bne_iff_ne];exact h0
    go_wp2_with (first
      | refine wpList_build0 rfl 46 rfl (build_Nm0 _) ?_
      | (refine wpList_store_in rfl 46 _ _ rfl W0.heap.size 0 zNm rfl rfl (nm_thereC HR6.out zLens (NmV.zero 0 w)) (nm_sizeC (NmV.zero 0 w)) (NmV.zero 0 w).ones ?_;intro W7 hW7;have HM7:Hid (Blk W7 W0.heap.size zNm.toList):=HR6.out.all hW7 (nm_lenC (NmV.zero 0 w));have HBE7:=Lib.hid (HBE6.out.trans (hW7.below HZ.out.2.2.1));clear hW7 HR6 HBE6))
    have HLD:=Lib.hid (run_loadVar_mid (P:=Tryz.prog) _ W0.heap.size 0 46 _ _ HM7.out.rg Tryz.underlying46 rfl (by rw [Array.length_toList];exact nm_sizeC (NmV.zero 0 w)))
    refine bodyPost_ret (v:=.tuple #[.agg zNm,.int .i64 E]) (by rw [results_cell_tmp rfl];simp [asAddr,Result.andThen,HLD.out]) rfl ?_
    exact⟨HBE7.out,.inr ⟨h0,rfl⟩⟩
set_option maxRecDepth 8000 in
set_option maxHeartbeats 4000000 in
theorem r30Take_5 {t:ByteArray} {A:Option Addr} {n c:Nat} {Sx:Nat→World→List Value→Prop} {E:Int} {w:World} (hF:Hid (FarOk Sx)) (HP:∀ W,Below w.heap.size w W→Hid (Calls Tryz.prog 29 #[.slice A n c] W (RdOutF 4 Sx E W))):Calls Tryz.prog 10 #[.agg #[.string t,.string ⟨#[71,83,86]⟩,.slice A n c]] w (TkNm (fun Ux=>nmL 5 t zGga zRmc zGsa zVtg Ux) Sx E w):=by
  go_enter Tryz.func10,Tryz.ntmps10
  go_upto_region 1 with (first
    | (refine wpList_box_new rfl _ _ rfl #[.string t,.string ⟨#[71,83,86]⟩,.slice A n c] rfl ?_;intro W0 hW0;have HS0:=Lib.hid (Blk.newL (L:=[.string t,.string ⟨#[71,83,86]⟩,.slice A n c]) hW0 rfl);have HBE0:=Lib.hid hW0.bel;have HZ0:=Lib.hid hW0.sz;clear hW0)
    | (refine wpList_alloc_new rfl 46 rfl zNm (zero_Nm _) ?_;intro W1 hW1;have HR1:=Lib.hid (Blk.newL (L:=nmL 0 ByteArray.empty zGga zRmc zGsa zVtg zGsv) hW1 rfl);have HBE1:=Lib.hid (bthen HBE0.out hW1.bel);have HS1:=Lib.hid (HS0.out.grew hW1);have HZ1:=Lib.hid hW1.sz;have c0:=HS1.out.cell 0 rfl;clear hW1 HBE0 HS0))
  go_upto_region 2 with (first
    | refine wpList_build1 (u:=.string t) rfl 46 1 _ rfl rfl (build_Nm t _) ?_
    | (refine wpList_alloc_new rfl 46 rfl zNm (zero_Nm _) ?_;intro W2 hW2;have HMa:=Lib.hid (Blk.newL (L:=nmL 0 ByteArray.empty zGga zRmc zGsa zVtg zGsv) hW2 rfl);have HR2:=Lib.hid (HR1.out.grew hW2);have HBE2:=Lib.hid (bthen HBE1.out hW2.bel);have HS2:=Lib.hid (HS1.out.grew hW2);have HZ2:=Lib.hid hW2.sz;clear hW2 HBE1 HS1 HR1 c0)
    | (refine wpList_store_in rfl 46 _ _ rfl W1.heap.size 0 (nmL 0 t zGga zRmc zGsa zVtg zGsv).toArray rfl rfl (HMa.out.thereA (nmL_same zLens zLens)) (nm_sizeL zLens) (Ones.arr (nmL_ones zones.1 zones.2.1 zones.2.2.1 zones.2.2.2.1 zones.2.2.2.2)) ?_;intro W3 hW3;have HM3:Hid (Blk W3 W1.heap.size (nmL 0 t zGga zRmc zGsa zVtg zGsv)):=HMa.out.all hW3 (nmL_same zLens zLens);have HR3:=Lib.hid (HR2.out.far hW3 (by have:=HZ1.out;omega));have HS3:=Lib.hid (HS2.out.far hW3 (by have:=HZ0.out;have:=HZ1.out;omega));have HBE3:=Lib.hid (HBE2.out.trans (hW3.below (by have:=HZ0.out;have:=HZ1.out;omega)));have HZ3:=Lib.hid hW3.sz;have c1:=HS3.out.cell 1 rfl;have c2:=HS3.out.cell 2 rfl;clear hW3 HMa HR2 HS2 HBE2))
  try go_frame
  go_wp2_with (refine wpList_store_one rfl _ _ _ rfl W1.heap.size 0 (.int .i64 5) rfl rfl (HM3.out.there 0 1 (by rw [nmL_len zLens];omega)) rfl rfl rfl ?_;intro W4 hW4;have HM4:=Lib.hid (HM3.out.putK hW4);have HR4:=Lib.hid (HR3.out.far hW4 (by have:=HZ1.out;omega));have HS4:=Lib.hid (HS3.out.far hW4 (by have:=HZ0.out;have:=HZ1.out;omega));have HBE4:=Lib.hid (HBE3.out.trans (hW4.below (by have:=HZ0.out;have:=HZ1.out;omega)));have HZ4:=Lib.hid hW4.sz;clear c1 c2;have c2:=HS4.out.cell 2 rfl;clear hW4 HM3 HR3 HS3 HBE3)
  refine (HP _ HBE4.out).out.mono ?_
  rintro e W5 ⟨Ux,rfl,hl,ho,hs,hb⟩
  have HL:=Lib.hid hl
  have HO:=Lib.hid ho
  have HSX:=Lib.hid hs
  have HM5:=Lib.hid (HM4.out.on hb)
  have HR5:=Lib.hid (HR4.out.on hb)
  have HBE5:=Lib.hid (bthen HBE4.out hb)
  have HZ:Hid (W0.heap.size < W4.heap.size∧W1.heap.size < W4.heap.size∧w.heap.size≤W0.heap.size∧W0.heap.size≠W1.heap.size∧w.heap.size≤W1.heap.size):=by have:=HZ0.out;have:=HZ1.out;have:=HZ2.out;have:=HZ3.out;have:=HZ4.out;refine⟨?_,?_,?_,?_,?_⟩ <;> omega
  clear hl ho hs hb HM4 HR4 HS4 HBE4 HP c2 HZ0 HZ1 HZ2 HZ3 HZ4
  dsimp only
  go_upto_region 20 with (refine wpList_store_in rfl 44 _ _ rfl W1.heap.size 61 Ux.toArray rfl rfl (HM5.out.there 61 _ (by rw [List.size_toArray,HL.out,nmL_len zLens];omega)) (by rw [onGsv_size,List.size_toArray,HL.out]) (Ones.arr HO.out) ?_;intro W6 hW6;have HM6:Hid (Blk W6 W1.heap.size (nmL 5 t zGga zRmc zGsa zVtg Ux)):=HM5.out.putU hW6 zLens HL.out;have HR6:=Lib.hid (HR5.out.far hW6 HZ.out.2.2.2.1);have HBE6:=Lib.hid (HBE5.out.trans (hW6.below HZ.out.2.2.2.2));have HS6:=Lib.hid (hF.out _ _ _ _ _ _ _ HSX.out hW6 HZ.out.2.1);clear hW6 HM5 HR5 HBE5 HSX)
  try go_frame
  by_cases h0:E=0
  · subst h0
    go_wp2_with (first
      | refine wpList_load_mid rfl 46 _ rfl W1.heap.size 0 rfl (nmL 5 t zGga zRmc zGsa zVtg Ux) _ HM6.out.rg Tryz.underlying46 rfl (nm_sizeL (zLens.withU HL.out)) ?_
      | (refine wpList_store_in rfl 46 _ _ rfl W0.heap.size 0 (nmL 5 t zGga zRmc zGsa zVtg Ux).toArray rfl rfl (HR6.out.thereA (nmL_same (zLens.withU HL.out) zLens)) (nm_sizeL (zLens.withU HL.out)) (Ones.arr (nmL_ones zones.1 zones.2.1 zones.2.2.1 zones.2.2.2.1 HO.out)) ?_;intro W7 hW7;have HM7:Hid (Blk W7 W0.heap.size (nmL 5 t zGga zRmc zGsa zVtg Ux)):=HR6.out.all hW7 (nmL_same (zLens.withU HL.out) zLens);have HBE7:=Lib.hid (HBE6.out.trans (hW7.below HZ.out.2.2.1));have HS7:=Lib.hid (hF.out _ _ _ _ _ _ _ HS6.out hW7 HZ.out.1);clear hW7 HR6 HBE6 HS6))
    have HLD:=Lib.hid (run_loadVar_mid (P:=Tryz.prog) _ W0.heap.size 0 46 _ _ HM7.out.rg Tryz.underlying46 rfl (nm_sizeL (zLens.withU HL.out)))
    refine bodyPost_ret (v:=.tuple #[.agg (nmL 5 t zGga zRmc zGsa zVtg Ux).toArray,.int .i64 0]) (by rw [results_cell_tmp rfl];simp [asAddr,Result.andThen,HLD.out]) rfl ?_
    exact⟨HBE7.out,.inl ⟨rfl,Ux,W4.heap.size,by have:=HZ.out;omega,rfl,HS7.out⟩⟩
  · have hne:(E != 0)=true:=by rw [bne_iff_ne];exact h0
    go_wp2_with (first
      | refine wpList_build0 rfl 46 rfl (build_Nm0 _) ?_
      | (refine wpList_store_in rfl 46 _ _ rfl W0.heap.size 0 zNm rfl rfl (nm_thereC HR6.out zLens (NmV.zero 0 w)) (nm_sizeC (NmV.zero 0 w)) (NmV.zero 0 w).ones ?_;intro W7 hW7;have HM7:Hid (Blk W7 W0.heap.size zNm.toList):=HR6.out.all hW7 (nm_lenC (NmV.zero 0 w));have HBE7:=Lib.hid (HBE6.out.trans (hW7.below HZ.out.2.2.1));clear hW7 HR6 HBE6))
    have HLD:=Lib.hid (run_loadVar_mid (P:=Tryz.prog) _ W0.heap.size 0 46 _ _ HM7.out.rg Tryz.underlying46 rfl (by rw [Array.length_toList];exact nm_sizeC (NmV.zero 0 w)))
    refine bodyPost_ret (v:=.tuple #[.agg zNm,.int .i64 E]) (by rw [results_cell_tmp rfl];simp [asAddr,Result.andThen,HLD.out]) rfl ?_
    exact⟨HBE7.out,.inr ⟨h0,rfl⟩⟩
set_option maxRecDepth 8000 in
set_option maxHeartbeats 4000000 in
theorem r30Take_no {t y:ByteArray} {A:Option Addr} {n c:Nat} {w:World} (h1:(y.toList==[71,71,65])=false) (h2:(y.toList==[82,77,67])=false) (h3:(y.toList==[71,83,65])=false) (h4:(y.toList==[86,84,71])=false) (h5:(y.toList==[71,83,86])=false):Calls Tryz.prog 10 #[.agg #[.string t,.string y,.slice A n c]] w fun e w'=>e=.returned (.tuple #[.agg zNm,.int .i64 6])∧Below w.heap.size w w':=by
  go_enter Tryz.func10,Tryz.ntmps10
  go_upto_region 1 with (first
    | (refine wpList_box_new rfl _ _ rfl #[.string t,.string y,.slice A n c] rfl ?_;intro W0 hW0;have HS0:=Lib.hid (Blk.newL (L:=[.string t,.string y,.slice A n c]) hW0 rfl);have HBE0:=Lib.hid hW0.bel;have HZ0:=Lib.hid hW0.sz;clear hW0)
    | (refine wpList_alloc_new rfl 46 rfl zNm (zero_Nm _) ?_;intro W1 hW1;have HR1:=Lib.hid (Blk.newL (L:=nmL 0 ByteArray.empty zGga zRmc zGsa zVtg zGsv) hW1 rfl);have HBE1:=Lib.hid (bthen HBE0.out hW1.bel);have HS1:=Lib.hid (HS0.out.grew hW1);have HZ1:=Lib.hid hW1.sz;have c0:=HS1.out.cell 0 rfl;clear hW1 HBE0 HS0))
  go_upto_region 2 with (first
    | refine wpList_build1 (u:=.string t) rfl 46 1 _ rfl rfl (build_Nm t _) ?_
    | (refine wpList_alloc_new rfl 46 rfl zNm (zero_Nm _) ?_;intro W2 hW2;have HMa:=Lib.hid (Blk.newL (L:=nmL 0 ByteArray.empty zGga zRmc zGsa zVtg zGsv) hW2 rfl);have HR2:=Lib.hid (HR1.out.grew hW2);have HBE2:=Lib.hid (bthen HBE1.out hW2.bel);have HS2:=Lib.hid (HS1.out.grew hW2);have HZ2:=Lib.hid hW2.sz;clear hW2 HBE1 HS1 HR1 c0)
    | (refine wpList_store_in rfl 46 _ _ rfl W1.heap.size 0 (nmL 0 t zGga zRmc zGsa zVtg zGsv).toArray rfl rfl (HMa.out.thereA (nmL_same zLens zLens)) (nm_sizeL zLens) (Ones.arr (nmL_ones zones.1 zones.2.1 zones.2.2.1 zones.2.2.2.1 zones.2.2.2.2)) ?_;intro W3 hW3;have HM3:Hid (Blk W3 W1.heap.size (nmL 0 t zGga zRmc zGsa zVtg zGsv)):=HMa.out.all hW3 (nmL_same zLens zLens);have HR3:=Lib.hid (HR2.out.far hW3 (by have:=HZ1.out;omega));have HS3:=Lib.hid (HS2.out.far hW3 (by have:=HZ0.out;have:=HZ1.out;omega));have HBE3:=Lib.hid (HBE2.out.trans (hW3.below (by have:=HZ0.out;have:=HZ1.out;omega)));have HZ3:=Lib.hid hW3.sz;have c1:=HS3.out.cell 1 rfl;have c2:=HS3.out.cell 2 rfl;clear hW3 HMa HR2 HS2 HBE2))
  try go_frame
  go_wp2_with (first
      | refine wpList_build0 rfl 46 rfl (build_Nm0 _) ?_
      | (refine wpList_store_in rfl 46 _ _ rfl W0.heap.size 0 zNm rfl rfl (nm_thereC HR3.out zLens (NmV.zero 0 w)) (nm_sizeC (NmV.zero 0 w)) (NmV.zero 0 w).ones ?_;intro W7 hW7;have HM7:Hid (Blk W7 W0.heap.size zNm.toList):=HR3.out.all hW7 (nm_lenC (NmV.zero 0 w));have HBE7:=Lib.hid (HBE3.out.trans (hW7.below (by have:=HZ0.out;omega)));clear hW7 HR3 HBE3))
  have HLD:=Lib.hid (run_loadVar_mid (P:=Tryz.prog) _ W0.heap.size 0 46 _ _ HM7.out.rg Tryz.underlying46 rfl (by rw [Array.length_toList];exact nm_sizeC (NmV.zero 0 w)))
  refine bodyPost_ret (v:=.tuple #[.agg zNm,.int .i64 6]) (by rw [results_cell_tmp rfl];simp [asAddr,Result.andThen,HLD.out]) rfl ?_
  exact⟨rfl,HBE7.out⟩
def SIF (l:List Int) (f:Value→List Value) (lo:Nat) (w:World) (G:List Value):Prop:=∃ x,G=f x∧SlI lo w x l
def SVF (l:List V4) (f:Value→List Value) (lo:Nat) (w:World) (G:List Value):Prop:=∃ x,G=f x∧SlV lo w x l
theorem farOkI (l:List Int) (f:Value→List Value):FarOk (SIF l f):=fun lo w W b o cs G h hs hl=>by
  obtain⟨x,h1,h2⟩:=h;exact⟨x,h1,h2.far hs hl⟩
theorem farOkV (l:List V4) (f:Value→List Value):FarOk (SVF l f):=fun lo w W b o cs G h hs hl=>by
  obtain⟨x,h1,h2⟩:=h;exact⟨x,h1,h2.far hs hl⟩
theorem farOkP (p:List Value→Prop):FarOk (fun _ _ G=>p G):=fun lo w W b o cs G h _ _=>h
theorem bk_new {lo:Nat} {w:World} {A:Option Addr} {xs:List Value} (h:FlatQ (fun b=>b < w.heap.size) w A xs) (hf:∀ b off,A=some ⟨b,off,none⟩→lo≤b):FlatQ (Bk lo w) w A xs:=fun j u hu=>by
  obtain⟨b,off,h1,h2,h3⟩:=h j u hu
  exact⟨b,off,h1,⟨hf b off h1,h2⟩,h3⟩
theorem gsaPost_outF {fs:List ByteArray} {w:World} {e:Ending} {w':World} (h:GsaPostF (takeGsa fs) w e w'):RdOutF 9 (SIF (takeGsa fs).1.ids (sL (takeGsa fs).1)) (takeGsa fs).2 w e w':=by
  obtain⟨A,n,c,h1,rfl,h3,h4,h5⟩:=h
  exact⟨_,h1,rfl,sL_ones _ (y:=.slice A (takeGsa fs).1.ids.length c) rfl,⟨_,rfl,A,c,rfl,bk_new h3.flatq h4⟩,h5⟩
theorem gsvPost_outF {fs:List ByteArray} {w:World} {e:Ending} {w':World} (h:GsvPostF (takeGsv fs) w e w'):RdOutF 4 (SVF (takeGsv fs).1.L (uL (takeGsv fs).1)) (takeGsv fs).2 w e w':=by
  obtain⟨A,c,h1,h3,h4,h5⟩:=h
  exact⟨_,h1,rfl,uL_ones _ (y:=.slice A (takeGsv fs).1.L.length c) rfl,⟨_,rfl,A,c,rfl,bk_new h3.flatq h4⟩,h5⟩
theorem gsaBad_outF {w:World} {e:Ending} {w':World} (h:GsaPost (zeroS,3) w e w'):RdOutF 9 (SIF [] (sL zeroS)) 3 w e w':=by
  obtain⟨A,n,c,h1,rfl,h3,h5⟩:=h
  exact⟨_,h1,rfl,sL_ones _ (y:=.slice A 0 c) rfl,⟨_,rfl,A,c,rfl,FlatQ.nil _ _ _⟩,h5⟩
theorem gsvBad_outF {w:World} {e:Ending} {w':World} (h:GsvPost (zeroG,3) w e w'):RdOutF 4 (SVF [] (uL zeroG)) 3 w e w':=by
  obtain⟨A,c,h1,h3,h5⟩:=h
  exact⟨_,h1,rfl,uL_ones _ (y:=.slice A 0 c) rfl,⟨_,rfl,A,c,rfl,FlatQ.nil _ _ _⟩,h5⟩
theorem r27Take_all (A:Option Addr) (R:List ByteArray) (c:Nat) (w:World) (hs:Strs w w.heap.size A R) (hz:∀ t∈R,t.size≤1000000):Calls Tryz.prog 27 #[.slice A R.length c] w (RdOutF 9 (SIF (takeGsa R).1.ids (sL (takeGsa R).1)) (takeGsa R).2 w):=by
  by_cases h:R.length=17
  · exact (r27Take_ok A R.length c R w rfl hs hz h).mono fun _ _ h=>gsaPost_outF h
  · have:takeGsa R=(zeroS,3):=by unfold takeGsa;rw [if_pos h]
    rw [this]
    exact (r27Take_bad A R.length c w (by rw [bne_iff_ne];omega)).mono fun _ _ h=>gsaBad_outF h
theorem r29Take_all (A:Option Addr) (R:List ByteArray) (c:Nat) (w:World) (hs:Strs w w.heap.size A R) (hn:R.length≤1000000) (hz:∀ t∈R,t.size≤1000000):Calls Tryz.prog 29 #[.slice A R.length c] w (RdOutF 4 (SVF (takeGsv R).1.L (uL (takeGsv R).1)) (takeGsv R).2 w):=by
  by_cases h:badG R.length
  · have:takeGsv R=(zeroG,3):=by unfold takeGsv;rw [if_pos h]
    rw [this]
    exact (r29Take_bad A R.length c w h hn).mono fun _ _ h=>gsvBad_outF h
  · have hR:R≠[]:=fun q=>h (by rw [q];exact .inl (by decide))
    unfold badG at h
    exact (r29Take_ok A R.length c ((R.length - 3) / 4) R w rfl (strs_some hs hR c) hs hz (Lib.hid (by omega)) (by omega)).mono fun _ _ h=>gsvPost_outF h
theorem take30_of {t y:ByteArray} {fs:List ByteArray} {m:NmD} {E:Int} (h:rd30 y fs=(m,E)):take30 t y fs=if E=0 then (only30 t m,0) else (zD30,E):=by unfold take30;rw [h]
theorem r30Take_any {t y:ByteArray} {fs:List ByteArray} {A:Option Addr} {c:Nat} {w:World} (hs:Strs w w.heap.size A fs) (hn:fs.length≤1000000) (hz:∀ f∈fs,f.size≤1000000) :
    Calls Tryz.prog 10 #[.agg #[.string t,.string y,.slice A fs.length c]] w (NmOut (take30 t y fs) w):=by
  have hst:∀ W,Below w.heap.size w W→Strs W W.heap.size A fs:=fun W hb=>(hs.below hb (Nat.le_refl _)).more hb.size
  by_cases h1:y=⟨#[71,71,65]⟩
  · subst h1
    rw [take30_of (rd30_1 fs)]
    refine (r30Take_1 (Sx:=(fun _ _ G=>G=gL (takeGga fs).1)) (E:=(takeGga fs).2) (farOkP _) (fun W hb=>(r25Take_any A fs c W (hst W hb) hz).mono fun _ _ h=>⟨_,h.1,rfl,gL_ones _,rfl,h.2⟩)).mono ?_
    rintro e w' ⟨hb,⟨h0,G,lo,hlo,rfl,hs⟩ | ⟨h0,rfl⟩⟩
    · rw [if_pos h0]
      subst hs
      exact⟨_,rfl,⟨_,_,rfl,SlI.nil _ _,SlV.nil _ _⟩,hb⟩
    · rw [if_neg h0]
      exact⟨_,rfl,NmV.zero _ _,hb⟩
  by_cases h2:y=⟨#[82,77,67]⟩
  · subst h2
    rw [take30_of (rd30_2 fs)]
    refine (r30Take_2 (Sx:=(fun _ _ G=>G=rL (takeRmc fs).1)) (E:=(takeRmc fs).2) (farOkP _) (fun W hb=>(r26Take_any A fs c W (hst W hb) hz).mono fun _ _ h=>⟨_,h.1,rfl,rL_ones _,rfl,h.2⟩)).mono ?_
    rintro e w' ⟨hb,⟨h0,G,lo,hlo,rfl,hs⟩ | ⟨h0,rfl⟩⟩
    · rw [if_pos h0]
      subst hs
      exact⟨_,rfl,⟨_,_,rfl,SlI.nil _ _,SlV.nil _ _⟩,hb⟩
    · rw [if_neg h0]
      exact⟨_,rfl,NmV.zero _ _,hb⟩
  by_cases h3:y=⟨#[71,83,65]⟩
  · subst h3
    rw [take30_of (rd30_3 fs)]
    refine (r30Take_3 (Sx:=(SIF (takeGsa fs).1.ids (sL (takeGsa fs).1))) (E:=(takeGsa fs).2) (farOkI _ _) (fun W hb=>(r27Take_all A fs c W (hst W hb) hz).mono fun _ _ h=>h)).mono ?_
    rintro e w' ⟨hb,⟨h0,G,lo,hlo,rfl,hs⟩ | ⟨h0,rfl⟩⟩
    · rw [if_pos h0]
      obtain⟨x,rfl,hx⟩:=hs
      exact⟨_,rfl,⟨_,_,rfl,hx.less hlo,SlV.nil _ _⟩,hb⟩
    · rw [if_neg h0]
      exact⟨_,rfl,NmV.zero _ _,hb⟩
  by_cases h4:y=⟨#[86,84,71]⟩
  · subst h4
    rw [take30_of (rd30_4 fs)]
    refine (r30Take_4 (Sx:=(fun _ _ G=>G=viewC (l4v (takeVtg fs).1))) (E:=(takeVtg fs).2) (farOkP _) (fun W hb=>(r28Take_any A fs c W (hst W hb) hn hz).mono fun _ _ h=>⟨_,by rw [h.1,vtgLV_l4v (takeVtg_len fs)],rfl,vL_ones _,rfl,h.2⟩)).mono ?_
    rintro e w' ⟨hb,⟨h0,G,lo,hlo,rfl,hs⟩ | ⟨h0,rfl⟩⟩
    · rw [if_pos h0]
      subst hs
      exact⟨_,rfl,⟨_,_,rfl,SlI.nil _ _,SlV.nil _ _⟩,hb⟩
    · rw [if_neg h0]
      exact⟨_,rfl,NmV.zero _ _,hb⟩
  by_cases h5:y=⟨#[71,83,86]⟩
  · subst h5
    rw [take30_of (rd30_5 fs)]
    refine (r30Take_5 (Sx:=(SVF (takeGsv fs).1.L (uL (takeGsv fs).1))) (E:=(takeGsv fs).2) (farOkV _ _) (fun W hb=>(r29Take_all A fs c W (hst W hb) hn hz).mono fun _ _ h=>h)).mono ?_
    rintro e w' ⟨hb,⟨h0,G,lo,hlo,rfl,hs⟩ | ⟨h0,rfl⟩⟩
    · rw [if_pos h0]
      obtain⟨x,rfl,hx⟩:=hs
      exact⟨_,rfl,⟨_,_,rfl,SlI.nil _ _,hx.less hlo⟩,hb⟩
    · rw [if_neg h0]
      exact⟨_,rfl,NmV.zero _ _,hb⟩
  rw [take30_of (rd30_no fs h1 h2 h3 h4 h5)]
  refine (r30Take_no (text_not h1) (text_not h2) (text_not h3) (text_not h4) (text_not h5)).mono ?_
  rintro e w' ⟨rfl,hb⟩
  rw [if_neg (by decide)]
  exact⟨_,rfl,NmV.zero _ _,hb⟩
end Go.Proofs.YtoabkoniegmkaaaGreat
