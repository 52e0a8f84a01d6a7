/- Layer 40: skip. Printed by genrsy1.py. -/
import Derived.Test.YtdkhlkfleggbaaaGreatP01
import Derived.RegionTactic
import Derived.Test.YtdkhlkfleggbaaaGreatP02
import Derived.ChangeKeysEq
import Derived.Test.YtdkhlkfleggbaaaGreatP04
namespace Go.Proofs.YtdkhlkfleggbaaaGreat
set_option maxHeartbeats 1000000
set_option maxRecDepth 8000
open Lib (hid)
set_option linter.unusedVariables false
open Go.RowKit
theorem bg5 (W:World) (d:Nat) (h:Blk W d (bsV [181,98])):Calls Tryz.prog 10 #[.slice (some ⟨d,0,none⟩) [181,98].length [181,98].length] W (akl 0 1 0 0 W):=by
 have hf:∀W',Below W.heap.size W W'→qf (fun _=>True) W' (some ⟨d,0,none⟩) (bsV [181,98]):=fun W' hb=>(h.on hb).flat trivial
 have:=bb6 (Q:=fun _=>True) (w:=W) (some ⟨d,0,none⟩) 2 181 [98] 1 2 (h.flat trivial) (by decide) (by decide) (by decide) (by unfold maxLen;decide) (fun W1 hb1=>hid (a7a 0 2 fun W2 hb2=>hid (as5 2 (by decide) 0 fun W3 hb3=>hid (by
  exact ahx (some ⟨d,0,none⟩) 2 [181,98] (hf _ (qb hb1 (qb hb2 hb3))) (by decide) (by decide)))))
 exact this
theorem bdh (W:World) (d:Nat) (h:Blk W d (bsV [0])):Calls Tryz.prog 10 #[.slice (some ⟨d,0,none⟩) 1 1] W (akl 1 0 0 3 W):=
 aov (Q:=fun _=>True) (some ⟨d,0,none⟩) 1 0 [] (h.flat trivial) (by decide) (by unfold maxLen;decide)
theorem bc2 (W:World) (d:Nat) (h:Blk W d (bsV [181,98])):Calls Tryz.prog 10 #[.slice (some ⟨d,0,none⟩) 2 2] W (akl 0 1 0 0 W):=bg5 W d h
theorem aab (w:World):Calls Tryz.prog 9 #[] w fun e w'=>e=.returned (.bool true)∧Below w.heap.size w w':=by
 have HZ:=fun W=>hid (abo W)
 have HK1:Hid (Blk (w.alloc (.cells #[.int .u8 0] 5)) w.heap.size (bsV [0])):=hid (Blk.newL (qg w #[.int .u8 0] 5) rfl)
 have HP:∀W,Hid (Calls Tryz.prog 13 #[.int .u8 36] W fun e w'=>e=.returned (.int .i64 2)∧W=w'):=fun W=>hid (aeo 36 W)
 go_enter Tryz.func9,Tryz.ntmps9
 go_wp2_with fail
 refine(bdh _ _ HK1.out).mono ?_
 rintro e w1 ⟨rfl,hb⟩
 have HB1:=hid (qb (qa w (.cells #[.int .u8 0] 5)) hb)
 have HK2:Hid (Blk (w1.alloc (.cells #[.int .u8 181,.int .u8 98] 5)) w1.heap.size (bsV [181,98])):=hid (Blk.newL (qg w1 #[.int .u8 181,.int .u8 98] 5) rfl)
 clear hb HK1
 go_wp2_with fail
 refine(bc2 _ _ HK2.out).mono ?_
 rintro e w2 ⟨rfl,hb⟩
 have HB2:=hid (qb HB1.out (qb (qa w1 (.cells #[.int .u8 181,.int .u8 98] 5)) hb))
 clear hb HK2 HB1
 go_upto_region 2 with(first
  | (refine qe rfl 66 _ _ rfl w2.heap.size 0 (veA 1 0 0 3) rfl rfl (HV1.out.there 0 124 (Nat.le_refl _)) (ady _ _ _ _) (ad4 _ _ _ _) ?_;intro W5 hs;have HX1:=hid (HV1.out.all hs rfl);have HX2:=hid (HV2.out.far hs (by have:=HV1.out.lt;have:=HS3.out;omega));have HB5:=hid (HB4.out.trans (hs.below HB2.out.size));clear hs HV1 HV2 HB4)
  | (refine qe rfl 66 _ _ rfl W3.heap.size 0 (veA 0 1 0 0) rfl rfl (HX2.out.there 0 124 (Nat.le_refl _)) (ady _ _ _ _) (ad4 _ _ _ _) ?_;intro W6 hs;have HY2:=hid (HX2.out.all hs rfl);have HY1:=hid (HX1.out.far hs (by have:=HS3.out;omega));have HB6:=hid (HB5.out.trans (hs.below (by have:=HB2.out.size;have:=HS3.out;omega)));clear hs HX1 HX2 HB5)
  | (refine qc rfl 66 rfl (veA 0 0 0 0) (HZ _).out ?_;first
   | (intro W4 hW;have HV2:=hid (Blk.newL (L:=veL 0 0 0 0 aaa) hW rfl);have HV1:=hid (HU1.out.on hW.bel);have HB4:=hid (qb HB3.out hW.bel);clear hW HU1 HB3)
   | (intro W3 hW;have HU1:=hid (Blk.newL (L:=veL 0 0 0 0 aaa) hW rfl);have HS3:=hid hW.sz;have HB3:=hid (qb HB2.out hW.bel);clear hW)))
 have v0:=HY1.out.cell 0 (v:=.int .i64 1) rfl
 have v1:=HY2.out.cell 0 (v:=.int .i64 0) rfl
 have v2:=HY2.out.cell 1 (v:=.int .i64 1) rfl
 clear HY1 HY2
 go_wp2_with (refine(HP _).out.mono ?_;rintro e w' ⟨rfl,rfl⟩)
 go_ret
 exact⟨rfl,HB6.out⟩
end Go.Proofs.YtdkhlkfleggbaaaGreat
