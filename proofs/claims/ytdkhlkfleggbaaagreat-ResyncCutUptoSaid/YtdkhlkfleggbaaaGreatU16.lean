/- Parts. -/
import Derived.Test.YtdkhlkfleggbaaaGreatU15
namespace Go.Proofs.YtdkhlkfleggbaaaGreat
set_option maxHeartbeats 4000000
set_option maxRecDepth 8000
open Lib (hid)
open Tryz
set_option linter.unusedVariables false
open Go.RowKit
theorem be4 {t:ByteArray} {V:List Value} (hl:Hid (V.length=8)) (ho:Hid (xj V)) (w:World):Calls prog 84 #[.string t,.iface 251 (.agg V.toArray)] w fun e w'=>e=.returned (.tuple #[.agg (nmL 4 t zy xd xw V ja).toArray,.string ⟨#[86,84,71]⟩])∧Below w.1.size w w':=by
 have HA0:=fun W=>hid (apd V W)
 have HA1:=fun W=>hid (apf V W)
 have HA2:=fun W=>hid (ape V W)
 have HA3:=fun W=>hid (apg V W)
 have HZ:=fun W=>hid (a7o W)
 have HZN:=fun W=>hid (acz W)
 have HBN:=fun W=>hid (afc t W)
 go_enter func84,ntmps84;go_upto_region 1 with(refine qc rfl _ rfl zNm (HZN _).out ?_;intro W1 hW1;have HK4:=hid (Blk.newL (L:=nmL 0 ByteArray.empty zy xd xw xh ja) hW1 rfl);have HBE1:=hid hW1.bel;have HS1:=hid hW1.sz;clear hW1)
 go_upto_region 2 with(first
  | refine zh (u:=.string t) rfl _ 1 _ rfl rfl (HBN _).out ?_
  | (refine qc rfl _ rfl zNm (HZN _).out ?_;intro W2 hW2;have HK6a:=hid (Blk.newL (L:=nmL 0 ByteArray.empty zy xd xw xh ja) hW2 rfl);have HK4a:=hid (HK4.out.grew hW2);have HBE2:=hid (qb HBE1.out hW2.bel);have HS2:=hid hW2.sz;clear hW2 HBE1)
  | (refine qe rfl _ _ _ rfl W1.1.size 0 (nmL 0 t zy xd xw xh ja).toArray rfl rfl (HK6a.out.thereA (jc qq qq)) (jd qq) (xj.arr (ya xi.1 xi.2.1 xi.2.2.1 xi.2.2.2.1 xi.2.2.2.2)) ?_;intro W3 hW3;have HK6:Hid (Blk W3 W1.1.size (nmL 0 t zy xd xw xh ja)):=(HK6a.out.all hW3 (jc qq qq));have HK4b:=hid (HK4a.out.far hW3 (by have:=HS1.out;omega));have HBE3:=hid (HBE2.out.trans (hW3.below (by have:=HS1.out;omega)));have HS3:=hid hW3.sz;clear hW3 HK6a HK4 HK4a HBE2))
 go_upto_region 18 with(first
  | refine zb rfl _ _ _ _ rfl rfl (HA0 _).out ?_
  | refine zb rfl _ _ _ _ rfl rfl (HA1 _).out ?_
  | refine zb rfl _ _ _ _ rfl rfl (HA2 _).out ?_
  | refine zb rfl _ _ _ _ rfl rfl (HA3 _).out ?_
  | (refine qc rfl _ rfl xh.toArray (HZ _).out ?_;intro W4 hW4;have HK7a:=hid (Blk.newL (L:=xh) hW4 rfl);have HK4c:=hid (HK4b.out.grew hW4);have HK6c:=hid (HK6.out.grew hW4);have HBE4:=hid (qb HBE3.out hW4.bel);have HS4:=hid hW4.sz;clear hW4 HBE3 HK4b HK6)
  | (refine qe rfl _ _ _ rfl W3.1.size 0 V.toArray rfl rfl (HK7a.out.thereA hl.out) (by rw[a6l,o6,hl.out]) (xj.arr ho.out) ?_;intro W5 hW5;have HK7:Hid (Blk W5 W3.1.size V):=HK7a.out.all hW5 hl.out;have HK6d:=hid (HK6c.out.far hW5 (by have:=HS1.out;have:=HS2.out;have:=HS3.out;omega));have HK4d:=hid (HK4c.out.far hW5 (by have:=HS1.out;have:=HS2.out;have:=HS3.out;omega));have HBE5:=hid (HBE4.out.trans (hW5.below (by have:=HS1.out;have:=HS2.out;have:=HS3.out;omega)));have HS5:=hid hW5.sz;clear hW5 HK7a HK6c HK4c HBE4))
 try go_frame
 clear HA0;clear HA1;clear HA2;clear HA3;clear HZ HZN HBN;have hS0:W5.drew.rangeAt W3.1.size 0 V∧W5.drew.there W1.1.size 0 65:=⟨HK7.out.drew.rg,HK6d.out.drew.nm65 qq⟩;refine o7 (S:=fun w'=>w'.rangeAt W3.1.size 0 V∧w'.there W1.1.size 0 65) kr hS0 (fun hHeld=>?_);refine tkQ (i:=0) (oi:=_) (v:=?_) rfl (Or.inl ⟨by rfl,?_⟩) ?_;rotate_left
 ·intro w hSw;go_simp
  try with_reducible rfl
 try go_frame
 refine tkQ (i:=1) (oi:=_) (v:=_) rfl (n9 (by rfl) 53 _ rfl W3.1.size 0 rfl V _ (fun w h=>h.1) underlying53 rfl (by rw[aea,hl.out])) ?_;go_frame;refine tkQ (i:=2) (oi:=_) (v:=?_) rfl (Or.inl ⟨by rfl,?_⟩) ?_;rotate_left
 ·intro w hSw;go_simp
  try with_reducible rfl
 try go_frame
 refine b1a (rs:=[3]) kr sm ?_;refine b0r (o:=_) rfl (fun K hK=>?_) b06;rw[if_pos (by rfl)];refine abe _ _ _ rfl W1.1.size 0 (.int .i64 4) rfl rfl (World.there.sub hHeld.2 0 1 om) rfl rfl rfl ?_;intro W6 hW6;have HK7':=hid (HK7.out.drew.far hW6 (by have:=HS1.out;have:=HS2.out;have:=HS3.out;omega));have HK6e:=hid (HK6d.out.drew.putK hW6);have HK4e:=hid (HK4d.out.drew.far hW6 (by have:=HS1.out;have:=HS2.out;have:=HS3.out;omega));have HBE6:=hid (HBE5.out.trans (hW6.drew.below (by have:=HS1.out;have:=HS2.out;have:=HS3.out;omega)));have HS6:Hid (W6.1.size=W5.1.size):=hW6.sz
 clear hW6 HK7 HK6d HK4d HBE5;refine hK.out _ _ ⟨HK7'.out.rg,HK6e.out.nm65 qq⟩ (fun hHeld=>?_);clear hK K
 try go_frame
 refine tkQ (i:=4) (oi:=_) (v:=?_) rfl (Or.inl ⟨by rfl,?_⟩) ?_;rotate_left
 ·intro w hSw;go_simp
  try with_reducible rfl
 try go_frame
 refine b1a (rs:=[5]) kr sm ?_;refine b0r (o:=_) rfl (fun K hK=>?_) b06;rw[if_pos (by rfl)];refine ac3 _ _ _ rfl W1.1.size 53 V.toArray rfl rfl (HK6e.out.there 53 _ (by rw[o6,hl.out,abb qq];omega)) (by rw[aea,o6,hl.out]) (xj.arr ho.out) ?_;intro W7 hW7;have HK6f:Hid (Blk W7 W1.1.size (nmL 4 t zy xd xw V ja)):=HK6e.out.putV hW7 qq hl.out;have HK4f:=hid (HK4e.out.far hW7 (by have:=HS1.out;omega));have HK7'':=hid (HK7'.out.far hW7 (by have:=HS1.out;have:=HS2.out;have:=HS3.out;omega));have HBE7:=hid (HBE6.out.trans (hW7.below (by have:=HS1.out;have:=HS2.out;have:=HS3.out;omega)));have HS7:=hid hW7.sz
 clear hW7 HK6e HK4e HBE6 HK7';refine hK.out _ _ ⟨HK7''.out.rg,HK6f.out.nm65 (qq.withV hl.out)⟩ (fun hHeld=>?_);clear hK K
 try go_frame
 refine b0j kr ?_ _;clear hS0 hHeld;clear HK7'' HS1 HS2 HS3 HS4 HS5 HS6 HS7
 go_wp2_with (first
  | refine b0i rfl 58 _ rfl W1.1.size 0 rfl (nmL 4 t zy xd xw V ja) _ HK6f.out.rg underlying58 rfl (jd (qq.withV hl.out)) ?_
  | (refine qe rfl _ _ _ rfl w.1.size 0 (nmL 4 t zy xd xw V ja).toArray rfl rfl (HK4f.out.thereA (jc (qq.withV hl.out) qq)) (jd (qq.withV hl.out)) (xj.arr (ya xi.1 xi.2.1 xi.2.2.1 ho.out xi.2.2.2.2)) ?_;intro W8 hW8;have HK:Hid (Blk W8 w.1.size (nmL 4 t zy xd xw V ja)):=HK4f.out.all hW8 (jc (qq.withV hl.out) qq);have HBE8:=hid (HBE7.out.trans (hW8.below (a8 _)));clear hW8))
 have HLD:=hid (t6 (P:=prog) W8 w.1.size 0 58 (nmL 4 t zy xd xw V ja) _ HK.out.rg underlying58 rfl (jd (qq.withV hl.out)));clear HK;refine b9 (v:=.tuple #[.agg (nmL 4 t zy xd xw V ja).toArray,.string ⟨#[86,84,71]⟩]) (by rw[b1g rfl];simp[asAddr,Result.andThen,HLD.out]) rfl ?_;exact⟨rfl,HBE8.out⟩
theorem be5 {t:ByteArray} (w:World) {T N S:Int} {A:Option Addr} {c:Nat} {D:List V4} (hs:qf (fun b=>b<w.1.size) w A (vsC D)) (hm:D.length≤1000000):Calls prog 84 #[.string t,.iface 255 (.agg ([.int .i64 T,.int .i64 N,.int .i64 S,.slice A D.length c]:List Value).toArray)] w fun e w'=>∃B d,e=.returned (.tuple #[.agg (nmL 5 t zy xd xw xh ([.int .i64 T,.int .i64 N,.int .i64 S,.slice B D.length d])).toArray,.string ⟨#[71,83,86]⟩])∧qf (fun b=>w.1.size≤b∧b<w'.1.size) w' B (vsC D)∧Below w.1.size w w':=by
 obtain⟨Up,hG⟩:∃L,([.int .i64 T,.int .i64 N,.int .i64 S,.slice A D.length c]:List Value)=L:=⟨_,rfl⟩;have hl:Hid (Up.length=4):=by rw[← hG];exact rfl
 have ho:Hid (xj Up):=by rw[← hG];exact xj.of rfl
 have HG:=hid hG;obtain⟨n,hn⟩:∃n,D.length=n:=⟨_,rfl⟩;have HN:=hid hn;have HHS:=hid hs;have HHM:=hid hm;rw[hG];clear hG hs hm hn;have HA0:=fun W=>hid (ao6 Up W)
 have HA1:=fun W=>hid (ao9 Up W)
 have HA2:=fun W=>hid (ao7 Up W)
 have HA3:=fun W=>hid (apa Up W)
 have HA4:=fun W=>hid (ao8 Up W)
 have HZ:=fun W=>hid (a7m W)
 have HZN:=fun W=>hid (acz W)
 have HBN:=fun W=>hid (afc t W)
 go_enter func84,ntmps84;go_upto_region 1 with(refine qc rfl _ rfl zNm (HZN _).out ?_;intro W1 hW1;have HK4:=hid (Blk.newL (L:=nmL 0 ByteArray.empty zy xd xw xh ja) hW1 rfl);have HBE1:=hid hW1.bel;have HS1:=hid hW1.sz;clear hW1)
 go_upto_region 2 with(first
  | refine zh (u:=.string t) rfl _ 1 _ rfl rfl (HBN _).out ?_
  | (refine qc rfl _ rfl zNm (HZN _).out ?_;intro W2 hW2;have HK6a:=hid (Blk.newL (L:=nmL 0 ByteArray.empty zy xd xw xh ja) hW2 rfl);have HK4a:=hid (HK4.out.grew hW2);have HBE2:=hid (qb HBE1.out hW2.bel);have HS2:=hid hW2.sz;clear hW2 HBE1)
  | (refine qe rfl _ _ _ rfl W1.1.size 0 (nmL 0 t zy xd xw xh ja).toArray rfl rfl (HK6a.out.thereA (jc qq qq)) (jd qq) (xj.arr (ya xi.1 xi.2.1 xi.2.2.1 xi.2.2.2.1 xi.2.2.2.2)) ?_;intro W3 hW3;have HK6:Hid (Blk W3 W1.1.size (nmL 0 t zy xd xw xh ja)):=(HK6a.out.all hW3 (jc qq qq));have HK4b:=hid (HK4a.out.far hW3 (by have:=HS1.out;omega));have HBE3:=hid (HBE2.out.trans (hW3.below (by have:=HS1.out;omega)));have HS3:=hid hW3.sz;clear hW3 HK6a HK4 HK4a HBE2))
 go_upto_region 22 with(first
  | refine zb rfl _ _ _ _ rfl rfl (HA0 _).out ?_
  | refine zb rfl _ _ _ _ rfl rfl (HA1 _).out ?_
  | refine zb rfl _ _ _ _ rfl rfl (HA2 _).out ?_
  | refine zb rfl _ _ _ _ rfl rfl (HA3 _).out ?_
  | refine zb rfl _ _ _ _ rfl rfl (HA4 _).out ?_
  | (refine qc rfl _ rfl ja.toArray (HZ _).out ?_;intro W4 hW4;have HK7a:=hid (Blk.newL (L:=ja) hW4 rfl);have HK4c:=hid (HK4b.out.grew hW4);have HK6c:=hid (HK6.out.grew hW4);have HBE4:=hid (qb HBE3.out hW4.bel);have HS4:=hid hW4.sz;clear hW4 HBE3 HK4b HK6)
  | (refine qe rfl _ _ _ rfl W3.1.size 0 Up.toArray rfl rfl (HK7a.out.thereA hl.out) (by rw[a6j,o6,hl.out]) (xj.arr ho.out) ?_;intro W5 hW5;have HK7:Hid (Blk W5 W3.1.size Up):=HK7a.out.all hW5 hl.out;have HK6d:=hid (HK6c.out.far hW5 (by have:=HS1.out;have:=HS2.out;have:=HS3.out;omega));have HK4d:=hid (HK4c.out.far hW5 (by have:=HS1.out;have:=HS2.out;have:=HS3.out;omega));have HBE5:=hid (HBE4.out.trans (hW5.below (by have:=HS1.out;have:=HS2.out;have:=HS3.out;omega)));have HS5:=hid hW5.sz;clear hW5 HK7a HK6c HK4c HBE4))
 try go_frame
 clear HA0;clear HA1;clear HA2;clear HA3;clear HA4;clear HZ HZN HBN;have hS0:W5.drew.rangeAt W3.1.size 0 Up∧W5.drew.there W1.1.size 0 65:=⟨HK7.out.drew.rg,HK6d.out.drew.nm65 qq⟩;refine o7 (S:=fun w'=>w'.rangeAt W3.1.size 0 Up∧w'.there W1.1.size 0 65) kr hS0 (fun hHeld=>?_);refine tkQ (i:=0) (oi:=_) (v:=?_) rfl (Or.inl ⟨by rfl,?_⟩) ?_;rotate_left
 ·intro w hSw;go_simp
  try with_reducible rfl
 try go_frame
 refine tkQ (i:=1) (oi:=_) (v:=_) rfl (n9 (by rfl) 56 _ rfl W3.1.size 0 rfl Up _ (fun w h=>h.1) underlying56 rfl (by rw[ad8,hl.out])) ?_;go_frame;refine tkQ (i:=2) (oi:=_) (v:=?_) rfl (Or.inl ⟨by rfl,?_⟩) ?_;rotate_left
 ·intro w hSw;go_simp
  try with_reducible rfl
 try go_frame
 refine b1a (rs:=[3]) kr sm ?_;refine b0r (o:=_) rfl (fun K hK=>?_) b06;rw[if_pos (by rfl)];refine abe _ _ _ rfl W1.1.size 0 (.int .i64 5) rfl rfl (World.there.sub hHeld.2 0 1 om) rfl rfl rfl ?_;intro W6 hW6;have HK7':=hid (HK7.out.drew.far hW6 (by have:=HS1.out;have:=HS2.out;have:=HS3.out;omega));have HK6e:=hid (HK6d.out.drew.putK hW6);have HK4e:=hid (HK4d.out.drew.far hW6 (by have:=HS1.out;have:=HS2.out;have:=HS3.out;omega));have HBE6:=hid (HBE5.out.trans (hW6.drew.below (by have:=HS1.out;have:=HS2.out;have:=HS3.out;omega)));have HS6:Hid (W6.1.size=W5.1.size):=hW6.sz
 clear hW6 HK7 HK6d HK4d HBE5;refine hK.out _ _ ⟨HK7'.out.rg,HK6e.out.nm65 qq⟩ (fun hHeld=>?_);clear hK K
 try go_frame
 refine tkQ (i:=4) (oi:=_) (v:=?_) rfl (Or.inl ⟨by rfl,?_⟩) ?_;rotate_left
 ·intro w hSw;go_simp
  try with_reducible rfl
 try go_frame
 refine b1a (rs:=[5]) kr sm ?_;refine b0r (o:=_) rfl (fun K hK=>?_) b06;rw[if_pos (by rfl)];refine ac3 _ _ _ rfl W1.1.size 61 Up.toArray rfl rfl (HK6e.out.there 61 _ (by rw[o6,hl.out,abb qq];omega)) (by rw[ad8,o6,hl.out]) (xj.arr ho.out) ?_;intro W7 hW7;have HK6f:Hid (Blk W7 W1.1.size (nmL 5 t zy xd xw xh Up)):=HK6e.out.putU hW7 qq hl.out;have HK4f:=hid (HK4e.out.far hW7 (by have:=HS1.out;omega));have HK7'':=hid (HK7'.out.far hW7 (by have:=HS1.out;have:=HS2.out;have:=HS3.out;omega));have HBE7:=hid (HBE6.out.trans (hW7.below (by have:=HS1.out;have:=HS2.out;have:=HS3.out;omega)));have HS7:=hid hW7.sz
 clear hW7 HK6e HK4e HBE6 HK7';refine hK.out _ _ ⟨HK7''.out.rg,HK6f.out.nm65 (qq.withU hl.out)⟩ (fun hHeld=>?_);clear hK K
 try go_frame
 refine b0j kr ?_ _;clear hS0 hHeld;have HX:Hid (Blk W7 W3.1.size ([.int .i64 T,.int .i64 N,.int .i64 S,.slice A n c])):=by have h:=HK7''.out;rw[← HG.out,HN.out]at h;exact h
 have hC:=a23 A D c W7 (HHS.out.below HBE7.out (fun b h=>h)) HHM.out;rw[HN.out]at hC;have HC:=hid hC;have g0:W7.cell? ⟨W3.1.size,3,none⟩=some (.slice A n c):=HX.out.cell 3 rfl;clear hC;go_wp2_with fail;refine HC.out.mono ?_;rintro e W9 ⟨Bq,d,rfl,hf,hb⟩;have HF9:=hid hf;have HK6g:=hid (HK6f.out.on hb);have HK4g:=hid (HK4f.out.on hb);have HBE9:=hid (qb HBE7.out hb);have HB9:=hid hb
 clear hf hb g0 HK6f HK4f HK7'' HX HC;go_upto_region 24 with(refine afr rfl _ _ _ rfl W1.1.size 64 (.slice Bq n d) rfl rfl (HK6g.out.there 64 1 (by rw[abb (qq.withU hl.out)];omega)) rfl rfl rfl ?_;intro WA hWA;have HFA:=hid (aku HF9.out hWA (by have:=HS1.out;have:=HS2.out;have:=HS3.out;have:=HS4.out;have:=HS5.out;have:=HS6.out;have:=HS7.out;omega));have HZA:Hid (WA.1.size=W9.1.size∧w.1.size<W7.1.size):=⟨hWA.sz,by have:=HS1.out;have:=HS2.out;have:=HS3.out;have:=HS4.out;have:=HS5.out;have:=HS6.out;have:=HS7.out;omega⟩;have HK6h:Hid (Blk WA W1.1.size (nmL 5 t zy xd xw xh ([.int .i64 T,.int .i64 N,.int .i64 S,.slice Bq n d]))):=a0e HK6g.out hWA HG.out;have HK4h:=hid (HK4g.out.far hWA (by have:=HS1.out;omega));have HBE7:=hid (HBE9.out.trans (hWA.below (by have:=HS1.out;omega)));clear hWA HK6g HK4g HBE9)
 clear HS2 HS3 HS4 HS5 HS6 HS7 HF9 HB9
 try go_frame
 go_wp2_with (first
  | refine b0i rfl 58 _ rfl W1.1.size 0 rfl (nmL 5 t zy xd xw xh ([.int .i64 T,.int .i64 N,.int .i64 S,.slice Bq n d])) _ HK6h.out.rg underlying58 rfl (jd (qq.withU rfl)) ?_
  | (refine qe rfl _ _ _ rfl w.1.size 0 (nmL 5 t zy xd xw xh ([.int .i64 T,.int .i64 N,.int .i64 S,.slice Bq n d])).toArray rfl rfl (HK4h.out.thereA (jc (qq.withU rfl) qq)) (jd (qq.withU rfl)) (xj.arr (ya xi.1 xi.2.1 xi.2.2.1 xi.2.2.2.1 (xj.of rfl))) ?_;intro W8 hW8;have HK:Hid (Blk W8 w.1.size (nmL 5 t zy xd xw xh ([.int .i64 T,.int .i64 N,.int .i64 S,.slice Bq n d]))):=HK4h.out.all hW8 (jc (qq.withU rfl) qq);have HBE8:=hid (HBE7.out.trans (hW8.below (a8 _)));have HFB:=hid (aku HFA.out hW8 HZA.out.2);have HZB:Hid (W8.1.size=W9.1.size):=hW8.sz.trans HZA.out.1;clear hW8 HFA))
 have HLD:=hid (t6 (P:=prog) W8 w.1.size 0 58 (nmL 5 t zy xd xw xh ([.int .i64 T,.int .i64 N,.int .i64 S,.slice Bq n d])) _ HK.out.rg underlying58 rfl (jd (qq.withU rfl)));clear HK;refine b9 (v:=.tuple #[.agg (nmL 5 t zy xd xw xh ([.int .i64 T,.int .i64 N,.int .i64 S,.slice Bq n d])).toArray,.string ⟨#[71,83,86]⟩]) (by rw[b1g rfl];simp[asAddr,Result.andThen,HLD.out]) rfl ?_;exact⟨Bq,d,by rw[HN.out],HFB.out.less (fun b hb=>⟨by have:=HZA.out.2;omega,by have:=HZB.out;omega⟩),HBE8.out⟩
theorem bai {t:ByteArray} (w:World):Calls prog 84 #[.string t,.nilIface] w fun e w'=>e=.returned (.tuple #[.agg (nmL 0 t zy xd xw xh ja).toArray,.string ⟨#[]⟩])∧Below w.1.size w w':=by
 have HA0:=fun W=>hid (aph W)
 have HA1:=fun W=>hid (apk W)
 have HA2:=fun W=>hid (api W)
 have HA3:=fun W=>hid (apl W)
 have HA4:=fun W=>hid (apj W)
 have HZN:=fun W=>hid (acz W)
 have HBN:=fun W=>hid (afc t W)
 go_enter func84,ntmps84;go_upto_region 1 with(refine qc rfl _ rfl zNm (HZN _).out ?_;intro W1 hW1;have HK4:=hid (Blk.newL (L:=nmL 0 ByteArray.empty zy xd xw xh ja) hW1 rfl);have HBE1:=hid hW1.bel;have HS1:=hid hW1.sz;clear hW1)
 go_upto_region 2 with(first
  | refine zh (u:=.string t) rfl _ 1 _ rfl rfl (HBN _).out ?_
  | (refine qc rfl _ rfl zNm (HZN _).out ?_;intro W2 hW2;have HK6a:=hid (Blk.newL (L:=nmL 0 ByteArray.empty zy xd xw xh ja) hW2 rfl);have HK4a:=hid (HK4.out.grew hW2);have HBE2:=hid (qb HBE1.out hW2.bel);have HS2:=hid hW2.sz;clear hW2 HBE1)
  | (refine qe rfl _ _ _ rfl W1.1.size 0 (nmL 0 t zy xd xw xh ja).toArray rfl rfl (HK6a.out.thereA (jc qq qq)) (jd qq) (xj.arr (ya xi.1 xi.2.1 xi.2.2.1 xi.2.2.2.1 xi.2.2.2.2)) ?_;intro W3 hW3;have HK6:Hid (Blk W3 W1.1.size (nmL 0 t zy xd xw xh ja)):=(HK6a.out.all hW3 (jc qq qq));have HK4b:=hid (HK4a.out.far hW3 (by have:=HS1.out;omega));have HBE3:=hid (HBE2.out.trans (hW3.below (by have:=HS1.out;omega)));have HS3:=hid hW3.sz;clear hW3 HK6a HK4 HK4a HBE2))
 go_upto_region 25 with(first
  | refine zb rfl _ _ _ _ rfl rfl (HA0 _).out ?_
  | refine zb rfl _ _ _ _ rfl rfl (HA1 _).out ?_
  | refine zb rfl _ _ _ _ rfl rfl (HA2 _).out ?_
  | refine zb rfl _ _ _ _ rfl rfl (HA3 _).out ?_
  | refine zb rfl _ _ _ _ rfl rfl (HA4 _).out ?_)
 try go_frame
 go_wp2_with (first
  | refine b0i rfl 58 _ rfl W1.1.size 0 rfl (nmL 0 t zy xd xw xh ja) _ HK6.out.rg underlying58 rfl (jd qq) ?_
  | (refine qe rfl _ _ _ rfl w.1.size 0 (nmL 0 t zy xd xw xh ja).toArray rfl rfl (HK4b.out.thereA (jc qq qq)) (jd qq) (xj.arr (ya xi.1 xi.2.1 xi.2.2.1 xi.2.2.2.1 xi.2.2.2.2)) ?_;intro W8 hW8;have HK:Hid (Blk W8 w.1.size (nmL 0 t zy xd xw xh ja)):=HK4b.out.all hW8 (jc qq qq);have HBE8:=hid (HBE3.out.trans (hW8.below (a8 _)));clear hW8))
 have HLD:=hid (t6 (P:=prog) W8 w.1.size 0 58 (nmL 0 t zy xd xw xh ja) _ HK.out.rg underlying58 rfl (jd qq));clear HK;refine b9 (v:=.tuple #[.agg (nmL 0 t zy xd xw xh ja).toArray,.string ⟨#[]⟩]) (by rw[b1g rfl];simp[asAddr,Result.andThen,HLD.out]) rfl ?_;exact⟨rfl,HBE8.out⟩
