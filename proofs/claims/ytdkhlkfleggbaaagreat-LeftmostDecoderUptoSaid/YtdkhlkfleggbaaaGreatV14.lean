/- Parts. -/
import Derived.Test.YtdkhlkfleggbaaaGreatV13
namespace Go.Proofs.YtdkhlkfleggbaaaGreat
set_option maxHeartbeats 4000000
set_option maxRecDepth 8000
open Tryz
set_option linter.unusedVariables false
open Go.RowKit
theorem bge {t:ByteArray} {V:List Value} (hl:Q_ (V.length=8)) (ho:Q_ (xk V)) (w:World):Calls prog 84 #[.string t,.iface 251 (.agg V.toArray)] w λe w'=>e=.returned (.tuple #[.agg (nmL 4 t zz xd xx V jc).toArray,.string ⟨#[86,84,71]⟩])/\Below w.1.size w w':=by
 have HA0:=λW=>q_ (apv V W)
 have HA1:=λW=>q_ (apx V W)
 have HA2:=λW=>q_ (apw V W)
 have HA3:=λW=>q_ (apy V W)
 have HZ:=λW=>q_ (a8v W)
 have HZN:=λW=>q_ (ac1 W)
 have HBN:=λW=>q_ (afl t W)
 go_enter func84,ntmps84;go_upto_region 1 with(refine qc rfl _ rfl zNm (HZN _).o ?_;intro W1 hW1;have HK4:=q_ (Blk.newL (L:=nmL 0 ByteArray.empty zz xd xx xi jc) hW1 rfl);have HBE1:=q_ hW1.bel;have HS1:=q_ hW1.sz;clear hW1)
 go_upto_region 2 with(first
  | refine zf (u:=.string t) rfl _ 1 _ rfl rfl (HBN _).o ?_
  | (refine qc rfl _ rfl zNm (HZN _).o ?_;intro W2 hW2;have HK6a:=q_ (Blk.newL (L:=nmL 0 ByteArray.empty zz xd xx xi jc) hW2 rfl);have HK4a:=q_ (HK4.o.grew hW2);have HBE2:=q_ (qb HBE1.o hW2.bel);have HS2:=q_ hW2.sz;clear hW2 HBE1)
  | (refine qe rfl _ _ _ rfl W1.1.size 0 (nmL 0 t zz xd xx xi jc).toArray rfl rfl (HK6a.o.thereA (je qs qs)) (jf qs) (xk.arr (yc xj.1 xj.2.1 xj.2.2.1 xj.2.2.2.1 xj.2.2.2.2)) ?_;intro W3 hW3;have HK6:Q_ (Blk W3 W1.1.size (nmL 0 t zz xd xx xi jc)):=(HK6a.o.all hW3 (je qs qs));have HK4b:=q_ (HK4a.o.far hW3 (by have:=HS1.o;omega));have HBE3:=q_ (HBE2.o.trans (hW3.below (by have:=HS1.o;omega)));have HS3:=q_ hW3.sz;clear hW3 HK6a HK4 HK4a HBE2))
 go_upto_region 18 with(first
  | refine zc rfl _ _ _ _ rfl rfl (HA0 _).o ?_
  | refine zc rfl _ _ _ _ rfl rfl (HA1 _).o ?_
  | refine zc rfl _ _ _ _ rfl rfl (HA2 _).o ?_
  | refine zc rfl _ _ _ _ rfl rfl (HA3 _).o ?_
  | (refine qc rfl _ rfl xi.toArray (HZ _).o ?_;intro W4 hW4;have HK7a:=q_ (Blk.newL (L:=xi) hW4 rfl);have HK4c:=q_ (HK4b.o.grew hW4);have HK6c:=q_ (HK6.o.grew hW4);have HBE4:=q_ (qb HBE3.o hW4.bel);have HS4:=q_ hW4.sz;clear hW4 HBE3 HK4b HK6)
  | (refine qe rfl _ _ _ rfl W3.1.size 0 V.toArray rfl rfl (HK7a.o.thereA hl.o) (by rw[a7p,o6,hl.o]) (xk.arr ho.o) ?_;intro W5 hW5;have HK7:Q_ (Blk W5 W3.1.size V):=HK7a.o.all hW5 hl.o;have HK6d:=q_ (HK6c.o.far hW5 (by have:=HS1.o;have:=HS2.o;have:=HS3.o;omega));have HK4d:=q_ (HK4c.o.far hW5 (by have:=HS1.o;have:=HS2.o;have:=HS3.o;omega));have HBE5:=q_ (HBE4.o.trans (hW5.below (by have:=HS1.o;have:=HS2.o;have:=HS3.o;omega)));have HS5:=q_ hW5.sz;clear hW5 HK7a HK6c HK4c HBE4))
 try go_frame
 clear HA0;clear HA1;clear HA2;clear HA3;clear HZ HZN HBN;have hS0:W5.drew.rangeAt W3.1.size 0 V/\W5.drew.there W1.1.size 0 65:=⟨HK7.o.drew.rg,HK6d.o.drew.nm65 qs⟩;refine t6 (S:=λw'=>w'.rangeAt W3.1.size 0 V/\w'.there W1.1.size 0 65) kr hS0 (λhHeld=>?_);refine tkQ (i:=0) (oi:=_) (v:=?_) rfl (Or.inl ⟨by rfl,?_⟩) ?_;rotate_left
 ·intro w hSw;go_simp
  try with_reducible rfl
 try go_frame
 refine tkQ (i:=1) (oi:=_) (v:=_) rfl (o4 (by rfl) 53 _ rfl W3.1.size 0 rfl V _ (λw h=>h.1) underlying53 rfl (by rw[aeh,hl.o])) ?_;go_frame;refine tkQ (i:=2) (oi:=_) (v:=?_) rfl (Or.inl ⟨by rfl,?_⟩) ?_;rotate_left
 ·intro w hSw;go_simp
  try with_reducible rfl
 try go_frame
 refine b1a (rs:=[3]) kr sm ?_;refine b0i (o:=_) rfl (λK hK=>?_) b01;rw[if_pos (by rfl)];refine abj _ _ _ rfl W1.1.size 0 (.int .i64 4) rfl rfl (World.there.sub hHeld.2 0 1 om) rfl rfl rfl ?_;intro W6 hW6;have HK7':=q_ (HK7.o.drew.far hW6 (by have:=HS1.o;have:=HS2.o;have:=HS3.o;omega));have HK6e:=q_ (HK6d.o.drew.putK hW6);have HK4e:=q_ (HK4d.o.drew.far hW6 (by have:=HS1.o;have:=HS2.o;have:=HS3.o;omega));have HBE6:=q_ (HBE5.o.trans (hW6.drew.below (by have:=HS1.o;have:=HS2.o;have:=HS3.o;omega)));have HS6:Q_ (W6.1.size=W5.1.size):=hW6.sz
 clear hW6 HK7 HK6d HK4d HBE5;refine hK.out _ _ ⟨HK7'.o.rg,HK6e.o.nm65 qs⟩ (λhHeld=>?_);clear hK K
 try go_frame
 refine tkQ (i:=4) (oi:=_) (v:=?_) rfl (Or.inl ⟨by rfl,?_⟩) ?_;rotate_left
 ·intro w hSw;go_simp
  try with_reducible rfl
 try go_frame
 refine b1a (rs:=[5]) kr sm ?_;refine b0i (o:=_) rfl (λK hK=>?_) b01;rw[if_pos (by rfl)];refine ac6 _ _ _ rfl W1.1.size 53 V.toArray rfl rfl (HK6e.o.there 53 _ (by rw[o6,hl.o,abf qs];omega)) (by rw[aeh,o6,hl.o]) (xk.arr ho.o) ?_;intro W7 hW7;have HK6f:Q_ (Blk W7 W1.1.size (nmL 4 t zz xd xx V jc)):=HK6e.o.putV hW7 qs hl.o;have HK4f:=q_ (HK4e.o.far hW7 (by have:=HS1.o;omega));have HK7'':=q_ (HK7'.o.far hW7 (by have:=HS1.o;have:=HS2.o;have:=HS3.o;omega));have HBE7:=q_ (HBE6.o.trans (hW7.below (by have:=HS1.o;have:=HS2.o;have:=HS3.o;omega)));have HS7:=q_ hW7.sz
 clear hW7 HK6e HK4e HBE6 HK7';refine hK.out _ _ ⟨HK7''.o.rg,HK6f.o.nm65 (qs.withV hl.o)⟩ (λhHeld=>?_);clear hK K
 try go_frame
 refine b0m kr ?_ _;clear hS0 hHeld;clear HK7'' HS1 HS2 HS3 HS4 HS5 HS6 HS7
 go_wp2_with (first
  | refine b0q rfl 58 _ rfl W1.1.size 0 rfl (nmL 4 t zz xd xx V jc) _ HK6f.o.rg underlying58 rfl (jf (qs.withV hl.o)) ?_
  | (refine qe rfl _ _ _ rfl w.1.size 0 (nmL 4 t zz xd xx V jc).toArray rfl rfl (HK4f.o.thereA (je (qs.withV hl.o) qs)) (jf (qs.withV hl.o)) (xk.arr (yc xj.1 xj.2.1 xj.2.2.1 ho.o xj.2.2.2.2)) ?_;intro W8 hW8;have HK:Q_ (Blk W8 w.1.size (nmL 4 t zz xd xx V jc)):=HK4f.o.all hW8 (je (qs.withV hl.o) qs);have HBE8:=q_ (HBE7.o.trans (hW8.below (a8 _)));clear hW8))
 have HLD:=q_ (t9 (P:=prog) W8 w.1.size 0 58 (nmL 4 t zz xd xx V jc) _ HK.o.rg underlying58 rfl (jf (qs.withV hl.o)));clear HK;refine b9 (v:=.tuple #[.agg (nmL 4 t zz xd xx V jc).toArray,.string ⟨#[86,84,71]⟩]) (by rw[b1p rfl];simp[asAddr,Result.andThen,HLD.o]) rfl ?_;exact⟨rfl,HBE8.o⟩
theorem bgf {t:ByteArray} (w:World) {T N S:Int} {A:Option Addr} {c:Nat} {D:List V4} (hs:qf (λb=>b<w.1.size) w A (vsC D)) (hm:D.length<=1100000):Calls prog 84 #[.string t,.iface 255 (.agg ([.int .i64 T,.int .i64 N,.int .i64 S,.slice A D.length c]:List Value).toArray)] w λe w'=>∃B d,e=.returned (.tuple #[.agg (nmL 5 t zz xd xx xi ([.int .i64 T,.int .i64 N,.int .i64 S,.slice B D.length d])).toArray,.string ⟨#[71,83,86]⟩])/\qf (λb=>w.1.size<=b/\b<w'.1.size) w' B (vsC D)/\Below w.1.size w w':=by
 obtain⟨Up,hG⟩:∃L,([.int .i64 T,.int .i64 N,.int .i64 S,.slice A D.length c]:List Value)=L:=⟨_,rfl⟩;have hl:Q_ (Up.length=4):=by rw[<- hG];exact rfl
 have ho:Q_ (xk Up):=by rw[<- hG];exact xk.of rfl
 have HG:=q_ hG;obtain⟨n,hn⟩:∃n,D.length=n:=⟨_,rfl⟩;have HN:=q_ hn;have HHS:=q_ hs;have HHM:=q_ hm;rw[hG];clear hG hs hm hn;have HA0:=λW=>q_ (apn Up W)
 have HA1:=λW=>q_ (apr Up W)
 have HA2:=λW=>q_ (apo Up W)
 have HA3:=λW=>q_ (aps Up W)
 have HA4:=λW=>q_ (apq Up W)
 have HZ:=λW=>q_ (a8t W)
 have HZN:=λW=>q_ (ac1 W)
 have HBN:=λW=>q_ (afl t W)
 go_enter func84,ntmps84;go_upto_region 1 with(refine qc rfl _ rfl zNm (HZN _).o ?_;intro W1 hW1;have HK4:=q_ (Blk.newL (L:=nmL 0 ByteArray.empty zz xd xx xi jc) hW1 rfl);have HBE1:=q_ hW1.bel;have HS1:=q_ hW1.sz;clear hW1)
 go_upto_region 2 with(first
  | refine zf (u:=.string t) rfl _ 1 _ rfl rfl (HBN _).o ?_
  | (refine qc rfl _ rfl zNm (HZN _).o ?_;intro W2 hW2;have HK6a:=q_ (Blk.newL (L:=nmL 0 ByteArray.empty zz xd xx xi jc) hW2 rfl);have HK4a:=q_ (HK4.o.grew hW2);have HBE2:=q_ (qb HBE1.o hW2.bel);have HS2:=q_ hW2.sz;clear hW2 HBE1)
  | (refine qe rfl _ _ _ rfl W1.1.size 0 (nmL 0 t zz xd xx xi jc).toArray rfl rfl (HK6a.o.thereA (je qs qs)) (jf qs) (xk.arr (yc xj.1 xj.2.1 xj.2.2.1 xj.2.2.2.1 xj.2.2.2.2)) ?_;intro W3 hW3;have HK6:Q_ (Blk W3 W1.1.size (nmL 0 t zz xd xx xi jc)):=(HK6a.o.all hW3 (je qs qs));have HK4b:=q_ (HK4a.o.far hW3 (by have:=HS1.o;omega));have HBE3:=q_ (HBE2.o.trans (hW3.below (by have:=HS1.o;omega)));have HS3:=q_ hW3.sz;clear hW3 HK6a HK4 HK4a HBE2))
 go_upto_region 22 with(first
  | refine zc rfl _ _ _ _ rfl rfl (HA0 _).o ?_
  | refine zc rfl _ _ _ _ rfl rfl (HA1 _).o ?_
  | refine zc rfl _ _ _ _ rfl rfl (HA2 _).o ?_
  | refine zc rfl _ _ _ _ rfl rfl (HA3 _).o ?_
  | refine zc rfl _ _ _ _ rfl rfl (HA4 _).o ?_
  | (refine qc rfl _ rfl jc.toArray (HZ _).o ?_;intro W4 hW4;have HK7a:=q_ (Blk.newL (L:=jc) hW4 rfl);have HK4c:=q_ (HK4b.o.grew hW4);have HK6c:=q_ (HK6.o.grew hW4);have HBE4:=q_ (qb HBE3.o hW4.bel);have HS4:=q_ hW4.sz;clear hW4 HBE3 HK4b HK6)
  | (refine qe rfl _ _ _ rfl W3.1.size 0 Up.toArray rfl rfl (HK7a.o.thereA hl.o) (by rw[a7n,o6,hl.o]) (xk.arr ho.o) ?_;intro W5 hW5;have HK7:Q_ (Blk W5 W3.1.size Up):=HK7a.o.all hW5 hl.o;have HK6d:=q_ (HK6c.o.far hW5 (by have:=HS1.o;have:=HS2.o;have:=HS3.o;omega));have HK4d:=q_ (HK4c.o.far hW5 (by have:=HS1.o;have:=HS2.o;have:=HS3.o;omega));have HBE5:=q_ (HBE4.o.trans (hW5.below (by have:=HS1.o;have:=HS2.o;have:=HS3.o;omega)));have HS5:=q_ hW5.sz;clear hW5 HK7a HK6c HK4c HBE4))
 try go_frame
 clear HA0;clear HA1;clear HA2;clear HA3;clear HA4;clear HZ HZN HBN;have hS0:W5.drew.rangeAt W3.1.size 0 Up/\W5.drew.there W1.1.size 0 65:=⟨HK7.o.drew.rg,HK6d.o.drew.nm65 qs⟩;refine t6 (S:=λw'=>w'.rangeAt W3.1.size 0 Up/\w'.there W1.1.size 0 65) kr hS0 (λhHeld=>?_);refine tkQ (i:=0) (oi:=_) (v:=?_) rfl (Or.inl ⟨by rfl,?_⟩) ?_;rotate_left
 ·intro w hSw;go_simp
  try with_reducible rfl
 try go_frame
 refine tkQ (i:=1) (oi:=_) (v:=_) rfl (o4 (by rfl) 56 _ rfl W3.1.size 0 rfl Up _ (λw h=>h.1) underlying56 rfl (by rw[aef,hl.o])) ?_;go_frame;refine tkQ (i:=2) (oi:=_) (v:=?_) rfl (Or.inl ⟨by rfl,?_⟩) ?_;rotate_left
 ·intro w hSw;go_simp
  try with_reducible rfl
 try go_frame
 refine b1a (rs:=[3]) kr sm ?_;refine b0i (o:=_) rfl (λK hK=>?_) b01;rw[if_pos (by rfl)];refine abj _ _ _ rfl W1.1.size 0 (.int .i64 5) rfl rfl (World.there.sub hHeld.2 0 1 om) rfl rfl rfl ?_;intro W6 hW6;have HK7':=q_ (HK7.o.drew.far hW6 (by have:=HS1.o;have:=HS2.o;have:=HS3.o;omega));have HK6e:=q_ (HK6d.o.drew.putK hW6);have HK4e:=q_ (HK4d.o.drew.far hW6 (by have:=HS1.o;have:=HS2.o;have:=HS3.o;omega));have HBE6:=q_ (HBE5.o.trans (hW6.drew.below (by have:=HS1.o;have:=HS2.o;have:=HS3.o;omega)));have HS6:Q_ (W6.1.size=W5.1.size):=hW6.sz
 clear hW6 HK7 HK6d HK4d HBE5;refine hK.out _ _ ⟨HK7'.o.rg,HK6e.o.nm65 qs⟩ (λhHeld=>?_);clear hK K
 try go_frame
 refine tkQ (i:=4) (oi:=_) (v:=?_) rfl (Or.inl ⟨by rfl,?_⟩) ?_;rotate_left
 ·intro w hSw;go_simp
  try with_reducible rfl
 try go_frame
 refine b1a (rs:=[5]) kr sm ?_;refine b0i (o:=_) rfl (λK hK=>?_) b01;rw[if_pos (by rfl)];refine ac6 _ _ _ rfl W1.1.size 61 Up.toArray rfl rfl (HK6e.o.there 61 _ (by rw[o6,hl.o,abf qs];omega)) (by rw[aef,o6,hl.o]) (xk.arr ho.o) ?_;intro W7 hW7;have HK6f:Q_ (Blk W7 W1.1.size (nmL 5 t zz xd xx xi Up)):=HK6e.o.putU hW7 qs hl.o;have HK4f:=q_ (HK4e.o.far hW7 (by have:=HS1.o;omega));have HK7'':=q_ (HK7'.o.far hW7 (by have:=HS1.o;have:=HS2.o;have:=HS3.o;omega));have HBE7:=q_ (HBE6.o.trans (hW7.below (by have:=HS1.o;have:=HS2.o;have:=HS3.o;omega)));have HS7:=q_ hW7.sz
 clear hW7 HK6e HK4e HBE6 HK7';refine hK.out _ _ ⟨HK7''.o.rg,HK6f.o.nm65 (qs.withU hl.o)⟩ (λhHeld=>?_);clear hK K
 try go_frame
 refine b0m kr ?_ _;clear hS0 hHeld;have HX:Q_ (Blk W7 W3.1.size ([.int .i64 T,.int .i64 N,.int .i64 S,.slice A n c])):=by have h:=HK7''.o;rw[<- HG.o,HN.o]at h;exact h
 have hC:=a31 A D c W7 (HHS.o.below HBE7.o (λb h=>h)) HHM.o;rw[HN.o]at hC;have HC:=q_ hC;have g0:W7.cell? ⟨W3.1.size,3,none⟩=some (.slice A n c):=HX.o.cell 3 rfl;clear hC;go_wp2_with fail;refine HC.o.mono ?_;rintro e W9 ⟨Bq,d,rfl,hf,hb⟩;have HF9:=q_ hf;have HK6g:=q_ (HK6f.o.on hb);have HK4g:=q_ (HK4f.o.on hb);have HBE9:=q_ (qb HBE7.o hb);have HB9:=q_ hb
 clear hf hb g0 HK6f HK4f HK7'' HX HC;go_upto_region 24 with(refine af2 rfl _ _ _ rfl W1.1.size 64 (.slice Bq n d) rfl rfl (HK6g.o.there 64 1 (by rw[abf (qs.withU hl.o)];omega)) rfl rfl rfl ?_;intro WA hWA;have HFA:=q_ (akz HF9.o hWA (by have:=HS1.o;have:=HS2.o;have:=HS3.o;have:=HS4.o;have:=HS5.o;have:=HS6.o;have:=HS7.o;omega));have HZA:Q_ (WA.1.size=W9.1.size/\w.1.size<W7.1.size):=⟨hWA.sz,by have:=HS1.o;have:=HS2.o;have:=HS3.o;have:=HS4.o;have:=HS5.o;have:=HS6.o;have:=HS7.o;omega⟩;have HK6h:Q_ (Blk WA W1.1.size (nmL 5 t zz xd xx xi ([.int .i64 T,.int .i64 N,.int .i64 S,.slice Bq n d]))):=a07 HK6g.o hWA HG.o;have HK4h:=q_ (HK4g.o.far hWA (by have:=HS1.o;omega));have HBE7:=q_ (HBE9.o.trans (hWA.below (by have:=HS1.o;omega)));clear hWA HK6g HK4g HBE9)
 clear HS2 HS3 HS4 HS5 HS6 HS7 HF9 HB9
 try go_frame
 go_wp2_with (first
  | refine b0q rfl 58 _ rfl W1.1.size 0 rfl (nmL 5 t zz xd xx xi ([.int .i64 T,.int .i64 N,.int .i64 S,.slice Bq n d])) _ HK6h.o.rg underlying58 rfl (jf (qs.withU rfl)) ?_
  | (refine qe rfl _ _ _ rfl w.1.size 0 (nmL 5 t zz xd xx xi ([.int .i64 T,.int .i64 N,.int .i64 S,.slice Bq n d])).toArray rfl rfl (HK4h.o.thereA (je (qs.withU rfl) qs)) (jf (qs.withU rfl)) (xk.arr (yc xj.1 xj.2.1 xj.2.2.1 xj.2.2.2.1 (xk.of rfl))) ?_;intro W8 hW8;have HK:Q_ (Blk W8 w.1.size (nmL 5 t zz xd xx xi ([.int .i64 T,.int .i64 N,.int .i64 S,.slice Bq n d]))):=HK4h.o.all hW8 (je (qs.withU rfl) qs);have HBE8:=q_ (HBE7.o.trans (hW8.below (a8 _)));have HFB:=q_ (akz HFA.o hW8 HZA.o.2);have HZB:Q_ (W8.1.size=W9.1.size):=hW8.sz.trans HZA.o.1;clear hW8 HFA))
 have HLD:=q_ (t9 (P:=prog) W8 w.1.size 0 58 (nmL 5 t zz xd xx xi ([.int .i64 T,.int .i64 N,.int .i64 S,.slice Bq n d])) _ HK.o.rg underlying58 rfl (jf (qs.withU rfl)));clear HK;refine b9 (v:=.tuple #[.agg (nmL 5 t zz xd xx xi ([.int .i64 T,.int .i64 N,.int .i64 S,.slice Bq n d])).toArray,.string ⟨#[71,83,86]⟩]) (by rw[b1p rfl];simp[asAddr,Result.andThen,HLD.o]) rfl ?_;exact⟨Bq,d,by rw[HN.o],HFB.o.less (λb hb=>⟨by have:=HZA.o.2;omega,by have:=HZB.o;omega⟩),HBE8.o⟩
theorem bbs {t:ByteArray} (w:World):Calls prog 84 #[.string t,.nilIface] w λe w'=>e=.returned (.tuple #[.agg (nmL 0 t zz xd xx xi jc).toArray,.string ⟨#[]⟩])/\Below w.1.size w w':=by
 have HA0:=λW=>q_ (apz W)
 have HA1:=λW=>q_ (ap2 W)
 have HA2:=λW=>q_ (ap0 W)
 have HA3:=λW=>q_ (ap3 W)
 have HA4:=λW=>q_ (ap1 W)
 have HZN:=λW=>q_ (ac1 W)
 have HBN:=λW=>q_ (afl t W)
 go_enter func84,ntmps84;go_upto_region 1 with(refine qc rfl _ rfl zNm (HZN _).o ?_;intro W1 hW1;have HK4:=q_ (Blk.newL (L:=nmL 0 ByteArray.empty zz xd xx xi jc) hW1 rfl);have HBE1:=q_ hW1.bel;have HS1:=q_ hW1.sz;clear hW1)
 go_upto_region 2 with(first
  | refine zf (u:=.string t) rfl _ 1 _ rfl rfl (HBN _).o ?_
  | (refine qc rfl _ rfl zNm (HZN _).o ?_;intro W2 hW2;have HK6a:=q_ (Blk.newL (L:=nmL 0 ByteArray.empty zz xd xx xi jc) hW2 rfl);have HK4a:=q_ (HK4.o.grew hW2);have HBE2:=q_ (qb HBE1.o hW2.bel);have HS2:=q_ hW2.sz;clear hW2 HBE1)
  | (refine qe rfl _ _ _ rfl W1.1.size 0 (nmL 0 t zz xd xx xi jc).toArray rfl rfl (HK6a.o.thereA (je qs qs)) (jf qs) (xk.arr (yc xj.1 xj.2.1 xj.2.2.1 xj.2.2.2.1 xj.2.2.2.2)) ?_;intro W3 hW3;have HK6:Q_ (Blk W3 W1.1.size (nmL 0 t zz xd xx xi jc)):=(HK6a.o.all hW3 (je qs qs));have HK4b:=q_ (HK4a.o.far hW3 (by have:=HS1.o;omega));have HBE3:=q_ (HBE2.o.trans (hW3.below (by have:=HS1.o;omega)));have HS3:=q_ hW3.sz;clear hW3 HK6a HK4 HK4a HBE2))
 go_upto_region 25 with(first
  | refine zc rfl _ _ _ _ rfl rfl (HA0 _).o ?_
  | refine zc rfl _ _ _ _ rfl rfl (HA1 _).o ?_
  | refine zc rfl _ _ _ _ rfl rfl (HA2 _).o ?_
  | refine zc rfl _ _ _ _ rfl rfl (HA3 _).o ?_
  | refine zc rfl _ _ _ _ rfl rfl (HA4 _).o ?_)
 try go_frame
 go_wp2_with (first
  | refine b0q rfl 58 _ rfl W1.1.size 0 rfl (nmL 0 t zz xd xx xi jc) _ HK6.o.rg underlying58 rfl (jf qs) ?_
  | (refine qe rfl _ _ _ rfl w.1.size 0 (nmL 0 t zz xd xx xi jc).toArray rfl rfl (HK4b.o.thereA (je qs qs)) (jf qs) (xk.arr (yc xj.1 xj.2.1 xj.2.2.1 xj.2.2.2.1 xj.2.2.2.2)) ?_;intro W8 hW8;have HK:Q_ (Blk W8 w.1.size (nmL 0 t zz xd xx xi jc)):=HK4b.o.all hW8 (je qs qs);have HBE8:=q_ (HBE3.o.trans (hW8.below (a8 _)));clear hW8))
 have HLD:=q_ (t9 (P:=prog) W8 w.1.size 0 58 (nmL 0 t zz xd xx xi jc) _ HK.o.rg underlying58 rfl (jf qs));clear HK;refine b9 (v:=.tuple #[.agg (nmL 0 t zz xd xx xi jc).toArray,.string ⟨#[]⟩]) (by rw[b1p rfl];simp[asAddr,Result.andThen,HLD.o]) rfl ?_;exact⟨rfl,HBE8.o⟩
