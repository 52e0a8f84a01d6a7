/- Parts. -/
import Derived.Test.YtdkhlkfleggbaaaGreatU08
import Derived.Test.YtdkhlkfleggbaaaGreatU14
import Derived.Maps.RangeWalk
namespace Go.Proofs.YtdkhlkfleggbaaaGreat
set_option maxHeartbeats 4000000
set_option maxRecDepth 8000
open Lib (hid)
open Tryz
set_option linter.unusedVariables false
open Go.RowKit
theorem ams (c:Nat) (w:World):Calls prog 107 #[.slice none 0 c] w fun e w'=>e=.returned (.slice none 0 0)∧Below w.1.size w w':=by
 go_enter func107,ntmps107;go_wp2_with fail;rw[Lib.run_eql_slice_nil _ _ _ _ _ _ _ _ underlying49];go_wp2_with fail;go_ret;exact⟨rfl,n6 _ _⟩
set_option maxRecDepth 100000 in
theorem a4y:∃i,prog.info? 2=some i∧i.zero=some (.int .i64 0)∧i.size=1∧i.bytes=8:=⟨_,rfl,rfl,rfl,rfl⟩
theorem a22 {Q:Nat→Prop} (A:Option Addr) (L:List Int) (c:Nat) (w:World) (hA:A=none→L.length=0∧c=0) (hs:qf Q w A (L.map (Value.int .i64))) (hn:L.length≤1000000) :
 Calls prog 107 #[.slice A L.length c] w fun e w'=>∃B d,e=.returned (.slice B L.length d)∧qf (fun b=>w.1.size≤b∧b<w'.1.size) w' B (L.map (Value.int .i64))∧Below w.1.size w w':=by
 cases A with
 | none=>
  obtain⟨h0,rfl⟩:=hA rfl;obtain rfl:=b0f h0;refine(ams 0 w).mono ?_;rintro e w' ⟨rfl,h⟩;exact⟨none,0,rfl,qf.nil _ _ _,h⟩
 | some a=>
  obtain⟨i0,hi,hz0,hz1,hz2⟩:=a4y;obtain⟨n,hln⟩:∃n,L.length=n:=⟨_,rfl⟩;have HLN:=hid hln;have hown:(w.alloc (.cells #[] 2)).ownsRow w.1.size 2 1 (.slice (some ⟨w.1.size,0,none⟩) 0 0) 0 []:=b3s w #[] 0 (a8 _) dc rfl;obtain⟨v',w2,hrun,h8,h9,-⟩:=kq (P:=prog) (w.alloc (.cells #[] 2)) 49 49 2 i0 _ 1 8 underlying49 hi hz0 hz1 hz2 rfl dc w.1.size _ 0 [] hown (some a) n c (L.map (Value.int .i64)) (by simp[hln]) (hs.lt.below (qa w _) (fun b h=>h.2)) (fun u hu=>by obtain⟨z,-,rfl⟩:=b2c.1 hu;rfl) (by unfold maxLen;omega) om sm;rw[b0e,b03]at h8
  have HE:Hid (∃B d,v'=.slice B n d∧qf (fun b=>w.1.size≤b∧b<w2.1.size) w2 B (L.map (Value.int .i64))∧Below w.1.size w w2):=by
   obtain⟨B,d,h1,-,h2,-⟩:=xx h8;refine⟨B,d,h1,h2,(qa w _).trans ⟨h9.os,h9.tape,h9.output,h9.size,fun b hb=>h9.block b (by simp;omega) (fun e=>by simp[Value.ownBlock]at e;omega)⟩⟩
  have HR:=hid hrun;rw[hln]at hn ⊢;clear hs hA hln hown hrun h8 h9;have EQ:∀W:World,(binOp .eql 49 (.slice (some a) n c) (.slice none 0 0)).run prog W=.ok (.bool false) W:=fun W=>Lib.run_eql_slice_nil W 49 2 (some a) n c 0 0 underlying49
  go_enter func107,ntmps107;go_wp2_with (at_builtin;refine qw rfl _ _ 49 rfl _ _ _ rfl rfl HR.out ?_);go_ret;obtain⟨B,d,h1,h2,h3⟩:=HE.out;exact⟨B,d,by rw[h1];rfl,h2,h3⟩
theorem a21 {Q:Nat→Prop} (A:Option Addr) (L:List Int) (c:Nat) (w:World) (hs:qf Q w A (L.map (Value.int .i64))) (hn:L.length≤1000000) :
 Calls prog 107 #[.slice A L.length c] w fun e w'=>∃B d,e=.returned (.slice B L.length d)∧qf (fun b=>w.1.size≤b∧b<w'.1.size) w' B (L.map (Value.int .i64))∧Below w.1.size w w':=by
 cases A with
 | none=>
  have h0:L=[]:=by
   cases L with
   | nil=>rfl
   | cons x l=>obtain⟨b,off,h,-⟩:=hs 0 _ rfl;cases h
  subst h0;refine(ams c w).mono ?_;rintro e w' ⟨rfl,h⟩;exact⟨none,0,rfl,qf.nil _ _ _,h⟩
 | some a=>exact a22 (some a) L c w (fun h=>by cases h) hs hn
theorem aku {w W:World} {b' o m M:Nat} {cs:List Value} {A:Option Addr} {xs:List Value} (h:qf (fun b=>m≤b∧b<M) w A xs) (hs:qp w W b' o cs) (hb:b'<m):qf (fun b=>m≤b∧b<M) W A xs:=
 h.keep fun b hq=>hs.far b om
theorem a0d {w W:World} {b:Nat} {t:ByteArray} {Sp:List Value} {a:Bool} {f:Int} {b0:Bool} {n0:Int} {b1:Bool} {n1:Int} {b2:Bool} {n2:Int} {x y:Value} (h:Blk w b (nmL 3 t zy xd Sp xh ja)) (hs:qp w W b 46 [y]) (e:[.bool a,.int .i64 f,x,.bool b0,.int .i64 n0,.bool b1,.int .i64 n1,.bool b2,.int .i64 n2]=Sp):Blk W b (nmL 3 t zy xd [.bool a,.int .i64 f,y,.bool b0,.int .i64 n0,.bool b1,.int .i64 n1,.bool b2,.int .i64 n2] xh ja):=by
 subst e;exact Blk.put (A:=.int .i64 3::.string t::(zy ++(xd++[.bool a,.int .i64 f]))) (M:=[x]) (D:=[.bool b0,.int .i64 n0,.bool b1,.int .i64 n1,.bool b2,.int .i64 n2] ++(xh++ja)) h hs rfl rfl
theorem a0e {w W:World} {b:Nat} {t:ByteArray} {Up:List Value} {T N S:Int} {x y:Value} (h:Blk w b (nmL 5 t zy xd xw xh Up)) (hs:qp w W b 64 [y]) (e:[.int .i64 T,.int .i64 N,.int .i64 S,x]=Up):Blk W b (nmL 5 t zy xd xw xh [.int .i64 T,.int .i64 N,.int .i64 S,y]):=by
 subst e;exact Blk.put (A:=.int .i64 5::.string t::(zy ++(xd ++(xw ++(xh++[.int .i64 T,.int .i64 N,.int .i64 S]))))) (M:=[x]) (D:=[]) h hs rfl rfl
theorem be1 {t:ByteArray} {G:List Value} (hl:Hid (G.length=22)) (ho:Hid (xj G)) (w:World):Calls prog 84 #[.string t,.iface 239 (.agg G.toArray)] w fun e w'=>e=.returned (.tuple #[.agg (nmL 1 t G xd xw xh ja).toArray,.string ⟨#[71,71,65]⟩])∧Below w.1.size w w':=by
 have HA0:=fun W=>hid (ao2 G W)
 have HZ:=fun W=>hid (a7k W)
 have HZN:=fun W=>hid (acz W)
 have HBN:=fun W=>hid (afc t W)
 go_enter func84,ntmps84;go_upto_region 1 with(refine qc rfl _ rfl zNm (HZN _).out ?_;intro W1 hW1;have HK4:=hid (Blk.newL (L:=nmL 0 ByteArray.empty zy xd xw xh ja) hW1 rfl);have HBE1:=hid hW1.bel;have HS1:=hid hW1.sz;clear hW1)
 go_upto_region 2 with(first
  | refine zh (u:=.string t) rfl _ 1 _ rfl rfl (HBN _).out ?_
  | (refine qc rfl _ rfl zNm (HZN _).out ?_;intro W2 hW2;have HK6a:=hid (Blk.newL (L:=nmL 0 ByteArray.empty zy xd xw xh ja) hW2 rfl);have HK4a:=hid (HK4.out.grew hW2);have HBE2:=hid (qb HBE1.out hW2.bel);have HS2:=hid hW2.sz;clear hW2 HBE1)
  | (refine qe rfl _ _ _ rfl W1.1.size 0 (nmL 0 t zy xd xw xh ja).toArray rfl rfl (HK6a.out.thereA (jc qq qq)) (jd qq) (xj.arr (ya xi.1 xi.2.1 xi.2.2.1 xi.2.2.2.1 xi.2.2.2.2)) ?_;intro W3 hW3;have HK6:Hid (Blk W3 W1.1.size (nmL 0 t zy xd xw xh ja)):=(HK6a.out.all hW3 (jc qq qq));have HK4b:=hid (HK4a.out.far hW3 (by have:=HS1.out;omega));have HBE3:=hid (HBE2.out.trans (hW3.below (by have:=HS1.out;omega)));have HS3:=hid hW3.sz;clear hW3 HK6a HK4 HK4a HBE2))
 go_upto_region 5 with(first
  | refine zb rfl _ _ _ _ rfl rfl (HA0 _).out ?_
  | (refine qc rfl _ rfl zy.toArray (HZ _).out ?_;intro W4 hW4;have HK7a:=hid (Blk.newL (L:=zy) hW4 rfl);have HK4c:=hid (HK4b.out.grew hW4);have HK6c:=hid (HK6.out.grew hW4);have HBE4:=hid (qb HBE3.out hW4.bel);have HS4:=hid hW4.sz;clear hW4 HBE3 HK4b HK6)
  | (refine qe rfl _ _ _ rfl W3.1.size 0 G.toArray rfl rfl (HK7a.out.thereA hl.out) (by rw[a6h,o6,hl.out]) (xj.arr ho.out) ?_;intro W5 hW5;have HK7:Hid (Blk W5 W3.1.size G):=HK7a.out.all hW5 hl.out;have HK6d:=hid (HK6c.out.far hW5 (by have:=HS1.out;have:=HS2.out;have:=HS3.out;omega));have HK4d:=hid (HK4c.out.far hW5 (by have:=HS1.out;have:=HS2.out;have:=HS3.out;omega));have HBE5:=hid (HBE4.out.trans (hW5.below (by have:=HS1.out;have:=HS2.out;have:=HS3.out;omega)));have HS5:=hid hW5.sz;clear hW5 HK7a HK6c HK4c HBE4))
 try go_frame
 clear HA0;clear HZ HZN HBN;have hS0:W5.drew.rangeAt W3.1.size 0 G∧W5.drew.there W1.1.size 0 65:=⟨HK7.out.drew.rg,HK6d.out.drew.nm65 qq⟩;refine o7 (S:=fun w'=>w'.rangeAt W3.1.size 0 G∧w'.there W1.1.size 0 65) kr hS0 (fun hHeld=>?_);refine tkQ (i:=0) (oi:=_) (v:=?_) rfl (Or.inl ⟨by rfl,?_⟩) ?_;rotate_left
 ·intro w hSw;go_simp
  try with_reducible rfl
 try go_frame
 refine tkQ (i:=1) (oi:=_) (v:=_) rfl (n9 (by rfl) 44 _ rfl W3.1.size 0 rfl G _ (fun w h=>h.1) underlying44 rfl (by rw[ad6,hl.out])) ?_;go_frame;refine tkQ (i:=2) (oi:=_) (v:=?_) rfl (Or.inl ⟨by rfl,?_⟩) ?_;rotate_left
 ·intro w hSw;go_simp
  try with_reducible rfl
 try go_frame
 refine b1a (rs:=[3]) kr sm ?_;refine b0r (o:=_) rfl (fun K hK=>?_) b06;rw[if_pos (by rfl)];refine abe _ _ _ rfl W1.1.size 0 (.int .i64 1) rfl rfl (World.there.sub hHeld.2 0 1 om) rfl rfl rfl ?_;intro W6 hW6;have HK7':=hid (HK7.out.drew.far hW6 (by have:=HS1.out;have:=HS2.out;have:=HS3.out;omega));have HK6e:=hid (HK6d.out.drew.putK hW6);have HK4e:=hid (HK4d.out.drew.far hW6 (by have:=HS1.out;have:=HS2.out;have:=HS3.out;omega));have HBE6:=hid (HBE5.out.trans (hW6.drew.below (by have:=HS1.out;have:=HS2.out;have:=HS3.out;omega)));have HS6:Hid (W6.1.size=W5.1.size):=hW6.sz
 clear hW6 HK7 HK6d HK4d HBE5;refine hK.out _ _ ⟨HK7'.out.rg,HK6e.out.nm65 qq⟩ (fun hHeld=>?_);clear hK K
 try go_frame
 refine tkQ (i:=4) (oi:=_) (v:=?_) rfl (Or.inl ⟨by rfl,?_⟩) ?_;rotate_left
 ·intro w hSw;go_simp
  try with_reducible rfl
 try go_frame
 refine b1a (rs:=[5]) kr sm ?_;refine b0r (o:=_) rfl (fun K hK=>?_) b06;rw[if_pos (by rfl)];refine ac3 _ _ _ rfl W1.1.size 2 G.toArray rfl rfl (HK6e.out.there 2 _ (by rw[o6,hl.out,abb qq];omega)) (by rw[ad6,o6,hl.out]) (xj.arr ho.out) ?_;intro W7 hW7;have HK6f:Hid (Blk W7 W1.1.size (nmL 1 t G xd xw xh ja)):=HK6e.out.putG hW7 qq hl.out;have HK4f:=hid (HK4e.out.far hW7 (by have:=HS1.out;omega));have HK7'':=hid (HK7'.out.far hW7 (by have:=HS1.out;have:=HS2.out;have:=HS3.out;omega));have HBE7:=hid (HBE6.out.trans (hW7.below (by have:=HS1.out;have:=HS2.out;have:=HS3.out;omega)));have HS7:=hid hW7.sz
 clear hW7 HK6e HK4e HBE6 HK7';refine hK.out _ _ ⟨HK7''.out.rg,HK6f.out.nm65 (qq.withG hl.out)⟩ (fun hHeld=>?_);clear hK K
 try go_frame
 refine b0j kr ?_ _;clear hS0 hHeld;clear HK7'' HS1 HS2 HS3 HS4 HS5 HS6 HS7
 go_wp2_with (first
  | refine b0i rfl 58 _ rfl W1.1.size 0 rfl (nmL 1 t G xd xw xh ja) _ HK6f.out.rg underlying58 rfl (jd (qq.withG hl.out)) ?_
  | (refine qe rfl _ _ _ rfl w.1.size 0 (nmL 1 t G xd xw xh ja).toArray rfl rfl (HK4f.out.thereA (jc (qq.withG hl.out) qq)) (jd (qq.withG hl.out)) (xj.arr (ya ho.out xi.2.1 xi.2.2.1 xi.2.2.2.1 xi.2.2.2.2)) ?_;intro W8 hW8;have HK:Hid (Blk W8 w.1.size (nmL 1 t G xd xw xh ja)):=HK4f.out.all hW8 (jc (qq.withG hl.out) qq);have HBE8:=hid (HBE7.out.trans (hW8.below (a8 _)));clear hW8))
 have HLD:=hid (t6 (P:=prog) W8 w.1.size 0 58 (nmL 1 t G xd xw xh ja) _ HK.out.rg underlying58 rfl (jd (qq.withG hl.out)));clear HK;refine b9 (v:=.tuple #[.agg (nmL 1 t G xd xw xh ja).toArray,.string ⟨#[71,71,65]⟩]) (by rw[b1g rfl];simp[asAddr,Result.andThen,HLD.out]) rfl ?_;exact⟨rfl,HBE8.out⟩
theorem be2 {t:ByteArray} {R:List Value} (hl:Hid (R.length=20)) (ho:Hid (xj R)) (w:World):Calls prog 84 #[.string t,.iface 243 (.agg R.toArray)] w fun e w'=>e=.returned (.tuple #[.agg (nmL 2 t zy R xw xh ja).toArray,.string ⟨#[82,77,67]⟩])∧Below w.1.size w w':=by
 have HA0:=fun W=>hid (apb R W)
 have HA1:=fun W=>hid (apc R W)
 have HZ:=fun W=>hid (a7n W)
 have HZN:=fun W=>hid (acz W)
 have HBN:=fun W=>hid (afc t W)
 go_enter func84,ntmps84;go_upto_region 1 with(refine qc rfl _ rfl zNm (HZN _).out ?_;intro W1 hW1;have HK4:=hid (Blk.newL (L:=nmL 0 ByteArray.empty zy xd xw xh ja) hW1 rfl);have HBE1:=hid hW1.bel;have HS1:=hid hW1.sz;clear hW1)
 go_upto_region 2 with(first
  | refine zh (u:=.string t) rfl _ 1 _ rfl rfl (HBN _).out ?_
  | (refine qc rfl _ rfl zNm (HZN _).out ?_;intro W2 hW2;have HK6a:=hid (Blk.newL (L:=nmL 0 ByteArray.empty zy xd xw xh ja) hW2 rfl);have HK4a:=hid (HK4.out.grew hW2);have HBE2:=hid (qb HBE1.out hW2.bel);have HS2:=hid hW2.sz;clear hW2 HBE1)
  | (refine qe rfl _ _ _ rfl W1.1.size 0 (nmL 0 t zy xd xw xh ja).toArray rfl rfl (HK6a.out.thereA (jc qq qq)) (jd qq) (xj.arr (ya xi.1 xi.2.1 xi.2.2.1 xi.2.2.2.1 xi.2.2.2.2)) ?_;intro W3 hW3;have HK6:Hid (Blk W3 W1.1.size (nmL 0 t zy xd xw xh ja)):=(HK6a.out.all hW3 (jc qq qq));have HK4b:=hid (HK4a.out.far hW3 (by have:=HS1.out;omega));have HBE3:=hid (HBE2.out.trans (hW3.below (by have:=HS1.out;omega)));have HS3:=hid hW3.sz;clear hW3 HK6a HK4 HK4a HBE2))
 go_upto_region 9 with(first
  | refine zb rfl _ _ _ _ rfl rfl (HA0 _).out ?_
  | refine zb rfl _ _ _ _ rfl rfl (HA1 _).out ?_
  | (refine qc rfl _ rfl xd.toArray (HZ _).out ?_;intro W4 hW4;have HK7a:=hid (Blk.newL (L:=xd) hW4 rfl);have HK4c:=hid (HK4b.out.grew hW4);have HK6c:=hid (HK6.out.grew hW4);have HBE4:=hid (qb HBE3.out hW4.bel);have HS4:=hid hW4.sz;clear hW4 HBE3 HK4b HK6)
  | (refine qe rfl _ _ _ rfl W3.1.size 0 R.toArray rfl rfl (HK7a.out.thereA hl.out) (by rw[a6k,o6,hl.out]) (xj.arr ho.out) ?_;intro W5 hW5;have HK7:Hid (Blk W5 W3.1.size R):=HK7a.out.all hW5 hl.out;have HK6d:=hid (HK6c.out.far hW5 (by have:=HS1.out;have:=HS2.out;have:=HS3.out;omega));have HK4d:=hid (HK4c.out.far hW5 (by have:=HS1.out;have:=HS2.out;have:=HS3.out;omega));have HBE5:=hid (HBE4.out.trans (hW5.below (by have:=HS1.out;have:=HS2.out;have:=HS3.out;omega)));have HS5:=hid hW5.sz;clear hW5 HK7a HK6c HK4c HBE4))
 try go_frame
 clear HA0;clear HA1;clear HZ HZN HBN;have hS0:W5.drew.rangeAt W3.1.size 0 R∧W5.drew.there W1.1.size 0 65:=⟨HK7.out.drew.rg,HK6d.out.drew.nm65 qq⟩;refine o7 (S:=fun w'=>w'.rangeAt W3.1.size 0 R∧w'.there W1.1.size 0 65) kr hS0 (fun hHeld=>?_);refine tkQ (i:=0) (oi:=_) (v:=?_) rfl (Or.inl ⟨by rfl,?_⟩) ?_;rotate_left
 ·intro w hSw;go_simp
  try with_reducible rfl
 try go_frame
 refine tkQ (i:=1) (oi:=_) (v:=_) rfl (n9 (by rfl) 48 _ rfl W3.1.size 0 rfl R _ (fun w h=>h.1) underlying48 rfl (by rw[ad9,hl.out])) ?_;go_frame;refine tkQ (i:=2) (oi:=_) (v:=?_) rfl (Or.inl ⟨by rfl,?_⟩) ?_;rotate_left
 ·intro w hSw;go_simp
  try with_reducible rfl
 try go_frame
 refine b1a (rs:=[3]) kr sm ?_;refine b0r (o:=_) rfl (fun K hK=>?_) b06;rw[if_pos (by rfl)];refine abe _ _ _ rfl W1.1.size 0 (.int .i64 2) rfl rfl (World.there.sub hHeld.2 0 1 om) rfl rfl rfl ?_;intro W6 hW6;have HK7':=hid (HK7.out.drew.far hW6 (by have:=HS1.out;have:=HS2.out;have:=HS3.out;omega));have HK6e:=hid (HK6d.out.drew.putK hW6);have HK4e:=hid (HK4d.out.drew.far hW6 (by have:=HS1.out;have:=HS2.out;have:=HS3.out;omega));have HBE6:=hid (HBE5.out.trans (hW6.drew.below (by have:=HS1.out;have:=HS2.out;have:=HS3.out;omega)));have HS6:Hid (W6.1.size=W5.1.size):=hW6.sz
 clear hW6 HK7 HK6d HK4d HBE5;refine hK.out _ _ ⟨HK7'.out.rg,HK6e.out.nm65 qq⟩ (fun hHeld=>?_);clear hK K
 try go_frame
 refine tkQ (i:=4) (oi:=_) (v:=?_) rfl (Or.inl ⟨by rfl,?_⟩) ?_;rotate_left
 ·intro w hSw;go_simp
  try with_reducible rfl
 try go_frame
 refine b1a (rs:=[5]) kr sm ?_;refine b0r (o:=_) rfl (fun K hK=>?_) b06;rw[if_pos (by rfl)];refine ac3 _ _ _ rfl W1.1.size 24 R.toArray rfl rfl (HK6e.out.there 24 _ (by rw[o6,hl.out,abb qq];omega)) (by rw[ad9,o6,hl.out]) (xj.arr ho.out) ?_;intro W7 hW7;have HK6f:Hid (Blk W7 W1.1.size (nmL 2 t zy R xw xh ja)):=HK6e.out.putR hW7 qq hl.out;have HK4f:=hid (HK4e.out.far hW7 (by have:=HS1.out;omega));have HK7'':=hid (HK7'.out.far hW7 (by have:=HS1.out;have:=HS2.out;have:=HS3.out;omega));have HBE7:=hid (HBE6.out.trans (hW7.below (by have:=HS1.out;have:=HS2.out;have:=HS3.out;omega)));have HS7:=hid hW7.sz
 clear hW7 HK6e HK4e HBE6 HK7';refine hK.out _ _ ⟨HK7''.out.rg,HK6f.out.nm65 (qq.withR hl.out)⟩ (fun hHeld=>?_);clear hK K
 try go_frame
 refine b0j kr ?_ _;clear hS0 hHeld;clear HK7'' HS1 HS2 HS3 HS4 HS5 HS6 HS7
 go_wp2_with (first
  | refine b0i rfl 58 _ rfl W1.1.size 0 rfl (nmL 2 t zy R xw xh ja) _ HK6f.out.rg underlying58 rfl (jd (qq.withR hl.out)) ?_
  | (refine qe rfl _ _ _ rfl w.1.size 0 (nmL 2 t zy R xw xh ja).toArray rfl rfl (HK4f.out.thereA (jc (qq.withR hl.out) qq)) (jd (qq.withR hl.out)) (xj.arr (ya xi.1 ho.out xi.2.2.1 xi.2.2.2.1 xi.2.2.2.2)) ?_;intro W8 hW8;have HK:Hid (Blk W8 w.1.size (nmL 2 t zy R xw xh ja)):=HK4f.out.all hW8 (jc (qq.withR hl.out) qq);have HBE8:=hid (HBE7.out.trans (hW8.below (a8 _)));clear hW8))
 have HLD:=hid (t6 (P:=prog) W8 w.1.size 0 58 (nmL 2 t zy R xw xh ja) _ HK.out.rg underlying58 rfl (jd (qq.withR hl.out)));clear HK;refine b9 (v:=.tuple #[.agg (nmL 2 t zy R xw xh ja).toArray,.string ⟨#[82,77,67]⟩]) (by rw[b1g rfl];simp[asAddr,Result.andThen,HLD.out]) rfl ?_;exact⟨rfl,HBE8.out⟩
theorem be3 {t:ByteArray} (w:World) {a:Bool} {f:Int} {A:Option Addr} {c:Nat} {D:List Int} {b0:Bool} {n0:Int} {b1:Bool} {n1:Int} {b2:Bool} {n2:Int} (hs:qf (fun b=>b<w.1.size) w A (D.map (Value.int .i64))) (hm:D.length≤1000000):Calls prog 84 #[.string t,.iface 247 (.agg ([.bool a,.int .i64 f,.slice A D.length c,.bool b0,.int .i64 n0,.bool b1,.int .i64 n1,.bool b2,.int .i64 n2]:List Value).toArray)] w fun e w'=>∃B d,e=.returned (.tuple #[.agg (nmL 3 t zy xd ([.bool a,.int .i64 f,.slice B D.length d,.bool b0,.int .i64 n0,.bool b1,.int .i64 n1,.bool b2,.int .i64 n2]) xh ja).toArray,.string ⟨#[71,83,65]⟩])∧qf (fun b=>w.1.size≤b∧b<w'.1.size) w' B (D.map (Value.int .i64))∧Below w.1.size w w':=by
 obtain⟨Sp,hG⟩:∃L,([.bool a,.int .i64 f,.slice A D.length c,.bool b0,.int .i64 n0,.bool b1,.int .i64 n1,.bool b2,.int .i64 n2]:List Value)=L:=⟨_,rfl⟩;have hl:Hid (Sp.length=9):=by rw[← hG];exact rfl
 have ho:Hid (xj Sp):=by rw[← hG];exact xj.of rfl
 have HG:=hid hG;obtain⟨n,hn⟩:∃n,D.length=n:=⟨_,rfl⟩;have HN:=hid hn;have HHS:=hid hs;have HHM:=hid hm;rw[hG];clear hG hs hm hn;have HA0:=fun W=>hid (ao3 Sp W)
 have HA1:=fun W=>hid (ao5 Sp W)
 have HA2:=fun W=>hid (ao4 Sp W)
 have HZ:=fun W=>hid (a7l W)
 have HZN:=fun W=>hid (acz W)
 have HBN:=fun W=>hid (afc t W)
 go_enter func84,ntmps84;go_upto_region 1 with(refine qc rfl _ rfl zNm (HZN _).out ?_;intro W1 hW1;have HK4:=hid (Blk.newL (L:=nmL 0 ByteArray.empty zy xd xw xh ja) hW1 rfl);have HBE1:=hid hW1.bel;have HS1:=hid hW1.sz;clear hW1)
 go_upto_region 2 with(first
  | refine zh (u:=.string t) rfl _ 1 _ rfl rfl (HBN _).out ?_
  | (refine qc rfl _ rfl zNm (HZN _).out ?_;intro W2 hW2;have HK6a:=hid (Blk.newL (L:=nmL 0 ByteArray.empty zy xd xw xh ja) hW2 rfl);have HK4a:=hid (HK4.out.grew hW2);have HBE2:=hid (qb HBE1.out hW2.bel);have HS2:=hid hW2.sz;clear hW2 HBE1)
  | (refine qe rfl _ _ _ rfl W1.1.size 0 (nmL 0 t zy xd xw xh ja).toArray rfl rfl (HK6a.out.thereA (jc qq qq)) (jd qq) (xj.arr (ya xi.1 xi.2.1 xi.2.2.1 xi.2.2.2.1 xi.2.2.2.2)) ?_;intro W3 hW3;have HK6:Hid (Blk W3 W1.1.size (nmL 0 t zy xd xw xh ja)):=(HK6a.out.all hW3 (jc qq qq));have HK4b:=hid (HK4a.out.far hW3 (by have:=HS1.out;omega));have HBE3:=hid (HBE2.out.trans (hW3.below (by have:=HS1.out;omega)));have HS3:=hid hW3.sz;clear hW3 HK6a HK4 HK4a HBE2))
 go_upto_region 13 with(first
  | refine zb rfl _ _ _ _ rfl rfl (HA0 _).out ?_
  | refine zb rfl _ _ _ _ rfl rfl (HA1 _).out ?_
  | refine zb rfl _ _ _ _ rfl rfl (HA2 _).out ?_
  | (refine qc rfl _ rfl xw.toArray (HZ _).out ?_;intro W4 hW4;have HK7a:=hid (Blk.newL (L:=xw) hW4 rfl);have HK4c:=hid (HK4b.out.grew hW4);have HK6c:=hid (HK6.out.grew hW4);have HBE4:=hid (qb HBE3.out hW4.bel);have HS4:=hid hW4.sz;clear hW4 HBE3 HK4b HK6)
  | (refine qe rfl _ _ _ rfl W3.1.size 0 Sp.toArray rfl rfl (HK7a.out.thereA hl.out) (by rw[a6i,o6,hl.out]) (xj.arr ho.out) ?_;intro W5 hW5;have HK7:Hid (Blk W5 W3.1.size Sp):=HK7a.out.all hW5 hl.out;have HK6d:=hid (HK6c.out.far hW5 (by have:=HS1.out;have:=HS2.out;have:=HS3.out;omega));have HK4d:=hid (HK4c.out.far hW5 (by have:=HS1.out;have:=HS2.out;have:=HS3.out;omega));have HBE5:=hid (HBE4.out.trans (hW5.below (by have:=HS1.out;have:=HS2.out;have:=HS3.out;omega)));have HS5:=hid hW5.sz;clear hW5 HK7a HK6c HK4c HBE4))
 try go_frame
 clear HA0;clear HA1;clear HA2;clear HZ HZN HBN;have hS0:W5.drew.rangeAt W3.1.size 0 Sp∧W5.drew.there W1.1.size 0 65:=⟨HK7.out.drew.rg,HK6d.out.drew.nm65 qq⟩;refine o7 (S:=fun w'=>w'.rangeAt W3.1.size 0 Sp∧w'.there W1.1.size 0 65) kr hS0 (fun hHeld=>?_);refine tkQ (i:=0) (oi:=_) (v:=?_) rfl (Or.inl ⟨by rfl,?_⟩) ?_;rotate_left
 ·intro w hSw;go_simp
  try with_reducible rfl
 try go_frame
 refine tkQ (i:=1) (oi:=_) (v:=_) rfl (n9 (by rfl) 51 _ rfl W3.1.size 0 rfl Sp _ (fun w h=>h.1) underlying51 rfl (by rw[ad7,hl.out])) ?_;go_frame;refine tkQ (i:=2) (oi:=_) (v:=?_) rfl (Or.inl ⟨by rfl,?_⟩) ?_;rotate_left
 ·intro w hSw;go_simp
  try with_reducible rfl
 try go_frame
 refine b1a (rs:=[3]) kr sm ?_;refine b0r (o:=_) rfl (fun K hK=>?_) b06;rw[if_pos (by rfl)];refine abe _ _ _ rfl W1.1.size 0 (.int .i64 3) rfl rfl (World.there.sub hHeld.2 0 1 om) rfl rfl rfl ?_;intro W6 hW6;have HK7':=hid (HK7.out.drew.far hW6 (by have:=HS1.out;have:=HS2.out;have:=HS3.out;omega));have HK6e:=hid (HK6d.out.drew.putK hW6);have HK4e:=hid (HK4d.out.drew.far hW6 (by have:=HS1.out;have:=HS2.out;have:=HS3.out;omega));have HBE6:=hid (HBE5.out.trans (hW6.drew.below (by have:=HS1.out;have:=HS2.out;have:=HS3.out;omega)));have HS6:Hid (W6.1.size=W5.1.size):=hW6.sz
 clear hW6 HK7 HK6d HK4d HBE5;refine hK.out _ _ ⟨HK7'.out.rg,HK6e.out.nm65 qq⟩ (fun hHeld=>?_);clear hK K
 try go_frame
 refine tkQ (i:=4) (oi:=_) (v:=?_) rfl (Or.inl ⟨by rfl,?_⟩) ?_;rotate_left
 ·intro w hSw;go_simp
  try with_reducible rfl
 try go_frame
 refine b1a (rs:=[5]) kr sm ?_;refine b0r (o:=_) rfl (fun K hK=>?_) b06;rw[if_pos (by rfl)];refine ac3 _ _ _ rfl W1.1.size 44 Sp.toArray rfl rfl (HK6e.out.there 44 _ (by rw[o6,hl.out,abb qq];omega)) (by rw[ad7,o6,hl.out]) (xj.arr ho.out) ?_;intro W7 hW7;have HK6f:Hid (Blk W7 W1.1.size (nmL 3 t zy xd Sp xh ja)):=HK6e.out.putS hW7 qq hl.out;have HK4f:=hid (HK4e.out.far hW7 (by have:=HS1.out;omega));have HK7'':=hid (HK7'.out.far hW7 (by have:=HS1.out;have:=HS2.out;have:=HS3.out;omega));have HBE7:=hid (HBE6.out.trans (hW7.below (by have:=HS1.out;have:=HS2.out;have:=HS3.out;omega)));have HS7:=hid hW7.sz
 clear hW7 HK6e HK4e HBE6 HK7';refine hK.out _ _ ⟨HK7''.out.rg,HK6f.out.nm65 (qq.withS hl.out)⟩ (fun hHeld=>?_);clear hK K
 try go_frame
 refine b0j kr ?_ _;clear hS0 hHeld;have HX:Hid (Blk W7 W3.1.size ([.bool a,.int .i64 f,.slice A n c,.bool b0,.int .i64 n0,.bool b1,.int .i64 n1,.bool b2,.int .i64 n2])):=by have h:=HK7''.out;rw[← HG.out,HN.out]at h;exact h
 have hC:=a21 A D c W7 (HHS.out.below HBE7.out (fun b h=>h)) HHM.out;rw[HN.out]at hC;have HC:=hid hC;have g0:W7.cell? ⟨W3.1.size,2,none⟩=some (.slice A n c):=HX.out.cell 2 rfl;clear hC;go_wp2_with fail;refine HC.out.mono ?_;rintro e W9 ⟨Bq,d,rfl,hf,hb⟩;have HF9:=hid hf;have HK6g:=hid (HK6f.out.on hb);have HK4g:=hid (HK4f.out.on hb);have HBE9:=hid (qb HBE7.out hb);have HB9:=hid hb
 clear hf hb g0 HK6f HK4f HK7'' HX HC;go_upto_region 15 with(refine afr rfl _ _ _ rfl W1.1.size 46 (.slice Bq n d) rfl rfl (HK6g.out.there 46 1 (by rw[abb (qq.withS hl.out)];omega)) rfl rfl rfl ?_;intro WA hWA;have HFA:=hid (aku HF9.out hWA (by have:=HS1.out;have:=HS2.out;have:=HS3.out;have:=HS4.out;have:=HS5.out;have:=HS6.out;have:=HS7.out;omega));have HZA:Hid (WA.1.size=W9.1.size∧w.1.size<W7.1.size):=⟨hWA.sz,by have:=HS1.out;have:=HS2.out;have:=HS3.out;have:=HS4.out;have:=HS5.out;have:=HS6.out;have:=HS7.out;omega⟩;have HK6h:Hid (Blk WA W1.1.size (nmL 3 t zy xd ([.bool a,.int .i64 f,.slice Bq n d,.bool b0,.int .i64 n0,.bool b1,.int .i64 n1,.bool b2,.int .i64 n2]) xh ja)):=a0d HK6g.out hWA HG.out;have HK4h:=hid (HK4g.out.far hWA (by have:=HS1.out;omega));have HBE7:=hid (HBE9.out.trans (hWA.below (by have:=HS1.out;omega)));clear hWA HK6g HK4g HBE9)
 clear HS2 HS3 HS4 HS5 HS6 HS7 HF9 HB9
 try go_frame
 go_wp2_with (first
  | refine b0i rfl 58 _ rfl W1.1.size 0 rfl (nmL 3 t zy xd ([.bool a,.int .i64 f,.slice Bq n d,.bool b0,.int .i64 n0,.bool b1,.int .i64 n1,.bool b2,.int .i64 n2]) xh ja) _ HK6h.out.rg underlying58 rfl (jd (qq.withS rfl)) ?_
  | (refine qe rfl _ _ _ rfl w.1.size 0 (nmL 3 t zy xd ([.bool a,.int .i64 f,.slice Bq n d,.bool b0,.int .i64 n0,.bool b1,.int .i64 n1,.bool b2,.int .i64 n2]) xh ja).toArray rfl rfl (HK4h.out.thereA (jc (qq.withS rfl) qq)) (jd (qq.withS rfl)) (xj.arr (ya xi.1 xi.2.1 (xj.of rfl) xi.2.2.2.1 xi.2.2.2.2)) ?_;intro W8 hW8;have HK:Hid (Blk W8 w.1.size (nmL 3 t zy xd ([.bool a,.int .i64 f,.slice Bq n d,.bool b0,.int .i64 n0,.bool b1,.int .i64 n1,.bool b2,.int .i64 n2]) xh ja)):=HK4h.out.all hW8 (jc (qq.withS rfl) qq);have HBE8:=hid (HBE7.out.trans (hW8.below (a8 _)));have HFB:=hid (aku HFA.out hW8 HZA.out.2);have HZB:Hid (W8.1.size=W9.1.size):=hW8.sz.trans HZA.out.1;clear hW8 HFA))
 have HLD:=hid (t6 (P:=prog) W8 w.1.size 0 58 (nmL 3 t zy xd ([.bool a,.int .i64 f,.slice Bq n d,.bool b0,.int .i64 n0,.bool b1,.int .i64 n1,.bool b2,.int .i64 n2]) xh ja) _ HK.out.rg underlying58 rfl (jd (qq.withS rfl)));clear HK;refine b9 (v:=.tuple #[.agg (nmL 3 t zy xd ([.bool a,.int .i64 f,.slice Bq n d,.bool b0,.int .i64 n0,.bool b1,.int .i64 n1,.bool b2,.int .i64 n2]) xh ja).toArray,.string ⟨#[71,83,65]⟩]) (by rw[b1g rfl];simp[asAddr,Result.andThen,HLD.out]) rfl ?_;exact⟨Bq,d,by rw[HN.out],HFB.out.less (fun b hb=>⟨by have:=HZA.out.2;omega,by have:=HZB.out;omega⟩),HBE8.out⟩
