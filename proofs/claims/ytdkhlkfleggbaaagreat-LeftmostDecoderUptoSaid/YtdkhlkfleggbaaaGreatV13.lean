/- Parts. -/
import Derived.Test.YtdkhlkfleggbaaaGreatV08
import Derived.Test.YtdkhlkfleggbaaaGreatV12
import Derived.Maps.RangeWalk
namespace Go.Proofs.YtdkhlkfleggbaaaGreat
set_option maxHeartbeats 4000000
set_option maxRecDepth 8000
open Tryz
set_option linter.unusedVariables false
open Go.RowKit
theorem am9 (c:Nat) (w:World):Calls prog 107 #[.slice none 0 c] w λe w'=>e=.returned (.slice none 0 0)/\Below w.1.size w w':=by
 go_enter func107,ntmps107;go_wp2_with fail;rw[Lib.run_eql_slice_nil _ _ _ _ _ _ _ _ underlying49];go_wp2_with fail;go_ret;exact⟨rfl,n9 _ _⟩
set_option maxRecDepth 100000 in
theorem a5v:∃i,prog.info? 2=some i/\i.zero=some (.int .i64 0)/\i.size=1/\i.bytes=8:=⟨_,rfl,rfl,rfl,rfl⟩
theorem a30 {Q:Nat->Prop} (A:Option Addr) (L:List Int) (c:Nat) (w:World) (hA:A=none->L.length=0/\c=0) (hs:qf Q w A (L.map (Value.int .i64))) (hn:L.length<=1100000) :
 Calls prog 107 #[.slice A L.length c] w λe w'=>∃B d,e=.returned (.slice B L.length d)/\qf (λb=>w.1.size<=b/\b<w'.1.size) w' B (L.map (Value.int .i64))/\Below w.1.size w w':=by
 cases A with
 | none=>
  obtain⟨h0,rfl⟩:=hA rfl;obtain rfl:=b0k h0;refine(am9 0 w).mono ?_;rintro e w' ⟨rfl,h⟩;exact⟨none,0,rfl,qf.nil _ _ _,h⟩
 | some a=>
  obtain⟨i0,hi,hz0,hz1,hz2⟩:=a5v;obtain⟨n,hln⟩:∃n,L.length=n:=⟨_,rfl⟩;have HLN:=q_ hln;have hown:(w.alloc (.cells #[] 2)).ownsRow w.1.size 2 1 (.slice (some ⟨w.1.size,0,none⟩) 0 0) 0 []:=b32 w #[] 0 (a8 _) dc rfl;obtain⟨v',w2,hrun,h8,h9,-⟩:=j6 (P:=prog) (w.alloc (.cells #[] 2)) 49 49 2 i0 _ 1 8 underlying49 hi hz0 hz1 hz2 rfl dc w.1.size _ 0 [] hown (some a) n c (L.map (Value.int .i64)) (by simp[hln]) (hs.lt.below (qa w _) (λb h=>h.2)) (λu hu=>by obtain⟨z,-,rfl⟩:=b2f.1 hu;rfl) (by unfold maxLen;omega) om sm;rw[b0j,b0y]at h8
  have HE:Q_ (∃B d,v'=.slice B n d/\qf (λb=>w.1.size<=b/\b<w2.1.size) w2 B (L.map (Value.int .i64))/\Below w.1.size w w2):=by
   obtain⟨B,d,h1,-,h2,-⟩:=zt h8;refine⟨B,d,h1,h2,(qa w _).trans ⟨h9.os,h9.tape,h9.output,h9.size,λb hb=>h9.block b (by simp;omega) (λe=>by simp[Value.ownBlock]at e;omega)⟩⟩
  have HR:=q_ hrun;rw[hln]at hn ⊢;clear hs hA hln hown hrun h8 h9;have EQ:∀W:World,(binOp .eql 49 (.slice (some a) n c) (.slice none 0 0)).run prog W=.ok (.bool false) W:=λW=>Lib.run_eql_slice_nil W 49 2 (some a) n c 0 0 underlying49
  go_enter func107,ntmps107;go_wp2_with (at_builtin;refine q9 rfl _ _ 49 rfl _ _ _ rfl rfl HR.o ?_);go_ret;obtain⟨B,d,h1,h2,h3⟩:=HE.o;exact⟨B,d,by rw[h1];rfl,h2,h3⟩
theorem a3z {Q:Nat->Prop} (A:Option Addr) (L:List Int) (c:Nat) (w:World) (hs:qf Q w A (L.map (Value.int .i64))) (hn:L.length<=1100000) :
 Calls prog 107 #[.slice A L.length c] w λe w'=>∃B d,e=.returned (.slice B L.length d)/\qf (λb=>w.1.size<=b/\b<w'.1.size) w' B (L.map (Value.int .i64))/\Below w.1.size w w':=by
 cases A with
 | none=>
  have h0:L=[]:=by
   cases L with
   | nil=>rfl
   | cons x l=>obtain⟨b,off,h,-⟩:=hs 0 _ rfl;cases h
  subst h0;refine(am9 c w).mono ?_;rintro e w' ⟨rfl,h⟩;exact⟨none,0,rfl,qf.nil _ _ _,h⟩
 | some a=>exact a30 (some a) L c w (λh=>by cases h) hs hn
theorem akz {w W:World} {b' o m M:Nat} {cs:List Value} {A:Option Addr} {xs:List Value} (h:qf (λb=>m<=b/\b<M) w A xs) (hs:qq w W b' o cs) (hb:b'<m):qf (λb=>m<=b/\b<M) W A xs:=
 h.keep λb hq=>hs.far b om
theorem a06 {w W:World} {b:Nat} {t:ByteArray} {Sp:List Value} {a:Bool} {f:Int} {b0:Bool} {n0:Int} {b1:Bool} {n1:Int} {b2:Bool} {n2:Int} {x y:Value} (h:Blk w b (nmL 3 t zz xd Sp xi jc)) (hs:qq w W b 46 [y]) (e:[.bool a,.int .i64 f,x,.bool b0,.int .i64 n0,.bool b1,.int .i64 n1,.bool b2,.int .i64 n2]=Sp):Blk W b (nmL 3 t zz xd [.bool a,.int .i64 f,y,.bool b0,.int .i64 n0,.bool b1,.int .i64 n1,.bool b2,.int .i64 n2] xi jc):=by
 subst e;exact Blk.put (A:=.int .i64 3::.string t::(zz ++(xd++[.bool a,.int .i64 f]))) (M:=[x]) (D:=[.bool b0,.int .i64 n0,.bool b1,.int .i64 n1,.bool b2,.int .i64 n2] ++(xi++jc)) h hs rfl rfl
theorem a07 {w W:World} {b:Nat} {t:ByteArray} {Up:List Value} {T N S:Int} {x y:Value} (h:Blk w b (nmL 5 t zz xd xx xi Up)) (hs:qq w W b 64 [y]) (e:[.int .i64 T,.int .i64 N,.int .i64 S,x]=Up):Blk W b (nmL 5 t zz xd xx xi [.int .i64 T,.int .i64 N,.int .i64 S,y]):=by
 subst e;exact Blk.put (A:=.int .i64 5::.string t::(zz ++(xd ++(xx ++(xi++[.int .i64 T,.int .i64 N,.int .i64 S]))))) (M:=[x]) (D:=[]) h hs rfl rfl
theorem bgb {t:ByteArray} {G:List Value} (hl:Q_ (G.length=22)) (ho:Q_ (xk G)) (w:World):Calls prog 84 #[.string t,.iface 239 (.agg G.toArray)] w λe w'=>e=.returned (.tuple #[.agg (nmL 1 t G xd xx xi jc).toArray,.string ⟨#[71,71,65]⟩])/\Below w.1.size w w':=by
 have HA0:=λW=>q_ (apj G W)
 have HZ:=λW=>q_ (a8r W)
 have HZN:=λW=>q_ (ac1 W)
 have HBN:=λW=>q_ (afl t W)
 go_enter func84,ntmps84;go_upto_region 1 with(refine qc rfl _ rfl zNm (HZN _).o ?_;intro W1 hW1;have HK4:=q_ (Blk.newL (L:=nmL 0 ByteArray.empty zz xd xx xi jc) hW1 rfl);have HBE1:=q_ hW1.bel;have HS1:=q_ hW1.sz;clear hW1)
 go_upto_region 2 with(first
  | refine zf (u:=.string t) rfl _ 1 _ rfl rfl (HBN _).o ?_
  | (refine qc rfl _ rfl zNm (HZN _).o ?_;intro W2 hW2;have HK6a:=q_ (Blk.newL (L:=nmL 0 ByteArray.empty zz xd xx xi jc) hW2 rfl);have HK4a:=q_ (HK4.o.grew hW2);have HBE2:=q_ (qb HBE1.o hW2.bel);have HS2:=q_ hW2.sz;clear hW2 HBE1)
  | (refine qe rfl _ _ _ rfl W1.1.size 0 (nmL 0 t zz xd xx xi jc).toArray rfl rfl (HK6a.o.thereA (je qs qs)) (jf qs) (xk.arr (yc xj.1 xj.2.1 xj.2.2.1 xj.2.2.2.1 xj.2.2.2.2)) ?_;intro W3 hW3;have HK6:Q_ (Blk W3 W1.1.size (nmL 0 t zz xd xx xi jc)):=(HK6a.o.all hW3 (je qs qs));have HK4b:=q_ (HK4a.o.far hW3 (by have:=HS1.o;omega));have HBE3:=q_ (HBE2.o.trans (hW3.below (by have:=HS1.o;omega)));have HS3:=q_ hW3.sz;clear hW3 HK6a HK4 HK4a HBE2))
 go_upto_region 5 with(first
  | refine zc rfl _ _ _ _ rfl rfl (HA0 _).o ?_
  | (refine qc rfl _ rfl zz.toArray (HZ _).o ?_;intro W4 hW4;have HK7a:=q_ (Blk.newL (L:=zz) hW4 rfl);have HK4c:=q_ (HK4b.o.grew hW4);have HK6c:=q_ (HK6.o.grew hW4);have HBE4:=q_ (qb HBE3.o hW4.bel);have HS4:=q_ hW4.sz;clear hW4 HBE3 HK4b HK6)
  | (refine qe rfl _ _ _ rfl W3.1.size 0 G.toArray rfl rfl (HK7a.o.thereA hl.o) (by rw[a7l,o6,hl.o]) (xk.arr ho.o) ?_;intro W5 hW5;have HK7:Q_ (Blk W5 W3.1.size G):=HK7a.o.all hW5 hl.o;have HK6d:=q_ (HK6c.o.far hW5 (by have:=HS1.o;have:=HS2.o;have:=HS3.o;omega));have HK4d:=q_ (HK4c.o.far hW5 (by have:=HS1.o;have:=HS2.o;have:=HS3.o;omega));have HBE5:=q_ (HBE4.o.trans (hW5.below (by have:=HS1.o;have:=HS2.o;have:=HS3.o;omega)));have HS5:=q_ hW5.sz;clear hW5 HK7a HK6c HK4c HBE4))
 try go_frame
 clear HA0;clear HZ HZN HBN;have hS0:W5.drew.rangeAt W3.1.size 0 G/\W5.drew.there W1.1.size 0 65:=⟨HK7.o.drew.rg,HK6d.o.drew.nm65 qs⟩;refine t6 (S:=λw'=>w'.rangeAt W3.1.size 0 G/\w'.there W1.1.size 0 65) kr hS0 (λhHeld=>?_);refine tkQ (i:=0) (oi:=_) (v:=?_) rfl (Or.inl ⟨by rfl,?_⟩) ?_;rotate_left
 ·intro w hSw;go_simp
  try with_reducible rfl
 try go_frame
 refine tkQ (i:=1) (oi:=_) (v:=_) rfl (o4 (by rfl) 44 _ rfl W3.1.size 0 rfl G _ (λw h=>h.1) underlying44 rfl (by rw[aed,hl.o])) ?_;go_frame;refine tkQ (i:=2) (oi:=_) (v:=?_) rfl (Or.inl ⟨by rfl,?_⟩) ?_;rotate_left
 ·intro w hSw;go_simp
  try with_reducible rfl
 try go_frame
 refine b1a (rs:=[3]) kr sm ?_;refine b0i (o:=_) rfl (λK hK=>?_) b01;rw[if_pos (by rfl)];refine abj _ _ _ rfl W1.1.size 0 (.int .i64 1) rfl rfl (World.there.sub hHeld.2 0 1 om) rfl rfl rfl ?_;intro W6 hW6;have HK7':=q_ (HK7.o.drew.far hW6 (by have:=HS1.o;have:=HS2.o;have:=HS3.o;omega));have HK6e:=q_ (HK6d.o.drew.putK hW6);have HK4e:=q_ (HK4d.o.drew.far hW6 (by have:=HS1.o;have:=HS2.o;have:=HS3.o;omega));have HBE6:=q_ (HBE5.o.trans (hW6.drew.below (by have:=HS1.o;have:=HS2.o;have:=HS3.o;omega)));have HS6:Q_ (W6.1.size=W5.1.size):=hW6.sz
 clear hW6 HK7 HK6d HK4d HBE5;refine hK.out _ _ ⟨HK7'.o.rg,HK6e.o.nm65 qs⟩ (λhHeld=>?_);clear hK K
 try go_frame
 refine tkQ (i:=4) (oi:=_) (v:=?_) rfl (Or.inl ⟨by rfl,?_⟩) ?_;rotate_left
 ·intro w hSw;go_simp
  try with_reducible rfl
 try go_frame
 refine b1a (rs:=[5]) kr sm ?_;refine b0i (o:=_) rfl (λK hK=>?_) b01;rw[if_pos (by rfl)];refine ac6 _ _ _ rfl W1.1.size 2 G.toArray rfl rfl (HK6e.o.there 2 _ (by rw[o6,hl.o,abf qs];omega)) (by rw[aed,o6,hl.o]) (xk.arr ho.o) ?_;intro W7 hW7;have HK6f:Q_ (Blk W7 W1.1.size (nmL 1 t G xd xx xi jc)):=HK6e.o.putG hW7 qs hl.o;have HK4f:=q_ (HK4e.o.far hW7 (by have:=HS1.o;omega));have HK7'':=q_ (HK7'.o.far hW7 (by have:=HS1.o;have:=HS2.o;have:=HS3.o;omega));have HBE7:=q_ (HBE6.o.trans (hW7.below (by have:=HS1.o;have:=HS2.o;have:=HS3.o;omega)));have HS7:=q_ hW7.sz
 clear hW7 HK6e HK4e HBE6 HK7';refine hK.out _ _ ⟨HK7''.o.rg,HK6f.o.nm65 (qs.withG hl.o)⟩ (λhHeld=>?_);clear hK K
 try go_frame
 refine b0m kr ?_ _;clear hS0 hHeld;clear HK7'' HS1 HS2 HS3 HS4 HS5 HS6 HS7
 go_wp2_with (first
  | refine b0q rfl 58 _ rfl W1.1.size 0 rfl (nmL 1 t G xd xx xi jc) _ HK6f.o.rg underlying58 rfl (jf (qs.withG hl.o)) ?_
  | (refine qe rfl _ _ _ rfl w.1.size 0 (nmL 1 t G xd xx xi jc).toArray rfl rfl (HK4f.o.thereA (je (qs.withG hl.o) qs)) (jf (qs.withG hl.o)) (xk.arr (yc ho.o xj.2.1 xj.2.2.1 xj.2.2.2.1 xj.2.2.2.2)) ?_;intro W8 hW8;have HK:Q_ (Blk W8 w.1.size (nmL 1 t G xd xx xi jc)):=HK4f.o.all hW8 (je (qs.withG hl.o) qs);have HBE8:=q_ (HBE7.o.trans (hW8.below (a8 _)));clear hW8))
 have HLD:=q_ (t9 (P:=prog) W8 w.1.size 0 58 (nmL 1 t G xd xx xi jc) _ HK.o.rg underlying58 rfl (jf (qs.withG hl.o)));clear HK;refine b9 (v:=.tuple #[.agg (nmL 1 t G xd xx xi jc).toArray,.string ⟨#[71,71,65]⟩]) (by rw[b1p rfl];simp[asAddr,Result.andThen,HLD.o]) rfl ?_;exact⟨rfl,HBE8.o⟩
theorem bgc {t:ByteArray} {R:List Value} (hl:Q_ (R.length=20)) (ho:Q_ (xk R)) (w:World):Calls prog 84 #[.string t,.iface 243 (.agg R.toArray)] w λe w'=>e=.returned (.tuple #[.agg (nmL 2 t zz R xx xi jc).toArray,.string ⟨#[82,77,67]⟩])/\Below w.1.size w w':=by
 have HA0:=λW=>q_ (apt R W)
 have HA1:=λW=>q_ (apu R W)
 have HZ:=λW=>q_ (a8u W)
 have HZN:=λW=>q_ (ac1 W)
 have HBN:=λW=>q_ (afl t W)
 go_enter func84,ntmps84;go_upto_region 1 with(refine qc rfl _ rfl zNm (HZN _).o ?_;intro W1 hW1;have HK4:=q_ (Blk.newL (L:=nmL 0 ByteArray.empty zz xd xx xi jc) hW1 rfl);have HBE1:=q_ hW1.bel;have HS1:=q_ hW1.sz;clear hW1)
 go_upto_region 2 with(first
  | refine zf (u:=.string t) rfl _ 1 _ rfl rfl (HBN _).o ?_
  | (refine qc rfl _ rfl zNm (HZN _).o ?_;intro W2 hW2;have HK6a:=q_ (Blk.newL (L:=nmL 0 ByteArray.empty zz xd xx xi jc) hW2 rfl);have HK4a:=q_ (HK4.o.grew hW2);have HBE2:=q_ (qb HBE1.o hW2.bel);have HS2:=q_ hW2.sz;clear hW2 HBE1)
  | (refine qe rfl _ _ _ rfl W1.1.size 0 (nmL 0 t zz xd xx xi jc).toArray rfl rfl (HK6a.o.thereA (je qs qs)) (jf qs) (xk.arr (yc xj.1 xj.2.1 xj.2.2.1 xj.2.2.2.1 xj.2.2.2.2)) ?_;intro W3 hW3;have HK6:Q_ (Blk W3 W1.1.size (nmL 0 t zz xd xx xi jc)):=(HK6a.o.all hW3 (je qs qs));have HK4b:=q_ (HK4a.o.far hW3 (by have:=HS1.o;omega));have HBE3:=q_ (HBE2.o.trans (hW3.below (by have:=HS1.o;omega)));have HS3:=q_ hW3.sz;clear hW3 HK6a HK4 HK4a HBE2))
 go_upto_region 9 with(first
  | refine zc rfl _ _ _ _ rfl rfl (HA0 _).o ?_
  | refine zc rfl _ _ _ _ rfl rfl (HA1 _).o ?_
  | (refine qc rfl _ rfl xd.toArray (HZ _).o ?_;intro W4 hW4;have HK7a:=q_ (Blk.newL (L:=xd) hW4 rfl);have HK4c:=q_ (HK4b.o.grew hW4);have HK6c:=q_ (HK6.o.grew hW4);have HBE4:=q_ (qb HBE3.o hW4.bel);have HS4:=q_ hW4.sz;clear hW4 HBE3 HK4b HK6)
  | (refine qe rfl _ _ _ rfl W3.1.size 0 R.toArray rfl rfl (HK7a.o.thereA hl.o) (by rw[a7o,o6,hl.o]) (xk.arr ho.o) ?_;intro W5 hW5;have HK7:Q_ (Blk W5 W3.1.size R):=HK7a.o.all hW5 hl.o;have HK6d:=q_ (HK6c.o.far hW5 (by have:=HS1.o;have:=HS2.o;have:=HS3.o;omega));have HK4d:=q_ (HK4c.o.far hW5 (by have:=HS1.o;have:=HS2.o;have:=HS3.o;omega));have HBE5:=q_ (HBE4.o.trans (hW5.below (by have:=HS1.o;have:=HS2.o;have:=HS3.o;omega)));have HS5:=q_ hW5.sz;clear hW5 HK7a HK6c HK4c HBE4))
 try go_frame
 clear HA0;clear HA1;clear HZ HZN HBN;have hS0:W5.drew.rangeAt W3.1.size 0 R/\W5.drew.there W1.1.size 0 65:=⟨HK7.o.drew.rg,HK6d.o.drew.nm65 qs⟩;refine t6 (S:=λw'=>w'.rangeAt W3.1.size 0 R/\w'.there W1.1.size 0 65) kr hS0 (λhHeld=>?_);refine tkQ (i:=0) (oi:=_) (v:=?_) rfl (Or.inl ⟨by rfl,?_⟩) ?_;rotate_left
 ·intro w hSw;go_simp
  try with_reducible rfl
 try go_frame
 refine tkQ (i:=1) (oi:=_) (v:=_) rfl (o4 (by rfl) 48 _ rfl W3.1.size 0 rfl R _ (λw h=>h.1) underlying48 rfl (by rw[aeg,hl.o])) ?_;go_frame;refine tkQ (i:=2) (oi:=_) (v:=?_) rfl (Or.inl ⟨by rfl,?_⟩) ?_;rotate_left
 ·intro w hSw;go_simp
  try with_reducible rfl
 try go_frame
 refine b1a (rs:=[3]) kr sm ?_;refine b0i (o:=_) rfl (λK hK=>?_) b01;rw[if_pos (by rfl)];refine abj _ _ _ rfl W1.1.size 0 (.int .i64 2) rfl rfl (World.there.sub hHeld.2 0 1 om) rfl rfl rfl ?_;intro W6 hW6;have HK7':=q_ (HK7.o.drew.far hW6 (by have:=HS1.o;have:=HS2.o;have:=HS3.o;omega));have HK6e:=q_ (HK6d.o.drew.putK hW6);have HK4e:=q_ (HK4d.o.drew.far hW6 (by have:=HS1.o;have:=HS2.o;have:=HS3.o;omega));have HBE6:=q_ (HBE5.o.trans (hW6.drew.below (by have:=HS1.o;have:=HS2.o;have:=HS3.o;omega)));have HS6:Q_ (W6.1.size=W5.1.size):=hW6.sz
 clear hW6 HK7 HK6d HK4d HBE5;refine hK.out _ _ ⟨HK7'.o.rg,HK6e.o.nm65 qs⟩ (λhHeld=>?_);clear hK K
 try go_frame
 refine tkQ (i:=4) (oi:=_) (v:=?_) rfl (Or.inl ⟨by rfl,?_⟩) ?_;rotate_left
 ·intro w hSw;go_simp
  try with_reducible rfl
 try go_frame
 refine b1a (rs:=[5]) kr sm ?_;refine b0i (o:=_) rfl (λK hK=>?_) b01;rw[if_pos (by rfl)];refine ac6 _ _ _ rfl W1.1.size 24 R.toArray rfl rfl (HK6e.o.there 24 _ (by rw[o6,hl.o,abf qs];omega)) (by rw[aeg,o6,hl.o]) (xk.arr ho.o) ?_;intro W7 hW7;have HK6f:Q_ (Blk W7 W1.1.size (nmL 2 t zz R xx xi jc)):=HK6e.o.putR hW7 qs hl.o;have HK4f:=q_ (HK4e.o.far hW7 (by have:=HS1.o;omega));have HK7'':=q_ (HK7'.o.far hW7 (by have:=HS1.o;have:=HS2.o;have:=HS3.o;omega));have HBE7:=q_ (HBE6.o.trans (hW7.below (by have:=HS1.o;have:=HS2.o;have:=HS3.o;omega)));have HS7:=q_ hW7.sz
 clear hW7 HK6e HK4e HBE6 HK7';refine hK.out _ _ ⟨HK7''.o.rg,HK6f.o.nm65 (qs.withR hl.o)⟩ (λhHeld=>?_);clear hK K
 try go_frame
 refine b0m kr ?_ _;clear hS0 hHeld;clear HK7'' HS1 HS2 HS3 HS4 HS5 HS6 HS7
 go_wp2_with (first
  | refine b0q rfl 58 _ rfl W1.1.size 0 rfl (nmL 2 t zz R xx xi jc) _ HK6f.o.rg underlying58 rfl (jf (qs.withR hl.o)) ?_
  | (refine qe rfl _ _ _ rfl w.1.size 0 (nmL 2 t zz R xx xi jc).toArray rfl rfl (HK4f.o.thereA (je (qs.withR hl.o) qs)) (jf (qs.withR hl.o)) (xk.arr (yc xj.1 ho.o xj.2.2.1 xj.2.2.2.1 xj.2.2.2.2)) ?_;intro W8 hW8;have HK:Q_ (Blk W8 w.1.size (nmL 2 t zz R xx xi jc)):=HK4f.o.all hW8 (je (qs.withR hl.o) qs);have HBE8:=q_ (HBE7.o.trans (hW8.below (a8 _)));clear hW8))
 have HLD:=q_ (t9 (P:=prog) W8 w.1.size 0 58 (nmL 2 t zz R xx xi jc) _ HK.o.rg underlying58 rfl (jf (qs.withR hl.o)));clear HK;refine b9 (v:=.tuple #[.agg (nmL 2 t zz R xx xi jc).toArray,.string ⟨#[82,77,67]⟩]) (by rw[b1p rfl];simp[asAddr,Result.andThen,HLD.o]) rfl ?_;exact⟨rfl,HBE8.o⟩
theorem bgd {t:ByteArray} (w:World) {a:Bool} {f:Int} {A:Option Addr} {c:Nat} {D:List Int} {b0:Bool} {n0:Int} {b1:Bool} {n1:Int} {b2:Bool} {n2:Int} (hs:qf (λb=>b<w.1.size) w A (D.map (Value.int .i64))) (hm:D.length<=1100000):Calls prog 84 #[.string t,.iface 247 (.agg ([.bool a,.int .i64 f,.slice A D.length c,.bool b0,.int .i64 n0,.bool b1,.int .i64 n1,.bool b2,.int .i64 n2]:List Value).toArray)] w λe w'=>∃B d,e=.returned (.tuple #[.agg (nmL 3 t zz xd ([.bool a,.int .i64 f,.slice B D.length d,.bool b0,.int .i64 n0,.bool b1,.int .i64 n1,.bool b2,.int .i64 n2]) xi jc).toArray,.string ⟨#[71,83,65]⟩])/\qf (λb=>w.1.size<=b/\b<w'.1.size) w' B (D.map (Value.int .i64))/\Below w.1.size w w':=by
 obtain⟨Sp,hG⟩:∃L,([.bool a,.int .i64 f,.slice A D.length c,.bool b0,.int .i64 n0,.bool b1,.int .i64 n1,.bool b2,.int .i64 n2]:List Value)=L:=⟨_,rfl⟩;have hl:Q_ (Sp.length=9):=by rw[<- hG];exact rfl
 have ho:Q_ (xk Sp):=by rw[<- hG];exact xk.of rfl
 have HG:=q_ hG;obtain⟨n,hn⟩:∃n,D.length=n:=⟨_,rfl⟩;have HN:=q_ hn;have HHS:=q_ hs;have HHM:=q_ hm;rw[hG];clear hG hs hm hn;have HA0:=λW=>q_ (apk Sp W)
 have HA1:=λW=>q_ (apm Sp W)
 have HA2:=λW=>q_ (apl Sp W)
 have HZ:=λW=>q_ (a8s W)
 have HZN:=λW=>q_ (ac1 W)
 have HBN:=λW=>q_ (afl t W)
 go_enter func84,ntmps84;go_upto_region 1 with(refine qc rfl _ rfl zNm (HZN _).o ?_;intro W1 hW1;have HK4:=q_ (Blk.newL (L:=nmL 0 ByteArray.empty zz xd xx xi jc) hW1 rfl);have HBE1:=q_ hW1.bel;have HS1:=q_ hW1.sz;clear hW1)
 go_upto_region 2 with(first
  | refine zf (u:=.string t) rfl _ 1 _ rfl rfl (HBN _).o ?_
  | (refine qc rfl _ rfl zNm (HZN _).o ?_;intro W2 hW2;have HK6a:=q_ (Blk.newL (L:=nmL 0 ByteArray.empty zz xd xx xi jc) hW2 rfl);have HK4a:=q_ (HK4.o.grew hW2);have HBE2:=q_ (qb HBE1.o hW2.bel);have HS2:=q_ hW2.sz;clear hW2 HBE1)
  | (refine qe rfl _ _ _ rfl W1.1.size 0 (nmL 0 t zz xd xx xi jc).toArray rfl rfl (HK6a.o.thereA (je qs qs)) (jf qs) (xk.arr (yc xj.1 xj.2.1 xj.2.2.1 xj.2.2.2.1 xj.2.2.2.2)) ?_;intro W3 hW3;have HK6:Q_ (Blk W3 W1.1.size (nmL 0 t zz xd xx xi jc)):=(HK6a.o.all hW3 (je qs qs));have HK4b:=q_ (HK4a.o.far hW3 (by have:=HS1.o;omega));have HBE3:=q_ (HBE2.o.trans (hW3.below (by have:=HS1.o;omega)));have HS3:=q_ hW3.sz;clear hW3 HK6a HK4 HK4a HBE2))
 go_upto_region 13 with(first
  | refine zc rfl _ _ _ _ rfl rfl (HA0 _).o ?_
  | refine zc rfl _ _ _ _ rfl rfl (HA1 _).o ?_
  | refine zc rfl _ _ _ _ rfl rfl (HA2 _).o ?_
  | (refine qc rfl _ rfl xx.toArray (HZ _).o ?_;intro W4 hW4;have HK7a:=q_ (Blk.newL (L:=xx) hW4 rfl);have HK4c:=q_ (HK4b.o.grew hW4);have HK6c:=q_ (HK6.o.grew hW4);have HBE4:=q_ (qb HBE3.o hW4.bel);have HS4:=q_ hW4.sz;clear hW4 HBE3 HK4b HK6)
  | (refine qe rfl _ _ _ rfl W3.1.size 0 Sp.toArray rfl rfl (HK7a.o.thereA hl.o) (by rw[a7m,o6,hl.o]) (xk.arr ho.o) ?_;intro W5 hW5;have HK7:Q_ (Blk W5 W3.1.size Sp):=HK7a.o.all hW5 hl.o;have HK6d:=q_ (HK6c.o.far hW5 (by have:=HS1.o;have:=HS2.o;have:=HS3.o;omega));have HK4d:=q_ (HK4c.o.far hW5 (by have:=HS1.o;have:=HS2.o;have:=HS3.o;omega));have HBE5:=q_ (HBE4.o.trans (hW5.below (by have:=HS1.o;have:=HS2.o;have:=HS3.o;omega)));have HS5:=q_ hW5.sz;clear hW5 HK7a HK6c HK4c HBE4))
 try go_frame
 clear HA0;clear HA1;clear HA2;clear HZ HZN HBN;have hS0:W5.drew.rangeAt W3.1.size 0 Sp/\W5.drew.there W1.1.size 0 65:=⟨HK7.o.drew.rg,HK6d.o.drew.nm65 qs⟩;refine t6 (S:=λw'=>w'.rangeAt W3.1.size 0 Sp/\w'.there W1.1.size 0 65) kr hS0 (λhHeld=>?_);refine tkQ (i:=0) (oi:=_) (v:=?_) rfl (Or.inl ⟨by rfl,?_⟩) ?_;rotate_left
 ·intro w hSw;go_simp
  try with_reducible rfl
 try go_frame
 refine tkQ (i:=1) (oi:=_) (v:=_) rfl (o4 (by rfl) 51 _ rfl W3.1.size 0 rfl Sp _ (λw h=>h.1) underlying51 rfl (by rw[aee,hl.o])) ?_;go_frame;refine tkQ (i:=2) (oi:=_) (v:=?_) rfl (Or.inl ⟨by rfl,?_⟩) ?_;rotate_left
 ·intro w hSw;go_simp
  try with_reducible rfl
 try go_frame
 refine b1a (rs:=[3]) kr sm ?_;refine b0i (o:=_) rfl (λK hK=>?_) b01;rw[if_pos (by rfl)];refine abj _ _ _ rfl W1.1.size 0 (.int .i64 3) rfl rfl (World.there.sub hHeld.2 0 1 om) rfl rfl rfl ?_;intro W6 hW6;have HK7':=q_ (HK7.o.drew.far hW6 (by have:=HS1.o;have:=HS2.o;have:=HS3.o;omega));have HK6e:=q_ (HK6d.o.drew.putK hW6);have HK4e:=q_ (HK4d.o.drew.far hW6 (by have:=HS1.o;have:=HS2.o;have:=HS3.o;omega));have HBE6:=q_ (HBE5.o.trans (hW6.drew.below (by have:=HS1.o;have:=HS2.o;have:=HS3.o;omega)));have HS6:Q_ (W6.1.size=W5.1.size):=hW6.sz
 clear hW6 HK7 HK6d HK4d HBE5;refine hK.out _ _ ⟨HK7'.o.rg,HK6e.o.nm65 qs⟩ (λhHeld=>?_);clear hK K
 try go_frame
 refine tkQ (i:=4) (oi:=_) (v:=?_) rfl (Or.inl ⟨by rfl,?_⟩) ?_;rotate_left
 ·intro w hSw;go_simp
  try with_reducible rfl
 try go_frame
 refine b1a (rs:=[5]) kr sm ?_;refine b0i (o:=_) rfl (λK hK=>?_) b01;rw[if_pos (by rfl)];refine ac6 _ _ _ rfl W1.1.size 44 Sp.toArray rfl rfl (HK6e.o.there 44 _ (by rw[o6,hl.o,abf qs];omega)) (by rw[aee,o6,hl.o]) (xk.arr ho.o) ?_;intro W7 hW7;have HK6f:Q_ (Blk W7 W1.1.size (nmL 3 t zz xd Sp xi jc)):=HK6e.o.putS hW7 qs hl.o;have HK4f:=q_ (HK4e.o.far hW7 (by have:=HS1.o;omega));have HK7'':=q_ (HK7'.o.far hW7 (by have:=HS1.o;have:=HS2.o;have:=HS3.o;omega));have HBE7:=q_ (HBE6.o.trans (hW7.below (by have:=HS1.o;have:=HS2.o;have:=HS3.o;omega)));have HS7:=q_ hW7.sz
 clear hW7 HK6e HK4e HBE6 HK7';refine hK.out _ _ ⟨HK7''.o.rg,HK6f.o.nm65 (qs.withS hl.o)⟩ (λhHeld=>?_);clear hK K
 try go_frame
 refine b0m kr ?_ _;clear hS0 hHeld;have HX:Q_ (Blk W7 W3.1.size ([.bool a,.int .i64 f,.slice A n c,.bool b0,.int .i64 n0,.bool b1,.int .i64 n1,.bool b2,.int .i64 n2])):=by have h:=HK7''.o;rw[<- HG.o,HN.o]at h;exact h
 have hC:=a3z A D c W7 (HHS.o.below HBE7.o (λb h=>h)) HHM.o;rw[HN.o]at hC;have HC:=q_ hC;have g0:W7.cell? ⟨W3.1.size,2,none⟩=some (.slice A n c):=HX.o.cell 2 rfl;clear hC;go_wp2_with fail;refine HC.o.mono ?_;rintro e W9 ⟨Bq,d,rfl,hf,hb⟩;have HF9:=q_ hf;have HK6g:=q_ (HK6f.o.on hb);have HK4g:=q_ (HK4f.o.on hb);have HBE9:=q_ (qb HBE7.o hb);have HB9:=q_ hb
 clear hf hb g0 HK6f HK4f HK7'' HX HC;go_upto_region 15 with(refine af2 rfl _ _ _ rfl W1.1.size 46 (.slice Bq n d) rfl rfl (HK6g.o.there 46 1 (by rw[abf (qs.withS hl.o)];omega)) rfl rfl rfl ?_;intro WA hWA;have HFA:=q_ (akz HF9.o hWA (by have:=HS1.o;have:=HS2.o;have:=HS3.o;have:=HS4.o;have:=HS5.o;have:=HS6.o;have:=HS7.o;omega));have HZA:Q_ (WA.1.size=W9.1.size/\w.1.size<W7.1.size):=⟨hWA.sz,by have:=HS1.o;have:=HS2.o;have:=HS3.o;have:=HS4.o;have:=HS5.o;have:=HS6.o;have:=HS7.o;omega⟩;have HK6h:Q_ (Blk WA W1.1.size (nmL 3 t zz xd ([.bool a,.int .i64 f,.slice Bq n d,.bool b0,.int .i64 n0,.bool b1,.int .i64 n1,.bool b2,.int .i64 n2]) xi jc)):=a06 HK6g.o hWA HG.o;have HK4h:=q_ (HK4g.o.far hWA (by have:=HS1.o;omega));have HBE7:=q_ (HBE9.o.trans (hWA.below (by have:=HS1.o;omega)));clear hWA HK6g HK4g HBE9)
 clear HS2 HS3 HS4 HS5 HS6 HS7 HF9 HB9
 try go_frame
 go_wp2_with (first
  | refine b0q rfl 58 _ rfl W1.1.size 0 rfl (nmL 3 t zz xd ([.bool a,.int .i64 f,.slice Bq n d,.bool b0,.int .i64 n0,.bool b1,.int .i64 n1,.bool b2,.int .i64 n2]) xi jc) _ HK6h.o.rg underlying58 rfl (jf (qs.withS rfl)) ?_
  | (refine qe rfl _ _ _ rfl w.1.size 0 (nmL 3 t zz xd ([.bool a,.int .i64 f,.slice Bq n d,.bool b0,.int .i64 n0,.bool b1,.int .i64 n1,.bool b2,.int .i64 n2]) xi jc).toArray rfl rfl (HK4h.o.thereA (je (qs.withS rfl) qs)) (jf (qs.withS rfl)) (xk.arr (yc xj.1 xj.2.1 (xk.of rfl) xj.2.2.2.1 xj.2.2.2.2)) ?_;intro W8 hW8;have HK:Q_ (Blk W8 w.1.size (nmL 3 t zz xd ([.bool a,.int .i64 f,.slice Bq n d,.bool b0,.int .i64 n0,.bool b1,.int .i64 n1,.bool b2,.int .i64 n2]) xi jc)):=HK4h.o.all hW8 (je (qs.withS rfl) qs);have HBE8:=q_ (HBE7.o.trans (hW8.below (a8 _)));have HFB:=q_ (akz HFA.o hW8 HZA.o.2);have HZB:Q_ (W8.1.size=W9.1.size):=hW8.sz.trans HZA.o.1;clear hW8 HFA))
 have HLD:=q_ (t9 (P:=prog) W8 w.1.size 0 58 (nmL 3 t zz xd ([.bool a,.int .i64 f,.slice Bq n d,.bool b0,.int .i64 n0,.bool b1,.int .i64 n1,.bool b2,.int .i64 n2]) xi jc) _ HK.o.rg underlying58 rfl (jf (qs.withS rfl)));clear HK;refine b9 (v:=.tuple #[.agg (nmL 3 t zz xd ([.bool a,.int .i64 f,.slice Bq n d,.bool b0,.int .i64 n0,.bool b1,.int .i64 n1,.bool b2,.int .i64 n2]) xi jc).toArray,.string ⟨#[71,83,65]⟩]) (by rw[b1p rfl];simp[asAddr,Result.andThen,HLD.o]) rfl ?_;exact⟨Bq,d,by rw[HN.o],HFB.o.less (λb hb=>⟨by have:=HZA.o.2;omega,by have:=HZB.o;omega⟩),HBE8.o⟩
