/- Parts. -/
import Derived.Test.YtdkhlkfleggbaaaGreatU13
import Derived.Lib.SliceRun
namespace Go.Proofs.YtdkhlkfleggbaaaGreat
set_option maxHeartbeats 8000000
set_option maxRecDepth 8000
open Lib (hid)
open Tryz
set_option linter.unusedVariables false
open Go.RowKit
def j4 (v:V4):List Value:=[.bool v.1.1,.int .i64 v.1.2,.bool v.2.1.1,.int .i64 v.2.1.2,.bool v.2.2.1.1,.int .i64 v.2.2.1.2,.bool v.2.2.2.1,.int .i64 v.2.2.2.2]
def Vws (w:World) (B:Nat) (A:Option Addr) (l:List V4):Prop:=
 ∀k (hk:k<l.length),∃b off,A=some ⟨b,off,none⟩∧b<B∧∀(j:Nat) u,(j4 l[k])[j]?=some u→w.cell? ⟨b,off+8*k+j,none⟩=some u
theorem Vws.below {w w':World} {B B':Nat} {A:Option Addr} {l:List V4} (h:Vws w B A l) (hb:Below B' w w') (hB:B≤B'):Vws w' B A l:=by
 intro k hk;obtain⟨b,off,h1,h2,h3⟩:=h k hk;exact⟨b,off,h1,h2,fun j u hu=>(hb.cell (p:=⟨b,off+8*k+j,none⟩) (by show b<B';omega)).trans (h3 j u hu)⟩
theorem Vws.more {w:World} {B B':Nat} {A:Option Addr} {l:List V4} (h:Vws w B A l) (hB:B≤B'):Vws w B' A l:=by
 intro k hk;obtain⟨b,off,h1,h2,h3⟩:=h k hk;exact⟨b,off,h1,by omega,h3⟩
abbrev agb (T N S:Int) (A:Option Addr) (n c:Nat):Array Value:=#[.int .i64 T,.int .i64 N,.int .i64 S,.slice A n c]
abbrev a4x (T N S:Int) (A:Option Addr) (n c:Nat):Value:=.agg (agb T N S A n c)
def vsC (l:List V4):List Value:=l.flatMap j4
theorem a8f (l:List V4):(vsC l).length=l.length*8:=by
 induction l with
 | nil=>rfl
 | cons x l ih=>show (j4 x++vsC l).length=_;rw[d7,ih];show 8+_=_;simp;omega
theorem axu:∀(D:List V4) (k j:Nat) (hk:k<D.length),j<8 →(vsC D)[8*k+j]?=(j4 D[k])[j]?
 | x::D,0,j,_,hj=>by
  show (j4 x++vsC D)[8*0+j]?=_;rw[b0a (by show 8*0+j<8;omega)];simp
 | x::D,k+1,j,hk,hj=>by
  show (j4 x++vsC D)[8*(k+1)+j]?=_;rw[t8 (by show 8≤_;omega)];have e:8*(k+1)+j-(j4 x).length=8*k+j:=by show 8*(k+1)+j-8=_;omega
  rw[e,axu D k j (by simpa using hk) hj];rfl
theorem bcm (x:V4):∀u∈j4 x,u.oneCell'=true:=fun u hu=>by
 simp only[j4,b0z,b2d,b4o]at hu;rcases hu with rfl|rfl|rfl|rfl|rfl|rfl|rfl|rfl<;>rfl
theorem bjh (l:List V4):∀u∈vsC l,u.oneCell'=true:=fun u hu=>by
 obtain⟨x,hx,h⟩:=b37.1 hu;exact bcm x u h
theorem qf.vws {Q:Nat→Prop} {w:World} {A:Option Addr} {L:List V4} (h:qf Q w A (vsC L)):Vws w w.1.size A L:=fun k hk=>by
 have hu:∀(j:Nat) u,(j4 L[k])[j]?=some u →(vsC L)[8*k+j]?=some u:=fun j u hu=>by
  have hj:j<8:=by
   rcases b01 j 8 with q|q
   ·exact q
   ·rw[t9 (by show 8≤j;exact q)]at hu;cases hu
  rw[axu L k j hk hj];exact hu
 obtain⟨b,off,h1,-,h3⟩:=h _ _ (hu 0 _ rfl);refine⟨b,off,h1,b2m w _ h3,fun j u hj=>?_⟩;obtain⟨b',off',h1',-,h3'⟩:=h _ _ (hu j u hj);rw[h1]at h1';injection h1' with h1'
 injection h1' with e1 e2
 subst e1 e2;rw[b20];exact h3'
theorem Vws.flatq {w:World} {B:Nat} {A:Option Addr} {L:List V4} (h:Vws w B A L):qf (fun b=>b<B) w A (vsC L):=fun j u hu=>by
 have hj:j<(vsC L).length:=by
  rcases b01 j (vsC L).length with q|q
  ·exact q
  ·rw[t9 q]at hu;cases hu
 rw[a8f]at hj;have hk:j / 8<L.length:=by omega
 obtain⟨b,off,h1,h2,h3⟩:=h (j / 8) hk;refine⟨b,off,h1,h2,?_⟩;have e:8*(j / 8)+j%8=j:=by omega
 have:=h3 (j%8) u (by rw[← axu L (j / 8) (j%8) hk om,e];exact hu);rw[b20,e]at this;exact this
theorem amt (c:Nat) (w:World):Calls prog 108 #[.slice none 0 c] w fun e w'=>e=.returned (.slice none 0 0)∧Below w.1.size w w':=by
 go_enter func108,ntmps108;go_wp2_with fail;rw[Lib.run_eql_slice_nil _ _ _ _ _ _ _ _ underlying54];go_wp2_with fail;go_ret;exact⟨rfl,n6 _ _⟩
set_option maxRecDepth 100000 in
theorem bcn:∃i,prog.info? 210=some i∧i.zero=some (.agg #[.bool false,.int .i64 0,.bool false,.int .i64 0,.bool false,.int .i64 0,.bool false,.int .i64 0])∧i.size=8∧i.bytes=64:=⟨_,rfl,rfl,rfl,rfl⟩
theorem a24 {Q:Nat→Prop} (A:Option Addr) (L:List V4) (c:Nat) (w:World) (hA:A=none→L.length=0∧c=0) (hs:qf Q w A (vsC L)) (hn:L.length≤1000000) :
 Calls prog 108 #[.slice A L.length c] w fun e w'=>∃B d,e=.returned (.slice B L.length d)∧qf (fun b=>w.1.size≤b∧b<w'.1.size) w' B (vsC L)∧Below w.1.size w w':=by
 cases A with
 | none=>
  obtain⟨h0,rfl⟩:=hA rfl;obtain rfl:=b0f h0;refine(amt 0 w).mono ?_;rintro e w' ⟨rfl,h⟩;exact⟨none,0,rfl,qf.nil _ _ _,h⟩
 | some a=>
  obtain⟨i0,hi,hz0,hz1,hz2⟩:=bcn;obtain⟨n,hln⟩:∃n,L.length=n:=⟨_,rfl⟩;have HLN:=hid hln;have hown:(w.alloc (.cells #[] 210)).ownsRow w.1.size 210 8 (.slice (some ⟨w.1.size,0,none⟩) 0 0) 0 []:=b3s w #[] 0 (a8 _) dc rfl;obtain⟨v',w2,hrun,h8,h9,-⟩:=kq (P:=prog) (w.alloc (.cells #[] 210)) 54 54 210 i0 _ 8 64 underlying54 hi hz0 hz1 hz2 rfl dc w.1.size _ 0 [] hown (some a) n c (vsC L) (by rw[a8f,hln]) (hs.lt.below (qa w _) (fun b h=>h.2)) (bjh L) (by unfold maxLen;omega) om sm;rw[b0e,b03]at h8
  have HE:Hid (∃B d,v'=.slice B n d∧qf (fun b=>w.1.size≤b∧b<w2.1.size) w2 B (vsC L)∧Below w.1.size w w2):=by
   obtain⟨B,d,h1,-,h2,-⟩:=xx h8;refine⟨B,d,h1,h2,(qa w _).trans ⟨h9.os,h9.tape,h9.output,h9.size,fun b hb=>h9.block b (by simp;omega) (fun e=>by simp[Value.ownBlock]at e;omega)⟩⟩
  have HR:=hid hrun;rw[hln]at hn ⊢;clear hs hA hln hown hrun h8 h9;have EQ:∀W:World,(binOp .eql 54 (.slice (some a) n c) (.slice none 0 0)).run prog W=.ok (.bool false) W:=fun W=>Lib.run_eql_slice_nil W 54 210 (some a) n c 0 0 underlying54
  go_enter func108,ntmps108;go_wp2_with (at_builtin;refine qw rfl _ _ 54 rfl _ _ _ rfl rfl HR.out ?_);go_ret;obtain⟨B,d,h1,h2,h3⟩:=HE.out;exact⟨B,d,by rw[h1];rfl,h2,h3⟩
theorem a23 {Q:Nat→Prop} (A:Option Addr) (L:List V4) (c:Nat) (w:World) (hs:qf Q w A (vsC L)) (hn:L.length≤1000000) :
 Calls prog 108 #[.slice A L.length c] w fun e w'=>∃B d,e=.returned (.slice B L.length d)∧qf (fun b=>w.1.size≤b∧b<w'.1.size) w' B (vsC L)∧Below w.1.size w w':=by
 cases A with
 | none=>
  have h0:L=[]:=by
   cases L with
   | nil=>rfl
   | cons x l=>obtain⟨b,off,h,-⟩:=hs 0 _ rfl;cases h
  subst h0;refine(amt c w).mono ?_;rintro e w' ⟨rfl,h⟩;exact⟨none,0,rfl,qf.nil _ _ _,h⟩
 | some a=>exact a24 (some a) L c w (fun h=>by cases h) hs hn
theorem bgf {l:List UInt8} {W M F L H:Int} (h:(jz l W M F L H).1=false):(jz l W M F L H).2.1=0:=by
 unfold jz at h ⊢
 by_cases h1:abm W M F L H=false
 ·rw[if_pos h1]
 ·rw[if_neg h1]at h ⊢
  by_cases h2:l=[]
  ·rw[if_pos h2]
  ·rw[if_neg h2]at h ⊢;cases hp:yq (afb l) 1 M.toNat F.toNat with
   | none=>rfl
   | some n=>
    rw[hp]at h;simp only at h ⊢;generalize (if aix l=true then -(n:Int)else(n:Int))=x at *
    by_cases hq:aa2 true x L H=true
    ·rw[if_pos hq]at h;exact absurd h sm
    ·rw[if_neg hq]
theorem a01 {W M F L H:Int} {s t:Rd} {n:Int} (h:qs W M F L H s=((false,n),t)):n=0:=by
 have h1:(qs W M F L H s).1=(false,n):=by rw[h]
 have h2:(jz (s.2.headD ByteArray.empty).data.toList W M F L H).1=false:=congrArg Prod.fst h1;have h3:(jz (s.2.headD ByteArray.empty).data.toList W M F L H).2.1=n:=congrArg Prod.snd h1;rw[← h3];exact bgf h2
theorem TkI.put {X Y:World→Prop} {g M o:Nat} {C:Array Value} {W w:World} {u:Value} (h:TkI X g M C W w) (ho:o<C.size) (hy:Y (w.setCell ⟨M,o,none⟩ u)):TkI Y g M (C.setIfInBounds o u) W (w.setCell ⟨M,o,none⟩ u):=by
 refine⟨hy,?_,fun j=>by simpa using h.z j,h.gm,by simpa using h.mz,h.os,h.tape,h.output,by simpa using h.size,fun k k1 k2 k3=>?_⟩
 ·exact AtC.set (show AtC w M C from h.c) o u ho
 ·exact(b1r _ _ _ _ k3).trans (h.block k k1 k2 k3)
theorem TkI.grow {X Y:World→Prop} {g M:Nat} {C:Array Value} {W w w':World} {v:Value} (h:TkI X g M C W w) (hM:M<W.1.size) (hf:Frm g v w w') (hv:∀k,v.ownBlock=some k→W.1.size≤k) (hy:Y w'):TkI Y g M C W w':=by
 have gm:=h.gm;have o1:v.ownBlock≠some M:=fun q=>by have:=hv M q;omega
 refine⟨hy,fun j=>(hf.cell h.mz om o1).trans (h.c j),fun j=>(b1l (a:=⟨M,j,none⟩) (hf.block M h.mz om o1)).trans (h.z j),gm,e9 h.mz hf.size,hf.os.trans h.os,hf.tape.trans h.tape,hf.output.trans h.output,o8 h.size hf.size,fun k k1 k2 k3=>?_⟩;exact(hf.block k (e9 k1 h.size) k2 (fun q=>by have:=hv k q;omega)).trans (h.block k k1 k2 k3)
theorem a9w {X:World→Prop} {g:Nat} {C:Array Value} {o:Obj} {wr z:World} (h:TkI X g wr.1.size C (wr.alloc o) z):Frm g vi wr z:=by
 have hb:=qa wr o;exact⟨h.os.trans hb.os,h.tape.trans hb.tape,h.output.trans hb.output,o8 hb.size h.size,fun k hk h1 _=>(h.block k (by simp;omega) h1 om).trans (hb.block k hk)⟩
theorem atu {w w':World} {B g:Nat} {e:TypeId} {size n:Nat} {v:Value} {xs:List Value} (h:w.ownsRow B e size v n xs) (hf:Frm g vi w w') (hg:v.ownBlock≠some g):w'.ownsRow B e size v n xs:=
 h.kept (row:=some g) ⟨hf.os,hf.tape,hf.output,hf.size,fun i hi hk=>hf.block i hi (fun e=>hk (by rw[e])) (by simp[Value.ownBlock])⟩ (.inr hg)
theorem qz.grow {g g':Nat} {s:Rd} {v:Value} {w w':World} (h:qz g s w) (hf:Frm g' v w w') (h1:g<g') (h2:∀k,v.ownBlock=some k→g<k):qz g s w':=by
 obtain⟨Q,q1,q2,q3⟩:=h;exact⟨Q,q1.other hf om (fun q=>by have:=h2 _ q;omega) (fun b hb=>⟨by have:=q2 b hb;omega,fun q=>by have:=h2 _ q;have:=q2 b hb;omega⟩),q2,q3⟩
theorem atj {g:Nat} {v:Value} {w w':World} (h:w.grownBy w' v.ownBlock):Frm g v w w':=⟨h.os,h.tape,h.output,h.size,fun k hk _ h2=>h.block k hk (fun q=>h2 q.symm)⟩
def agt (D:List V4):List Value:=D.flatMap j4
theorem a2p (D:List V4) (v:V4):agt (D++[v])=agt D++j4 v:=by simp[agt]
theorem arj:∀(D:List V4) (k j:Nat) (hk:k<D.length),j<8 →(agt D)[8*k+j]?=(j4 D[k])[j]?
 | [],k,j,hk,_=>absurd hk (b0v _)
 | v::D,0,j,hk,hj=>by
  show (j4 v++agt D)[8*0+j]?=_;rw[b0a (by simp[j4];omega)];simp
 | v::D,k+1,j,hk,hj=>by
  show (j4 v++agt D)[8*(k+1)+j]?=_;rw[t8 (by simp[j4];omega)];have e:8*(k+1)+j-(j4 v).length=8*k+j:=by simp[j4];omega
  rw[e];exact arj D k j (by simpa using hk) hj
theorem a7f {w:World} {B:Nat} {e:TypeId} {v:Value} {D:List V4} (h:w.ownsRow B e 8 v D.length (agt D)):∃A c,v=.slice A D.length c∧Vws w w.1.size A D∧aar B A ∧(A=none→c=0):=by
 rcases h.2 with⟨hv,h0⟩|⟨g,cap,cur,hv,hb,hg,-⟩
 ·exact⟨none,0,by rw[hv,h0],fun k hk=>by omega,aar.none_,fun _=>rfl⟩
 ·subst hv;refine⟨some ⟨g,0,none⟩,cap,rfl,fun k hk=>⟨g,0,rfl,(o9.1 hg).1,fun j u hu=>?_⟩,fun a ha=>by injection ha with ha;rw[← ha];exact hb,fun q=>by cases q⟩
  have hj:j<8:=by
   rcases b01 j 8 with q|q
   ·exact q
   ·rw[t9 (by show 8≤j;exact q)]at hu;cases hu
  have hc:=h.cells (g:=g) rfl (8*k+j) u (by rw[arj D k j hk hj];exact hu);have:(⟨g,0,none⟩:Addr).add (8*k+j)=⟨g,0+8*k+j,none⟩:=by unfold Addr.add;split<;>simp_all<;>omega
  rw[← this];exact hc
def akh (x:a3a×Int) (w:World) (r:Ending) (w':World):Prop:=
 ∃A c,r=.returned (.tuple #[a4x x.1.T x.1.N x.1.S A x.1.L.length c,.int .i64 x.2])∧Vws w' w'.1.size A x.1.L∧Below w.1.size w w'
theorem a92 {R:List ByteArray} {T N S:Int} {b:Bool} {k:Nat} {u1 u2 u3 u4 u5:Rd} {L:List V4} (hb:¬auy R.length) (hk:(R.length-3) / 4=k) (h1:Hid (zn 1 9 (0,R)=(T,u1))) (h2:Hid (zn 1 T u1=(N,u2))) (h3:Hid (qs 1 2 0 0 99 u2=((b,S),u3))) (h4:Hid (u4=if b=true then u3 else xt 3 u3)) (h5:Hid (jw k u4=(L,u5))) :
 zw R=if u5.1=0 then(⟨T,N,S,L⟩,0)else(vr,u5.1):=by
 have hs:abl u2=(S,u4):=by unfold abl;rw[h3.out,h4.out]
 unfold zw;rw[if_neg hb,hk,h1.out];simp only;rw[h2.out];simp only;rw[hs];simp only;rw[h5.out]
theorem bfv {W M F L H:Int} {s t:Rd} {x:Bool×Int} (h:qs W M F L H s=(x,t)):t.2=s.2.tail:=by
 have:(qs W M F L H s).2.2=s.2.tail:=rfl;rw[h]at this;exact this
theorem aqn {lo hi:Int} {s t:Rd} {n:Int} (h:zn lo hi s=(n,t)):t.2=s.2.tail:=by
 have:(zn lo hi s).2.2=s.2.tail:=by
  unfold zn
  split
  ·simp only
   split<;>rfl
  ·rfl
 rw[h]at this;exact this
theorem a02 {s t:Rd} {v:V4} (h:aag s=(v,t)):t.2.length=s.2.length-4:=by
 have:(aag s).2.2=s.2.tail.tail.tail.tail:=rfl;rw[h]at this;rw[this];simp;omega
theorem am4 (A:Option Addr) (n c:Nat) (w:World) (hb:n<3∨19<n∨n%4≠3) (h3:n≤1000000):Calls prog 106 #[.slice A n c] w (akh (vr,3) w):=by
 by_cases h:(n:Int)<3
 ·clear hb;go_enter func106,ntmps106;go_wp2;exact b9 (v:=.tuple #[a4x 0 0 0 none 0 0,.int .i64 3]) (by simp[results,results106,go_sem]) rfl ⟨none,0,rfl,fun k hk=>absurd hk (b0v _),qa _ _⟩
 ·have i0:(3:Int) ≤(n:Int):=by omega
  clear h;go_enter func106,ntmps106;go_wp2
  all_goals try simp only[t7,b0g]at *
  all_goals first|(exfalso;omega)|exact b9 (v:=.tuple #[a4x 0 0 0 none 0 0,.int .i64 3]) (by simp[results,results106,go_sem]) rfl ⟨none,0,rfl,fun k hk=>absurd hk (b0v _),qa _ _⟩
def a3b (X:Rd→World→Prop) (g M:Nat) (T N S:Int) (L:List V4) (rs5:Rd) (W:World) (j:Nat) (wr:World):Prop:=
 ∃(D:List V4) (v:Value) (s:Rd),D ++(jw j s).1=L ∧(jw j s).2=rs5∧s.2.length=4*j∧D.length+j≤4∧TkI (X s) g M #[.int .i64 T,.int .i64 N,.int .i64 S,v] W wr∧wr.ownsRow W.1.size 210 8 v D.length (agt D)
theorem a7b:(prog.info? 210).map (fun i=>(i.zero,i.size,i.bytes))=some (some (.agg #[.bool false,.int .i64 0,.bool false,.int .i64 0,.bool false,.int .i64 0,.bool false,.int .i64 0]),8,64):=by kernel_rfl
theorem a4w (A:Option Addr) (n c k:Nat) (R:List ByteArray) (w:World) (hl:R.length=n) (hA:A=none→c=0) (hs:vw w w.1.size A R) (hz:∀t∈R,t.size≤1000000) (hkn:Hid (n=3+4*k)) (hk4:k≤4) :
 Calls prog 106 #[.slice A n c] w (akh (zw R) w):=by
 obtain⟨T,rs1,h1⟩:∃n u,Hid (zn 1 9 (0,R)=(n,u)):=⟨_,_,rfl⟩;obtain⟨N,rs2,h2⟩:∃n u,Hid (zn 1 T rs1=(n,u)):=⟨_,_,rfl⟩;obtain⟨b,S,rs3,h3⟩:∃b n u,Hid (qs 1 2 0 0 99 rs2=((b,n),u)):=⟨_,_,_,rfl⟩;obtain⟨rs4,h4⟩:∃u,Hid (u=if b=true then rs3 else xt 3 rs3):=⟨_,rfl⟩;obtain⟨L,rs5,h5⟩:∃l u,Hid (jw k rs4=(l,u)):=⟨_,_,rfl⟩;obtain⟨X,hX⟩:∃X,zw R=X:=⟨_,rfl⟩;have HT:Hid (X=if rs5.1=0 then(⟨T,N,S,L⟩,0)else(vr,rs5.1)):=hX.symm.trans (a92 (by have:=hkn.out;unfold auy;rw[hl];omega) (by have:=hkn.out;rw[hl];omega) h1 h2 h3 h4 h5);rw[hX];clear hX
 have hlen:rs4.2.length=4*k:=by
  have e3:rs3.2.length=4*k:=by
   rw[bfv h3.out,aqn h2.out,aqn h1.out];have:=hkn.out;simp only[List.length_tail,hl];omega
  rw[h4.out]
  split
  ·exact e3
  ·exact e3
 have HLEN:=hid hlen;have hS0:b=false→S=0:=fun q=>by subst q;exact a01 h3.out
 have HS0:=hid hS0;clear hlen hS0;have HB0:=hid (qa w (.cells (agb 0 0 0 none 0 0) 56));have HL:=hid (akt (c:=c) hA ((hs.below HB0.out (a8 _)).more HB0.out.size) (by have:=hkn.out;omega) hz);rw[hl]at HL;have hR0:∀o,(w.alloc (.cells (agb 0 0 0 none 0 0) 56)).cell? ⟨w.1.size,o,none⟩=(agb 0 0 0 none 0 0)[o]?:=fun o=>b8 _ _ _ _ rfl
 have hR1:∀o,(w.alloc (.cells (agb 0 0 0 none 0 0) 56)).frozen? ⟨w.1.size,o,none⟩=false:=fun o=>by rw[i9];exact qk _ _ _ (a8 _)
 have HR0:=hid hR0;have HR1:=hid hR1;have HZ0:Hid ((w.alloc (.cells (agb 0 0 0 none 0 0) 56)).1.size=w.1.size+1):=by show _=_;simp
 clear hs hA hz hR0 hR1 hl;have i0:(3:Int) ≤(n:Int):=by have:=hkn.out;omega
 have i1:(n:Int)≤19:=by have:=hkn.out;omega
 go_enter func106,ntmps106
 try dsimp only
 repeat (fail_if_success (show Code.wp _ (Code.seq (Code.region 2 _ _) _) _ _ _)
         first|go_values|go_skip|go_guarded|go_step|go_upon|go_back|(simp only[b2y,b2z]at *;go_simp)|(go_ite<;>go_prune<;>(try go_simp)))
 go_cut [] (fun wx=>wx=w.alloc (.cells (agb 0 0 0 none 0 0) 56))
 case first=>
  go_wp2_with fail
  all_goals first|(exfalso;have:=hkn.out;omega)|(go_meet;rfl)
 case rest=>
 subst hcut;generalize hW0:w.alloc (.cells (agb 0 0 0 none 0 0) 56)=W0 at *;clear hW0;go_wp2_with fail;refine HL.out.mono ?_;rintro r w1 ⟨g,rfl,hx1,hg1,hz1,hb1⟩;have hb3:=qa w1 (.cells (agb 0 0 0 none 0 0) 56);have hz0:=HZ0.out;have T0:TkI (qz g (0,R)) g w1.1.size (agb 0 0 0 none 0 0) (w1.alloc (.cells (agb 0 0 0 none 0 0) 56)) (w1.alloc (.cells (agb 0 0 0 none 0 0) 56)):=⟨hx1.keep hb3,fun j=>b8 _ _ _ _ rfl,fun j=>by rw[i9];exact qk _ _ _ (a8 _),by omega,by simp,rfl,rfl,rfl,a8 _,fun _ _ _ _=>rfl⟩;have hq:(w1.alloc (.cells (agb 0 0 0 none 0 0) 56)).1.size=w1.1.size+1:=by simp
 have HRR:Hid (∀(Y:World→Prop) C' wr,TkI Y g w1.1.size C' (w1.alloc (.cells (agb 0 0 0 none 0 0) 56)) wr →(∀o,wr.cell? ⟨w.1.size,o,none⟩=(agb 0 0 0 none 0 0)[o]?) ∧(∀o,wr.frozen? ⟨w.1.size,o,none⟩=false)∧Below w.1.size w wr):=fun Y C' wr hk=>
  have h03:=qb hb1 hb3
  ⟨fun o=>(hk.cell om om om).trans (((qy h03).1 _ o om).trans (HR0.out o)),fun o=>(hk.frozen om om om).trans (((qy h03).2 _ o om).trans (HR1.out o)),b2k (HB0.out.trans (h03.mono om)) (hk.below om om)⟩
 have HWw:Hid (w.1.size<(w1.alloc (.cells (agb 0 0 0 none 0 0) 56)).1.size):=by show _<_;have:=hb1.size;omega
 have HWM:Hid (w1.1.size<(w1.alloc (.cells (agb 0 0 0 none 0 0) 56)).1.size):=by show _<_;omega
 have HGM:Hid (g<w1.1.size):=by show _<_;omega
 have HT0:=hid T0;clear T0 hz0 hq hb3 hx1 hg1 hz1 hb1 HL HR0 HR1 HZ0 HB0;go_upto_region 6 with fail;generalize hW3:w1.alloc (.cells (agb 0 0 0 none 0 0) 56)=W at *;generalize w1.1.size=M at *;clear hW3;go_wp2_with fail;refine(ai5 h1 HT0.out.x).mono ?_;rintro r x0 ⟨rfl,hx,hf⟩;have hT:=HT0.out.frm hx hf;have m0:=hT.c 0;have z0:=hT.z 0;have HT1:=hid hT;clear hT hx hf HT0;go_wp2_with fail;have hp:=HT1.out.put (o:=0) (u:=.int .i64 T) sm (HT1.out.x.far HGM.out);have e:∀C:Array Value,C=#[.int .i64 T,.int .i64 0,.int .i64 0,.slice none 0 0]→TkI (qz g rs1) g M C W (x0.setCell ⟨M,0,none⟩ (.int .i64 T)):=fun C hC=>by subst hC;exact hp
 have HT0:=hid (e _ rfl);clear e hp m0 z0 HT1;generalize x0.setCell ⟨M,0,none⟩ (.int .i64 T)=y0 at *;have m0:=HT0.out.c 0;go_wp2_with fail;refine(ai5 h2 HT0.out.x).mono ?_;rintro r x1 ⟨rfl,hx,hf⟩;have hT:=HT0.out.frm hx hf;have m1:=hT.c 1;have z1:=hT.z 1;have HT1:=hid hT;clear hT hx hf HT0;go_wp2_with fail;have hp:=HT1.out.put (o:=1) (u:=.int .i64 N) sm (HT1.out.x.far HGM.out);have e:∀C:Array Value,C=#[.int .i64 T,.int .i64 N,.int .i64 0,.slice none 0 0]→TkI (qz g rs2) g M C W (x1.setCell ⟨M,1,none⟩ (.int .i64 N)):=fun C hC=>by subst hC;exact hp
 have HT0:=hid (e _ rfl);clear e hp m0 m1 z1 HT1;generalize x1.setCell ⟨M,1,none⟩ (.int .i64 N)=y1 at *;go_wp2_with fail;refine(az6 _).mono ?_;rintro r x2 ⟨rfl,hb⟩;have HT1:=hid (HT0.out.keep (Y:=qz g rs2) (HT0.out.x.keep hb) hb);clear hb HT0;go_wp2_with fail;refine(ki h3 HT1.out.x).mono ?_;rintro r x3 ⟨rfl,hx,hf⟩;have HT2:=hid (HT1.out.frm hx hf);clear hx hf HT1;have hbn:=qa x3 (.cells #[.bool b,.int .i64 S] 42);have HNB:Hid (∀o,(x3.alloc (.cells #[.bool b,.int .i64 S] 42)).cell? ⟨x3.1.size,o,none⟩=(#[Value.bool b,.int .i64 S]:Array Value)[o]?):=fun o=>b8 _ _ _ _ rfl
 have HT3:=hid (HT2.out.keep (Y:=qz g rs3) (HT2.out.x.keep hbn) hbn);have HZ3:Hid (x3.1.size<(x3.alloc (.cells #[.bool b,.int .i64 S] 42)).1.size∧M<x3.1.size):=⟨by simp,HT2.out.mz⟩;clear hbn HT2
 try dsimp only
 repeat (fail_if_success (show Code.wp _ (Code.seq (Code.region 9 _ _) _) _ _ _)
         first|go_values|go_skip|go_guarded|go_step|go_upon|go_back|(simp only[b2y,b2z]at *;go_simp)|(go_ite<;>go_prune<;>(try go_simp)))
 generalize hx4:x3.alloc (.cells #[.bool b,.int .i64 S] 42)=x4 at *;generalize x3.1.size=NB at *;clear hx4
 go_cut [] (fun wx=>Hid (TkI (qz g rs4) g M #[.int .i64 T,.int .i64 N,.int .i64 0,.slice none 0 0] W wx ∧(∀o,wx.cell? ⟨NB,o,none⟩=(#[Value.bool b,.int .i64 S]:Array Value)[o]?)))
 case first=>
  have q0:=HNB.out 0;have q1:=HNB.out 1;cases hbb:b with
  | true=>
   have HU:Hid (rs4=rs3):=by show _=_;rw[h4.out,hbb];rfl
   subst hbb;go_wp2_with fail
   go_meet
   rw[HU.out];exact hid ⟨HT3.out,HNB.out⟩
  | false=>
   have HU:Hid (rs4=xt 3 rs3):=by show _=_;rw[h4.out,hbb];rfl
   have hSz:=HS0.out hbb;subst hbb hSz;go_wp2_with fail;refine(xm rfl HT3.out.x).mono ?_;rintro r x5 ⟨rfl,hx,hf⟩;have HX:Hid (TkI (qz g rs4) g M #[.int .i64 T,.int .i64 N,.int .i64 0,.slice none 0 0] W x5 ∧(∀o,x5.cell? ⟨NB,o,none⟩=(#[Value.bool false,.int .i64 0]:Array Value)[o]?)):=⟨HT3.out.frm (by rw[HU.out];exact hx) hf,fun o=>(qi hf HZ3.out.1 (by have:=HZ3.out.2;have:=HGM.out;omega) o).trans (HNB.out o)⟩;clear hx hf;go_wp2_with fail
   go_meet
   exact HX
 case rest=>
 obtain⟨hT4,hnb⟩:=hcut.out;have HT4:=hid hT4;have q0:=hnb 0;have q1:=hnb 1;have m2:=hT4.c 2;have z2:=hT4.z 2;clear hcut hT4 hnb HT3 HNB HZ3 HS0;go_wp2_with fail;have hp:=HT4.out.put (o:=2) (u:=.int .i64 S) sm (HT4.out.x.far HGM.out);have HT5:=hid (show TkI (qz g rs4) g M #[.int .i64 T,.int .i64 N,.int .i64 S,.slice none 0 0] W _ from hp);have HI0:Hid (a3b (qz g) g M T N S L rs5 W k _):=⟨[],_,rs4,by rw[h5.out];rfl,by rw[h5.out],HLEN.out,by simpa using hk4,HT5.out,b2q _ _ _ _⟩;clear hp m2 z2 q0 q1 HT4 HT5 HLEN
 go_loopg [8] k (fun j _ wr=>Hid (a3b (qz g) g M T N S L rs5 W j wr))
 case atStart=>exact HI0
 case round=>
  clear HI0;obtain⟨D,v,s,hD,hu,hls,hd4,hT,hown⟩:=hrel.out
  by_cases hj:gk=0
  ·subst hj;have HLF:=hid (aks hT.x);rw[hls]at HLF
   have HD:Hid (D=L∧s=rs5):=by
    refine⟨?_,hu⟩;rw[← hD];simp[jw]
   have HTT:=hid hT;have HOWN:=hid hown;clear hD hu hls hd4 hT hown hrel;go_wp2_with fail;refine HLF.out.mono ?_;rintro r w' ⟨rfl,rfl⟩;obtain⟨hr,hf,hb⟩:=HRR.out _ _ _ HTT.out;have HB:=hid hb;have hm:=HTT.out.c;obtain⟨rfl,rfl⟩:=HD.out;obtain⟨A2,c2,rfl,hvw,hfr,-⟩:=a7f HOWN.out;have HVW:=hid hvw;have HVF:Hid (∀b1 o1,A2=some ⟨b1,o1,none⟩→w.1.size≠b1):=fun b1 o1 e q=>by have h9:=hfr _ e;have:=HWw.out;simp only at h9;omega
   clear hfr;have r0:=hr 0;have r1:=hr 1;have r2:=hr 2;have r3:=hr 3;have f0:=hf 0;have f1:=hf 1;have f2:=hf 2;have f3:=hf 3;have m0:=hm 0;have m1:=hm 1;have m2:=hm 2;have m3:=hm 3;have HR:=hid (show AtC _ w.1.size (agb 0 0 0 none 0 0)from hr);have HX:=hid HTT.out.x;clear hr hf hm hb hvw HRR HOWN HTT;obtain⟨E,hE⟩:∃E,s.1=E:=⟨_,rfl⟩;rw[hE]at HT;have HER:=hid (apv HX.out);rw[hE]at HER;clear hE;go_wp2_with fail;refine HER.out.mono ?_;rintro r w' ⟨rfl,rfl⟩
   by_cases hE:E=0
   ·subst hE;have HX2:Hid (X=(⟨T,N,S,D⟩,0)):=HT.out.trans (if_pos rfl);clear HT;have K:=((((HR.out.set 0 (.int .i64 T) sm).set 1 (.int .i64 N) sm).set 2 (.int .i64 S) sm).set 3 (.slice A2 D.length c2) sm);have k0:=K 0;have k1:=K 1;have k2:=K 2;have k3:=K 3;simp at k0 k1 k2 k3;go_wp2_with fail;refine b9 (v:=.tuple #[a4x T N S A2 D.length c2,.int .i64 0]) (by simp[results,results106,go_sem,k0,k1,k2,k3]) rfl ?_;rw[HX2.out];refine⟨A2,c2,rfl,?_,(qt (qt (qt (qt HB.out (a8 _)) (a8 _)) (a8 _)) (a8 _))⟩;exact fun k hk=>by obtain⟨b1,o1,e1,e2,e3⟩:=HVW.out k hk;exact⟨b1,o1,e1,by simpa using e2,fun j u hu=>(a9 _ _ _ _ (fun q=>by injection q with q;exact HVF.out b1 o1 e1 q)).trans ((a9 _ _ _ _ (fun q=>by injection q with q;exact HVF.out b1 o1 e1 q)).trans ((a9 _ _ _ _ (fun q=>by injection q with q;exact HVF.out b1 o1 e1 q)).trans ((a9 _ _ _ _ (fun q=>by injection q with q;exact HVF.out b1 o1 e1 q)).trans (e3 j u hu))))⟩
   ·have hne:(E != 0)=true:=by rw[b0g];exact hE
    have HX2:Hid (X=(vr,E)):=HT.out.trans (if_neg hE);clear hE HT;have K:=((((HR.out.set 0 (.int .i64 0) sm).set 1 (.int .i64 0) sm).set 2 (.int .i64 0) sm).set 3 (.slice none 0 0) sm);have k0:=K 0;have k1:=K 1;have k2:=K 2;have k3:=K 3;simp at k0 k1 k2 k3;go_wp2_with fail;refine b9 (v:=.tuple #[a4x 0 0 0 none 0 0,.int .i64 E]) (by simp[results,results106,go_sem,k0,k1,k2,k3]) rfl ?_;rw[HX2.out];exact⟨none,0,rfl,fun k hk=>absurd hk (b0v _),(qt (qt (qt (qt HB.out (a8 _)) (a8 _)) (a8 _)) (a8 _))⟩
  ·obtain⟨j,rfl⟩:∃j,gk=j+1:=⟨gk-1,by omega⟩;obtain⟨b0,n0,q1,e0⟩:∃b n u,Hid (qs 1 3 0 1 255 s=((b,n),u)):=⟨_,_,_,rfl⟩;obtain⟨b1,n1,q2,e1⟩:∃b n u,Hid (qs 1 2 0 0 90 q1=((b,n),u)):=⟨_,_,_,rfl⟩;obtain⟨b2,n2,q3,e2⟩:∃b n u,Hid (qs 1 3 0 0 359 q2=((b,n),u)):=⟨_,_,_,rfl⟩;obtain⟨b3,n3,q4,e3⟩:∃b n u,Hid (qs 1 2 0 0 99 q3=((b,n),u)):=⟨_,_,_,rfl⟩
   have hvw:aag s=(((b0,n0),(b1,n1),(b2,n2),(b3,n3)),q4):=by
    unfold aag;rw[e0.out];simp only;rw[e1.out];simp only;rw[e2.out];simp only;rw[e3.out]
   have HD:Hid ((D++[((b0,n0),(b1,n1),(b2,n2),(b3,n3))]) ++(jw j q4).1=L ∧(jw j q4).2=rs5∧q4.2.length=4*j):=by
    refine⟨?_,?_,by rw[a02 hvw];omega⟩
    ·rw[← hD];simp only[jw,hvw];simp
    ·rw[← hu];simp only[jw,hvw]
   have HLF:=hid (aks hT.x);obtain⟨m,hm⟩:∃m,s.2.length=m:=⟨_,rfl⟩;rw[hm]at HLF;have i1:(0:Int)<(m:Int):=by omega
   have HTT:=hid hT;have HOWN:=hid hown;clear hvw hD hu hls hT hown hrel hm;go_wp2_with fail;refine HLF.out.mono ?_;rintro r w' ⟨rfl,rfl⟩;have hbv:=qa wr (.cells #[.bool false,.int .i64 0,.bool false,.int .i64 0,.bool false,.int .i64 0,.bool false,.int .i64 0] 210);have T9:TkI (qz g s) g wr.1.size #[.bool false,.int .i64 0,.bool false,.int .i64 0,.bool false,.int .i64 0,.bool false,.int .i64 0] (wr.alloc (.cells #[.bool false,.int .i64 0,.bool false,.int .i64 0,.bool false,.int .i64 0,.bool false,.int .i64 0] 210)) (wr.alloc (.cells #[.bool false,.int .i64 0,.bool false,.int .i64 0,.bool false,.int .i64 0,.bool false,.int .i64 0] 210)):=⟨HTT.out.x.keep hbv,fun j=>b8 _ _ _ _ rfl,fun j=>by rw[i9];exact qk _ _ _ (a8 _),HTT.out.x.lt,by simp,rfl,rfl,rfl,a8 _,fun _ _ _ _=>rfl⟩;have HV:=hid HTT.out.x.lt;have HT0:=hid T9;clear T9 hbv HLF
   go_upto_region 14 with fail;generalize hW9:wr.alloc (.cells #[.bool false,.int .i64 0,.bool false,.int .i64 0,.bool false,.int .i64 0,.bool false,.int .i64 0] 210)=W9 at HT0;have HW9:=hid hW9
   try rw[hW9]
   generalize hVV:wr.1.size=VV at HT0 HV;have HVV:=hid hVV
   try rw[hVV]
   clear hW9 hVV;go_wp2_with fail;refine(a93 _).mono ?_;rintro r x0 ⟨rfl,hb⟩;have HT1:=hid (HT0.out.keep (Y:=qz g s) (HT0.out.x.keep hb) hb);clear hb HT0;go_wp2_with fail;refine(ki e0 HT1.out.x).mono ?_;rintro r y0 ⟨rfl,hx,hf⟩;have hT2:=HT1.out.frm hx hf;have m0:=hT2.c 0;have m1:=hT2.c 1;have z0:=hT2.z 0;have z1:=hT2.z 1;simp only[b16,b18,b3b]at m0 m1;have HT2:=hid hT2;clear hT2 hx hf HT1;go_wp2_with fail;have hx2:=((HT2.out.x.far (G:=VV) (o:=0) (u:=.bool b0) HV.out).far (G:=VV) (o:=1) (u:=.int .i64 n0) HV.out);have hT3:=HT2.out.store (C':=#[Value.bool b0,.int .i64 n0,Value.bool false,.int .i64 0,Value.bool false,.int .i64 0,Value.bool false,.int .i64 0]) (o:=0) rfl rfl (fun j=>by rcases j with _|_|_|_|_|_|_|_|j<;>simp) hx2;clear m0 m1 z0 z1 hx2;generalize ((y0.setCell ⟨VV,0,none⟩ (.bool b0)).setCell ⟨VV,1,none⟩ (.int .i64 n0))=v0 at *
   have HT0:=hid hT3;clear hT3 HT2;go_wp2_with fail;refine(az5 _).mono ?_;rintro r x1 ⟨rfl,hb⟩;have HT1:=hid (HT0.out.keep (Y:=qz g q1) (HT0.out.x.keep hb) hb);clear hb HT0;go_wp2_with fail;refine(ki e1 HT1.out.x).mono ?_;rintro r y1 ⟨rfl,hx,hf⟩;have hT2:=HT1.out.frm hx hf;have m0:=hT2.c 2;have m1:=hT2.c 3;have z0:=hT2.z 2;have z1:=hT2.z 3;simp only[b16,b18,b3b]at m0 m1;have HT2:=hid hT2;clear hT2 hx hf HT1;go_wp2_with fail;have hx2:=((HT2.out.x.far (G:=VV) (o:=2) (u:=.bool b1) HV.out).far (G:=VV) (o:=3) (u:=.int .i64 n1) HV.out);have hT3:=HT2.out.store (C':=#[Value.bool b0,.int .i64 n0,Value.bool b1,.int .i64 n1,Value.bool false,.int .i64 0,Value.bool false,.int .i64 0]) (o:=2) rfl rfl (fun j=>by rcases j with _|_|_|_|_|_|_|_|j<;>simp) hx2;clear m0 m1 z0 z1 hx2;generalize ((y1.setCell ⟨VV,2,none⟩ (.bool b1)).setCell ⟨VV,3,none⟩ (.int .i64 n1))=v1 at *
   have HT0:=hid hT3;clear hT3 HT2;go_wp2_with fail;refine(az4 _).mono ?_;rintro r x2 ⟨rfl,hb⟩;have HT1:=hid (HT0.out.keep (Y:=qz g q2) (HT0.out.x.keep hb) hb);clear hb HT0;go_wp2_with fail;refine(ki e2 HT1.out.x).mono ?_;rintro r y2 ⟨rfl,hx,hf⟩;have hT2:=HT1.out.frm hx hf;have m0:=hT2.c 4;have m1:=hT2.c 5;have z0:=hT2.z 4;have z1:=hT2.z 5;simp only[b16,b18,b3b]at m0 m1;have HT2:=hid hT2;clear hT2 hx hf HT1;go_wp2_with fail;have hx2:=((HT2.out.x.far (G:=VV) (o:=4) (u:=.bool b2) HV.out).far (G:=VV) (o:=5) (u:=.int .i64 n2) HV.out);have hT3:=HT2.out.store (C':=#[Value.bool b0,.int .i64 n0,Value.bool b1,.int .i64 n1,Value.bool b2,.int .i64 n2,Value.bool false,.int .i64 0]) (o:=4) rfl rfl (fun j=>by rcases j with _|_|_|_|_|_|_|_|j<;>simp) hx2;clear m0 m1 z0 z1 hx2;generalize ((y2.setCell ⟨VV,4,none⟩ (.bool b2)).setCell ⟨VV,5,none⟩ (.int .i64 n2))=v2 at *
   have HT0:=hid hT3;clear hT3 HT2;go_wp2_with fail;refine(avs _).mono ?_;rintro r x3 ⟨rfl,hb⟩;have HT1:=hid (HT0.out.keep (Y:=qz g q3) (HT0.out.x.keep hb) hb);clear hb HT0;go_wp2_with fail;refine(ki e3 HT1.out.x).mono ?_;rintro r y3 ⟨rfl,hx,hf⟩;have hT2:=HT1.out.frm hx hf;have m0:=hT2.c 6;have m1:=hT2.c 7;have z0:=hT2.z 6;have z1:=hT2.z 7;simp only[b16,b18,b3b]at m0 m1;have HT2:=hid hT2;clear hT2 hx hf HT1;go_upto_region 18 with fail;have hx2:=((HT2.out.x.far (G:=VV) (o:=6) (u:=.bool b3) HV.out).far (G:=VV) (o:=7) (u:=.int .i64 n3) HV.out);have hT3:=HT2.out.store (C':=#[Value.bool b0,.int .i64 n0,Value.bool b1,.int .i64 n1,Value.bool b2,.int .i64 n2,Value.bool b3,.int .i64 n3]) (o:=6) rfl rfl (fun j=>by rcases j with _|_|_|_|_|_|_|_|j<;>simp) hx2;clear m0 m1 z0 z1 hx2;generalize ((y3.setCell ⟨VV,6,none⟩ (.bool b3)).setCell ⟨VV,7,none⟩ (.int .i64 n3))=v3 at *
   have HT0:=hid hT3;clear hT3 HT2
   have hT4:TkI (qz g q4) g wr.1.size #[Value.bool b0,.int .i64 n0,.bool b1,.int .i64 n1,.bool b2,.int .i64 n2,.bool b3,.int .i64 n3] (wr.alloc (.cells #[.bool false,.int .i64 0,.bool false,.int .i64 0,.bool false,.int .i64 0,.bool false,.int .i64 0] 210)) v3:=by
    have q:=HT0.out;rw[← HVV.out,← HW9.out]at q;exact q
   have hF4:=a9w hT4;have hFN:=hF4.then_below (qa v3 (.cells #[Value.bool b0,.int .i64 n0,.bool b1,.int .i64 n1,.bool b2,.int .i64 n2,.bool b3,.int .i64 n3] 210));have hvo:∀k,v.ownBlock=some k→W.1.size≤k:=fun k hk=>(HOWN.out.lt k hk).1
   have hgW:g<W.1.size:=by have:=HWM.out;have:=HGM.out;omega
   have hown5:=atu HOWN.out hFN (fun q=>by have:=hvo _ q;omega);have m3:=(qi hF4 HTT.out.mz (by have:=HGM.out;omega) 3).trans (HTT.out.c 3)
   have hnews:∀j u,(j4 ((b0,n0),(b1,n1),(b2,n2),(b3,n3)))[j]?=some u →(v3.alloc (.cells #[Value.bool b0,.int .i64 n0,.bool b1,.int .i64 n1,.bool b2,.int .i64 n2,.bool b3,.int .i64 n3] 210)).cell? ((⟨v3.1.size,0,none⟩:Addr).add j)=some u:=fun j u hu=>by
    have e1:(⟨v3.1.size,0,none⟩:Addr).add j=⟨v3.1.size,j,none⟩:=by unfold Addr.add;split<;>simp_all
    rw[e1,b8 _ _ _ _ rfl,← hu];simp only[b16];rfl
   have HF4:=hid hF4;have HFN:=hid hFN;have HO5:=hid hown5;have HVO:=hid hvo;have HNW:=hid hnews;have hcw:=HT0.out.c;have w0:=hcw 0;have w1':=hcw 1;have w2:=hcw 2;have w3:=hcw 3;have w4:=hcw 4;have w5:=hcw 5;have w6:=hcw 6;have w7:=hcw 7;have HX4:=hid HT0.out.x;have HWV:Hid (W.1.size ≤(v3.alloc (.cells #[Value.bool b0,.int .i64 n0,.bool b1,.int .i64 n1,.bool b2,.int .i64 n2,.bool b3,.int .i64 n3] 210)).1.size):=by show _≤_;exact o8 HTT.out.size hFN.size
   obtain⟨i0,hi,hz0',hz1',hz2'⟩:=am5 a7b;clear hT4 hF4 hFN hvo hgW hown5 hnews hcw HT0 HW9 HVV;go_wp2_with (at_builtin;refine wpList_append_lies _ rfl _ _ 54 rfl W.1.size 210 i0 (.agg #[.bool false,.int .i64 0,.bool false,.int .i64 0,.bool false,.int .i64 0,.bool false,.int .i64 0]) 8 64 underlying54 hi hz0' hz1' hz2' rfl dc _ _ _ rfl HO5.out ⟨v3.1.size,0,none⟩ 1 1 (j4 ((b0,n0),(b1,n1),(b2,n2),(b3,n3))) rfl rfl HNW.out ?c2 dc ?c3 ?c4 HWV.out _ rfl ?_)
   case c2=>intro u hu;simp[j4]at hu;rcases hu with rfl|rfl|rfl|rfl|rfl|rfl|rfl|rfl<;>rfl
   case c3=>unfold maxLen;omega
   case c4=>omega
   intro g2 cap w6' hown' hgrow hlies hg2
   have hFG:Frm g v v3 w6':=by
    have q1:=(Frm.of_below (g:=g) (v:=v) (qa v3 (.cells #[Value.bool b0,.int .i64 n0,.bool b1,.int .i64 n1,.bool b2,.int .i64 n2,.bool b3,.int .i64 n3] 210)));exact q1.trans (atj hgrow) (.inl rfl)
   have hx6:qz g q4 w6':=(HX4.out.keep (qa v3 (.cells #[Value.bool b0,.int .i64 n0,.bool b1,.int .i64 n1,.bool b2,.int .i64 n2,.bool b3,.int .i64 n3] 210))).grow (g':=M) (atj hgrow) HGM.out (fun k hk=>by have:=HVO.out k hk;have:=HWM.out;have:=HGM.out;omega)
   have hFW:Frm g v wr w6':=by
    have q:Frm g v wr v3:=⟨HF4.out.os,HF4.out.tape,HF4.out.output,HF4.out.size,fun k h1 h2 _=>HF4.out.block k h1 h2 (by simp[Value.ownBlock])⟩;exact q.trans hFG (.inl rfl)
   have hT6:=HTT.out.grow (Y:=qz g q4) HWM.out hFW HVO.out hx6;have m6:=hT6.c 3;have z6:=hT6.z 3;have hp:=hT6.put (o:=3) (u:=.slice (some ⟨g2,0,none⟩) (D.length+1) cap) sm (hx6.far HGM.out);have e:∀C:Array Value,C=#[.int .i64 T,.int .i64 N,.int .i64 S,.slice (some ⟨g2,0,none⟩) (D.length+1) cap]→TkI (qz g q4) g M C W (w6'.setCell ⟨M,3,none⟩ (.slice (some ⟨g2,0,none⟩) (D.length+1) cap)):=fun C hC=>by subst hC;exact hp
   have hown7:(w6'.setCell ⟨M,3,none⟩ (.slice (some ⟨g2,0,none⟩) (D.length+1) cap)).ownsRow W.1.size 210 8 (.slice (some ⟨g2,0,none⟩) (D.length+1) cap) (D++[((b0,n0),(b1,n1),(b2,n2),(b3,n3))]).length (agt (D++[((b0,n0),(b1,n1),(b2,n2),(b3,n3))])):=by
    rw[d7,a2p];exact atu hown' (g:=M) ((Frm.of_below (n6 _ _)).set _ _) (fun q=>by have:=(hown'.lt M q).1;have:=HWM.out;omega)
   have HNEXT:Hid (a3b (qz g) g M T N S L rs5 W j (w6'.setCell ⟨M,3,none⟩ (.slice (some ⟨g2,0,none⟩) (D.length+1) cap))):=⟨_,_,q4,HD.out.1,HD.out.2.1,HD.out.2.2,by simp;omega,e _ rfl,hown7⟩;clear e hp hown7 hT6 hFW hx6 hFG hown' hgrow hlies hg2 m3 w0 w1' w2 w3 w4 w5 w6 w7;go_wp2_with fail
   go_roundg j
   case measure=>omega
   case rel=>exact HNEXT
