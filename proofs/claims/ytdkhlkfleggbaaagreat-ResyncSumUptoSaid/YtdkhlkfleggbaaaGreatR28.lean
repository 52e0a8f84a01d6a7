/- Layer 29: a digit is read. -/
import Derived.Test.YtdkhlkfleggbaaaGreatR19
import Derived.Test.YtdkhlkfleggbaaaGreatR26
import Derived.Test.YtdkhlkfleggbaaaGreatR27
namespace Go.Proofs.YtdkhlkfleggbaaaGreat
set_option maxHeartbeats 16000000
set_option maxRecDepth 8000
open Lib (hid)
open Tryz
set_option linter.unusedVariables false
open Go.RowKit
theorem ao6 (a:ByteArray):(dgB a=false∧a.size≠1) ∨(∃hz:0<a.size,a.size=1 ∧(a[0].toNat<48∧dgB a=false∨57<a[0].toNat∧dgB a=false∨48≤a[0].toNat∧a[0].toNat≤57∧dgB a=true∧dgN a=(a[0].toNat:Int)-48)):=by
 by_cases h1:a.size=1
 ·refine .inr ⟨by omega,h1,?_⟩;have hg:(a[0]?.getD 0)=a[0]:=by rw[getElem?_pos a 0 om];rfl
  unfold dgB dgN;rw[hg,decide_eq_true h1]
  by_cases h2:a[0].toNat<48
  ·exact .inl ⟨h2,by simp;omega⟩
  ·by_cases h3:57<a[0].toNat
   ·exact .inr (.inl ⟨h3,by simp;omega⟩)
   ·exact .inr (.inr ⟨by omega,by omega,by simp;omega,rfl⟩)
 ·exact .inl ⟨by unfold dgB;simp[h1],h1⟩
theorem ajm {lo hi:Int} {s s1:Rd} {a:ByteArray} (h:qu s=(a,s1)) :
 (dgB a=false→zm lo hi s=(0,xm 3 s1)) ∧(dgB a=true →(dgN a<lo∨hi<dgN a)→zm lo hi s=(dgN a,xm 5 s1)) ∧(dgB a=true→¬(dgN a<lo∨hi<dgN a)→zm lo hi s=(dgN a,s1)):=by
 unfold zm;rw[h];simp only;refine⟨fun q=>?_,fun q r=>?_,fun q r=>?_⟩
 ·rw[if_neg (by rw[q];decide)]
 ·rw[if_pos q,if_pos r]
 ·rw[if_pos q,if_neg r]
theorem ain {g:Nat} {s t:Rd} {top n:Int} {w:World} (ht:Hid (zm 1 top s=(n,t))) (hp:qw g s w) :
 Calls Tryz.prog 177 #[.pointer (some ⟨g,0,none⟩),.int .i64 top] w (jp g (.int .i64 n) t w):=by
 obtain⟨a,s1,ha⟩:∃a s1,Hid (qu s=(a,s1)):=⟨_,_,rfl⟩;obtain⟨hw1,hw2,hw3⟩:=ajm (lo:=1) (hi:=top) ha.out;have HP:=hid hp;have ht:=ht.out;clear hp;rcases ao6 a with⟨hb,h1⟩|⟨hz,h1,⟨h2,hb⟩|⟨h2,hb⟩|⟨h2,h3,hb,hv⟩⟩
 ·have e:=hw1 hb;rw[e]at ht;injection ht with e1 e2
  subst e1 e2;clear e hw1 hw2 hw3 hb;have i1:((a.size:Int)==1)=false:=by rw[beq_eq_false_iff_ne];omega
  go_enter func177,ntmps177;go_wp2_with fail;refine(zb ha HP.out).mono ?_;rintro r w1 ⟨rfl,hx,hf⟩;have HX:=hid hx;have HF:=hid hf;clear hx hf HP;go_wp2_with fail;refine(xi rfl HX.out).mono ?_;rintro r w2 ⟨rfl,hx2,hf2⟩;have HX2:=hid hx2;have HF2:=hid (HF.out.step hf2);clear hx2 hf2;go_wp2_with fail;go_ret;exact⟨rfl,HX2.out,HF2.out⟩
 ·have e:=hw1 hb;rw[e]at ht;injection ht with e1 e2
  subst e1 e2;clear e hw1 hw2 hw3 hb;have i1:((a.size:Int)==1)=true:=by rw[beq_iff_eq];omega
  have i2:((a[0].toNat:Nat):Int)<48:=by omega
  go_enter func177,ntmps177;go_wp2_with fail;refine(zb ha HP.out).mono ?_;rintro r w1 ⟨rfl,hx,hf⟩;have HX:=hid hx;have HF:=hid hf;clear hx hf HP;go_wp2_with fail;refine(xi rfl HX.out).mono ?_;rintro r w2 ⟨rfl,hx2,hf2⟩;have HX2:=hid hx2;have HF2:=hid (HF.out.step hf2);clear hx2 hf2;go_wp2_with fail;go_ret;exact⟨rfl,HX2.out,HF2.out⟩
 ·have e:=hw1 hb;rw[e]at ht;injection ht with e1 e2
  subst e1 e2;clear e hw1 hw2 hw3 hb;have i1:((a.size:Int)==1)=true:=by rw[beq_iff_eq];omega
  have i2:(48:Int) ≤((a[0].toNat:Nat):Int):=by omega
  have i3:(57:Int)<((a[0].toNat:Nat):Int):=by omega
  go_enter func177,ntmps177;go_wp2_with fail;refine(zb ha HP.out).mono ?_;rintro r w1 ⟨rfl,hx,hf⟩;have HX:=hid hx;have HF:=hid hf;clear hx hf HP;go_wp2_with fail;refine(xi rfl HX.out).mono ?_;rintro r w2 ⟨rfl,hx2,hf2⟩;have HX2:=hid hx2;have HF2:=hid (HF.out.step hf2);clear hx2 hf2;go_wp2_with fail;go_ret;exact⟨rfl,HX2.out,HF2.out⟩
 ·have i1:((a.size:Int)==1)=true:=by rw[beq_iff_eq];omega
  have i2:(48:Int) ≤((a[0].toNat:Nat):Int):=by omega
  have i3:((a[0].toNat:Nat):Int)≤57:=by omega
  rw[hv]at hw2 hw3
  by_cases hq:(a[0].toNat:Int)-48<1∨top<(a[0].toNat:Int)-48
  ·have e:=hw2 hb hq;rw[e]at ht;injection ht with e1 e2
   subst e1 e2;clear e hw1 hw2 hw3 hb hv
   by_cases hq1:(a[0].toNat:Int)-48<1
   ·clear hq;go_enter func177,ntmps177;go_wp2_with fail;refine(zb ha HP.out).mono ?_;rintro r w1 ⟨rfl,hx,hf⟩;have HX:=hid hx;have HF:=hid hf;clear hx hf HP;go_wp2_with fail;refine(xi rfl HX.out).mono ?_;rintro r w2 ⟨rfl,hx2,hf2⟩;have HX2:=hid hx2;have HF2:=hid (HF.out.step hf2);clear hx2 hf2;go_wp2_with fail;go_ret;exact⟨rfl,HX2.out,HF2.out⟩
   ·have q1:1 ≤(a[0].toNat:Int)-48:=by omega
    have q2:top<(a[0].toNat:Int)-48:=by omega
    clear hq hq1;go_enter func177,ntmps177;go_wp2_with fail;refine(zb ha HP.out).mono ?_;rintro r w1 ⟨rfl,hx,hf⟩;have HX:=hid hx;have HF:=hid hf;clear hx hf HP;go_wp2_with fail;refine(xi rfl HX.out).mono ?_;rintro r w2 ⟨rfl,hx2,hf2⟩;have HX2:=hid hx2;have HF2:=hid (HF.out.step hf2);clear hx2 hf2;go_wp2_with fail;go_ret;exact⟨rfl,HX2.out,HF2.out⟩
  ·have e:=hw3 hb hq;rw[e]at ht;injection ht with e1 e2
   subst e1 e2;have q1:1 ≤(a[0].toNat:Int)-48:=by omega
   have q2:(a[0].toNat:Int)-48≤top:=by omega
   clear e hw1 hw2 hw3 hb hv hq;go_enter func177,ntmps177;go_wp2_with fail;refine(zb ha HP.out).mono ?_;rintro r w1 ⟨rfl,hx,hf⟩;have HX:=hid hx;have HF:=hid hf;clear hx hf HP;go_wp2_with fail;go_ret;exact⟨rfl,HX.out,HF.out⟩
theorem be4 {l:List UInt8} {W M F L H:Int} (h:(jt l W M F L H).1=false):(jt l W M F L H).2.1=0:=by
 unfold jt at h ⊢
 by_cases h1:abb W M F L H=false
 ·rw[if_pos h1]
 ·rw[if_neg h1]at h ⊢
  by_cases h2:l=[]
  ·rw[if_pos h2]
  ·rw[if_neg h2]at h ⊢;cases hp:yh (aeq l) 1 M.toNat F.toNat with
   | none=>rfl
   | some n=>
    rw[hp]at h;simp only at h ⊢;generalize (if aif l=true then -(n:Int)else(n:Int))=x at *
    by_cases hq:aar true x L H=true
    ·rw[if_pos hq]at h;exact absurd h sm
    ·rw[if_neg hq]
theorem az2 {W M F L H:Int} {s t:Rd} {n:Int} (h:qs W M F L H s=((false,n),t)):n=0:=by
 have h1:(qs W M F L H s).1=(false,n):=by rw[h]
 have h2:(jt (s.2.headD ByteArray.empty).data.toList W M F L H).1=false:=congrArg Prod.fst h1;have h3:(jt (s.2.headD ByteArray.empty).data.toList W M F L H).2.1=n:=congrArg Prod.snd h1;rw[← h3];exact be4 h2
theorem TkI.put {X Y:World→Prop} {g M o:Nat} {C:Array Value} {W w:World} {u:Value} (h:TkI X g M C W w) (ho:o<C.size) (hy:Y (w.setCell ⟨M,o,none⟩ u)):TkI Y g M (C.setIfInBounds o u) W (w.setCell ⟨M,o,none⟩ u):=by
 refine⟨hy,?_,fun j=>by simpa using h.z j,h.gm,by simpa using h.mz,h.os,h.tape,h.output,by simpa using h.size,fun k k1 k2 k3=>?_⟩
 ·exact AtC.set (show AtC w M C from h.c) o u ho
 ·exact(Below.heap_setCell _ _ _ _ k3).trans (h.block k k1 k2 k3)
theorem TkI.grow {X Y:World→Prop} {g M:Nat} {C:Array Value} {W w w':World} {v:Value} (h:TkI X g M C W w) (hM:M<W.1.size) (hf:Frm g v w w') (hv:∀k,v.ownBlock=some k→W.1.size≤k) (hy:Y w'):TkI Y g M C W w':=by
 have gm:=h.gm;have o1:v.ownBlock≠some M:=fun q=>by have:=hv M q;omega
 refine⟨hy,fun j=>(hf.cell h.mz om o1).trans (h.c j),fun j=>(World.frozen?_of_block (a:=⟨M,j,none⟩) (hf.block M h.mz om o1)).trans (h.z j),gm,Nat.lt_of_lt_of_le h.mz hf.size,hf.os.trans h.os,hf.tape.trans h.tape,hf.output.trans h.output,Nat.le_trans h.size hf.size,fun k k1 k2 k3=>?_⟩;exact(hf.block k (Nat.lt_of_lt_of_le k1 h.size) k2 (fun q=>by have:=hv k q;omega)).trans (h.block k k1 k2 k3)
theorem a8q {X:World→Prop} {g:Nat} {C:Array Value} {o:Obj} {wr z:World} (h:TkI X g wr.1.size C (wr.alloc o) z):Frm g kw wr z:=by
 have hb:=qa wr o;exact⟨h.os.trans hb.os,h.tape.trans hb.tape,h.output.trans hb.output,Nat.le_trans hb.size h.size,fun k hk h1 _=>(h.block k (by simp;omega) h1 om).trans (hb.block k hk)⟩
theorem ata {w w':World} {B g:Nat} {e:TypeId} {size n:Nat} {v:Value} {xs:List Value} (h:w.ownsRow B e size v n xs) (hf:Frm g kw w w') (hg:v.ownBlock≠some g):w'.ownsRow B e size v n xs:=
 h.kept (row:=some g) ⟨hf.os,hf.tape,hf.output,hf.size,fun i hi hk=>hf.block i hi (fun e=>hk (by rw[e])) (by simp[Value.ownBlock])⟩ (.inr hg)
theorem qw.grow {g g':Nat} {s:Rd} {v:Value} {w w':World} (h:qw g s w) (hf:Frm g' v w w') (h1:g<g') (h2:∀k,v.ownBlock=some k→g<k):qw g s w':=by
 obtain⟨Q,q1,q2,q3⟩:=h;exact⟨Q,q1.other hf om (fun q=>by have:=h2 _ q;omega) (fun b hb=>⟨by have:=q2 b hb;omega,fun q=>by have:=h2 _ q;have:=q2 b hb;omega⟩),q2,q3⟩
theorem asx {g:Nat} {v:Value} {w w':World} (h:w.grownBy w' v.ownBlock):Frm g v w w':=⟨h.os,h.tape,h.output,h.size,fun k hk _ h2=>h.block k hk (fun q=>h2 q.symm)⟩
def af7 (D:List V4):List Value:=D.flatMap vy
theorem a1t (D:List V4) (v:V4):af7 (D++[v])=af7 D++vy v:=by simp[af7]
theorem aqv:∀(D:List V4) (k j:Nat) (hk:k<D.length),j<8 →(af7 D)[8*k+j]?=(vy D[k])[j]?
 | [],k,j,hk,_=>absurd hk (Nat.not_lt_zero _)
 | v::D,0,j,hk,hj=>by
  show (vy v++af7 D)[8*0+j]?=_;rw[List.getElem?_append_left (by simp[vy];omega)];simp
 | v::D,k+1,j,hk,hj=>by
  show (vy v++af7 D)[8*(k+1)+j]?=_;rw[List.getElem?_append_right (by simp[vy];omega)];have e:8*(k+1)+j-(vy v).length=8*k+j:=by simp[vy];omega
  rw[e];exact aqv D k j (by simpa using hk) hj
theorem a6a {w:World} {B:Nat} {e:TypeId} {v:Value} {D:List V4} (h:w.ownsRow B e 8 v D.length (af7 D)):∃A c,v=.slice A D.length c∧Vws w w.1.size A D∧aag B A ∧(A=none→c=0):=by
 rcases h.2 with⟨hv,h0⟩|⟨g,cap,cur,hv,hb,hg,-⟩
 ·exact⟨none,0,by rw[hv,h0],fun k hk=>by omega,aag.none_,fun _=>rfl⟩
 ·subst hv;refine⟨some ⟨g,0,none⟩,cap,rfl,fun k hk=>⟨g,0,rfl,(Array.getElem?_eq_some_iff.1 hg).1,fun j u hu=>?_⟩,fun a ha=>by injection ha with ha;rw[← ha];exact hb,fun q=>by cases q⟩
  have hj:j<8:=by
   rcases Nat.lt_or_ge j 8 with q|q
   ·exact q
   ·rw[List.getElem?_eq_none (by show 8≤j;exact q)]at hu;cases hu
  have hc:=h.cells (g:=g) rfl (8*k+j) u (by rw[aqv D k j hk hj];exact hu);have:(⟨g,0,none⟩:Addr).add (8*k+j)=⟨g,0+8*k+j,none⟩:=by unfold Addr.add;split<;>simp_all<;>omega
  rw[← this];exact hc
def aj0 (x:a2g×Int) (w:World) (r:Ending) (w':World):Prop:=
 ∃A c,r=.returned (.tuple #[bcw x.1.T x.1.N x.1.S A x.1.L.length c,.int .i64 x.2])∧Vws w' w'.1.size A x.1.L∧Below w.1.size w w'
theorem a8w {R:List ByteArray} {T N S:Int} {b:Bool} {k:Nat} {u1 u2 u3 u4 u5:Rd} {L:List V4} (hb:¬aub R.length) (hk:(R.length-3) / 4=k) (h1:Hid (zm 1 9 (0,R)=(T,u1))) (h2:Hid (zm 1 T u1=(N,u2))) (h3:Hid (qs 1 2 0 0 99 u2=((b,S),u3))) (h4:Hid (u4=if b=true then u3 else xm 3 u3)) (h5:Hid (jq k u4=(L,u5))) :
 zt R=if u5.1=0 then(⟨T,N,S,L⟩,0)else(v6,u5.1):=by
 have hs:aba u2=(S,u4):=by unfold aba;rw[h3.out,h4.out]
 unfold zt;rw[if_neg hb,hk,h1.out];simp only;rw[h2.out];simp only;rw[hs];simp only;rw[h5.out]
theorem bej {W M F L H:Int} {s t:Rd} {x:Bool×Int} (h:qs W M F L H s=(x,t)):t.2=s.2.tail:=by
 have:(qs W M F L H s).2.2=s.2.tail:=rfl;rw[h]at this;exact this
theorem apz {lo hi:Int} {s t:Rd} {n:Int} (h:zm lo hi s=(n,t)):t.2=s.2.tail:=by
 have:(zm lo hi s).2.2=s.2.tail:=by
  unfold zm
  split
  ·simp only
   split<;>rfl
  ·rfl
 rw[h]at this;exact this
theorem az3 {s t:Rd} {v:V4} (h:yw s=(v,t)):t.2.length=s.2.length-4:=by
 have:(yw s).2.2=s.2.tail.tail.tail.tail:=rfl;rw[h]at this;rw[this];simp;omega
def ag0 (s:Rd):Bool×Rd:=(decide ((qu s).1=⟨#[65]⟩),if(qu s).1 ≠⟨#[65]⟩ ∧(qu s).1 ≠⟨#[77]⟩then xm 3 (qu s).2 else(qu s).2)
def yk:Nat→Rd→List Int×Rd
 | 0,s=>([],s)
 | k+1,s=>(if(qs 1 3 0 1 255 s).1.1=true then(qs 1 3 0 1 255 s).1.2::(yk k (qs 1 3 0 1 255 s).2).1 else(yk k (qs 1 3 0 1 255 s).2).1,(yk k (qs 1 3 0 1 255 s).2).2)
structure a2f where
 a:Bool
 f:Int
 ids:List Int
 p0:Bool×Int
 p1:Bool×Int
 p2:Bool×Int
def yc:a2f:=⟨false,0,[],(false,0),(false,0),(false,0)⟩
def ais (s:Rd):(Bool×Int)×Rd:=qs 1 3 2 0 99999 s
def az0 (s:Rd):a2f×Rd:=
 (⟨(ag0 s).1,(zm 1 3 (ag0 s).2).1,(yk 12 (zm 1 3 (ag0 s).2).2).1,(ais (yk 12 (zm 1 3 (ag0 s).2).2).2).1,(ais (ais (yk 12 (zm 1 3 (ag0 s).2).2).2).2).1,(ais (ais (ais (yk 12 (zm 1 3 (ag0 s).2).2).2).2).2).1⟩,
  (ais (ais (ais (yk 12 (zm 1 3 (ag0 s).2).2).2).2).2).2)
def js (R:List ByteArray):a2f×Int:=if R.length≠17 then(yc,3)else if(az0 (0,R)).2.1=0 then((az0 (0,R)).1,0)else(yc,(az0 (0,R)).2.1)
theorem a8u {R:List ByteArray} {a:Bool} {f:Int} {ids:List Int} {d0 d1 d2:Bool×Int} {r1 r2 r3 r4 r5 r6:Rd} (hl:R.length=17) (h1:Hid (ag0 (0,R)=(a,r1))) (h2:Hid (zm 1 3 r1=(f,r2))) (h3:Hid (yk 12 r2=(ids,r3))) (h4:Hid (qs 1 3 2 0 99999 r3=(d0,r4))) (h5:Hid (qs 1 3 2 0 99999 r4=(d1,r5))) (h6:Hid (qs 1 3 2 0 99999 r5=(d2,r6))) :
 js R=if r6.1=0 then(⟨a,f,ids,d0,d1,d2⟩,0)else(yc,r6.1):=by
 have hg:az0 (0,R)=(⟨a,f,ids,d0,d1,d2⟩,r6):=by
  unfold az0 ais;rw[h1.out];simp only;rw[h2.out];simp only;rw[h3.out];simp only;rw[h4.out];simp only;rw[h5.out];simp only;rw[h6.out]
 unfold js;rw[if_neg (fun q=>q hl),hg]
theorem a4r {k:Nat} {s s':Rd} {b:Bool} {n:Int} (h:qs 1 3 0 1 255 s=((b,n),s')):yk (k+1) s=(if b=true then n::(yk k s').1 else(yk k s').1,(yk k s').2):=by
 simp only[yk,h]
theorem atg:∀(k:Nat) (s:Rd),(yk k s).1.length≤k
 | 0,s=>Nat.le_refl _
 | k+1,s=>by
  have:=atg k (qs 1 3 0 1 255 s).2;simp only[yk]
  split
  ·simp;omega
  ·omega
theorem bdw (t:ByteArray) (s1:Rd):((t.toList==[65])=true∧decide (t=⟨#[65]⟩)=true ∧(if t ≠⟨#[65]⟩∧t ≠⟨#[77]⟩then xm 3 s1 else s1)=s1) ∨
 ((t.toList==[65])=false∧decide (t=⟨#[65]⟩)=false ∧((t.toList==[77])=true ∧(if t ≠⟨#[65]⟩∧t ≠⟨#[77]⟩then xm 3 s1 else s1)=s1 ∨(t.toList==[77])=false ∧(if t ≠⟨#[65]⟩∧t ≠⟨#[77]⟩then xm 3 s1 else s1)=xm 3 s1)):=by
 have l65:(⟨#[65]⟩:ByteArray).toList=[65]:=by rw[ByteArray.toList_eq]
 have l77:(⟨#[77]⟩:ByteArray).toList=[77]:=by rw[ByteArray.toList_eq]
 have b65:(t.toList==[65])=decide (t=⟨#[65]⟩):=by rw[← aep,l65]
 have b77:(t.toList==[77])=decide (t=⟨#[77]⟩):=by rw[← aep,l77]
 rw[b65,b77]
 by_cases h:t=⟨#[65]⟩
 ·exact .inl ⟨decide_eq_true h,decide_eq_true h,if_neg (fun q=>q.1 h)⟩
 ·refine .inr ⟨decide_eq_false h,decide_eq_false h,?_⟩
  by_cases h2:t=⟨#[77]⟩
  ·exact .inl ⟨decide_eq_true h2,if_neg (fun q=>q.2 h2)⟩
  ·exact .inr ⟨decide_eq_false h2,if_pos ⟨h,h2⟩⟩
theorem a8v (w:World):Calls Tryz.prog 169 #[] w fun e w'=>e=.returned (jv 1 3 0 1 255)∧Below w.1.size w w':=by
 go_enter func169,ntmps169;go_wp2;refine bodyPost_ret (v:=jv 1 3 0 1 255) (by simp[results,results169,go_sem]) rfl ⟨rfl,qa _ _⟩
theorem ajc (w:World):Calls Tryz.prog 170 #[] w fun e w'=>e=.returned (jv 1 3 2 0 99999)∧Below w.1.size w w':=by
 go_enter func170,ntmps170;go_wp2;refine bodyPost_ret (v:=jv 1 3 2 0 99999) (by simp[results,results170,go_sem]) rfl ⟨rfl,qa _ _⟩
theorem arl {g:Nat} {s t:Rd} {b:Bool} {w:World} (ht:Hid (ag0 s=(b,t))) (hp:qw g s w):Calls Tryz.prog 167 #[.pointer (some ⟨g,0,none⟩)] w (jp g (.bool b) t w):=by
 obtain⟨a,s1,ha⟩:∃a s1,Hid (qu s=(a,s1)):=⟨_,_,rfl⟩;have ht:=ht.out;unfold ag0 at ht;rw[ha.out]at ht;injection ht with e1 e2
 simp only at e1 e2;have HP:=hid hp;clear hp;rcases bdw a s1 with⟨k1,k2,k3⟩|⟨k1,k2,⟨k3,k4⟩|⟨k3,k4⟩⟩
 ·rw[k2]at e1;rw[k3]at e2;subst e1 e2;clear k2 k3;go_enter func167,ntmps167;go_wp2_with fail;refine(zb ha HP.out).mono ?_;rintro r w1 ⟨rfl,hx,hf⟩;have HX:=hid hx;have HF:=hid hf;clear hx hf HP;go_wp2_with fail;go_ret;exact⟨rfl,HX.out,HF.out⟩
 ·rw[k2]at e1;rw[k4]at e2;subst e1 e2;clear k2 k4;go_enter func167,ntmps167;go_wp2_with fail;refine(zb ha HP.out).mono ?_;rintro r w1 ⟨rfl,hx,hf⟩;have HX:=hid hx;have HF:=hid hf;clear hx hf HP;go_wp2_with fail;go_ret;exact⟨rfl,HX.out,HF.out⟩
 ·rw[k2]at e1;rw[k4]at e2;subst e1 e2;clear k2 k4;go_enter func167,ntmps167;go_wp2_with fail;refine(zb ha HP.out).mono ?_;rintro r w1 ⟨rfl,hx,hf⟩;have HX:=hid hx;have HF:=hid hf;clear hx hf HP;go_wp2_with fail;refine(xi rfl HX.out).mono ?_;rintro r w2 ⟨rfl,hx2,hf2⟩;have HX2:=hid hx2;have HF2:=hid (HF.out.step hf2);clear hx2 hf2;go_wp2_with fail;go_ret;exact⟨rfl,HX2.out,HF2.out⟩
theorem a30 {g:Nat} {s t:Rd} {n:Int} {w:World} (ht:Hid (zm 1 3 s=(n,t))) (hp:qw g s w):Calls Tryz.prog 168 #[.pointer (some ⟨g,0,none⟩)] w (jp g (.int .i64 n) t w):=by
 obtain⟨a,s1,ha⟩:∃a s1,Hid (qu s=(a,s1)):=⟨_,_,rfl⟩;obtain⟨hw1,hw2,hw3⟩:=ajm (lo:=1) (hi:=3) ha.out;have HP:=hid hp;have ht:=ht.out;clear hp;rcases ao6 a with⟨hb,h1⟩|⟨hz,h1,⟨h2,hb⟩|⟨h2,hb⟩|⟨h2,h3,hb,hv⟩⟩
 ·have e:=hw1 hb;rw[e]at ht;injection ht with e1 e2
  subst e1 e2;clear e hw1 hw2 hw3 hb;have i1:((a.size:Int)==1)=false:=by rw[beq_eq_false_iff_ne];omega
  go_enter func168,ntmps168;go_wp2_with fail;refine(zb ha HP.out).mono ?_;rintro r w1 ⟨rfl,hx,hf⟩;have HX:=hid hx;have HF:=hid hf;clear hx hf HP;go_wp2_with fail;refine(xi rfl HX.out).mono ?_;rintro r w2 ⟨rfl,hx2,hf2⟩;have HX2:=hid hx2;have HF2:=hid (HF.out.step hf2);clear hx2 hf2;go_wp2_with fail;go_ret;exact⟨rfl,HX2.out,HF2.out⟩
 ·have e:=hw1 hb;rw[e]at ht;injection ht with e1 e2
  subst e1 e2;clear e hw1 hw2 hw3 hb;have i1:((a.size:Int)==1)=true:=by rw[beq_iff_eq];omega
  have i2:((a[0].toNat:Nat):Int)<48:=by omega
  go_enter func168,ntmps168;go_wp2_with fail;refine(zb ha HP.out).mono ?_;rintro r w1 ⟨rfl,hx,hf⟩;have HX:=hid hx;have HF:=hid hf;clear hx hf HP;go_wp2_with fail;refine(xi rfl HX.out).mono ?_;rintro r w2 ⟨rfl,hx2,hf2⟩;have HX2:=hid hx2;have HF2:=hid (HF.out.step hf2);clear hx2 hf2;go_wp2_with fail;go_ret;exact⟨rfl,HX2.out,HF2.out⟩
 ·have e:=hw1 hb;rw[e]at ht;injection ht with e1 e2
  subst e1 e2;clear e hw1 hw2 hw3 hb;have i1:((a.size:Int)==1)=true:=by rw[beq_iff_eq];omega
  have i2:(48:Int) ≤((a[0].toNat:Nat):Int):=by omega
  have i3:(57:Int)<((a[0].toNat:Nat):Int):=by omega
  go_enter func168,ntmps168;go_wp2_with fail;refine(zb ha HP.out).mono ?_;rintro r w1 ⟨rfl,hx,hf⟩;have HX:=hid hx;have HF:=hid hf;clear hx hf HP;go_wp2_with fail;refine(xi rfl HX.out).mono ?_;rintro r w2 ⟨rfl,hx2,hf2⟩;have HX2:=hid hx2;have HF2:=hid (HF.out.step hf2);clear hx2 hf2;go_wp2_with fail;go_ret;exact⟨rfl,HX2.out,HF2.out⟩
 ·have i1:((a.size:Int)==1)=true:=by rw[beq_iff_eq];omega
  have i2:(48:Int) ≤((a[0].toNat:Nat):Int):=by omega
  have i3:((a[0].toNat:Nat):Int)≤57:=by omega
  rw[hv]at hw2 hw3
  by_cases hq:(a[0].toNat:Int)-48<1∨3<(a[0].toNat:Int)-48
  ·have e:=hw2 hb hq;rw[e]at ht;injection ht with e1 e2
   subst e1 e2;clear e hw1 hw2 hw3 hb hv
   by_cases hq1:(a[0].toNat:Int)<49
   ·clear hq;go_enter func168,ntmps168;go_wp2_with fail;refine(zb ha HP.out).mono ?_;rintro r w1 ⟨rfl,hx,hf⟩;have HX:=hid hx;have HF:=hid hf;clear hx hf HP;go_wp2_with fail;refine(xi rfl HX.out).mono ?_;rintro r w2 ⟨rfl,hx2,hf2⟩;have HX2:=hid hx2;have HF2:=hid (HF.out.step hf2);clear hx2 hf2;go_wp2_with fail;go_ret;exact⟨rfl,HX2.out,HF2.out⟩
   ·have q1:49 ≤(a[0].toNat:Int):=by omega
    have q2:51<(a[0].toNat:Int):=by omega
    clear hq hq1;go_enter func168,ntmps168;go_wp2_with fail;refine(zb ha HP.out).mono ?_;rintro r w1 ⟨rfl,hx,hf⟩;have HX:=hid hx;have HF:=hid hf;clear hx hf HP;go_wp2_with fail;refine(xi rfl HX.out).mono ?_;rintro r w2 ⟨rfl,hx2,hf2⟩;have HX2:=hid hx2;have HF2:=hid (HF.out.step hf2);clear hx2 hf2;go_wp2_with fail;go_ret;exact⟨rfl,HX2.out,HF2.out⟩
  ·have e:=hw3 hb hq;rw[e]at ht;injection ht with e1 e2
   subst e1 e2;have q1:49 ≤(a[0].toNat:Int):=by omega
   have q2:(a[0].toNat:Int)≤51:=by omega
   clear e hw1 hw2 hw3 hb hv hq;go_enter func168,ntmps168;go_wp2_with fail;refine(zb ha HP.out).mono ?_;rintro r w1 ⟨rfl,hx,hf⟩;have HX:=hid hx;have HF:=hid hf;clear hx hf HP;go_wp2_with fail;go_ret;exact⟨rfl,HX.out,HF.out⟩
abbrev aa7 (a:Bool) (f:Int) (A:Option Addr) (n c:Nat) (b0:Bool) (n0:Int) (b1:Bool) (n1:Int) (b2:Bool) (n2:Int):Array Value:=#[.bool a,.int .i64 f,.slice A n c,.bool b0,.int .i64 n0,.bool b1,.int .i64 n1,.bool b2,.int .i64 n2]
abbrev bgq (a:Bool) (f:Int) (A:Option Addr) (n c:Nat) (b0:Bool) (n0:Int) (b1:Bool) (n1:Int) (b2:Bool) (n2:Int):Value:=.agg (aa7 a f A n c b0 n0 b1 n1 b2 n2)
def a7f (w:World) (B:Nat) (A:Option Addr) (l:List Int):Prop:=∀k (hk:k<l.length),∃b off,A=some ⟨b,off,none⟩∧b<B∧w.cell? ⟨b,off+k,none⟩=some (.int .i64 l[k])
def ajz (x:a2f×Int) (w:World) (r:Ending) (w':World):Prop:=
 ∃A n c,r=.returned (.tuple #[bgq x.1.a x.1.f A n c x.1.p0.1 x.1.p0.2 x.1.p1.1 x.1.p1.2 x.1.p2.1 x.1.p2.2,.int .i64 x.2])∧x.1.ids.length=n∧a7f w' w'.1.size A x.1.ids∧Below w.1.size w w'
def agu (D:List Int):Array Value:=((D.map (Value.int .i64))++List.replicate (12-D.length) (Value.int .i64 0)).toArray
theorem a80 (D:List Int) (h:D.length≤12):(agu D).size=12:=by simp[agu];omega
theorem bcy (D:List Int) (n:Int) (h:D.length<12):(agu D).setIfInBounds D.length (.int .i64 n)=agu (D++[n]):=by
 obtain⟨k,hk⟩:∃k,12-D.length=k+1:=⟨11-D.length,by omega⟩;have hk2:12-(D.length+1)=k:=by omega
 unfold agu;rw[List.setIfInBounds_toArray]
 congr 1
 rw[hk,List.replicate_succ,List.set_append_right _ _ sm,List.length_append,List.length_singleton,hk2];simp
theorem bcx (D:List Int) (k:Nat) (h:k<D.length):(agu D)[k]?=some (.int .i64 D[k]):=by
 unfold agu;simp only[List.getElem?_toArray];rw[List.getElem?_append_left (by simpa using h)];simp[h]
theorem a81 (D:List Int) (h:D.length<12):(agu D)[D.length]?=some (.int .i64 0):=by
 unfold agu;simp only[List.getElem?_toArray];rw[List.getElem?_append_right sm,List.getElem?_replicate,if_pos (by simp;omega)]
theorem ac4 {w:World} {R b o o':Nat} {u:Value} (h:R≠b):(w.setCell ⟨R,o,none⟩ u).cell? ⟨b,o',none⟩=w.cell? ⟨b,o',none⟩:=World.cell?_setCell_other _ _ _ _ (fun q=>by injection q with q;exact h q)
theorem bgr {w:World} {IB:Nat} {D:List Int} (h:∀j,w.cell? ⟨IB,j,none⟩=(agu D)[j]?) (hz:IB<w.1.size):a7f w w.1.size (some ⟨IB,0,none⟩) D:=fun k hk=>⟨IB,0,rfl,hz,by rw[Nat.zero_add,h,bcx D k hk]⟩
theorem amh (A:Option Addr) (n c:Nat) (w:World) (h:((n:Int) != 17)=true):Calls Tryz.prog 104 #[.slice A n c] w (ajz (yc,3) w):=by
 go_enter func104,ntmps104;go_wp2;exact bodyPost_ret (v:=.tuple #[bgq false 0 none 0 0 false 0 false 0 false 0,.int .i64 3]) (by simp[results,results104,go_sem]) rfl ⟨none,0,0,rfl,rfl,fun k hk=>absurd hk (Nat.not_lt_zero _),qa _ _⟩
theorem a3z (A:Option Addr) (n c:Nat) (R:List ByteArray) (w:World) (hl:R.length=n) (hA:A=none→c=0) (hs:vg w w.1.size A R) (hz:∀t∈R,t.size≤1000000) (hkn:Hid (n=17)) :
 Calls Tryz.prog 104 #[.slice A n c] w (ajz (js R) w):=by
 obtain⟨a,r1,h1⟩:∃n u,Hid (ag0 (0,R)=(n,u)):=⟨_,_,rfl⟩;obtain⟨f,r2,h2⟩:∃n u,Hid (zm 1 3 r1=(n,u)):=⟨_,_,rfl⟩;obtain⟨ids,r3,h3⟩:∃n u,Hid (yk 12 r2=(n,u)):=⟨_,_,rfl⟩;obtain⟨b0,n0,r4,h4⟩:∃b n u,Hid (qs 1 3 2 0 99999 r3=((b,n),u)):=⟨_,_,_,rfl⟩;obtain⟨b1,n1,r5,h5⟩:∃b n u,Hid (qs 1 3 2 0 99999 r4=((b,n),u)):=⟨_,_,_,rfl⟩;obtain⟨b2,n2,r6,h6⟩:∃b n u,Hid (qs 1 3 2 0 99999 r5=((b,n),u)):=⟨_,_,_,rfl⟩;obtain⟨X,hX⟩:∃X,js R=X:=⟨_,rfl⟩;have HT:Hid (X=if r6.1=0 then(⟨a,f,ids,(b0,n0),(b1,n1),(b2,n2)⟩,0)else(yc,r6.1)):=hX.symm.trans (a8u (by rw[hl];exact hkn.out) h1 h2 h3 h4 h5 h6);rw[hX];clear hX;have HB0:=hid (qa w (.cells (aa7 false 0 none 0 0 false 0 false 0 false 0) 51));have HL:=hid (akb (c:=c) hA ((hs.below HB0.out (Nat.le_refl _)).more HB0.out.size) (by have:=hkn.out;omega) hz);rw[hl]at HL;have hR0:∀o,(w.alloc (.cells (aa7 false 0 none 0 0 false 0 false 0 false 0) 51)).cell? ⟨w.1.size,o,none⟩=(aa7 false 0 none 0 0 false 0 false 0 false 0)[o]?:=fun o=>World.cell?_alloc_at _ _ _ _ rfl
 have hR1:∀o,(w.alloc (.cells (aa7 false 0 none 0 0 false 0 false 0 false 0) 51)).frozen? ⟨w.1.size,o,none⟩=false:=fun o=>by rw[frozen?_alloc_cells];exact qj _ _ _ (Nat.le_refl _)
 have HR0:=hid hR0;have HR1:=hid hR1;have HZ0:Hid ((w.alloc (.cells (aa7 false 0 none 0 0 false 0 false 0 false 0) 51)).1.size=w.1.size+1):=by show _=_;simp
 have i17:((n:Int) != 17)=false:=by have:=hkn.out;rw[bne_eq_false_iff_eq];omega
 clear hs hA hz hR0 hR1 hl;go_enter func104,ntmps104
 try dsimp only
 repeat (fail_if_success (show Code.wp _ (Code.seq (Code.region 1 _ _) _) _ _ _)
         first|go_values|go_skip|go_guarded|go_step|go_upon|go_back|(simp only[Int.not_lt,Int.not_le]at *;go_simp)|(go_ite<;>go_prune<;>(try go_simp)))
 go_cut [] (fun wx=>wx=w.alloc (.cells (aa7 false 0 none 0 0 false 0 false 0 false 0) 51))
 case first=>
  go_wp2_with fail
  go_meet
  rfl
 case rest=>
 subst hcut;generalize hW0:w.alloc (.cells (aa7 false 0 none 0 0 false 0 false 0 false 0) 51)=W0 at *;clear hW0;go_wp2_with fail;refine HL.out.mono ?_;rintro r w1 ⟨g,rfl,hx1,hg1,hz1,hb1⟩;have HX1:=hid hx1;have HB1:=hid hb1;have HG1:=hid hg1;clear hx1 hb1 hg1 hz1 HL;go_wp2_with fail;refine(arl h1 HX1.out).mono ?_;rintro r w2 ⟨rfl,hx2,hf2⟩;have HX2:=hid hx2;have HF2:=hid hf2;clear hx2 hf2;go_wp2_with fail;refine(a30 h2 HX2.out).mono ?_;rintro r w3 ⟨rfl,hx3,hf3⟩;have HX3:=hid hx3;have HF3:=hid (HF2.out.step hf3);clear hx3 hf3 HX2 HF2;go_wp2_with fail;have hbm:=qa w3 (.cells (aa7 a f none 0 0 false 0 false 0 false 0) 51);have hzm:(w3.alloc (.cells (aa7 a f none 0 0 false 0 false 0 false 0) 51)).1.size=w3.1.size+1:=by simp
 have hbi:=qa (w3.alloc (.cells (aa7 a f none 0 0 false 0 false 0 false 0) 51)) (.cells #[.int .i64 0,.int .i64 0,.int .i64 0,.int .i64 0,.int .i64 0,.int .i64 0,.int .i64 0,.int .i64 0,.int .i64 0,.int .i64 0,.int .i64 0,.int .i64 0] 307)
 have T0:TkI (qw g r2) g (w3.1.size+1) (agu []) ((w3.alloc (.cells (aa7 a f none 0 0 false 0 false 0 false 0) 51)).alloc (.cells #[.int .i64 0,.int .i64 0,.int .i64 0,.int .i64 0,.int .i64 0,.int .i64 0,.int .i64 0,.int .i64 0,.int .i64 0,.int .i64 0,.int .i64 0,.int .i64 0] 307)) ((w3.alloc (.cells (aa7 a f none 0 0 false 0 false 0 false 0) 51)).alloc (.cells #[.int .i64 0,.int .i64 0,.int .i64 0,.int .i64 0,.int .i64 0,.int .i64 0,.int .i64 0,.int .i64 0,.int .i64 0,.int .i64 0,.int .i64 0,.int .i64 0] 307)):=
  ⟨(HX3.out.keep hbm).keep hbi,fun j=>World.cell?_alloc_at _ _ _ _ hzm.symm,fun j=>by rw[frozen?_alloc_cells];exact qj _ _ _ om,by have:=HX3.out.lt;omega,by simp,rfl,rfl,rfl,Nat.le_refl _,fun _ _ _ _=>rfl⟩
 have HMB:Hid ((∀o,((w3.alloc (.cells (aa7 a f none 0 0 false 0 false 0 false 0) 51)).alloc (.cells #[.int .i64 0,.int .i64 0,.int .i64 0,.int .i64 0,.int .i64 0,.int .i64 0,.int .i64 0,.int .i64 0,.int .i64 0,.int .i64 0,.int .i64 0,.int .i64 0] 307)).cell? ⟨w3.1.size,o,none⟩=(aa7 a f none 0 0 false 0 false 0 false 0)[o]?) ∧(∀o,((w3.alloc (.cells (aa7 a f none 0 0 false 0 false 0 false 0) 51)).alloc (.cells #[.int .i64 0,.int .i64 0,.int .i64 0,.int .i64 0,.int .i64 0,.int .i64 0,.int .i64 0,.int .i64 0,.int .i64 0,.int .i64 0,.int .i64 0,.int .i64 0] 307)).frozen? ⟨w3.1.size,o,none⟩=false)):=
  ⟨fun o=>(World.cell?_alloc_past _ _ _ sm).trans (World.cell?_alloc_at _ _ _ _ rfl),fun o=>by rw[frozen?_alloc_cells,frozen?_alloc_cells];exact qj _ _ _ (Nat.le_refl _)⟩
 have hz0:=HZ0.out;have hb1s:=HB1.out.size;have hf3s:=HF3.out.size;have hx3l:=HX3.out.lt;have hg1:=HG1.out
 have hbB:Below W0.1.size W0 ((w3.alloc (.cells (aa7 a f none 0 0 false 0 false 0 false 0) 51)).alloc (.cells #[.int .i64 0,.int .i64 0,.int .i64 0,.int .i64 0,.int .i64 0,.int .i64 0,.int .i64 0,.int .i64 0,.int .i64 0,.int .i64 0,.int .i64 0,.int .i64 0] 307)):=
  qb (Below.trans HB1.out (HF3.out.below om (fun k hk=>by simp[Value.ownBlock]at hk) om)) (qb hbm hbi)
 have HRW:Hid ((∀o,((w3.alloc (.cells (aa7 a f none 0 0 false 0 false 0 false 0) 51)).alloc (.cells #[.int .i64 0,.int .i64 0,.int .i64 0,.int .i64 0,.int .i64 0,.int .i64 0,.int .i64 0,.int .i64 0,.int .i64 0,.int .i64 0,.int .i64 0,.int .i64 0] 307)).cell? ⟨w.1.size,o,none⟩=(aa7 false 0 none 0 0 false 0 false 0 false 0)[o]?) ∧(∀o,((w3.alloc (.cells (aa7 a f none 0 0 false 0 false 0 false 0) 51)).alloc (.cells #[.int .i64 0,.int .i64 0,.int .i64 0,.int .i64 0,.int .i64 0,.int .i64 0,.int .i64 0,.int .i64 0,.int .i64 0,.int .i64 0,.int .i64 0,.int .i64 0] 307)).frozen? ⟨w.1.size,o,none⟩=false)∧Below w.1.size w ((w3.alloc (.cells (aa7 a f none 0 0 false 0 false 0 false 0) 51)).alloc (.cells #[.int .i64 0,.int .i64 0,.int .i64 0,.int .i64 0,.int .i64 0,.int .i64 0,.int .i64 0,.int .i64 0,.int .i64 0,.int .i64 0,.int .i64 0,.int .i64 0] 307))):=
  ⟨fun o=>((qx hbB).1 _ o om).trans (HR0.out o),fun o=>((qx hbB).2 _ o om).trans (HR1.out o),Below.trans HB0.out (hbB.mono om)⟩
 have HLT:Hid (w.1.size<g∧g<w3.1.size∧w3.1.size+1<((w3.alloc (.cells (aa7 a f none 0 0 false 0 false 0 false 0) 51)).alloc (.cells #[.int .i64 0,.int .i64 0,.int .i64 0,.int .i64 0,.int .i64 0,.int .i64 0,.int .i64 0,.int .i64 0,.int .i64 0,.int .i64 0,.int .i64 0,.int .i64 0] 307)).1.size):=⟨by omega,by omega,by simp⟩;have HI0:Hid ([] ++(yk 12 r2).1=ids ∧(yk 12 r2).2=r3∧TkI (qw g r2) g (w3.1.size+1) (agu []) ((w3.alloc (.cells (aa7 a f none 0 0 false 0 false 0 false 0) 51)).alloc (.cells #[.int .i64 0,.int .i64 0,.int .i64 0,.int .i64 0,.int .i64 0,.int .i64 0,.int .i64 0,.int .i64 0,.int .i64 0,.int .i64 0,.int .i64 0,.int .i64 0] 307)) ((w3.alloc (.cells (aa7 a f none 0 0 false 0 false 0 false 0) 51)).alloc (.cells #[.int .i64 0,.int .i64 0,.int .i64 0,.int .i64 0,.int .i64 0,.int .i64 0,.int .i64 0,.int .i64 0,.int .i64 0,.int .i64 0,.int .i64 0,.int .i64 0] 307))):=⟨by rw[h3.out];rfl,by rw[h3.out],T0⟩
 clear hbm hzm hbi T0 hz0 hb1s hf3s hx3l hg1 hbB HX3 HF3 HB1 HG1 HR0 HR1 HZ0 HB0 HX1;generalize hW:(w3.alloc (.cells (aa7 a f none 0 0 false 0 false 0 false 0) 51)).alloc (.cells #[.int .i64 0,.int .i64 0,.int .i64 0,.int .i64 0,.int .i64 0,.int .i64 0,.int .i64 0,.int .i64 0,.int .i64 0,.int .i64 0,.int .i64 0,.int .i64 0] 307)=W at *;generalize hIB:w3.1.size+1=IB at *;generalize w3.1.size=MB at *;clear hW;have HIM:Hid (MB<IB):=by show _<_;omega
 clear hIB
 go_loopw [7,21] (fun nv iv wr=>∃(i:Nat) (D:List Int) (s:Rd),iv=.int .i64 (i:Int)∧nv=.int .i64 (D.length:Int)∧i≤12∧D.length≤i∧Hid (D ++(yk (12-i) s).1=ids ∧(yk (12-i) s).2=r3∧TkI (qw g s) g IB (agu D) W wr)) (fun _ iv _=>12-(intOf iv).toNat)
 case atStart=>exact⟨0,[],r2,rfl,rfl,by omega,Nat.zero_le _,HI0⟩
 case round=>
  clear HI0;obtain⟨i,D,s,rfl,rfl,hi,hDi,hI⟩:=hrel
  by_cases hlt:i<12
  ·obtain⟨b,n,s',e0⟩:∃b n u,Hid (qs 1 3 0 1 255 s=((b,n),u)):=⟨_,_,_,rfl⟩;have hst:=a4r (k:=11-i) e0.out;rw[show 11-i+1=12-i from by omega,show 11-i=12-(i+1)from by omega]at hst;have HST:=hid hst;clear hst;have i1:(i:Int)<12:=by omega
   have i2:(0:Int) ≤(i:Int):=by omega
   go_wp2_with fail;refine(a8v _).mono ?_;rintro r x1 ⟨rfl,hb⟩;have HT1:=hid (hI.out.2.2.keep (Y:=qw g s) (hI.out.2.2.x.keep hb) hb);clear hb;go_wp2_with fail;refine(j6 e0 HT1.out.x).mono ?_;rintro r x2 ⟨rfl,hx,hf⟩;have HT2:=hid (HT1.out.frm (Y:=qw g s') hx hf);clear hx hf HT1;have hbn:=qa x2 (.cells #[.bool b,.int .i64 n] 42);have hT3:=HT2.out.keep (Y:=qw g s') (HT2.out.x.keep hbn) hbn;have hn0:(x2.alloc (.cells #[.bool b,.int .i64 n] 42)).cell? ⟨x2.1.size,0,none⟩=some (.bool b):=World.cell?_alloc_at _ _ _ _ rfl;have hn1:(x2.alloc (.cells #[.bool b,.int .i64 n] 42)).cell? ⟨x2.1.size,1,none⟩=some (.int .i64 n):=World.cell?_alloc_at _ _ _ _ rfl;have hc:=hT3.c D.length;rw[a81 D om]at hc;have hfz:=hT3.z D.length;have HT3:=hid hT3;have i3:(0:Int) ≤(D.length:Int):=by omega
   have i4:(D.length:Int)<12:=by omega
   clear hbn hT3;cases b with
   | false=>
    have HNX:Hid (D ++(yk (12-(i+1)) s').1=ids ∧(yk (12-(i+1)) s').2=r3∧TkI (qw g s') g IB (agu D) W (x2.alloc (.cells #[.bool false,.int .i64 n] 42))):=by
     have q1:=hI.out.1;have q2:=hI.out.2.1;rw[HST.out]at q1 q2;exact⟨q1,q2,HT3.out⟩
    go_wp2_with fail
    go_roundw
    case rel=>exact⟨i+1,D,s',by go_num,rfl,by omega,by omega,HNX⟩
    case measure=>simp[intOf];omega
   | true=>
    have hp:=HT3.out.put (o:=D.length) (u:=.int .i64 n) (by rw[a80 D om];omega) (HT3.out.x.far (by have:=HLT.out;have:=HIM.out;omega):qw g s' _);rw[bcy D n om]at hp
    have HNX:Hid ((D++[n]) ++(yk (12-(i+1)) s').1=ids ∧(yk (12-(i+1)) s').2=r3∧TkI (qw g s') g IB (agu (D++[n])) W ((x2.alloc (.cells #[.bool true,.int .i64 n] 42)).setCell ⟨IB,D.length,none⟩ (.int .i64 n))):=by
     have q1:=hI.out.1;have q2:=hI.out.2.1;rw[HST.out]at q1 q2;refine⟨?_,q2,hp⟩;rw[← q1];simp
    clear hp;go_wp2_with fail
    go_roundw
    case rel=>exact⟨i+1,D++[n],s',by go_num,by simp,by omega,by simp;omega,HNX⟩
    case measure=>simp[intOf];omega
  ·obtain rfl:i=12:=by omega
   have hD:D=ids:=by have:=hI.out.1;simpa [yk]using this
   have hs3:s=r3:=by have:=hI.out.2.1;simpa [yk]using this
   subst hD hs3;have HTI:=hid hI.out.2.2;have i3:(0:Int) ≤(D.length:Int):=by omega
   have i4:(D.length:Int)≤12:=by omega
   have hT0:TkI (qw g s) g MB (aa7 a f none 0 0 false 0 false 0 false 0) wr wr:=⟨HTI.out.x,fun o=>(HTI.out.cell (by have:=HLT.out;have:=HIM.out;omega) (by have:=HLT.out;omega) (by have:=HIM.out;omega)).trans (HMB.out.1 o),fun o=>(HTI.out.frozen (by have:=HLT.out;have:=HIM.out;omega) (by have:=HLT.out;omega) (by have:=HIM.out;omega)).trans (HMB.out.2 o),HLT.out.2.1,by have:=HTI.out.mz;have:=HIM.out;omega,rfl,rfl,rfl,Nat.le_refl _,fun _ _ _ _=>rfl⟩;have HIDS:Hid (∀j,wr.cell? ⟨IB,j,none⟩=(agu D)[j]?):=HTI.out.c;have HIZ:Hid (IB<wr.1.size):=HTI.out.mz
   have HRWx:Hid ((∀o,wr.cell? ⟨w.1.size,o,none⟩=(aa7 false 0 none 0 0 false 0 false 0 false 0)[o]?) ∧(∀o,wr.frozen? ⟨w.1.size,o,none⟩=false)∧Below w.1.size w wr):=
    ⟨fun o=>(HTI.out.cell (by have:=HLT.out;have:=HIM.out;omega) (by have:=HLT.out;omega) (by have:=HLT.out;have:=HIM.out;omega)).trans (HRW.out.1 o),fun o=>(HTI.out.frozen (by have:=HLT.out;have:=HIM.out;omega) (by have:=HLT.out;omega) (by have:=HLT.out;have:=HIM.out;omega)).trans (HRW.out.2.1 o),Below.trans HRW.out.2.2 (HTI.out.below (by have:=HLT.out;omega) (by have:=HLT.out;have:=HIM.out;omega))⟩
   have m2:=hT0.c 2;have z2:=hT0.z 2;have HT0:=hid hT0;clear hT0 hI HRW HMB;go_wp2_with fail;have hp:=HT0.out.put (o:=2) (u:=.slice (some ⟨IB,0,none⟩) D.length D.length) sm (HT0.out.x.far HLT.out.2.1);have e:∀C:Array Value,C=aa7 a f (some ⟨IB,0,none⟩) D.length D.length false 0 false 0 false 0→TkI (qw g s) g MB C wr (wr.setCell ⟨MB,2,none⟩ (.slice (some ⟨IB,0,none⟩) D.length D.length)):=fun C hC=>by subst hC;exact hp
   have HT1:=hid (e _ rfl);clear e hp m2 z2 HT0;generalize wr.setCell ⟨MB,2,none⟩ (.slice (some ⟨IB,0,none⟩) D.length D.length)=y0 at *;refine(ajc _).mono ?_;rintro r x0 ⟨rfl,hb⟩;have HT2:=hid (HT1.out.keep (Y:=qw g s) (HT1.out.x.keep hb) hb);clear hb HT1;go_wp2_with fail;refine(j6 h4 HT2.out.x).mono ?_;rintro r y1 ⟨rfl,hx,hf⟩;have HT1:=hid (HT2.out.frm hx hf);clear hx hf HT2;go_wp2_with fail;refine(ajc _).mono ?_;rintro r x1 ⟨rfl,hb⟩;have HT2:=hid (HT1.out.keep (Y:=qw g r4) (HT1.out.x.keep hb) hb);clear hb HT1;go_wp2_with fail;refine(j6 h5 HT2.out.x).mono ?_;rintro r y2 ⟨rfl,hx,hf⟩;have HT1:=hid (HT2.out.frm hx hf);clear hx hf HT2;go_wp2_with fail;refine(ajc _).mono ?_;rintro r x2 ⟨rfl,hb⟩;have HT2:=hid (HT1.out.keep (Y:=qw g r5) (HT1.out.x.keep hb) hb);clear hb HT1;go_wp2_with fail;refine(j6 h6 HT2.out.x).mono ?_;rintro r y3 ⟨rfl,hx,hf⟩;have HT1:=hid (HT2.out.frm hx hf)
   clear hx hf HT2;have hT4:=HT1.out;have m3:=hT4.c 3;have z3:=hT4.z 3;have m4:=hT4.c 4;have z4:=hT4.z 4;have m5:=hT4.c 5;have z5:=hT4.z 5;have m6:=hT4.c 6;have z6:=hT4.z 6;have m7:=hT4.c 7;have z7:=hT4.z 7;have m8:=hT4.c 8;have z8:=hT4.z 8;clear hT4;go_upto_region 16 with fail;have hx0:qw g r6 ((y3.setCell ⟨MB,3,none⟩ (.bool b0)).setCell ⟨MB,4,none⟩ (.int .i64 n0)):=((HT1.out.x).far (G:=MB) (o:=3) (u:=.bool b0) HLT.out.2.1).far (G:=MB) (o:=4) (u:=.int .i64 n0) HLT.out.2.1;have hs0:TkI (qw g r6) g MB (aa7 a f (some ⟨IB,0,none⟩) D.length D.length b0 n0 false 0 false 0) wr ((y3.setCell ⟨MB,3,none⟩ (.bool b0)).setCell ⟨MB,4,none⟩ (.int .i64 n0)):=(HT1.out).store (o:=3) rfl rfl (fun j=>by rcases j with _|_|_|_|_|_|_|_|_|j<;>simp) hx0;have hx1:qw g r6 ((((y3.setCell ⟨MB,3,none⟩ (.bool b0)).setCell ⟨MB,4,none⟩ (.int .i64 n0)).setCell ⟨MB,5,none⟩ (.bool b1)).setCell ⟨MB,6,none⟩ (.int .i64 n1)):=((hx0).far (G:=MB) (o:=5) (u:=.bool b1) HLT.out.2.1).far (G:=MB) (o:=6) (u:=.int .i64 n1) HLT.out.2.1
   have hs1:TkI (qw g r6) g MB (aa7 a f (some ⟨IB,0,none⟩) D.length D.length b0 n0 b1 n1 false 0) wr ((((y3.setCell ⟨MB,3,none⟩ (.bool b0)).setCell ⟨MB,4,none⟩ (.int .i64 n0)).setCell ⟨MB,5,none⟩ (.bool b1)).setCell ⟨MB,6,none⟩ (.int .i64 n1)):=(hs0).store (o:=5) rfl rfl (fun j=>by rcases j with _|_|_|_|_|_|_|_|_|j<;>simp) hx1;have hx2:qw g r6 ((((((y3.setCell ⟨MB,3,none⟩ (.bool b0)).setCell ⟨MB,4,none⟩ (.int .i64 n0)).setCell ⟨MB,5,none⟩ (.bool b1)).setCell ⟨MB,6,none⟩ (.int .i64 n1)).setCell ⟨MB,7,none⟩ (.bool b2)).setCell ⟨MB,8,none⟩ (.int .i64 n2)):=((hx1).far (G:=MB) (o:=7) (u:=.bool b2) HLT.out.2.1).far (G:=MB) (o:=8) (u:=.int .i64 n2) HLT.out.2.1;have hs2:TkI (qw g r6) g MB (aa7 a f (some ⟨IB,0,none⟩) D.length D.length b0 n0 b1 n1 b2 n2) wr ((((((y3.setCell ⟨MB,3,none⟩ (.bool b0)).setCell ⟨MB,4,none⟩ (.int .i64 n0)).setCell ⟨MB,5,none⟩ (.bool b1)).setCell ⟨MB,6,none⟩ (.int .i64 n1)).setCell ⟨MB,7,none⟩ (.bool b2)).setCell ⟨MB,8,none⟩ (.int .i64 n2)):=(hs1).store (o:=7) rfl rfl (fun j=>by rcases j with _|_|_|_|_|_|_|_|_|j<;>simp) hx2
   have HT5:=hid hs2;clear hs0 hs1 hs2 hx0 hx1 hx2 HT1 m3 m4 m5 m6 m7 m8 z3 z4 z5 z6 z7 z8;generalize ((((((y3.setCell ⟨MB,3,none⟩ (.bool b0)).setCell ⟨MB,4,none⟩ (.int .i64 n0)).setCell ⟨MB,5,none⟩ (.bool b1)).setCell ⟨MB,6,none⟩ (.int .i64 n1)).setCell ⟨MB,7,none⟩ (.bool b2)).setCell ⟨MB,8,none⟩ (.int .i64 n2))=y9 at *;have HER:=hid (ao8 HT5.out.x);obtain⟨E,hE⟩:∃E,r6.1=E:=⟨_,rfl⟩;rw[hE]at HER HT;clear hE;have hIDS:∀j,y9.cell? ⟨IB,j,none⟩=(agu D)[j]?:=fun j=>(HT5.out.cell HIZ.out (by have:=HLT.out;have:=HIM.out;omega) (by have:=HIM.out;omega)).trans (HIDS.out j)
   have HID9:=hid hIDS;have HIZ9:Hid (IB<y9.1.size):=by show _<_;have:=HT5.out.size;have:=HIZ.out;omega
   have hr:∀j,y9.cell? ⟨w.1.size,j,none⟩=(aa7 false 0 none 0 0 false 0 false 0 false 0)[j]?:=fun j=>(HT5.out.cell (by have:=HIZ.out;have:=HLT.out;have:=HIM.out;omega) (by have:=HLT.out;omega) (by have:=HLT.out;omega)).trans (HRWx.out.1 j)
   have hf:∀j,y9.frozen? ⟨w.1.size,j,none⟩=false:=fun j=>(HT5.out.frozen (by have:=HIZ.out;have:=HLT.out;have:=HIM.out;omega) (by have:=HLT.out;omega) (by have:=HLT.out;omega)).trans (HRWx.out.2.1 j)
   have HB9:Hid (Below w.1.size w y9):=Below.trans HRWx.out.2.2 (HT5.out.below (by have:=HLT.out;omega) (by have:=HIZ.out;have:=HLT.out;have:=HIM.out;omega));have hm:=HT5.out.c;have HR:=hid (show AtC y9 w.1.size (aa7 false 0 none 0 0 false 0 false 0 false 0)from hr);have r_0:=hr 0;have r_1:=hr 1;have r_2:=hr 2;have r_3:=hr 3;have r_4:=hr 4;have r_5:=hr 5;have r_6:=hr 6;have r_7:=hr 7;have r_8:=hr 8;have f_0:=hf 0;have f_1:=hf 1;have f_2:=hf 2;have f_3:=hf 3;have f_4:=hf 4;have f_5:=hf 5;have f_6:=hf 6;have f_7:=hf 7;have f_8:=hf 8;have m_0:=hm 0;have m_1:=hm 1;have m_2:=hm 2;have m_3:=hm 3;have m_4:=hm 4;have m_5:=hm 5;have m_6:=hm 6;have m_7:=hm 7;have m_8:=hm 8;clear hr hf hm hIDS HT5 HIDS HRWx;go_wp2_with fail;refine HER.out.mono ?_;rintro r w' ⟨rfl,rfl⟩
   by_cases hE:E=0
   ·subst hE;have HX2:Hid (X=(⟨a,f,D,(b0,n0),(b1,n1),(b2,n2)⟩,0)):=HT.out.trans (if_pos rfl);have HNE:Hid (w.1.size≠IB):=by show _≠_;have:=HLT.out;have:=HIM.out;omega
    clear HT;have K:=(((((((((HR.out.set 0 (.bool a) sm).set 1 (.int .i64 f) sm).set 2 (.slice (some ⟨IB,0,none⟩) D.length D.length) sm).set 3 (.bool b0) sm).set 4 (.int .i64 n0) sm).set 5 (.bool b1) sm).set 6 (.int .i64 n1) sm).set 7 (.bool b2) sm).set 8 (.int .i64 n2) sm);have k0:=K 0;have k1:=K 1;have k2:=K 2;have k3:=K 3;have k4:=K 4;have k5:=K 5;have k6:=K 6;have k7:=K 7;have k8:=K 8;simp at k0 k1 k2 k3 k4 k5 k6 k7 k8;go_wp2_with fail;refine bodyPost_ret (v:=.tuple #[bgq a f (some ⟨IB,0,none⟩) D.length D.length b0 n0 b1 n1 b2 n2,.int .i64 0]) (by simp[results,results104,go_sem,k0,k1,k2,k3,k4,k5,k6,k7,k8]) rfl ?_;rw[HX2.out];exact⟨some ⟨IB,0,none⟩,D.length,D.length,rfl,rfl,bgr (fun k=>((ac4 HNE.out).trans (((ac4 HNE.out).trans (((ac4 HNE.out).trans (((ac4 HNE.out).trans (((ac4 HNE.out).trans (((ac4 HNE.out).trans (((ac4 HNE.out).trans (((ac4 HNE.out).trans (((ac4 HNE.out).trans (HID9.out k))))))))))))))))))) (by simpa using HIZ9.out),(qt (qt (qt (qt (qt (qt (qt (qt (qt HB9.out (Nat.le_refl _)) (Nat.le_refl _)) (Nat.le_refl _)) (Nat.le_refl _)) (Nat.le_refl _)) (Nat.le_refl _)) (Nat.le_refl _)) (Nat.le_refl _)) (Nat.le_refl _))⟩
   ·have hne:(E != 0)=true:=by rw[bne_iff_ne];exact hE
    have HX2:Hid (X=(yc,E)):=HT.out.trans (if_neg hE);clear hE HT;have K:=(((((((((HR.out.set 0 (.bool false) sm).set 1 (.int .i64 0) sm).set 2 (.slice none 0 0) sm).set 3 (.bool false) sm).set 4 (.int .i64 0) sm).set 5 (.bool false) sm).set 6 (.int .i64 0) sm).set 7 (.bool false) sm).set 8 (.int .i64 0) sm);have k0:=K 0;have k1:=K 1;have k2:=K 2;have k3:=K 3;have k4:=K 4;have k5:=K 5;have k6:=K 6;have k7:=K 7;have k8:=K 8;simp at k0 k1 k2 k3 k4 k5 k6 k7 k8;go_wp2_with fail;refine bodyPost_ret (v:=.tuple #[bgq false 0 none 0 0 false 0 false 0 false 0,.int .i64 E]) (by simp[results,results104,go_sem,k0,k1,k2,k3,k4,k5,k6,k7,k8]) rfl ?_;rw[HX2.out];exact⟨none,0,0,rfl,rfl,fun k hk=>absurd hk (Nat.not_lt_zero _),(qt (qt (qt (qt (qt (qt (qt (qt (qt HB9.out (Nat.le_refl _)) (Nat.le_refl _)) (Nat.le_refl _)) (Nat.le_refl _)) (Nat.le_refl _)) (Nat.le_refl _)) (Nat.le_refl _)) (Nat.le_refl _)) (Nat.le_refl _))⟩
abbrev aa6 (g:Nat):Obj:=.cells #[.pointer (some ⟨g,0,none⟩)] 286
abbrev bju (g:Nat):Value:=.agg #[.pointer (some ⟨g,0,none⟩)]
theorem adn {g:Nat} {s t:Rd} {a:ByteArray} {w:World} (ha:Hid (qu s=(a,t))) (hp:qw g s w):a.size≤1000000:=by
 have:=ha.out;unfold qu at this;injection this with e _
 rw[← e];exact agt hp.choose_spec.2.2
theorem ank (w:World) (g:Nat):(w.alloc (aa6 g)).cell? ⟨w.1.size,0,none⟩=some (.pointer (some ⟨g,0,none⟩)):=World.cell?_alloc_at _ _ _ _ rfl
theorem ay1 {g:Nat} {s t:Rd} {b:Bool} {h m c e:Int} {w:World} (ht:Hid (air s=((b,h,m,c,e),t))) (hp:qw g s w):Calls Tryz.prog 138 #[bju g] w (jp g (aoy b h m c e) t w):=by
 obtain⟨a,s1,ha⟩:∃a s1,Hid (qu s=(a,s1)):=⟨_,_,rfl⟩;have hsm:=adn ha hp
 obtain⟨E,ht1,ht2⟩:∃E,Hid (yx a.data.toList=((b,h,m,c,e),E))∧Hid (xm E s1=t):=by
  have q:=ht.out;unfold air at q;rw[ha.out]at q;injection q with q1 q2
  exact⟨_,Prod.ext q1 rfl,q2⟩
 have hgl:=hp.lt;have hb0:=qa w (aa6 g);have hb1:=qa (w.alloc (aa6 g)) (aah false 0 0 0 0);have hz0:(w.alloc (aa6 g)).1.size=w.1.size+1:=by simp
 have HX0:=hid ((hp.keep hb0).keep hb1);have HF0:Hid (Frm g kw w ((w.alloc (aa6 g)).alloc (aah false 0 0 0 0))):=Frm.of_below (qb hb0 hb1);have p0:((w.alloc (aa6 g)).alloc (aah false 0 0 0 0)).cell? ⟨w.1.size,0,none⟩=some (.pointer (some ⟨g,0,none⟩)):=(World.cell?_alloc_past _ _ _ sm).trans (ank w g);have HP0:=hid p0;have HR0:Hid (∀o,((w.alloc (aa6 g)).alloc (aah false 0 0 0 0)).cell? ⟨w.1.size+1,o,none⟩=(#[Value.bool false,.int .i64 0,.int .i64 0,.int .i64 0,.int .i64 0]:Array Value)[o]?):=fun o=>World.cell?_alloc_at _ _ _ _ hz0.symm
 have HRF:Hid (∀o,((w.alloc (aa6 g)).alloc (aah false 0 0 0 0)).frozen? ⟨w.1.size+1,o,none⟩=false):=fun o=>by rw[frozen?_alloc_cells,frozen?_alloc_cells];exact qj _ _ _ om
 have HZ:Hid (w.1.size+1<((w.alloc (aa6 g)).alloc (aah false 0 0 0 0)).1.size∧g<w.1.size):=⟨by simp,hgl⟩;clear hb0 hb1 hz0 hp hgl ht;go_enter func138,ntmps138;go_wp2_with fail;generalize hW0:(w.alloc (aa6 g)).alloc (aah false 0 0 0 0)=W0 at *;refine(zb ha HX0.out).mono ?_;rintro r w1 ⟨rfl,hx1,hf1⟩;have HX1:=hid hx1;have HF1:=hid hf1;clear hx1 hf1 hW0 HX0;go_wp2_with fail;refine(amb a w1 hsm).mono ?_;rw[ht1.out];rintro r w2 ⟨rfl,hb2⟩;dsimp only;have hbc:=qa w2 (aah b h m c e);have HX3:Hid (qw g s1 (w2.alloc (aah b h m c e))):=(HX1.out.keep hb2).keep hbc;have HF3:Hid (Frm g kw W0 (w2.alloc (aah b h m c e))):=HF1.out.step (Frm.of_below (qb hb2 hbc));have HC3:Hid (∀o,(w2.alloc (aah b h m c e)).cell? ⟨w2.1.size,o,none⟩=(#[Value.bool b,.int .i64 h,.int .i64 m,.int .i64 c,.int .i64 e]:Array Value)[o]?):=fun o=>World.cell?_alloc_at _ _ _ _ rfl
 have HZ3:Hid (w2.1.size<(w2.alloc (aah b h m c e)).1.size∧W0.1.size≤w2.1.size):=⟨by simp,by have:=HF1.out.size;have:=hb2.size;omega⟩;have p3:(w2.alloc (aah b h m c e)).cell? ⟨w.1.size,0,none⟩=some (.pointer (some ⟨g,0,none⟩)):=(qi HF3.out (by have:=HZ.out;omega) (by have:=HZ.out;omega) 0).trans HP0.out;clear hbc hb2 HX1 HF1 p0;go_wp2_with fail;generalize hW3:w2.alloc (aah b h m c e)=W3 at *;clear hW3 p3;refine(xi ht2 HX3.out).mono ?_;rintro r w4 ⟨rfl,hx4,hf4⟩;have HX4:=hid hx4;have HF4:=hid (HF3.out.step hf4);have hc4:∀o,w4.cell? ⟨w2.1.size,o,none⟩=(#[Value.bool b,.int .i64 h,.int .i64 m,.int .i64 c,.int .i64 e]:Array Value)[o]?:=fun o=>(qi hf4 HZ3.out.1 (by have:=HZ.out;have:=HZ3.out;omega) o).trans (HC3.out o)
 have hr4:∀o,w4.cell? ⟨w.1.size+1,o,none⟩=(#[Value.bool false,.int .i64 0,.int .i64 0,.int .i64 0,.int .i64 0]:Array Value)[o]?:=fun o=>(qi HF4.out HZ.out.1 (by have:=HZ.out;omega) o).trans (HR0.out o)
 have fz:∀o,w4.frozen? ⟨w.1.size+1,o,none⟩=false:=fun o=>(qv HF4.out HZ.out.1 (by have:=HZ.out;omega) o).trans (HRF.out o)
 have HF5:=hid (HF0.out.step HF4.out);have c0:=hc4 0;have c1:=hc4 1;have c2:=hc4 2;have c3:=hc4 3;have c4:=hc4 4;have r0:=hr4 0;have r1:=hr4 1;have r2:=hr4 2;have r3:=hr4 3;have r4:=hr4 4;have HOLD:Hid (∀o,o<5→∃v,w4.cell? ⟨w.1.size+1,o,none⟩=some v):=fun o ho=>by rw[hr4 o];rcases(by omega:o=0∨o=1∨o=2∨o=3∨o=4)with rfl|rfl|rfl|rfl|rfl<;>exact⟨_,rfl⟩
 clear hx4 hf4 hc4 hr4 HC3 HR0 HRF HF3 HX3 HF0 HF4;go_wp2_with fail;have hd:=a5b (W:=w4) (g:=w.1.size+1) (a:=.bool b) (b:=.int .i64 h) (c:=.int .i64 m) (d:=.int .i64 c) (e:=.int .i64 e) HOLD.out;have d0:=hd 0 om;have d1:=hd 1 om;have d2:=hd 2 om;have d3:=hd 3 om;have d4:=hd 4 om;simp at d0 d1 d2 d3 d4;have hG:g<w.1.size+1:=by have:=HZ.out.2;omega
 refine bodyPost_ret (v:=aoy b h m c e) (by simp[results,results138,go_sem,d0,d1,d2,d3,d4]) rfl ⟨rfl,?_,?_⟩
 ·exact((((HX4.out.far hG).far hG).far hG).far hG).far hG
 ·exact((((HF5.out.put (Nat.le_succ _)).put (Nat.le_succ _)).put (Nat.le_succ _)).put (Nat.le_succ _)).put (Nat.le_succ _)
theorem au1 {g:Nat} {s t:Rd} {n:Int} {w:World} (ht:Hid (zm 0 8 s=(n,t))) (hp:qw g s w):Calls Tryz.prog 139 #[bju g] w (jp g (.int .i64 n) t w):=by
 obtain⟨a,s1,ha⟩:∃a s1,Hid (qu s=(a,s1)):=⟨_,_,rfl⟩;obtain⟨hw1,hw2,hw3⟩:=ajm (lo:=0) (hi:=8) ha.out;have ht:=ht.out;have hgl:=hp.lt;have hb0:=qa w (aa6 g);have HP:=hid (hp.keep hb0);have HF0:Hid (Frm g kw w (w.alloc (aa6 g))):=Frm.of_below hb0;have p0:=ank w g;have HP0:=hid p0;have HZ:Hid (g<w.1.size∧w.1.size<(w.alloc (aa6 g)).1.size):=⟨hgl,by simp⟩;clear hp hb0 hgl;rcases ao6 a with⟨hb,h1⟩|⟨hz,h1,⟨h2,hb⟩|⟨h2,hb⟩|⟨h2,h3,hb,hv⟩⟩
 ·have e:=hw1 hb;rw[e]at ht;injection ht with e1 e2
  subst e1 e2;clear e hw1 hw2 hw3 hb;have i1:((a.size:Int)==1)=false:=by rw[beq_eq_false_iff_ne];omega
  go_enter func139,ntmps139;go_wp2_with fail;generalize hW0:w.alloc (aa6 g)=W0 at *;refine(zb ha HP.out).mono ?_;rintro r w1 ⟨rfl,hx,hf⟩;have HX:=hid hx;have HF:=hid (HF0.out.step hf);have p1:=(qi hf (b:=w.1.size) HZ.out.2 (by have:=HZ.out.1;omega) 0).trans HP0.out;clear hx hf HP HF0;go_wp2_with fail;refine(xi rfl HX.out).mono ?_;rintro r w2 ⟨rfl,hx2,hf2⟩;have HX2:=hid hx2;have HF2:=hid (HF.out.step hf2);clear hx2 hf2;go_wp2_with fail;go_ret;exact⟨rfl,HX2.out,HF2.out⟩
 ·have e:=hw1 hb;rw[e]at ht;injection ht with e1 e2
  subst e1 e2;clear e hw1 hw2 hw3 hb;have i1:((a.size:Int)==1)=true:=by rw[beq_iff_eq];omega
  have i2:((a[0].toNat:Nat):Int)<48:=by omega
  go_enter func139,ntmps139;go_wp2_with fail;generalize hW0:w.alloc (aa6 g)=W0 at *;refine(zb ha HP.out).mono ?_;rintro r w1 ⟨rfl,hx,hf⟩;have HX:=hid hx;have HF:=hid (HF0.out.step hf);have p1:=(qi hf (b:=w.1.size) HZ.out.2 (by have:=HZ.out.1;omega) 0).trans HP0.out;clear hx hf HP HF0;go_wp2_with fail;refine(xi rfl HX.out).mono ?_;rintro r w2 ⟨rfl,hx2,hf2⟩;have HX2:=hid hx2;have HF2:=hid (HF.out.step hf2);clear hx2 hf2;go_wp2_with fail;go_ret;exact⟨rfl,HX2.out,HF2.out⟩
 ·have e:=hw1 hb;rw[e]at ht;injection ht with e1 e2
  subst e1 e2;clear e hw1 hw2 hw3 hb;have i1:((a.size:Int)==1)=true:=by rw[beq_iff_eq];omega
  have i2:(48:Int) ≤((a[0].toNat:Nat):Int):=by omega
  have i3:(57:Int)<((a[0].toNat:Nat):Int):=by omega
  go_enter func139,ntmps139;go_wp2_with fail;generalize hW0:w.alloc (aa6 g)=W0 at *;refine(zb ha HP.out).mono ?_;rintro r w1 ⟨rfl,hx,hf⟩;have HX:=hid hx;have HF:=hid (HF0.out.step hf);have p1:=(qi hf (b:=w.1.size) HZ.out.2 (by have:=HZ.out.1;omega) 0).trans HP0.out;clear hx hf HP HF0;go_wp2_with fail;refine(xi rfl HX.out).mono ?_;rintro r w2 ⟨rfl,hx2,hf2⟩;have HX2:=hid hx2;have HF2:=hid (HF.out.step hf2);clear hx2 hf2;go_wp2_with fail;go_ret;exact⟨rfl,HX2.out,HF2.out⟩
 ·have i1:((a.size:Int)==1)=true:=by rw[beq_iff_eq];omega
  have i2:(48:Int) ≤((a[0].toNat:Nat):Int):=by omega
  have i3:((a[0].toNat:Nat):Int)≤57:=by omega
  rw[hv]at hw2 hw3
  by_cases hq:(a[0].toNat:Int)-48<0∨8<(a[0].toNat:Int)-48
  ·have e:=hw2 hb hq;rw[e]at ht;injection ht with e1 e2
   subst e1 e2;have q2:56<(a[0].toNat:Int):=by omega
   clear e hw1 hw2 hw3 hb hv hq;go_enter func139,ntmps139;go_wp2_with fail;generalize hW0:w.alloc (aa6 g)=W0 at *;refine(zb ha HP.out).mono ?_;rintro r w1 ⟨rfl,hx,hf⟩;have HX:=hid hx;have HF:=hid (HF0.out.step hf);have p1:=(qi hf (b:=w.1.size) HZ.out.2 (by have:=HZ.out.1;omega) 0).trans HP0.out;clear hx hf HP HF0;go_wp2_with fail;refine(xi rfl HX.out).mono ?_;rintro r w2 ⟨rfl,hx2,hf2⟩;have HX2:=hid hx2;have HF2:=hid (HF.out.step hf2);clear hx2 hf2;go_wp2_with fail;go_ret;exact⟨rfl,HX2.out,HF2.out⟩
  ·have e:=hw3 hb hq;rw[e]at ht;injection ht with e1 e2
   subst e1 e2;have q2:(a[0].toNat:Int)≤56:=by omega
   clear e hw1 hw2 hw3 hb hv hq;go_enter func139,ntmps139;go_wp2_with fail;generalize hW0:w.alloc (aa6 g)=W0 at *;refine(zb ha HP.out).mono ?_;rintro r w1 ⟨rfl,hx,hf⟩;have HX:=hid hx;have HF:=hid (HF0.out.step hf);have p1:=(qi hf (b:=w.1.size) HZ.out.2 (by have:=HZ.out.1;omega) 0).trans HP0.out;clear hx hf HP HF0;go_wp2_with fail;go_ret;exact⟨rfl,HX.out,HF.out⟩
theorem amg {g:Nat} {s t:Rd} {b:Bool} {n:Int} {w:World} (ht:Hid (ky ⟨#[77]⟩ b s=t)) (hp:qw g s w):Calls Tryz.prog 143 #[bju g,ji b n] w (jp g (.tuple #[]) t w):=by
 obtain⟨a,s1,ha⟩:∃a s1,Hid (qu s=(a,s1)):=⟨_,_,rfl⟩
 have ht2:t=if a ≠⟨#[77]⟩ ∧(b=true∨a≠ByteArray.empty)then xm 3 s1 else s1:=by
  have q:=ht.out;unfold ky at q;rw[ha.out]at q;exact q.symm
 have hways:=atx a ⟨#[77]⟩ b s1;rw[← ht2,show (⟨#[77]⟩:ByteArray).toList=[77]by rw[ByteArray.toList_eq]]at hways;have hgl:=hp.lt;have hb0:=qa w (aa6 g);have hb1:=qa (w.alloc (aa6 g)) (.cells #[.bool b,.int .i64 n] 42);have hz0:(w.alloc (aa6 g)).1.size=w.1.size+1:=by simp
 have HP:=hid ((hp.keep hb0).keep hb1);have HF0:Hid (Frm g kw w ((w.alloc (aa6 g)).alloc (.cells #[.bool b,.int .i64 n] 42))):=Frm.of_below (qb hb0 hb1);have p0:((w.alloc (aa6 g)).alloc (.cells #[.bool b,.int .i64 n] 42)).cell? ⟨w.1.size,0,none⟩=some (.pointer (some ⟨g,0,none⟩)):=(World.cell?_alloc_past _ _ _ sm).trans (ank w g);have HP0:=hid p0;have HN0:Hid (((w.alloc (aa6 g)).alloc (.cells #[.bool b,.int .i64 n] 42)).cell? ⟨w.1.size+1,0,none⟩=some (.bool b)):=World.cell?_alloc_at _ _ _ _ hz0.symm;have HZ:Hid (g<w.1.size∧w.1.size<((w.alloc (aa6 g)).alloc (.cells #[.bool b,.int .i64 n] 42)).1.size):=⟨hgl,by simp;omega⟩;have HZN:Hid (w.1.size+1<((w.alloc (aa6 g)).alloc (.cells #[.bool b,.int .i64 n] 42)).1.size):=by show _<_;simp
 clear hp hb0 hb1 hz0 hgl ht2 ht;rcases hways with⟨k1,hq⟩|⟨k1,kb,hq⟩|⟨k1,kb,k2,hq⟩|⟨k1,kb,k2,hq⟩
 ·subst hq;go_enter func143,ntmps143;go_wp2_with fail;generalize hW0:(w.alloc (aa6 g)).alloc (.cells #[.bool b,.int .i64 n] 42)=W0 at *;refine(zb ha HP.out).mono ?_;rintro r w1 ⟨rfl,hx,hf⟩;have HX:=hid hx;have HF:=hid (HF0.out.step hf);have p1:=(qi hf (b:=w.1.size) HZ.out.2 (by have:=HZ.out.1;omega) 0).trans HP0.out;have n1:=(qi hf (b:=w.1.size+1) HZN.out (by have:=HZ.out.1;omega) 0).trans HN0.out;clear hx hf HP HF0;go_wp2_with fail
  go_end0
  exact⟨rfl,HX.out,HF.out⟩
 ·subst kb hq;go_enter func143,ntmps143;go_wp2_with fail;generalize hW0:(w.alloc (aa6 g)).alloc (.cells #[.bool true,.int .i64 n] 42)=W0 at *;refine(zb ha HP.out).mono ?_;rintro r w1 ⟨rfl,hx,hf⟩;have HX:=hid hx;have HF:=hid (HF0.out.step hf);have p1:=(qi hf (b:=w.1.size) HZ.out.2 (by have:=HZ.out.1;omega) 0).trans HP0.out;have n1:=(qi hf (b:=w.1.size+1) HZN.out (by have:=HZ.out.1;omega) 0).trans HN0.out;clear hx hf HP HF0;go_wp2_with fail;refine(xi rfl HX.out).mono ?_;rintro r w2 ⟨rfl,hx2,hf2⟩;have HX2:=hid hx2;have HF2:=hid (HF.out.step hf2);clear hx2 hf2;go_wp2_with fail
  go_end0
  exact⟨rfl,HX2.out,HF2.out⟩
 ·subst kb hq;go_enter func143,ntmps143;go_wp2_with fail;generalize hW0:(w.alloc (aa6 g)).alloc (.cells #[.bool false,.int .i64 n] 42)=W0 at *;refine(zb ha HP.out).mono ?_;rintro r w1 ⟨rfl,hx,hf⟩;have HX:=hid hx;have HF:=hid (HF0.out.step hf);have p1:=(qi hf (b:=w.1.size) HZ.out.2 (by have:=HZ.out.1;omega) 0).trans HP0.out;have n1:=(qi hf (b:=w.1.size+1) HZN.out (by have:=HZ.out.1;omega) 0).trans HN0.out;clear hx hf HP HF0;go_wp2_with fail;refine(xi rfl HX.out).mono ?_;rintro r w2 ⟨rfl,hx2,hf2⟩;have HX2:=hid hx2;have HF2:=hid (HF.out.step hf2);clear hx2 hf2;go_wp2_with fail
  go_end0
  exact⟨rfl,HX2.out,HF2.out⟩
 ·subst kb hq;go_enter func143,ntmps143;go_wp2_with fail;generalize hW0:(w.alloc (aa6 g)).alloc (.cells #[.bool false,.int .i64 n] 42)=W0 at *;refine(zb ha HP.out).mono ?_;rintro r w1 ⟨rfl,hx,hf⟩;have HX:=hid hx;have HF:=hid (HF0.out.step hf);have p1:=(qi hf (b:=w.1.size) HZ.out.2 (by have:=HZ.out.1;omega) 0).trans HP0.out;have n1:=(qi hf (b:=w.1.size+1) HZN.out (by have:=HZ.out.1;omega) 0).trans HN0.out;clear hx hf HP HF0;go_wp2_with fail
  go_end0
  exact⟨rfl,HX.out,HF.out⟩
abbrev blc (g:axh):Value:=bgp g.1.1 g.1.2.1 g.1.2.2.1 g.1.2.2.2.1 g.1.2.2.2.2 g.2.1.1 g.2.1.2 g.2.2.1.1 g.2.2.1.2 g.2.2.2.1 g.2.2.2.2.1.1 g.2.2.2.2.1.2 g.2.2.2.2.2.1.1 g.2.2.2.2.2.1.2 g.2.2.2.2.2.2.1.1 g.2.2.2.2.2.2.1.2 g.2.2.2.2.2.2.2.1.1 g.2.2.2.2.2.2.2.1.2 g.2.2.2.2.2.2.2.2.1.1 g.2.2.2.2.2.2.2.2.1.2 g.2.2.2.2.2.2.2.2.2.1 g.2.2.2.2.2.2.2.2.2.2
def ajy (x:axh×Int) (w:World) (r:Ending) (w':World):Prop:=r=.returned (.tuple #[blc x.1,.int .i64 x.2])∧Below w.1.size w w'
theorem ags:(Tryz.prog.info? 44).map (·.size)=some 22:=by kernel_rfl
theorem azx {w:World} {R:Nat} {C:Array Value} (h:AtC w R C):w.rangeAt R 0 C.toList:=fun j v hv=>by rw[Nat.zero_add,h j];simpa using hv
theorem aae {w:World} {R:Nat} {C:Array Value} (h:AtC w R C) (hf:∀j,w.frozen? ⟨R,j,none⟩=false) {n:Nat} (hn:n=C.size):w.there R 0 n:=fun j hj=>by
 rw[Nat.zero_add,h j,hf j];exact⟨by simp;omega,rfl⟩
theorem aao {B R:Nat} {a:World} (hR:B≤R):∀(vs:List Value) (o:Nat) (w:World),Below B a w→Below B a (w.setCells R o vs)
 | [],_,_,h=>h
 | v::r,o,w,h=>by
  rw[World.setCells];exact aao hR r (o+1) _ (qt h hR)
theorem ape {w:World} {b:Nat} {C:Array Value} (hC:C.size=22) (h:w.rangeAt b 0 C.toList):(loadVar 44 ⟨b,0,none⟩).run Tryz.prog w=.ok (.agg C) w:=by
 have:=run_loadVar_mid (P:=Tryz.prog) w b 0 44 C.toList _ h underlying44 rfl (by rw[ags];simp[hC])
 simpa using this
theorem zf {g M:Nat} {s:Rd} {C:Array Value} {W w:World} (h:TkI (qw g s) g M C W w) (o:Nat) (u:Value) (ho:o<C.size):TkI (qw g s) g M (C.setIfInBounds o u) W (w.setCell ⟨M,o,none⟩ u):=h.put ho (h.x.far h.gm)
theorem aai {g M:Nat} {s:Rd} {C:Array Value} {W w:World} (h:TkI (qw g s) g M C W w) (C':Array Value) (e:C=C'):Hid (TkI (qw g s) g M C' W w):=by subst e;exact h
theorem a8r {R:List ByteArray} {cb:Bool} {ch:Int} {cm:Int} {cs:Int} {cc:Int} {lb:Bool} {ln:Int} {ob:Bool} {on:Int} {q:Int} {sb:Bool} {sn:Int} {hb:Bool} {hn:Int} {ab:Bool} {an:Int} {gb:Bool} {gn:Int} {eb:Bool} {en:Int} {tb:Bool} {tn:Int} {r1 r2 r3 r4 r5 r6 r7 r8 r9 r10 r11 r12:Rd} (hl:R.length=14) (h1:Hid (air (0,R)=((cb,ch,cm,cs,cc),r1))) (h2:Hid (acz true r1=((lb,ln),r2))) (h3:Hid (acz false r2=((ob,on),r3))) (h4:Hid (zm 0 8 r3=(q,r4))) (h5:Hid (qs 1 2 0 0 99 r4=((sb,sn),r5))) (h6:Hid (qs 1 3 2 0 99999 r5=((hb,hn),r6))) (h7:Hid (qs 1 6 1 (-9999999) 9999999 r6=((ab,an),r7))) (h8:Hid (ky ⟨#[77]⟩ ab r7=r8)) (h9:Hid (qs 1 4 1 (-99999) 99999 r8=((gb,gn),r9))) (h10:Hid (ky ⟨#[77]⟩ gb r9=r10)) (h11:Hid (qs 1 4 1 0 99999 r10=((eb,en),r11))) (h12:Hid (qs 1 4 0 0 1023 r11=((tb,tn),r12))) :
 vv R=if r12.1=0 then(((cb,ch,cm,cs,cc),(lb,ln),(ob,on),q,(sb,sn),(hb,hn),(ab,an),(gb,gn),(eb,en),(tb,tn)),0)else(ys,r12.1):=by
 have c7:vr bjo r6=((ab,an),r8):=by unfold vr bjo;simp only;rw[h7.out];simp only;rw[h8.out]
 have c9:vr bjw r8=((gb,gn),r10):=by unfold vr bjw;simp only;rw[h9.out];simp only;rw[h10.out]
 have hR:bcv (0,R)=(((cb,ch,cm,cs,cc),(lb,ln),(ob,on),q,(sb,sn),(hb,hn),(ab,an),(gb,gn),(eb,en),(tb,tn)),r12):=by
  unfold bcv;simp only[agh,h1.out,h2.out,h3.out,h4.out,h5.out,h6.out,c7,c9,h11.out,h12.out]
 unfold vv;rw[if_neg (fun q=>q hl),hR]
theorem a3v (A:Option Addr) (n c:Nat) (R:List ByteArray) (w:World) (hl:R.length=n) (hA:A=none→c=0) (hs:vg w w.1.size A R) (hz:∀t∈R,t.size≤1000000) (hkn:Hid (n=14)) :
 Calls Tryz.prog 102 #[.slice A n c] w (ajy (vv R) w):=by
 obtain⟨cb,ch,cm,cs,cc,r1,h1⟩:∃cb ch cm cs cc u,Hid (air (0,R)=((cb,ch,cm,cs,cc),u)):=⟨_,_,_,_,_,_,rfl⟩;obtain⟨lb,ln,r2,h2⟩:∃lb ln u,Hid (acz true r1=((lb,ln),u)):=⟨_,_,_,rfl⟩;obtain⟨ob,on,r3,h3⟩:∃ob on u,Hid (acz false r2=((ob,on),u)):=⟨_,_,_,rfl⟩;obtain⟨q,r4,h4⟩:∃q u,Hid (zm 0 8 r3=(q,u)):=⟨_,_,rfl⟩;obtain⟨sb,sn,r5,h5⟩:∃sb sn u,Hid (qs 1 2 0 0 99 r4=((sb,sn),u)):=⟨_,_,_,rfl⟩;obtain⟨hb,hn,r6,h6⟩:∃hb hn u,Hid (qs 1 3 2 0 99999 r5=((hb,hn),u)):=⟨_,_,_,rfl⟩;obtain⟨ab,an,r7,h7⟩:∃ab an u,Hid (qs 1 6 1 (-9999999) 9999999 r6=((ab,an),u)):=⟨_,_,_,rfl⟩;obtain⟨r8,h8⟩:∃u,Hid (ky ⟨#[77]⟩ ab r7=u):=⟨_,rfl⟩;obtain⟨gb,gn,r9,h9⟩:∃gb gn u,Hid (qs 1 4 1 (-99999) 99999 r8=((gb,gn),u)):=⟨_,_,_,rfl⟩;obtain⟨r10,h10⟩:∃u,Hid (ky ⟨#[77]⟩ gb r9=u):=⟨_,rfl⟩;obtain⟨eb,en,r11,h11⟩:∃eb en u,Hid (qs 1 4 1 0 99999 r10=((eb,en),u)):=⟨_,_,_,rfl⟩
 obtain⟨tb,tn,r12,h12⟩:∃tb tn u,Hid (qs 1 4 0 0 1023 r11=((tb,tn),u)):=⟨_,_,_,rfl⟩;obtain⟨X,hX⟩:∃X,vv R=X:=⟨_,rfl⟩;have HT:Hid (X=if r12.1=0 then(((cb,ch,cm,cs,cc),(lb,ln),(ob,on),q,(sb,sn),(hb,hn),(ab,an),(gb,gn),(eb,en),(tb,tn)),0)else(ys,r12.1)):=hX.symm.trans (a8r (by rw[hl];exact hkn.out) h1 h2 h3 h4 h5 h6 h7 h8 h9 h10 h11 h12);rw[hX];clear hX;have HB0:=hid (qa w (.cells (j4 false 0 0 0 0 false 0 false 0 0 false 0 false 0 false 0 false 0 false 0 false 0) 44));have HL:=hid (akb (c:=c) hA ((hs.below HB0.out (Nat.le_refl _)).more HB0.out.size) (by have:=hkn.out;omega) hz);rw[hl]at HL;have hR0:∀o,(w.alloc (.cells (j4 false 0 0 0 0 false 0 false 0 0 false 0 false 0 false 0 false 0 false 0 false 0) 44)).cell? ⟨w.1.size,o,none⟩=(j4 false 0 0 0 0 false 0 false 0 0 false 0 false 0 false 0 false 0 false 0 false 0)[o]?:=fun o=>World.cell?_alloc_at _ _ _ _ rfl
 have hR1:∀o,(w.alloc (.cells (j4 false 0 0 0 0 false 0 false 0 0 false 0 false 0 false 0 false 0 false 0 false 0) 44)).frozen? ⟨w.1.size,o,none⟩=false:=fun o=>by rw[frozen?_alloc_cells];exact qj _ _ _ (Nat.le_refl _)
 have HR0:=hid hR0;have HR1:=hid hR1;have HZ0:Hid ((w.alloc (.cells (j4 false 0 0 0 0 false 0 false 0 0 false 0 false 0 false 0 false 0 false 0 false 0) 44)).1.size=w.1.size+1):=by show _=_;simp
 have i14:((n:Int) != 14)=false:=by have:=hkn.out;rw[bne_eq_false_iff_eq];omega
 clear hs hA hz hR0 hR1 hl;go_enter func102,ntmps102
 try dsimp only
 repeat (fail_if_success (show Code.wp _ (Code.seq (Code.region 1 _ _) _) _ _ _)
         first|go_values|go_skip|go_guarded|go_step|go_upon|go_back|(simp only[Int.not_lt,Int.not_le]at *;go_simp)|(go_ite<;>go_prune<;>(try go_simp)))
 go_cut [] (fun wx=>wx=w.alloc (.cells (j4 false 0 0 0 0 false 0 false 0 0 false 0 false 0 false 0 false 0 false 0 false 0) 44))
 case first=>
  go_wp2_with fail
  go_meet
  rfl
 case rest=>
 subst hcut;generalize hW0:w.alloc (.cells (j4 false 0 0 0 0 false 0 false 0 0 false 0 false 0 false 0 false 0 false 0 false 0) 44)=W0 at *;clear hW0;go_wp2_with fail;refine HL.out.mono ?_;rintro r w1 ⟨g,rfl,hx1,hg1,hz1,hb1⟩;have HX1:=hid hx1;have HB1:=hid hb1;have HG1:=hid hg1;clear hx1 hb1 hg1 hz1 HL;have p1:=ank w1 g
 try dsimp only
 repeat (fail_if_success (show Code.wp _ (Code.seq (Code.region 5 _ _) _) _ _ _)
         first|go_values|go_skip|go_guarded|go_step|go_upon|go_back|(simp only[Int.not_lt,Int.not_le]at *;go_simp)|(go_ite<;>go_prune<;>(try go_simp)))
 generalize hWP:w1.alloc (aa6 g)=WP at *
 go_quiet (fail)
 try dsimp only
 repeat (fail_if_success (show Code.wp _ (Code.seq (Code.region 5 _ _) _) _ _ _)
         first|go_values|go_skip|go_guarded|go_step|go_upon|go_back|(simp only[Int.not_lt,Int.not_le]at *;go_simp)|(go_ite<;>go_prune<;>(try go_simp)))
 have hz0:=HZ0.out;have hg1:=HG1.out;have hb1s:=HB1.out.size;have hgl:=HX1.out.lt;have hbP:=qa w1 (aa6 g);have hzP:(w1.alloc (aa6 g)).1.size=w1.1.size+1:=by simp
 rw[hWP]at hbP hzP;have hbQ:Below w1.1.size w1 (WP.drewN nq):=abl hbP nq;have hzQ:(WP.drewN nq).1.size=w1.1.size+1:=hzP;have pQ:(WP.drewN nq).cell? ⟨w1.1.size,0,none⟩=some (.pointer (some ⟨g,0,none⟩)):=p1;generalize WP.drewN nq=WQ at *;have hbM:=qa WQ (.cells (j4 false 0 0 0 0 false 0 false 0 0 false 0 false 0 false 0 false 0 false 0 false 0) 44)
 have T0:Hid (TkI (qw g (0,R)) g WQ.1.size (j4 false 0 0 0 0 false 0 false 0 0 false 0 false 0 false 0 false 0 false 0 false 0) (WQ.alloc (.cells (j4 false 0 0 0 0 false 0 false 0 0 false 0 false 0 false 0 false 0 false 0 false 0) 44)) (WQ.alloc (.cells (j4 false 0 0 0 0 false 0 false 0 0 false 0 false 0 false 0 false 0 false 0 false 0) 44))):=
  ⟨(HX1.out.keep hbQ).keep hbM,fun j=>World.cell?_alloc_at _ _ _ _ rfl,fun j=>by rw[frozen?_alloc_cells];exact qj _ _ _ (Nat.le_refl _),by omega,by simp,rfl,rfl,rfl,Nat.le_refl _,fun _ _ _ _=>rfl⟩
 have HPP:Hid ((WQ.alloc (.cells (j4 false 0 0 0 0 false 0 false 0 0 false 0 false 0 false 0 false 0 false 0 false 0) 44)).cell? ⟨w1.1.size,0,none⟩=some (.pointer (some ⟨g,0,none⟩))):=(World.cell?_alloc_past _ _ _ (by show _<_;omega)).trans pQ;have hbB:Below W0.1.size W0 (WQ.alloc (.cells (j4 false 0 0 0 0 false 0 false 0 0 false 0 false 0 false 0 false 0 false 0 false 0) 44)):=qb HB1.out (qb hbQ hbM)
 have HRW:Hid ((∀o,(WQ.alloc (.cells (j4 false 0 0 0 0 false 0 false 0 0 false 0 false 0 false 0 false 0 false 0 false 0) 44)).cell? ⟨w.1.size,o,none⟩=(j4 false 0 0 0 0 false 0 false 0 0 false 0 false 0 false 0 false 0 false 0 false 0)[o]?) ∧(∀o,(WQ.alloc (.cells (j4 false 0 0 0 0 false 0 false 0 0 false 0 false 0 false 0 false 0 false 0 false 0) 44)).frozen? ⟨w.1.size,o,none⟩=false)∧Below w.1.size w (WQ.alloc (.cells (j4 false 0 0 0 0 false 0 false 0 0 false 0 false 0 false 0 false 0 false 0 false 0) 44))):=
  ⟨fun o=>((qx hbB).1 _ o om).trans (HR0.out o),fun o=>((qx hbB).2 _ o om).trans (HR1.out o),Below.trans HB0.out (hbB.mono om)⟩
 have HLT:Hid (w.1.size<g∧g<w1.1.size∧w1.1.size<WQ.1.size∧WQ.1.size<(WQ.alloc (.cells (j4 false 0 0 0 0 false 0 false 0 0 false 0 false 0 false 0 false 0 false 0 false 0) 44)).1.size):=⟨by omega,by omega,by omega,by simp⟩;clear hz0 hg1 hb1s hgl hbP hzP hbQ hzQ hbM hbB pQ p1 HX1 HB1 HG1 HR0 HR1 HZ0 HB0 hWP;go_upto_region 6 with fail;generalize hW:WQ.alloc (.cells (j4 false 0 0 0 0 false 0 false 0 0 false 0 false 0 false 0 false 0 false 0 false 0) 44)=W at *;clear hW;generalize WQ.1.size=M at *;generalize w1.1.size=P at *;have HP:Hid (∀(X:World→Prop) C' wr,TkI X g M C' W wr→wr.cell? ⟨P,0,none⟩=some (.pointer (some ⟨g,0,none⟩))):=fun X C' wr hk=>(hk.cell (by have:=HLT.out;omega) (by have:=HLT.out;omega) (by have:=HLT.out;omega)).trans HPP.out
 have HT1:=T0;clear T0 HPP;have p_:=HP.out _ _ _ HT1.out;go_wp2_with fail;refine(ay1 h1 HT1.out.x).mono ?_;rintro r x1 ⟨rfl,hx,hf⟩;have HT2:=hid (HT1.out.frm hx hf);clear hx hf HT1;clear p_;have m0:=HT2.out.c 0;have z0:=HT2.out.z 0;have m1:=HT2.out.c 1;have z1:=HT2.out.z 1;have m2:=HT2.out.c 2;have z2:=HT2.out.z 2;have m3:=HT2.out.c 3;have z3:=HT2.out.z 3;have m4:=HT2.out.c 4;have z4:=HT2.out.z 4;go_upto_region 7 with fail;have HT1:=aai (zf (zf (zf (zf (zf HT2.out 0 (.bool cb) sm) 1 (.int .i64 ch) sm) 2 (.int .i64 cm) sm) 3 (.int .i64 cs) sm) 4 (.int .i64 cc) sm) (j4 cb ch cm cs cc false 0 false 0 0 false 0 false 0 false 0 false 0 false 0 false 0) rfl;clear HT2 m0 z0 m1 z1 m2 z2 m3 z3 m4 z4;generalize (((((x1.setCell ⟨M,0,none⟩ (.bool cb)).setCell ⟨M,1,none⟩ (.int .i64 ch)).setCell ⟨M,2,none⟩ (.int .i64 cm)).setCell ⟨M,3,none⟩ (.int .i64 cs)).setCell ⟨M,4,none⟩ (.int .i64 cc))=y1 at *
 go_wp2_with fail;refine(auo h2 HT1.out.x).mono ?_;rintro r x2 ⟨rfl,hx,hf⟩;have HT2:=hid (HT1.out.frm hx hf);clear hx hf HT1;have m0:=HT2.out.c 5;have z0:=HT2.out.z 5;have m1:=HT2.out.c 6;have z1:=HT2.out.z 6;go_upto_region 8 with fail;have HT1:=aai (zf (zf HT2.out 5 (.bool lb) sm) 6 (.int .i64 ln) sm) (j4 cb ch cm cs cc lb ln false 0 0 false 0 false 0 false 0 false 0 false 0 false 0) rfl;clear HT2 m0 z0 m1 z1;generalize ((x2.setCell ⟨M,5,none⟩ (.bool lb)).setCell ⟨M,6,none⟩ (.int .i64 ln))=y2 at *;go_wp2_with fail;refine(auo h3 HT1.out.x).mono ?_;rintro r x3 ⟨rfl,hx,hf⟩;have HT2:=hid (HT1.out.frm hx hf);clear hx hf HT1;have m0:=HT2.out.c 7;have z0:=HT2.out.z 7;have m1:=HT2.out.c 8;have z1:=HT2.out.z 8;go_upto_region 9 with fail;have HT1:=aai (zf (zf HT2.out 7 (.bool ob) sm) 8 (.int .i64 on) sm) (j4 cb ch cm cs cc lb ln ob on 0 false 0 false 0 false 0 false 0 false 0 false 0) rfl
 clear HT2 m0 z0 m1 z1;generalize ((x3.setCell ⟨M,7,none⟩ (.bool ob)).setCell ⟨M,8,none⟩ (.int .i64 on))=y3 at *;have p_:=HP.out _ _ _ HT1.out;go_wp2_with fail;refine(au1 h4 HT1.out.x).mono ?_;rintro r x4 ⟨rfl,hx,hf⟩;have HT2:=hid (HT1.out.frm hx hf);clear hx hf HT1;clear p_;have m0:=HT2.out.c 9;have z0:=HT2.out.z 9;go_upto_region 10 with fail;have HT1:=aai (zf HT2.out 9 (.int .i64 q) sm) (j4 cb ch cm cs cc lb ln ob on q false 0 false 0 false 0 false 0 false 0 false 0) rfl;clear HT2 m0 z0;generalize (x4.setCell ⟨M,9,none⟩ (.int .i64 q))=y4 at *;go_wp2_with fail;refine(ay0 _).mono ?_;rintro r x_ ⟨rfl,hb⟩;have HT2:=hid (HT1.out.keep (Y:=qw g r4) (HT1.out.x.keep hb) hb);clear hb HT1;have HT1:=HT2;clear HT2;go_wp2_with fail;refine(j6 h5 HT1.out.x).mono ?_;rintro r x5 ⟨rfl,hx,hf⟩;have HT2:=hid (HT1.out.frm hx hf);clear hx hf HT1;have m0:=HT2.out.c 10;have z0:=HT2.out.z 10
 have m1:=HT2.out.c 11;have z1:=HT2.out.z 11;go_upto_region 11 with fail;have HT1:=aai (zf (zf HT2.out 10 (.bool sb) sm) 11 (.int .i64 sn) sm) (j4 cb ch cm cs cc lb ln ob on q sb sn false 0 false 0 false 0 false 0 false 0) rfl;clear HT2 m0 z0 m1 z1;generalize ((x5.setCell ⟨M,10,none⟩ (.bool sb)).setCell ⟨M,11,none⟩ (.int .i64 sn))=y5 at *;go_wp2_with fail;refine(ayz _).mono ?_;rintro r x_ ⟨rfl,hb⟩;have HT2:=hid (HT1.out.keep (Y:=qw g r5) (HT1.out.x.keep hb) hb);clear hb HT1;have HT1:=HT2;clear HT2;go_wp2_with fail;refine(j6 h6 HT1.out.x).mono ?_;rintro r x6 ⟨rfl,hx,hf⟩;have HT2:=hid (HT1.out.frm hx hf);clear hx hf HT1;have m0:=HT2.out.c 12;have z0:=HT2.out.z 12;have m1:=HT2.out.c 13;have z1:=HT2.out.z 13;go_upto_region 12 with fail;have HT1:=aai (zf (zf HT2.out 12 (.bool hb) sm) 13 (.int .i64 hn) sm) (j4 cb ch cm cs cc lb ln ob on q sb sn hb hn false 0 false 0 false 0 false 0) rfl
 clear HT2 m0 z0 m1 z1;generalize ((x6.setCell ⟨M,12,none⟩ (.bool hb)).setCell ⟨M,13,none⟩ (.int .i64 hn))=y6 at *;go_wp2_with fail;refine(a3x _).mono ?_;rintro r x_ ⟨rfl,hb⟩;have HT2:=hid (HT1.out.keep (Y:=qw g r6) (HT1.out.x.keep hb) hb);clear hb HT1;have HT1:=HT2;clear HT2;go_wp2_with fail;refine(j6 h7 HT1.out.x).mono ?_;rintro r x7 ⟨rfl,hx,hf⟩;have HT2:=hid (HT1.out.frm hx hf);clear hx hf HT1;have m0:=HT2.out.c 14;have z0:=HT2.out.z 14;have m1:=HT2.out.c 15;have z1:=HT2.out.z 15;go_upto_region 13 with fail;have HT1:=aai (zf (zf HT2.out 14 (.bool ab) sm) 15 (.int .i64 an) sm) (j4 cb ch cm cs cc lb ln ob on q sb sn hb hn ab an false 0 false 0 false 0) rfl;clear HT2 m0 z0 m1 z1;generalize ((x7.setCell ⟨M,14,none⟩ (.bool ab)).setCell ⟨M,15,none⟩ (.int .i64 an))=y7 at *;have p_:=HP.out _ _ _ HT1.out;have m_0:=HT1.out.c 14;have m_1:=HT1.out.c 15;go_wp2_with fail;refine(amg h8 HT1.out.x).mono ?_
 rintro r x8 ⟨rfl,hx,hf⟩;have HT2:=hid (HT1.out.frm hx hf);clear hx hf HT1;clear p_;clear m_0 m_1;have HT1:=HT2;clear HT2;go_upto_region 14 with fail;go_wp2_with fail;refine(au2 _).mono ?_;rintro r x_ ⟨rfl,hb⟩;have HT2:=hid (HT1.out.keep (Y:=qw g r8) (HT1.out.x.keep hb) hb);clear hb HT1;have HT1:=HT2;clear HT2;go_wp2_with fail;refine(j6 h9 HT1.out.x).mono ?_;rintro r x9 ⟨rfl,hx,hf⟩;have HT2:=hid (HT1.out.frm hx hf);clear hx hf HT1;have m0:=HT2.out.c 16;have z0:=HT2.out.z 16;have m1:=HT2.out.c 17;have z1:=HT2.out.z 17;go_upto_region 15 with fail;have HT1:=aai (zf (zf HT2.out 16 (.bool gb) sm) 17 (.int .i64 gn) sm) (j4 cb ch cm cs cc lb ln ob on q sb sn hb hn ab an gb gn false 0 false 0) rfl;clear HT2 m0 z0 m1 z1;generalize ((x9.setCell ⟨M,16,none⟩ (.bool gb)).setCell ⟨M,17,none⟩ (.int .i64 gn))=y9 at *;have p_:=HP.out _ _ _ HT1.out;have m_0:=HT1.out.c 16;have m_1:=HT1.out.c 17
 go_wp2_with fail;refine(amg h10 HT1.out.x).mono ?_;rintro r x10 ⟨rfl,hx,hf⟩;have HT2:=hid (HT1.out.frm hx hf);clear hx hf HT1;clear p_;clear m_0 m_1;have HT1:=HT2;clear HT2;go_upto_region 16 with fail;go_wp2_with fail;refine(a3w _).mono ?_;rintro r x_ ⟨rfl,hb⟩;have HT2:=hid (HT1.out.keep (Y:=qw g r10) (HT1.out.x.keep hb) hb);clear hb HT1;have HT1:=HT2;clear HT2;go_wp2_with fail;refine(j6 h11 HT1.out.x).mono ?_;rintro r x11 ⟨rfl,hx,hf⟩;have HT2:=hid (HT1.out.frm hx hf);clear hx hf HT1;have m0:=HT2.out.c 18;have z0:=HT2.out.z 18;have m1:=HT2.out.c 19;have z1:=HT2.out.z 19;go_upto_region 17 with fail;have HT1:=aai (zf (zf HT2.out 18 (.bool eb) sm) 19 (.int .i64 en) sm) (j4 cb ch cm cs cc lb ln ob on q sb sn hb hn ab an gb gn eb en false 0) rfl;clear HT2 m0 z0 m1 z1;generalize ((x11.setCell ⟨M,18,none⟩ (.bool eb)).setCell ⟨M,19,none⟩ (.int .i64 en))=y11 at *;go_wp2_with fail
 refine(a8s _).mono ?_;rintro r x_ ⟨rfl,hb⟩;have HT2:=hid (HT1.out.keep (Y:=qw g r11) (HT1.out.x.keep hb) hb);clear hb HT1;have HT1:=HT2;clear HT2;go_wp2_with fail;refine(j6 h12 HT1.out.x).mono ?_;rintro r x12 ⟨rfl,hx,hf⟩;have HT2:=hid (HT1.out.frm hx hf);clear hx hf HT1;have m0:=HT2.out.c 20;have z0:=HT2.out.z 20;have m1:=HT2.out.c 21;have z1:=HT2.out.z 21;go_upto_region 18 with fail;have HT1:=aai (zf (zf HT2.out 20 (.bool tb) sm) 21 (.int .i64 tn) sm) (j4 cb ch cm cs cc lb ln ob on q sb sn hb hn ab an gb gn eb en tb tn) rfl;clear HT2 m0 z0 m1 z1;generalize ((x12.setCell ⟨M,20,none⟩ (.bool tb)).setCell ⟨M,21,none⟩ (.int .i64 tn))=y12 at *;generalize y12=y9 at *;obtain⟨E,hE⟩:∃E,r12.1=E:=⟨_,rfl⟩;have HER:=hid (ao8 HT1.out.x);rw[hE]at HER HT;clear hE;have p_:=HP.out _ _ _ HT1.out;have hr:∀j,y9.cell? ⟨w.1.size,j,none⟩=(j4 false 0 0 0 0 false 0 false 0 0 false 0 false 0 false 0 false 0 false 0 false 0)[j]?:=fun j=>(HT1.out.cell (by have:=HLT.out;omega) (by have:=HLT.out;omega) (by have:=HLT.out;omega)).trans (HRW.out.1 j)
 have hf:∀j,y9.frozen? ⟨w.1.size,j,none⟩=false:=fun j=>(HT1.out.frozen (by have:=HLT.out;omega) (by have:=HLT.out;omega) (by have:=HLT.out;omega)).trans (HRW.out.2.1 j)
 have HB9:Hid (Below w.1.size w y9):=Below.trans HRW.out.2.2 (HT1.out.below (by have:=HLT.out;omega) (by have:=HLT.out;omega));have hm:=HT1.out.c;have HR:=hid (show AtC y9 w.1.size (j4 false 0 0 0 0 false 0 false 0 0 false 0 false 0 false 0 false 0 false 0 false 0)from hr);have HRF:=hid hf;have HRM:=hid (azx (show AtC y9 M (j4 cb ch cm cs cc lb ln ob on q sb sn hb hn ab an gb gn eb en tb tn)from hm));clear HT1 HRW HP hr hf hm;go_wp2_with fail;refine HER.out.mono ?_;rintro r w' ⟨rfl,rfl⟩;clear p_
 by_cases hE:E=0
 ·subst hE;have HX2:Hid (X=(((cb,ch,cm,cs,cc),(lb,ln),(ob,on),q,(sb,sn),(hb,hn),(ab,an),(gb,gn),(eb,en),(tb,tn)),0)):=HT.out.trans (if_pos rfl);clear HT;go_upto_region 21 with fail
  try (apply wp_seq_k;intro K_ HK_)
  apply wp_region_lit;refine wpList_load_mid rfl _ _ rfl M 0 rfl (j4 cb ch cm cs cc lb ln ob on q sb sn hb hn ab an gb gn eb en tb tn).toList _ HRM.out underlying44 rfl ags ?_;refine wpList_store_mid rfl _ _ _ rfl w.1.size 0 (j4 cb ch cm cs cc lb ln ob on q sb sn hb hn ab an gb gn eb en tb tn) rfl rfl (aae HR.out HRF.out rfl) ags (by simp[Value.oneCell']) ?_;have hY:=World.rangeAt_setCells_same y9 w.1.size 0 (j4 cb ch cm cs cc lb ln ob on q sb sn hb hn ab an gb gn eb en tb tn).toList (aae HR.out HRF.out rfl);have HBK:=hid (aao (Nat.le_refl _) (j4 cb ch cm cs cc lb ln ob on q sb sn hb hn ab an gb gn eb en tb tn).toList 0 y9 HB9.out);have hld:=ape (C:=j4 cb ch cm cs cc lb ln ob on q sb sn hb hn ab an gb gn eb en tb tn) rfl hY;clear hY HR HRF HB9;generalize World.setCells y9 w.1.size 0 (j4 cb ch cm cs cc lb ln ob on q sb sn hb hn ab an gb gn eb en tb tn).toList=Y at *;have HLD:=hid hld;clear hld
  go_wp2_with fail;refine bodyPost_ret (v:=.tuple #[bgp cb ch cm cs cc lb ln ob on q sb sn hb hn ab an gb gn eb en tb tn,.int .i64 0]) (by rw[results_cell_tmp rfl];simp[asAddr,Result.andThen,HLD.out]) rfl ?_;rw[HX2.out];exact⟨rfl,HBK.out⟩
 ·have hne:(E != 0)=true:=by rw[bne_iff_ne];exact hE
  have HX2:Hid (X=(ys,E)):=HT.out.trans (if_neg hE);clear hE HT;go_upto_region 20 with fail
  try (apply wp_seq_k;intro K_ HK_)
  apply wp_region_lit;go_step;go_step;go_step;go_step;go_step;go_step;refine wpList_store_mid rfl _ _ _ rfl w.1.size 0 (j4 false 0 0 0 0 false 0 false 0 0 false 0 false 0 false 0 false 0 false 0 false 0) rfl rfl (aae HR.out HRF.out rfl) ags (by simp[Value.oneCell']) ?_;have hY:=World.rangeAt_setCells_same y9 w.1.size 0 (j4 false 0 0 0 0 false 0 false 0 0 false 0 false 0 false 0 false 0 false 0 false 0).toList (aae HR.out HRF.out rfl);have HBK:=hid (aao (Nat.le_refl _) (j4 false 0 0 0 0 false 0 false 0 0 false 0 false 0 false 0 false 0 false 0 false 0).toList 0 y9 HB9.out);have hld:=ape (C:=j4 false 0 0 0 0 false 0 false 0 0 false 0 false 0 false 0 false 0 false 0 false 0) rfl hY;clear hY HR HRF HB9;generalize World.setCells y9 w.1.size 0 (j4 false 0 0 0 0 false 0 false 0 0 false 0 false 0 false 0 false 0 false 0 false 0).toList=Y at *;have HLD:=hid hld;clear hld;go_wp2_with fail;refine bodyPost_ret (v:=.tuple #[bgp false 0 0 0 0 false 0 false 0 0 false 0 false 0 false 0 false 0 false 0 false 0,.int .i64 E]) (by rw[results_cell_tmp rfl];simp[asAddr,Result.andThen,HLD.out]) rfl ?_
  rw[HX2.out];exact⟨rfl,HBK.out⟩
theorem amf (A:Option Addr) (n c:Nat) (w:World) (h:((n:Int) != 14)=true):Calls Tryz.prog 102 #[.slice A n c] w (ajy (ys,3) w):=by
 have HB9:=hid (qa w (.cells (j4 false 0 0 0 0 false 0 false 0 0 false 0 false 0 false 0 false 0 false 0 false 0) 44));have HR:Hid (AtC (w.alloc (.cells (j4 false 0 0 0 0 false 0 false 0 0 false 0 false 0 false 0 false 0 false 0 false 0) 44)) w.1.size (j4 false 0 0 0 0 false 0 false 0 0 false 0 false 0 false 0 false 0 false 0 false 0)):=fun o=>World.cell?_alloc_at _ _ _ _ rfl
 have HRF:Hid (∀o,(w.alloc (.cells (j4 false 0 0 0 0 false 0 false 0 0 false 0 false 0 false 0 false 0 false 0 false 0) 44)).frozen? ⟨w.1.size,o,none⟩=false):=fun o=>by rw[frozen?_alloc_cells];exact qj _ _ _ (Nat.le_refl _)
 go_enter func102,ntmps102
 try dsimp only
 repeat (fail_if_success (show Code.wp _ (Code.seq (Code.region 1 _ _) _) _ _ _)
         first|go_values|go_skip|go_guarded|go_step|go_upon|go_back|(simp only[Int.not_lt,Int.not_le]at *;go_simp)|(go_ite<;>go_prune<;>(try go_simp)))
 generalize hW0:w.alloc (.cells (j4 false 0 0 0 0 false 0 false 0 0 false 0 false 0 false 0 false 0 false 0 false 0) 44)=W0 at *;clear hW0;go_upto_region 2 with fail
 try (apply wp_seq_k;intro K_ HK_)
 apply wp_region_lit;go_step;go_step;go_step;refine wpList_store_mid rfl _ _ _ rfl w.1.size 0 (j4 false 0 0 0 0 false 0 false 0 0 false 0 false 0 false 0 false 0 false 0 false 0) rfl rfl (aae HR.out HRF.out rfl) ags (by simp[Value.oneCell']) ?_;have hY:=World.rangeAt_setCells_same W0 w.1.size 0 (j4 false 0 0 0 0 false 0 false 0 0 false 0 false 0 false 0 false 0 false 0 false 0).toList (aae HR.out HRF.out rfl);have HBK:=hid (aao (Nat.le_refl _) (j4 false 0 0 0 0 false 0 false 0 0 false 0 false 0 false 0 false 0 false 0 false 0).toList 0 W0 HB9.out);have hld:=ape (C:=j4 false 0 0 0 0 false 0 false 0 0 false 0 false 0 false 0 false 0 false 0 false 0) rfl hY;clear hY HR HRF HB9;generalize World.setCells W0 w.1.size 0 (j4 false 0 0 0 0 false 0 false 0 0 false 0 false 0 false 0 false 0 false 0 false 0).toList=Y at *;have HLD:=hid hld;clear hld;go_wp2_with fail;refine bodyPost_ret (v:=.tuple #[bgp false 0 0 0 0 false 0 false 0 0 false 0 false 0 false 0 false 0 false 0 false 0,.int .i64 3]) (by rw[results_cell_tmp rfl];simp[asAddr,Result.andThen,HLD.out]) rfl ?_
 exact⟨rfl,HBK.out⟩
theorem ayy (A:Option Addr) (R:List ByteArray) (c:Nat) (w:World) (hA:A=none→c=0) (hs:vg w w.1.size A R) (hz:∀t∈R,t.size≤1000000):Calls Tryz.prog 102 #[.slice A R.length c] w (ajy (vv R) w):=by
 by_cases h:R.length=14
 ·exact a3v A R.length c R w rfl hA hs hz h
 ·rw[show vv R=(ys,3)from if_pos h];exact amf A R.length c w (by rw[bne_iff_ne];omega)
end Go.Proofs.YtdkhlkfleggbaaaGreat
