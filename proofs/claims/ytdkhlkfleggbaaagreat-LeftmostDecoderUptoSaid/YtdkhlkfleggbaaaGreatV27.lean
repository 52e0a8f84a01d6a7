/- Parts. -/
import Derived.Test.YtdkhlkfleggbaaaGreatV26
import Derived.ChangeKeysEq
namespace Go.Proofs.YtdkhlkfleggbaaaGreat
set_option maxHeartbeats 1000000
set_option maxRecDepth 8000
open Tryz
set_option linter.unusedVariables false
open Go.RowKit
theorem ath {P:Program} {a:Act} {w:World} {Q:Exit->Act->World->Prop} {stuff:Code} (l:Nat) (J:Act->World->Prop) (μ:Act->World->Nat) (hf:findLabel (Code.seq (Code.label l) stuff) l=some (Code.seq Code.skip stuff)) (h0:J a w)
 (pass:∀a w,J a w->stuff.wp P (Exit.jump l (λa' w'=>J a' w'/\μ a' w'<μ a w) Q) a w):(Code.scope (Code.seq (Code.label l) stuff)).wp P Q a w:=
 wp_scope_jumps l J μ hf (wp_seq (wp_label (b5o (pass a w h0) λe a' w' h=>by
  cases e with
  | goto l'=>exact⟨h.1,h.2.1⟩
  | normal=>exact h
  | exit id=>exact h
  | ret=>exact h
  | _=>exact h))) λa w h=>wp_seq (wp_skip (pass a w h))
def ja (l:List UInt8):List UInt8:=l.dropWhile λc=>xz c=0
theorem anw (l:List UInt8):(ja l).length<=l.length:=(List.dropWhile_suffix _).length_le
def q7 (C:List Int) (k:Nat) (n:Int):List Int:=C.set k (C.getD k 0+n)
theorem age (C:List Int) (k:Nat) (n:Int):(q7 C k n).length=C.length:=b3t
theorem anf (C:List Int) (k:Nat):q7 C k 0=C:=by
 unfold q7;rw[Int.add_zero,l9];apply b24;intro i;rw[List.getElem?_set]
 split
 ·rename_i e;subst e
  split
  ·rename_i h;rw[d7 h];rfl
  ·rename_i h;rw[b0c om]
 ·rfl
theorem a4v (C:List Int) (k:Nat) (m n:Int) (hk:k<C.length):q7 (q7 C k m) k n=q7 C k (m+n):=by
 unfold q7;rw[List.set_set]
 congr 1
 simp[b36 hk];omega
theorem a4w (C:List Int) (k:Nat) (m:Int) (hk:k<C.length):(q7 C k m).getD k 0=C.getD k 0+m:=by
 unfold q7;simp[b36 hk]
def bed (g b:Nat) (C:List Int) (l:List UInt8) (W:World) (e:Ending) (w':World):Prop:=
 e=.returned (.bool (decide (ja l≠[])))/\jr w' g b (q7 C 9 ((l.length:Int)-((ja l).length:Int))) (ja l)/\qi (λj=>j≠b/\j≠g) W w'
def bkz (g b:Nat) (C:List Int) (l:List UInt8) (W:World) (a:Act) (w:World):Prop:=
 ∃u3 u4 u5 u6 u7 u8 u9 u10 u11 u12 u13 u14 u15 u16 u17 u18 u19 u20 u21 u22 u23 u24 u25 u26 u27 u28 u29 u30 u31 u32 u33,a={tmps:=#[.pointer (some ⟨g,0,none⟩),undef,.bool false,u3,u4,u5,u6,u7,u8,u9,u10,u11,u12,u13,u14,u15,u16,u17,u18,u19,u20,u21,u22,u23,u24,u25,u26,u27,u28,u29,u30,u31,u32,u33],defers:=[]} /\
  ∃r:List UInt8,ja r=ja l/\r.length<=l.length/\jr w g b (q7 C 9 ((l.length:Int)-(r.length:Int))) r/\qi (λj=>j≠b/\j≠g) W w
def ahg (b:Nat) (w:World):Nat:=match w.cell? ⟨b,1026,none⟩with|some (.int _ n)=>n.toNat|_=>0
theorem ah3 {w:World} {b:Nat} {l:List UInt8} (h:v7 w b l):ahg b w=l.length:=by
 obtain⟨D,a,h⟩:=h;unfold ahg;rw[h.blk.cell 1026 (aki h.len _ _)];simp
theorem jr.drewN {W:World} {g b:Nat} {C:List Int} {l:List UInt8} (h:jr W g b C l) (n:Nat):jr (W.drewN n) g b C l:=
 ⟨h.blk.kept rfl (a8 _),h.len,h.win.kept rfl (a8 _),h.ne⟩
theorem jr.drew {W:World} {g b:Nat} {C:List Int} {l:List UInt8} (h:jr W g b C l):jr W.drew g b C l:=
 ⟨h.blk.kept rfl (a8 _),h.len,h.win.kept rfl (a8 _),h.ne⟩
theorem jr.cd {W:World} {g b:Nat} {C:List Int} {l:List UInt8} (h:jr W g b C l) (k:Nat) (hk:k<13):W.cell? ⟨g,k+1,none⟩=some (.int .i64 (C.getD k 0)):=by
 have hl:=h.len;rw[h.ck k om,l9,d7 om];rfl
theorem a16 {W:World} {g b:Nat} {C:List Int} {l:List UInt8} (h:jr W g b C l) (hC:Q_ (0<=C.getD 9 0/\C.getD 9 0<=1000000000)):Calls prog 56 #[.pointer (some ⟨g,0,none⟩)] W (bed g b C l W):=by
 have hL:=q_ (h.win.lt);have hmax:l.length<=1024:=by obtain⟨D,a,q⟩:=h.win;exact q.max
 have H0:Q_ (bkz g b C l W {tmps:=#[.pointer (some ⟨g,0,none⟩),undef,.bool false,undef,undef,undef,undef,undef,undef,undef,undef,undef,undef,undef,undef,undef,undef,undef,undef,undef,undef,undef,undef,undef,undef,undef,undef,undef,undef,undef,undef,undef,undef,undef],defers:=[]} W):=q_ ⟨undef,undef,undef,undef,undef,undef,undef,undef,undef,undef,undef,undef,undef,undef,undef,undef,undef,undef,undef,undef,undef,undef,undef,undef,undef,undef,undef,undef,undef,undef,undef,rfl,l,rfl,a8 _,by rw[Int.sub_self,anf];exact h,qi.refl _ _⟩;clear h;go_enter func56,ntmps56;go_wp2_with fail;refine ath 0 (bkz g b C l W) (λ_ w=>ahg b w) rfl H0.o ?_
 ·rintro a w ⟨u3,u4,u5,u6,u7,u8,u9,u10,u11,u12,u13,u14,u15,u16,u17,u18,u19,u20,u21,u22,u23,u24,u25,u26,u27,u28,u29,u30,u31,u32,u33,rfl,r,hr,hrl,hd,hk⟩;have HD:=q_ hd;have HK:=q_ (o3 hr hk);have c0:=hd.c0;clear hr hd hk H0;rcases r with _|⟨c,r⟩
  ·go_wp2_with fail;refine(atc HD.o.win).mono ?_;rintro e w' ⟨rfl,rfl⟩;go_wp2_with fail;simp only[Exit.jump];go_ret;have e:ja l=[]:=HK.o.1.symm;refine⟨by rw[e];rfl,?_,HK.o.2⟩;rw[e];exact HD.o
  ·have hlen:r.length<l.length:=by simp only[n6]at hrl;omega
   go_wp2_with fail;refine(atd HD.o.win).mono ?_;rintro e w' ⟨rfl,n,rfl⟩;have HD1:=q_ (HD.o.drewN n);have HK1:=q_ (HK.o.2.drewN n);have HM:=q_ (ah3 HD.o.win);clear HD c0;have c0:=HD1.o.c0;go_wp2_with fail;refine(amp c _).mono ?_;rintro e w' ⟨rfl,rfl⟩
   by_cases hp:xz c=0
   ·have HS:Q_ (ja r=ja l):=q_ (by rw[<- HK.o.1];unfold ja;rw[List.dropWhile_cons_of_pos (by simp[hp])]);rw[hp];clear hp HK;go_wp2_with fail;refine(aia 1 HD1.o.win om).mono ?_;rintro e w2 ⟨rfl,hw,hk⟩;have e1:(max 0 (min (1:Int) (((c::r).length:Nat):Int))).toNat=1:=by simp only[n6];omega
    rw[e1]at hw ⊢;have HD2:=q_ (HD1.o.moved hw hk);have HK2:=q_ (HK1.o.trans (hk.less λj q=>q.1));clear e1 hw hk HD1 HK1 c0;have c9:w2.cell? ⟨g,10,none⟩=some (.int .i64 _):=HD2.o.cd 9 om;have z9:=HD2.o.blk.fz 10;rw[a4w _ _ _ (by have:=HD2.o.len;rw[age]at this;omega)]at c9;have hb1:=hC.o.1;have hb2:=hC.o.2;have hq:(0:Int) <=(l.length:Int)-((c::r).length:Int):=by omega
    have hq2:(l.length:Int)-((c::r).length:Int)<=1024:=by omega
    generalize hQ:C.getD 9 0 +((l.length:Int)-((c::r).length:Int))=q at *;have HQ:=q_ hQ;have hq3:0<=q:=by omega
    have hq4:q<=1000001024:=by omega
    clear hQ hb1 hb2 hq hq2;go_wp2_with fail
    go_region
    go_wp2_with fail
    go_step3
    have hd3:=HD2.o.set 9 (q+1) om
    have e3:(q7 C 9 ((l.length:Int)-((c::r).length:Int))).set 9 (q+1)=q7 C 9 ((l.length:Int)-(r.length:Int)):=by
     have h13:=HD2.o.len;rw[age]at h13;unfold q7;rw[List.set_set]
     congr 1
     have:=HQ.o;simp only[n6]at this ⊢;omega
    rw[e3]at hd3;refine⟨rfl,⟨_,_,_,_,_,_,_,_,_,_,_,_,_,_,_,_,_,_,_,_,_,_,_,_,_,_,_,_,_,_,_,rfl,r,HS.o,by omega,hd3.drew,(HK2.o.trans (HD2.o.keptS 9 (q+1))).drew⟩,?_⟩;show ahg b (World.drew (w2.setCell ⟨g,10,none⟩ (.int .i64 (q+1))))<ahg b w;rw[HM.o,ah3 hd3.drew.win,show (List.drop 1 (c::r)).length=r.length from rfl];simp only[n6];omega
   ·have hb:(xz c==0)=false:=by rw[l7];exact hp
    have hb2:(xz c != 0)=true:=by rw[b0r];exact hp
    have HS:Q_ (c::r=ja l):=q_ (by rw[<- HK.o.1];unfold ja;rw[List.dropWhile_cons_of_neg (by simp[hp])]);clear hp HK;go_wp2_with fail;simp only[Exit.jump];go_ret;have e:=HS.o;refine⟨by rw[<- e];rfl,?_,HK1.o⟩;rw[<- e];exact HD1.o
def yo (v:VeD):Nat:=max v.n 1
def ajj:Nat->List UInt8->List VeD×List UInt8
 | 0,l=>([],l)
 | f+1,l=>if(zg l).d=0 then([],l)else(zg l::(ajj f (l.drop (yo (zg l)))).1,(ajj f (l.drop (yo (zg l)))).2)
def qp (l:List UInt8):List VeD×List UInt8:=ajj l.length l
theorem au0 {l:List UInt8} (h:(zg l).d≠0):0<l.length:=by
 cases l with
 | nil=>exact absurd rfl h
 | cons x l=>simp
theorem aiw (v:VeD):1<=yo v:=by unfold yo;omega
theorem aln {l:List UInt8} (h:(zg l).d≠0):yo (zg l)<=l.length:=by
 have h1:=au0 h;unfold yo
 by_cases h2:(zg l).d=2
 ·have:=ai2 l h2;omega
 ·have:=(ayf l h2).1;omega
theorem aun:∀(f g:Nat) (l:List UInt8),l.length<=f->l.length<=g->ajj f l=ajj g l
 | 0,0,l,_,_=>rfl
 | 0,g+1,l,hf,_=>by
  obtain rfl:l=[]:=b0k om;rfl
 | f+1,0,l,_,hg=>by
  obtain rfl:l=[]:=b0k om;rfl
 | f+1,g+1,l,hf,hg=>by
  unfold ajj
  by_cases h:(zg l).d=0
  ·rw[if_pos h,if_pos h]
  ·have h1:=au0 h;have h2:=aiw (zg l);rw[if_neg h,if_neg h,aun f g _ (by rw[n5];omega) (by rw[n5];omega)]
theorem ab8 {l:List UInt8} (h:(zg l).d=0):qp l=([],l):=by
 cases l with
 | nil=>rfl
 | cons x l=>
  show ajj (l.length+1) (x::l)=_;unfold ajj;rw[if_pos h]
theorem abg {l:List UInt8} (h:(zg l).d≠0):qp l=(zg l::(qp (l.drop (yo (zg l)))).1,(qp (l.drop (yo (zg l)))).2):=by
 cases l with
 | nil=>exact absurd rfl h
 | cons x l=>
  have h2:=aiw (zg (x::l));show ajj (l.length+1) (x::l)=_;rw[ajj,if_neg h,aun l.length _ _ (by rw[n5,n6];omega) (a8 _)];rfl
theorem a2c:qp []=([],[]):=rfl
theorem alh {P:List UInt8->Prop} (h0:∀l,(zg l).d=0->P l) (h1:∀l,(zg l).d≠0->P (l.drop (yo (zg l)))->P l):∀l,P l:=by
 intro l;obtain⟨n,hn⟩:∃n,l.length<=n:=⟨_,a8 _⟩
 induction n generalizing l with
 | zero=>
  obtain rfl:l=[]:=b0k om;exact h0 _ rfl
 | succ n ih=>
  by_cases h:(zg l).d=0
  ·exact h0 l h
  ·have h2:=aiw (zg l);exact h1 l h (ih _ (by rw[n5];omega))
theorem alg (l m:List UInt8):qp (l++m)=((qp l).1 ++(qp ((qp l).2++m)).1,(qp ((qp l).2++m)).2):=by
 revert m;refine alh (P:=λl=>∀m,qp (l++m)=((qp l).1 ++(qp ((qp l).2++m)).1,(qp ((qp l).2++m)).2)) ?_ ?_ l
 ·intro l h m;rw[ab8 h];rfl
 ·intro l h ih m;have e:=bds l m h;have h':(zg (l++m)).d≠0:=by rw[e];exact h
  rw[abg h',abg h,e,b3o (aln h),ih m];rfl
theorem adz (l:List UInt8):(zg (qp l).2).d=0 /\(qp l).2.length<1024/\∃A,l=A ++(qp l).2/\A.length=((qp l).1.map yo).sum:=by
 refine alh (P:=λl=>(zg (qp l).2).d=0 /\(qp l).2.length<1024/\∃A,l=A ++(qp l).2/\A.length=((qp l).1.map yo).sum) ?_ ?_ l
 ·intro l h;rw[ab8 h];exact⟨h,au4 l h,[],rfl,rfl⟩
 ·intro l h ⟨h1,h2,A,h3,h4⟩;rw[abg h];refine⟨h1,h2,l.take (yo (zg l))++A,?_,?_⟩
  ·rw[b0s,<- h3,b0t]
  ·rw[e9,h4,l8,b1m (aln h)];simp
theorem a2b {P:VeD->Prop} (hP:∀l,(zg l).d≠0->P (zg l)) (l:List UInt8):∀v∈(qp l).1,P v:=by
 refine alh (P:=λl=>∀v∈(qp l).1,P v) ?_ ?_ l
 ·intro l h;rw[ab8 h];intro v hv;cases hv
 ·intro l h ih;rw[abg h];intro v hv;rcases b03.1 hv with rfl|hv
  ·exact hP l h
  ·exact ih v hv
def ash (v:VeD):Nat:=if v.d=1 then 9+v.p.toNat else if v.x.od then 5+v.p.toNat else 1+v.p.toNat
def aco (C:List Int) (v:VeD):List Int:=q7 C (ash v) 1
def jp (C:List Int) (V:List VeD):List Int:=V.foldl aco C
theorem azn (C:List Int) (v:VeD):(aco C v).length=C.length:=age _ _ _
theorem aii (C:List Int) (V:List VeD):(jp C V).length=C.length:=by
 unfold jp
 induction V generalizing C with
 | nil=>rfl
 | cons v V ih=>rw[b2l,ih,azn]
theorem adt (C:List Int) (V U:List VeD):jp C (V++U)=jp (jp C V) U:=b3v
def q6 (V:List VeD):List ItD:=(V.filter λv=>decide (v.d=2)).map (·.x)
theorem ago (V U:List VeD):q6 (V++U)=q6 V++q6 U:=by simp[q6]
def afn:VeD:=⟨1,0,0,3,aeq⟩
theorem au3 {x:UInt8} {l:List UInt8} (h:xz x=0):zg (x::l)=afn:=by rw[vz,if_pos h];rfl
theorem axf (l:List UInt8):qp l=(List.replicate (l.length-(ja l).length) afn ++(qp (ja l)).1,(qp (ja l)).2):=by
 induction l with
 | nil=>rfl
 | cons x l ih=>
  by_cases h:xz x=0
  ·have e:ja (x::l)=ja l:=by unfold ja;rw[List.dropWhile_cons_of_pos (by simp[h])]
   have hv:=au3 (l:=l) h;have hle:=anw l;rw[e,abg (by rw[hv];decide),hv,show (x::l).drop (yo afn)=l from rfl,ih,n6,show l.length+1-(ja l).length=(l.length-(ja l).length)+1 from by omega,b4k];rfl
  ·have e:ja (x::l)=x::l:=by unfold ja;rw[List.dropWhile_cons_of_neg (by simp[h])]
   rw[e,b23];rfl
theorem azo (C:List Int) (k:Nat) (h:9<C.length):jp C (List.replicate k afn)=q7 C 9 k:=by
 induction k with
 | zero=>exact(anf C 9).symm
 | succ k ih=>
  rw[List.replicate_succ',adt,ih];show aco (q7 C 9 k) afn=_;unfold aco;show q7 (q7 C 9 k) 9 1=_;rw[a4v _ _ _ _ h]
  congr 1
theorem awi (k:Nat):q6 (List.replicate k afn)=[]:=by
 unfold q6;rw[List.filter_eq_nil_iff.2 (λv hv=>by rw[(List.mem_replicate.1 hv).2];decide)];rfl
def ay5 (v:VeD):Prop:=(v.p=0\/v.p=1\/v.p=2\/v.p=3) /\(v.d=1/\v.n=0\/v.d=2/\8<=v.n/\v.n<=1024/\v.p≠0)
theorem aly (l:List UInt8) (h:(zg l).d≠0):ay5 (zg l):=by
 refine⟨?_,?_⟩
 ·cases l with
  | nil=>exact absurd rfl h
  | cons x l=>rw[bh1 (x::l) x rfl];exact aiq x
 ·rcases bhz l with q|q|q
  ·exact absurd q h
  ·exact .inl ⟨q,(ayf l om).1⟩
  ·have:=ai2 l q;exact .inr ⟨q,this.1,this.2.1,by omega⟩
theorem ara (l:List UInt8):∀v∈(qp l).1,ay5 v:=a2b (P:=ay5) aly l
theorem atq {C:List Int} {k:Nat} (hk:k<C.length) (n:Int) (j:Nat):(q7 C k n).getD j 0=C.getD j 0+if j=k then n else 0:=by
 unfold q7
 by_cases h:j=k
 ·subst h;rw[if_pos rfl];simp[hk]
 ·rw[if_neg h];have h':¬k=j:=λe=>h e.symm
  simp[h']
def a0p (C:List Int):Int:=C.getD 2 0+C.getD 3 0+C.getD 4 0
def bmo (C:List Int):Int:=C.getD 6 0+C.getD 7 0+C.getD 8 0
def ber (C:List Int):Int:=C.getD 9 0+C.getD 10 0+C.getD 11 0+C.getD 12 0
def at1 (X:List ItD):Nat:=(X.filter λx=>!x.od).length
theorem azp:∀(V:List VeD) (C:List Int),C.length=13 ->(∀v∈V,ay5 v) ->
 (jp C V).getD 0 0=C.getD 0 0 /\(jp C V).getD 1 0=C.getD 1 0 /\(jp C V).getD 5 0=C.getD 5 0/\a0p (jp C V)=a0p C +(at1 (q6 V):Int)/\a0p (jp C V)+bmo (jp C V)=a0p C+bmo C +((q6 V).length:Int) /\
 ber (jp C V)-ber C+8*((q6 V).length:Int) <=((V.map yo).sum:Int) /\((V.map yo).sum:Int)<=ber (jp C V)-ber C+1024*((q6 V).length:Int)
 | [],C,_,_=>by
  refine⟨rfl,rfl,rfl,?_,?_,?_,?_⟩<;>simp[jp,q6,at1]
 | v::V,C,hC,hV=>by
  have hv:=hV v sm;have ih:=azp V (aco C v) (by rw[azn];exact hC) (λu hu=>hV u (by simp[hu]));have e1:jp C (v::V)=jp (aco C v) V:=rfl;have e2:(((v::V).map yo).sum:Int)=(yo v:Int) +((V.map yo).sum:Int):=by rw[b2y,List.sum_cons];omega
  rw[e1,e2];generalize hg:jp (aco C v) V=D at *;generalize (V.map yo).sum=z at *
  have hget:∀k,ash v=k->k<13->∀j,(aco C v).getD j 0=C.getD j 0+if j=k then 1 else 0:=λk e hk j=>by
   unfold aco;rw[e];exact atq om 1 j
  obtain⟨hp,hd⟩:=hv
  have i1:q6 (v::V)=(if v.d=2 then [v.x]else [])++q6 V:=by
   unfold q6
   by_cases h2:v.d=2<;>simp[h2]
  have i2:at1 (q6 (v::V))=(if v.d=2 then(if v.x.od=true then 0 else 1)else 0)+at1 (q6 V):=by
   rw[i1];unfold at1
   by_cases h2:v.d=2<;>by_cases h3:v.x.od=true<;>simp[h2,h3]<;>omega
  have i3:(q6 (v::V)).length=(if v.d=2 then 1 else 0) +(q6 V).length:=by
   rw[i1]
   by_cases h2:v.d=2<;>simp[h2]<;>omega
  rw[i2,i3];generalize (q6 V).length=li at *;generalize at1 (q6 V)=gi at *;unfold a0p bmo ber at *;unfold yo;unfold ash at hget;rcases hd with⟨d1,n0⟩|⟨d2,n1,n2,p0⟩
  ·rw[if_pos d1]at hget;rw[if_neg (show ¬v.d=2 by omega),if_neg (show ¬v.d=2 by omega),n0];rcases hp with p|p|p|p<;>rw[p]at hget<;>(have hq:=hget _ rfl dc)<;>simp only[hq]at ih<;>simp at ih ⊢<;>omega
  ·rw[if_neg (show ¬v.d=1 by omega)]at hget;rw[if_pos d2,if_pos d2]
   by_cases ho:v.x.od=true
   ·rw[if_pos ho]at hget ⊢;rcases hp with p|p|p|p
    ·exact absurd p p0
    all_goals (rw[p]at hget;have hq:=hget _ rfl dc;simp only[hq]at ih;simp at ih ⊢;omega)
   ·rw[if_neg ho]at hget ⊢;rcases hp with p|p|p|p
    ·exact absurd p p0
    all_goals (rw[p]at hget;have hq:=hget _ rfl dc;simp only[hq]at ih;simp at ih ⊢;omega)
theorem azl (C:List Int) (i j:Nat) (a b:Int):q7 (q7 C i a) j b=q7 (q7 C j b) i a:=by
 by_cases h:i=j
 ·subst h;unfold q7
  by_cases hi:i<C.length
  ·simp[hi,Int.add_right_comm]
  ·simp[List.set_eq_of_length_le (Nat.le_of_not_lt hi)]
 ·unfold q7;rw[List.set_comm _ _ h];have h':¬j=i:=λe=>h e.symm
  simp[h,h']
theorem a4x (C:List Int) (i:Nat) (a b:Int):q7 (q7 C i a) i b=q7 C i (a+b):=by
 unfold q7
 by_cases hi:i<C.length
 ·simp[hi,Int.add_assoc]
 ·simp[List.set_eq_of_length_le (Nat.le_of_not_lt hi)]
theorem aih (i:Nat) (a:Int):∀(V:List VeD) (C:List Int),jp (q7 C i a) V=q7 (jp C V) i a
 | [],_=>rfl
 | v::V,C=>by
  show jp (aco (q7 C i a) v) V=q7 (jp (aco C v) V) i a;rw[<- aih i a V (aco C v)];unfold aco;rw[azl]
def acb (l:List UInt8):List Int:=q7 (jp [0,0,0,0,0,0,0,0,0,0,0,0,0] (qp l).1) 0 l.length
theorem bez (l m:List UInt8):jp (q7 (acb l) 0 m.length) (qp ((qp l).2++m)).1=acb (l++m):=by
 unfold acb;rw[a4x,aih,alg l m,adt,e9]
 congr 1
theorem a5x (l m:List UInt8):q6 (qp (l++m)).1=q6 (qp l).1++q6 (qp ((qp l).2++m)).1:=by rw[alg,ago]
theorem jr.kept2 {W W':World} {g b k o:Nat} {cs:List Value} {C:List Int} {l:List UInt8} (h:jr W g b C l) (hs:qq W W' k o cs) (h1:g≠k) (h2:b≠k):jr W' g b C l:=
 ⟨h.blk.far hs h1,h.len,h.win.kept (hs.far b h2) (b1e hs.sz.symm),h.ne⟩
def yp (C:List Int):Array Value:=(C.map (Value.int .i64)).toArray
def z13:List Int:=[0,0,0,0,0,0,0,0,0,0,0,0,0]
def z4A:Array Value:=#[.int .i64 0,.int .i64 0,.int .i64 0,.int .i64 0]
theorem al4 (w:World):(zeroValue 78).run prog w=.ok (.agg (yp z13)) w:=by kernel_rfl
theorem a9p (w:World):(zeroValue 76).run prog w=.ok (.agg z4A) w:=by kernel_rfl
theorem a4o (w:World):(Instr.build 78 #[]).run prog w=.ok (.agg (yp z13)) w:=by kernel_rfl
theorem ac3 {C:List Int} (h:C.length=13):(prog.info? 78).map (·.size)=some (yp C).size:=by
 unfold yp;rw[o6,b0o,h];kernel_rfl
theorem al9 {C:List Int} (h:C.length=13):(prog.info? 78).map (·.size)=some (C.map (Value.int .i64)).length:=by
 rw[b0o,h];kernel_rfl
theorem ahj (C:List Int):(yp C).all (·.oneCell')=true:=kf λv hv=>by
 obtain⟨n,-,rfl⟩:=b2f.1 hv;rfl
theorem jr.rgC {W:World} {g b:Nat} {C:List Int} {l:List UInt8} (h:jr W g b C l):W.rangeAt g 1 (C.map (Value.int .i64)):=by
 have:=h.blk.rg;unfold asj at this;exact(World.rangeAt_cons.1 this).2
theorem asv {W:World} {g b:Nat} {C:List Int} {l:List UInt8} (h:jr W g b C l) (h0:C.getD 0 0≠0) :
 Calls prog 24 #[.pointer (some ⟨g,0,none⟩)] W λe w'=>e=.returned (.agg (yp C))/\jr w' g b C l/\Below W.1.size W w':=by
 have HZ:=λW=>q_ (al4 W)
 have HZA:=λW=>q_ (a9p W)
 have H:=q_ h;have hb0:(C.getD 0 0==0)=false:=by rw[l7];exact h0
 clear h h0;go_enter func24,ntmps24
 go_upto_region 2 with(first
  | (refine qc rfl 78 rfl (yp z13) (HZ _).o ?_;intro W1 hW;have HC1:=q_ (Blk.newL (L:=z13.map (Value.int .i64)) hW rfl);have H1:=q_ (H.o.on hW.bel);have HB1:=q_ hW.bel;clear hW)
  | (refine qc rfl 76 rfl z4A (HZA _).o ?_;intro W2 hW;have HC2:=q_ (HC1.o.on hW.bel);have H2:=q_ (H1.o.on hW.bel);have HB2:=q_ (qb HB1.o hW.bel);clear hW))
 obtain⟨In,hIn⟩:∃In,C.getD 0 0=In:=⟨_,rfl⟩;rw[hIn]at hb0;have HIn:=q_ hIn;clear hIn
 try (apply b1q;intro K_ HK_)
 have hS0:Below W2.1.size W2 W2.drew:=(n9 _ _).drew;refine t6 (S:=λw'=>Below W2.1.size W2 w') kr hS0 (λhHeld0=>?_);refine tkA 0 4 rfl ?_;go_frame;refine rdB 1 5 rfl λK hK=>?_
 go_step;refine(adn (H2.o.on hHeld0)).mono ?_;rintro e W' ⟨rfl,rfl⟩
 try go_frame
 refine hK.out _ _ (hHeld0) (λhHeld=>?_);clear hK K
 try go_frame
 refine tkA 2 6 rfl ?_;go_frame;refine tkA 3 7 rfl ?_;go_frame;refine tkA 4 8 rfl ?_;go_frame;refine tkA 5 9 rfl ?_;go_frame;refine tkA 6 10 rfl ?_;go_frame;refine tkA 7 11 rfl ?_;go_frame;refine tkQ (i:=8) (oi:=⟨some 12,_,_,_,_,_⟩) (v:=?_) rfl (Or.inl ⟨by rfl,?_⟩) ?_;rotate_left
 ·intro w' hSw;have c1:w'.cell? ⟨g,1,none⟩=some (.int .i64 In):=by have:=(H2.o.on hSw).cd 0 om;rw[HIn.o]at this;exact this
  go_simp
  try with_reducible rfl
 try go_frame
 refine tkA 9 13 rfl ?_;go_frame;refine tkA 10 14 rfl ?_;go_frame;refine tkU 11 15 rfl ?_;go_frame;refine tkU 12 16 rfl ?_;go_frame;refine tkU 13 17 rfl ?_;go_frame;refine tkU 14 18 rfl ?_;go_frame;refine tkU 15 19 rfl ?_;go_frame;refine tkU 16 20 rfl ?_;go_frame;refine tkU 17 21 rfl ?_;go_frame;refine tkA 18 22 rfl ?_;go_frame;refine tkA 19 23 rfl ?_;go_frame;refine b0m kr ?_ _
 try go_frame
 have HC3:Q_ (Blk _ W.1.size (z13.map (Value.int .i64))):=q_ (HC2.o.on hHeld0);have H3:=q_ (H2.o.on hHeld0);have HB3:=q_ (qb HB2.o hHeld0);clear HC2 H2 HB2 HC1 H1 HB1;have HL:=q_ H3.o.len
 go_wp2_with (first
  | refine b0q rfl 78 _ rfl g 1 rfl (C.map (Value.int .i64)) _ H3.o.rgC underlying78 rfl (al9 HL.o) ?_
  | (refine qe rfl 78 _ _ rfl W.1.size 0 (yp C) rfl rfl (HC3.o.there 0 (yp C).size (by unfold yp;rw[o6,b0o,HL.o];decide)) (ac3 HL.o) (ahj C) ?_;intro W4 hs;have HC4:=q_ (HC3.o.all hs (by unfold yp;rw[b1d,b0o,HL.o];rfl));have H4:=q_ (H3.o.kept2 hs (by have:=H.o.blk.lt;omega) (by have:=H.o.win.lt;omega));have HB4:=q_ (HB3.o.trans (hs.below (a8 _)));clear hs))
 try go_frame
 have HLD:=q_ (t9 (P:=prog) W4 W.1.size 0 78 (yp C).toList _ HC4.o.rg underlying78 rfl (by rw[b0h];exact ac3 HL.o));refine b9 (v:=.agg (yp C)) (by rw[aa7 rfl];simp[asAddr,Result.andThen,HLD.o]) rfl ⟨rfl,H4.o,HB4.o⟩
theorem aic {P:Program} {ops:Array Oper} {S:World->Prop} {o:Oper} {a:Act} (hw:Region.wanted o (yielded ops a.tmps)=true) (bo:BinOp) (xT:TypeId) (x y:Operand) (yT:TypeId) (ho:o.op=.binOp bo xT x y yT) {u v r:Value} (hx:a.eval x=u) (hy:a.eval y=v) (hg:∀w,(eqGuard bo xT x y u v).run P w=.ok () w) (hr:∀w,(binOp bo xT u v).run P w=.ok r w):YieldsIf P ops S o r a:=
 .inl ⟨hw,λw _=>by
  unfold execOp;rw[ho];simp only[hx,hy,b1k,hg,hr,b1f,b21]⟩
