/- Parts. -/
import Derived.Test.YtdkhlkfleggbaaaGreatU32
import Derived.ChangeKeysEq
namespace Go.Proofs.YtdkhlkfleggbaaaGreat
set_option maxHeartbeats 1000000
set_option maxRecDepth 8000
open Lib (hid)
open Tryz
set_option linter.unusedVariables false
open Go.RowKit
theorem as1 {P:Program} {a:Act} {w:World} {Q:Exit→Act→World→Prop} {stuff:Code} (l:Nat) (J:Act→World→Prop) (μ:Act→World→Nat) (hf:findLabel (Code.seq (Code.label l) stuff) l=some (Code.seq Code.skip stuff)) (h0:J a w)
 (pass:∀a w,J a w→stuff.wp P (Exit.jump l (fun a' w'=>J a' w'∧μ a' w'<μ a w) Q) a w):(Code.scope (Code.seq (Code.label l) stuff)).wp P Q a w:=
 wp_scope_jumps l J μ hf (wp_seq (wp_label (b5h (pass a w h0) fun e a' w' h=>by
  cases e with
  | goto l'=>exact⟨h.1,h.2.1⟩
  | normal=>exact h
  | exit id=>exact h
  | ret=>exact h
  | _=>exact h))) fun a w h=>wp_seq (wp_skip (pass a w h))
def zd (l:List UInt8):List UInt8:=l.dropWhile fun c=>xr c=0
theorem anh (l:List UInt8):(zd l).length≤l.length:=(List.dropWhile_suffix _).length_le
def q6 (C:List Int) (k:Nat) (n:Int):List Int:=C.set k (C.getD k 0+n)
theorem af3 (C:List Int) (k:Nat) (n:Int):(q6 C k n).length=C.length:=b3u
theorem amy (C:List Int) (k:Nat):q6 C k 0=C:=by
 unfold q6;rw[Int.add_zero,l9];apply b2r;intro i;rw[List.getElem?_set]
 split
 ·rename_i e;subst e
  split
  ·rename_i h;rw[c8 h];rfl
  ·rename_i h;rw[t9 om]
 ·rfl
theorem a3z (C:List Int) (k:Nat) (m n:Int) (hk:k<C.length):q6 (q6 C k m) k n=q6 C k (m+n):=by
 unfold q6;rw[List.set_set]
 congr 1
 simp[b3y hk];omega
theorem a30 (C:List Int) (k:Nat) (m:Int) (hk:k<C.length):(q6 C k m).getD k 0=C.getD k 0+m:=by
 unfold q6;simp[b3y hk]
def aor (g b:Nat) (C:List Int) (l:List UInt8) (W:World) (e:Ending) (w':World):Prop:=
 e=.returned (.bool (decide (zd l≠[])))∧zz w' g b (q6 C 9 ((l.length:Int)-((zd l).length:Int))) (zd l)∧qj (fun j=>j≠b∧j≠g) W w'
def bjp (g b:Nat) (C:List Int) (l:List UInt8) (W:World) (a:Act) (w:World):Prop:=
 ∃u3 u4 u5 u6 u7 u8 u9 u10 u11 u12 u13 u14 u15 u16 u17 u18 u19 u20 u21 u22 u23 u24 u25 u26 u27 u28 u29 u30 u31 u32 u33,a={tmps:=#[.pointer (some ⟨g,0,none⟩),undef,.bool false,u3,u4,u5,u6,u7,u8,u9,u10,u11,u12,u13,u14,u15,u16,u17,u18,u19,u20,u21,u22,u23,u24,u25,u26,u27,u28,u29,u30,u31,u32,u33],defers:=[]} ∧
  ∃r:List UInt8,zd r=zd l∧r.length≤l.length∧zz w g b (q6 C 9 ((l.length:Int)-(r.length:Int))) r∧qj (fun j=>j≠b∧j≠g) W w
def ag9 (b:Nat) (w:World):Nat:=match w.cell? ⟨b,1026,none⟩with|some (.int _ n)=>n.toNat|_=>0
theorem ahx {w:World} {b:Nat} {l:List UInt8} (h:vy w b l):ag9 b w=l.length:=by
 obtain⟨D,a,h⟩:=h;unfold ag9;rw[h.blk.cell 1026 (akb h.len _ _)];simp
theorem zz.drewN {W:World} {g b:Nat} {C:List Int} {l:List UInt8} (h:zz W g b C l) (n:Nat):zz (W.drewN n) g b C l:=
 ⟨h.blk.kept rfl (a8 _),h.len,h.win.kept rfl (a8 _),h.ne⟩
theorem zz.drew {W:World} {g b:Nat} {C:List Int} {l:List UInt8} (h:zz W g b C l):zz W.drew g b C l:=
 ⟨h.blk.kept rfl (a8 _),h.len,h.win.kept rfl (a8 _),h.ne⟩
theorem zz.cd {W:World} {g b:Nat} {C:List Int} {l:List UInt8} (h:zz W g b C l) (k:Nat) (hk:k<13):W.cell? ⟨g,k+1,none⟩=some (.int .i64 (C.getD k 0)):=by
 have hl:=h.len;rw[h.ck k om,l9,c8 om];rfl
theorem ahr {W:World} {g b:Nat} {C:List Int} {l:List UInt8} (h:zz W g b C l) (hC:Hid (0≤C.getD 9 0∧C.getD 9 0≤1000000000)):Calls prog 56 #[.pointer (some ⟨g,0,none⟩)] W (aor g b C l W):=by
 have hL:=hid (h.win.lt);have hmax:l.length≤1024:=by obtain⟨D,a,q⟩:=h.win;exact q.max
 have H0:Hid (bjp g b C l W {tmps:=#[.pointer (some ⟨g,0,none⟩),undef,.bool false,undef,undef,undef,undef,undef,undef,undef,undef,undef,undef,undef,undef,undef,undef,undef,undef,undef,undef,undef,undef,undef,undef,undef,undef,undef,undef,undef,undef,undef,undef,undef],defers:=[]} W):=hid ⟨undef,undef,undef,undef,undef,undef,undef,undef,undef,undef,undef,undef,undef,undef,undef,undef,undef,undef,undef,undef,undef,undef,undef,undef,undef,undef,undef,undef,undef,undef,undef,rfl,l,rfl,a8 _,by rw[Int.sub_self,amy];exact h,qj.refl _ _⟩;clear h;go_enter func56,ntmps56;go_wp2_with fail;refine as1 0 (bjp g b C l W) (fun _ w=>ag9 b w) rfl H0.out ?_
 ·rintro a w ⟨u3,u4,u5,u6,u7,u8,u9,u10,u11,u12,u13,u14,u15,u16,u17,u18,u19,u20,u21,u22,u23,u24,u25,u26,u27,u28,u29,u30,u31,u32,u33,rfl,r,hr,hrl,hd,hk⟩;have HD:=hid hd;have HK:=hid (o4 hr hk);have c0:=hd.c0;clear hr hd hk H0;rcases r with _|⟨c,r⟩
  ·go_wp2_with fail;refine(asx HD.out.win).mono ?_;rintro e w' ⟨rfl,rfl⟩;go_wp2_with fail;simp only[Exit.jump];go_ret;have e:zd l=[]:=HK.out.1.symm;refine⟨by rw[e];rfl,?_,HK.out.2⟩;rw[e];exact HD.out
  ·have hlen:r.length<l.length:=by simp only[n7]at hrl;omega
   go_wp2_with fail;refine(asy HD.out.win).mono ?_;rintro e w' ⟨rfl,n,rfl⟩;have HD1:=hid (HD.out.drewN n);have HK1:=hid (HK.out.2.drewN n);have HM:=hid (ahx HD.out.win);clear HD c0;have c0:=HD1.out.c0;go_wp2_with fail;refine(aii c _).mono ?_;rintro e w' ⟨rfl,rfl⟩
   by_cases hp:xr c=0
   ·have HS:Hid (zd r=zd l):=hid (by rw[← HK.out.1];unfold zd;rw[List.dropWhile_cons_of_pos (by simp[hp])]);rw[hp];clear hp HK;go_wp2_with fail;refine(ah4 1 HD1.out.win om).mono ?_;rintro e w2 ⟨rfl,hw,hk⟩;have e1:(max 0 (min (1:Int) (((c::r).length:Nat):Int))).toNat=1:=by simp only[n7];omega
    rw[e1]at hw ⊢;have HD2:=hid (HD1.out.moved hw hk);have HK2:=hid (HK1.out.trans (hk.less fun j q=>q.1));clear e1 hw hk HD1 HK1 c0;have c9:w2.cell? ⟨g,10,none⟩=some (.int .i64 _):=HD2.out.cd 9 om;have z9:=HD2.out.blk.fz 10;rw[a30 _ _ _ (by have:=HD2.out.len;rw[af3]at this;omega)]at c9;have hb1:=hC.out.1;have hb2:=hC.out.2;have hq:(0:Int) ≤(l.length:Int)-((c::r).length:Int):=by omega
    have hq2:(l.length:Int)-((c::r).length:Int)≤1024:=by omega
    generalize hQ:C.getD 9 0 +((l.length:Int)-((c::r).length:Int))=q at *;have HQ:=hid hQ;have hq3:0≤q:=by omega
    have hq4:q≤1000001024:=by omega
    clear hQ hb1 hb2 hq hq2;go_wp2_with fail
    go_region
    go_wp2_with fail
    go_step3
    have hd3:=HD2.out.set 9 (q+1) om
    have e3:(q6 C 9 ((l.length:Int)-((c::r).length:Int))).set 9 (q+1)=q6 C 9 ((l.length:Int)-(r.length:Int)):=by
     have h13:=HD2.out.len;rw[af3]at h13;unfold q6;rw[List.set_set]
     congr 1
     have:=HQ.out;simp only[n7]at this ⊢;omega
    rw[e3]at hd3;refine⟨rfl,⟨_,_,_,_,_,_,_,_,_,_,_,_,_,_,_,_,_,_,_,_,_,_,_,_,_,_,_,_,_,_,_,rfl,r,HS.out,by omega,hd3.drew,(HK2.out.trans (HD2.out.keptS 9 (q+1))).drew⟩,?_⟩;show ag9 b (World.drew (w2.setCell ⟨g,10,none⟩ (.int .i64 (q+1))))<ag9 b w;rw[HM.out,ahx hd3.drew.win,show (List.drop 1 (c::r)).length=r.length from rfl];simp only[n7];omega
   ·have hb:(xr c==0)=false:=by rw[l6];exact hp
    have hb2:(xr c != 0)=true:=by rw[b0g];exact hp
    have HS:Hid (c::r=zd l):=hid (by rw[← HK.out.1];unfold zd;rw[List.dropWhile_cons_of_neg (by simp[hp])]);clear hp HK;go_wp2_with fail;simp only[Exit.jump];go_ret;have e:=HS.out;refine⟨by rw[← e];rfl,?_,HK1.out⟩;rw[← e];exact HD1.out
def aa4 (v:VeD):Nat:=max v.n 1
def ajd:Nat→List UInt8→List VeD×List UInt8
 | 0,l=>([],l)
 | f+1,l=>if(jn l).d=0 then([],l)else(jn l::(ajd f (l.drop (aa4 (jn l)))).1,(ajd f (l.drop (aa4 (jn l)))).2)
def q9 (l:List UInt8):List VeD×List UInt8:=ajd l.length l
theorem auf {l:List UInt8} (h:(jn l).d≠0):0<l.length:=by
 cases l with
 | nil=>exact absurd rfl h
 | cons x l=>simp
theorem aip (v:VeD):1≤aa4 v:=by unfold aa4;omega
theorem ard {l:List UInt8} (h:(jn l).d≠0):aa4 (jn l)≤l.length:=by
 have h1:=auf h;unfold aa4
 by_cases h2:(jn l).d=2
 ·have:=amo l h2;omega
 ·have:=(axt l h2).1;omega
theorem at4:∀(f g:Nat) (l:List UInt8),l.length≤f→l.length≤g→ajd f l=ajd g l
 | 0,0,l,_,_=>rfl
 | 0,g+1,l,hf,_=>by
  obtain rfl:l=[]:=b0f om;rfl
 | f+1,0,l,_,hg=>by
  obtain rfl:l=[]:=b0f om;rfl
 | f+1,g+1,l,hf,hg=>by
  unfold ajd
  by_cases h:(jn l).d=0
  ·rw[if_pos h,if_pos h]
  ·have h1:=auf h;have h2:=aip (jn l);rw[if_neg h,if_neg h,at4 f g _ (by rw[l8];omega) (by rw[l8];omega)]
theorem acq {l:List UInt8} (h:(jn l).d=0):q9 l=([],l):=by
 cases l with
 | nil=>rfl
 | cons x l=>
  show ajd (l.length+1) (x::l)=_;unfold ajd;rw[if_pos h]
theorem acp {l:List UInt8} (h:(jn l).d≠0):q9 l=(jn l::(q9 (l.drop (aa4 (jn l)))).1,(q9 (l.drop (aa4 (jn l)))).2):=by
 cases l with
 | nil=>exact absurd rfl h
 | cons x l=>
  have h2:=aip (jn (x::l));show ajd (l.length+1) (x::l)=_;rw[ajd,if_neg h,at4 l.length _ _ (by rw[l8,n7];omega) (a8 _)];rfl
theorem alb {P:List UInt8→Prop} (h0:∀l,(jn l).d=0→P l) (h1:∀l,(jn l).d≠0→P (l.drop (aa4 (jn l)))→P l):∀l,P l:=by
 intro l;obtain⟨n,hn⟩:∃n,l.length≤n:=⟨_,a8 _⟩
 induction n generalizing l with
 | zero=>
  obtain rfl:l=[]:=b0f om;exact h0 _ rfl
 | succ n ih=>
  by_cases h:(jn l).d=0
  ·exact h0 l h
  ·have h2:=aip (jn l);exact h1 l h (ih _ (by rw[l8];omega))
theorem ala (l m:List UInt8):q9 (l++m)=((q9 l).1 ++(q9 ((q9 l).2++m)).1,(q9 ((q9 l).2++m)).2):=by
 revert m;refine alb (P:=fun l=>∀m,q9 (l++m)=((q9 l).1 ++(q9 ((q9 l).2++m)).1,(q9 ((q9 l).2++m)).2)) ?_ ?_ l
 ·intro l h m;rw[acq h];rfl
 ·intro l h ih m;have e:=bcl l m h;have h':(jn (l++m)).d≠0:=by rw[e];exact h
  rw[acp h',acp h,e,b3f (ard h),ih m];rfl
theorem amd (l:List UInt8):(jn (q9 l).2).d=0 ∧(q9 l).2.length<1024∧∃A,l=A ++(q9 l).2∧A.length=((q9 l).1.map aa4).sum:=by
 refine alb (P:=fun l=>(jn (q9 l).2).d=0 ∧(q9 l).2.length<1024∧∃A,l=A ++(q9 l).2∧A.length=((q9 l).1.map aa4).sum) ?_ ?_ l
 ·intro l h;rw[acq h];exact⟨h,aui l h,[],rfl,rfl⟩
 ·intro l h ⟨h1,h2,A,h3,h4⟩;rw[acp h];refine⟨h1,h2,l.take (aa4 (jn l))++A,?_,?_⟩
  ·rw[b0l,← h3,b0p]
  ·rw[d7,h4,l7,b1d (ard h)];simp
theorem a1e {P:VeD→Prop} (hP:∀l,(jn l).d≠0→P (jn l)) (l:List UInt8):∀v∈(q9 l).1,P v:=by
 refine alb (P:=fun l=>∀v∈(q9 l).1,P v) ?_ ?_ l
 ·intro l h;rw[acq h];intro v hv;cases hv
 ·intro l h ih;rw[acp h];intro v hv;rcases b0z.1 hv with rfl|hv
  ·exact hP l h
  ·exact ih v hv
def ayw (v:VeD):Nat:=if v.d=1 then 9+v.p.toNat else if v.x.od then 5+v.p.toNat else 1+v.p.toNat
def ajr (C:List Int) (v:VeD):List Int:=q6 C (ayw v) 1
def jp (C:List Int) (V:List VeD):List Int:=V.foldl ajr C
theorem ayx (C:List Int) (v:VeD):(ajr C v).length=C.length:=af3 _ _ _
theorem alt (C:List Int) (V:List VeD):(jp C V).length=C.length:=by
 unfold jp
 induction V generalizing C with
 | nil=>rfl
 | cons v V ih=>rw[b26,ih,ayx]
theorem ado (C:List Int) (V U:List VeD):jp C (V++U)=jp (jp C V) U:=b4w
def zg (V:List VeD):List ItD:=(V.filter fun v=>decide (v.d=2)).map (·.x)
theorem agc (V U:List VeD):zg (V++U)=zg V++zg U:=by simp[zg]
def akr:VeD:=⟨1,0,0,3,aek⟩
theorem bck {x:UInt8} {l:List UInt8} (h:xr x=0):jn (x::l)=akr:=by rw[vv,if_pos h];rfl
theorem awr (l:List UInt8):q9 l=(List.replicate (l.length-(zd l).length) akr ++(q9 (zd l)).1,(q9 (zd l)).2):=by
 induction l with
 | nil=>rfl
 | cons x l ih=>
  by_cases h:xr x=0
  ·have e:zd (x::l)=zd l:=by unfold zd;rw[List.dropWhile_cons_of_pos (by simp[h])]
   have hv:=bck (l:=l) h;have hle:=anh l;rw[e,acp (by rw[hv];decide),hv,show (x::l).drop (aa4 akr)=l from rfl,ih,n7,show l.length+1-(zd l).length=(l.length-(zd l).length)+1 from by omega,b4e];rfl
  ·have e:zd (x::l)=x::l:=by unfold zd;rw[List.dropWhile_cons_of_neg (by simp[h])]
   rw[e,b2p];rfl
theorem ayy (C:List Int) (k:Nat) (h:9<C.length):jp C (List.replicate k akr)=q6 C 9 k:=by
 induction k with
 | zero=>exact(amy C 9).symm
 | succ k ih=>
  rw[List.replicate_succ',ado,ih];show ajr (q6 C 9 k) akr=_;unfold ajr;show q6 (q6 C 9 k) 9 1=_;rw[a3z _ _ _ _ h]
  congr 1
theorem avu (k:Nat):zg (List.replicate k akr)=[]:=by
 unfold zg;rw[List.filter_eq_nil_iff.2 (fun v hv=>by rw[(List.mem_replicate.1 hv).2];decide)];rfl
def a7s (v:VeD):Prop:=(v.p=0∨v.p=1∨v.p=2∨v.p=3) ∧(v.d=1∧v.n=0∨v.d=2∧8≤v.n∧v.n≤1024∧v.p≠0)
theorem bgs (l:List UInt8) (h:(jn l).d≠0):a7s (jn l):=by
 refine⟨?_,?_⟩
 ·cases l with
  | nil=>exact absurd rfl h
  | cons x l=>rw[bgt (x::l) x rfl];exact aij x
 ·rcases bgq l with q|q|q
  ·exact absurd q h
  ·exact .inl ⟨q,(axt l om).1⟩
  ·have:=amo l q;exact .inr ⟨q,this.1,this.2.1,by omega⟩
theorem bf2 (l:List UInt8):∀v∈(q9 l).1,a7s v:=a1e (P:=a7s) bgs l
theorem as9 {C:List Int} {k:Nat} (hk:k<C.length) (n:Int) (j:Nat):(q6 C k n).getD j 0=C.getD j 0+if j=k then n else 0:=by
 unfold q6
 by_cases h:j=k
 ·subst h;rw[if_pos rfl];simp[hk]
 ·rw[if_neg h];have h':¬k=j:=fun e=>h e.symm
  simp[h']
def azx (C:List Int):Int:=C.getD 2 0+C.getD 3 0+C.getD 4 0
def blc (C:List Int):Int:=C.getD 6 0+C.getD 7 0+C.getD 8 0
def bdg (C:List Int):Int:=C.getD 9 0+C.getD 10 0+C.getD 11 0+C.getD 12 0
def atk (X:List ItD):Nat:=(X.filter fun x=>!x.od).length
theorem ay0:∀(V:List VeD) (C:List Int),C.length=13 →(∀v∈V,a7s v) →
 (jp C V).getD 0 0=C.getD 0 0 ∧(jp C V).getD 1 0=C.getD 1 0 ∧(jp C V).getD 5 0=C.getD 5 0∧azx (jp C V)=azx C +(atk (zg V):Int)∧azx (jp C V)+blc (jp C V)=azx C+blc C +((zg V).length:Int) ∧
 bdg (jp C V)-bdg C+8*((zg V).length:Int) ≤((V.map aa4).sum:Int) ∧((V.map aa4).sum:Int)≤bdg (jp C V)-bdg C+1024*((zg V).length:Int)
 | [],C,_,_=>by
  refine⟨rfl,rfl,rfl,?_,?_,?_,?_⟩<;>simp[jp,zg,atk]
 | v::V,C,hC,hV=>by
  have hv:=hV v sm;have ih:=ay0 V (ajr C v) (by rw[ayx];exact hC) (fun u hu=>hV u (by simp[hu]));have e1:jp C (v::V)=jp (ajr C v) V:=rfl;have e2:(((v::V).map aa4).sum:Int)=(aa4 v:Int) +((V.map aa4).sum:Int):=by rw[b2l,List.sum_cons];omega
  rw[e1,e2];generalize hg:jp (ajr C v) V=D at *;generalize (V.map aa4).sum=z at *
  have hget:∀k,ayw v=k→k<13→∀j,(ajr C v).getD j 0=C.getD j 0+if j=k then 1 else 0:=fun k e hk j=>by
   unfold ajr;rw[e];exact as9 om 1 j
  obtain⟨hp,hd⟩:=hv
  have i1:zg (v::V)=(if v.d=2 then [v.x]else [])++zg V:=by
   unfold zg
   by_cases h2:v.d=2<;>simp[h2]
  have i2:atk (zg (v::V))=(if v.d=2 then(if v.x.od=true then 0 else 1)else 0)+atk (zg V):=by
   rw[i1];unfold atk
   by_cases h2:v.d=2<;>by_cases h3:v.x.od=true<;>simp[h2,h3]<;>omega
  have i3:(zg (v::V)).length=(if v.d=2 then 1 else 0) +(zg V).length:=by
   rw[i1]
   by_cases h2:v.d=2<;>simp[h2]<;>omega
  rw[i2,i3];generalize (zg V).length=li at *;generalize atk (zg V)=gi at *;unfold azx blc bdg at *;unfold aa4;unfold ayw at hget;rcases hd with⟨d1,n0⟩|⟨d2,n1,n2,p0⟩
  ·rw[if_pos d1]at hget;rw[if_neg (show ¬v.d=2 by omega),if_neg (show ¬v.d=2 by omega),n0];rcases hp with p|p|p|p<;>rw[p]at hget<;>(have hq:=hget _ rfl dc)<;>simp only[hq]at ih<;>simp at ih ⊢<;>omega
  ·rw[if_neg (show ¬v.d=1 by omega)]at hget;rw[if_pos d2,if_pos d2]
   by_cases ho:v.x.od=true
   ·rw[if_pos ho]at hget ⊢;rcases hp with p|p|p|p
    ·exact absurd p p0
    all_goals (rw[p]at hget;have hq:=hget _ rfl dc;simp only[hq]at ih;simp at ih ⊢;omega)
   ·rw[if_neg ho]at hget ⊢;rcases hp with p|p|p|p
    ·exact absurd p p0
    all_goals (rw[p]at hget;have hq:=hget _ rfl dc;simp only[hq]at ih;simp at ih ⊢;omega)
theorem ayu (C:List Int) (i j:Nat) (a b:Int):q6 (q6 C i a) j b=q6 (q6 C j b) i a:=by
 by_cases h:i=j
 ·subst h;unfold q6
  by_cases hi:i<C.length
  ·simp[hi,Int.add_right_comm]
  ·simp[List.set_eq_of_length_le (Nat.le_of_not_lt hi)]
 ·unfold q6;rw[List.set_comm _ _ h];have h':¬j=i:=fun e=>h e.symm
  simp[h,h']
theorem a31 (C:List Int) (i:Nat) (a b:Int):q6 (q6 C i a) i b=q6 C i (a+b):=by
 unfold q6
 by_cases hi:i<C.length
 ·simp[hi,Int.add_assoc]
 ·simp[List.set_eq_of_length_le (Nat.le_of_not_lt hi)]
theorem als (i:Nat) (a:Int):∀(V:List VeD) (C:List Int),jp (q6 C i a) V=q6 (jp C V) i a
 | [],_=>rfl
 | v::V,C=>by
  show jp (ajr (q6 C i a) v) V=q6 (jp (ajr C v) V) i a;rw[← als i a V (ajr C v)];unfold ajr;rw[ayu]
def aez (l:List UInt8):List Int:=q6 (jp [0,0,0,0,0,0,0,0,0,0,0,0,0] (q9 l).1) 0 l.length
theorem bdo (l m:List UInt8):jp (q6 (aez l) 0 m.length) (q9 ((q9 l).2++m)).1=aez (l++m):=by
 unfold aez;rw[a31,als,ala l m,ado,d7]
 congr 1
theorem a40 (l m:List UInt8):zg (q9 (l++m)).1=zg (q9 l).1++zg (q9 ((q9 l).2++m)).1:=by rw[ala,agc]
theorem zz.kept2 {W W':World} {g b k o:Nat} {cs:List Value} {C:List Int} {l:List UInt8} (h:zz W g b C l) (hs:qp W W' k o cs) (h1:g≠k) (h2:b≠k):zz W' g b C l:=
 ⟨h.blk.far hs h1,h.len,h.win.kept (hs.far b h2) (b35 hs.sz.symm),h.ne⟩
def akk (g b:Nat) (C:List Int) (l:List UInt8) (W:World) (e:Ending) (w':World):Prop:=
 e=.returned (.slice none 0 0)∧zz w' g b (q6 C 9 ((l.length:Int)-((zd l).length:Int))) (zd l)∧qj (fun j=>j<W.1.size∧j≠b∧j≠g) W w'
theorem awn {W:World} {g b:Nat} {C:List Int} {l:List UInt8} (h:zz W g b C l) (hC:Hid (0≤C.getD 9 0∧C.getD 9 0≤1000000000)) (hl:zd l=[]):Calls prog 39 #[.pointer (some ⟨g,0,none⟩)] W (akk g b C l W):=by
 have HS:Hid (Calls prog 56 #[.pointer (some ⟨g,0,none⟩)] W fun e w'=>e=.returned (.bool false)∧zz w' g b (q6 C 9 ((l.length:Int)-((zd l).length:Int))) (zd l)∧qj (fun j=>j≠b∧j≠g) W w'):=hid (by
  have:=ahr h hC;unfold aor at this;rw[hl]at this ⊢;exact this)
 clear h hC hl;go_enter func39,ntmps39;go_wp2_with fail
 go_step3
 go_wp2_with fail
 go_step3
 go_wp2_with fail;refine HS.out.mono ?_;rintro e w1 ⟨rfl,hd,hk⟩;have HD:=hid (o4 hd hk);clear hd hk HS;go_wp2_with fail;rw[b5e];go_ret;exact⟨rfl,HD.out.1,HD.out.2.less fun j q=>q.2⟩
theorem a09 {W:World} {g b:Nat} {C:List Int} {l r:List UInt8} {x:UInt8} (h:zz W g b C l) (hC:Hid (0≤C.getD 9 0∧C.getD 9 0≤1000000000)) (hl:zd l=x::r) (p:Int)
 (HA:∀W' d,Blk W' d (bsV (x::r))→Hid (Calls prog 10 #[.slice (some ⟨d,0,none⟩) (x::r).length (x::r).length] W' (aoj 0 p 0 0 W'))) :
 Calls prog 39 #[.pointer (some ⟨g,0,none⟩)] W (akk g b C l W):=by
 have HS:Hid (Calls prog 56 #[.pointer (some ⟨g,0,none⟩)] W fun e w'=>e=.returned (.bool true)∧zz w' g b (q6 C 9 ((l.length:Int)-((zd l).length:Int))) (x::r)∧qj (fun j=>j≠b∧j≠g) W w'):=hid (by
  have:=ahr h hC;unfold aor at this;rw[hl]at this ⊢;exact this)
 have HL:=hid hl;have HZ:=fun W=>hid (aex W)
 have hlp:(0:Int)<((x::r).length:Int):=by simp only[n7];omega
 clear h hC hl;go_enter func39,ntmps39;go_wp2_with fail
 go_step3
 go_wp2_with fail
 go_step3
 go_wp2_with fail;refine HS.out.mono ?_;rintro e w1 ⟨rfl,hd,hk⟩;have HD:=hid hd;have HK:=hid hk;have c0:=hd.c0;clear hd hk HS;go_wp2_with fail;refine(ah6 HD.out.win).mono ?_;rintro e w2 ⟨rfl,hbk,-,hb,-⟩;have HD2:=hid (HD.out.on hb);have HA2:=hid (HA _ _ hbk);have HK2:Hid (qj (fun j=>j<W.1.size∧j≠b∧j≠g) W w2):=hid ((HK.out.less fun j q=>q.2).trans (qj.of_below hb fun j q=>e9 q.1 HK.out.size));clear hbk hb HD HK c0 HA;generalize (x::r).length=L at *;go_wp2_with fail
 go_loopg [3,4] 1 (fun _ s3 s4 wr=>s3=.slice none 0 0∧s4=.slice (some ⟨w1.1.size,0,none⟩) L L∧wr=w2)
 case atStart=>exact⟨rfl,rfl,rfl⟩
 case round=>
  obtain⟨rfl,rfl,rfl⟩:=hrel;go_wp2_with fail;refine HA2.out.out.mono ?_;rintro e w3 ⟨rfl,hb⟩;have HD3:=hid (HD2.out.on hb);have HK3:=hid (HK2.out.trans (qj.of_below hb fun j q=>e9 q.1 HK2.out.size));clear hb HD2 HK2 HA2
  go_upto_region 7 with(first
   | (refine qc rfl 66 rfl (veA 0 0 0 0) (HZ _).out ?_;intro W4 hW;have HV4:=hid (Blk.newL (L:=veL 0 0 0 0 adm) hW rfl);have HD4:=hid (HD3.out.on hW.bel);have HK4:=hid (HK3.out.trans (qj.of_below hW.bel fun j q=>e9 q.1 HK3.out.size));clear hW)
   | (refine qe rfl 66 _ _ rfl w3.1.size 0 (veA 0 p 0 0) rfl rfl (HV4.out.there 0 124 (a8 _)) (ags _ _ _ _) (agr _ _ _ _) ?_;intro W5 hs;have HV5:=hid (HV4.out.all hs rfl);have HD5:=hid (HD4.out.kept2 hs (by have:=HD3.out.blk.lt;omega) (by have:=HD3.out.win.lt;omega));have HK5:=hid (HK4.out.stored hs (fun q=>by have:=HK3.out.size;omega));clear hs))
  have v0:=HV5.out.cell 0 (v:=.int .i64 0) rfl;clear HV5 HV4 HD4 HK4;go_wp2_with fail;rw[b5e];go_ret;refine⟨rfl,?_,HK5.out⟩;rw[HL.out];have:=HD5.out;rw[HL.out]at this;exact this
theorem aqs {W:World} {g b d:Nat} {C:List Int} {l bs:List UInt8} (h:zz W g b C l) (hb:Blk W d (bsV bs)) (hdg:d≠g) (hdb:d≠b) (hn:0<bs.length) (hf:l.length+bs.length≤1024) (hC:Hid (0≤C.getD 0 0∧C.getD 0 0≤1000000000))
 (HR:∀W1,zz W1 g b (q6 C 0 bs.length) (l++bs)→Hid (Calls prog 39 #[.pointer (some ⟨g,0,none⟩)] W1 (akk g b (q6 C 0 bs.length) (l++bs) W1))) :
 Calls prog 22 #[.pointer (some ⟨g,0,none⟩),.slice (some ⟨d,0,none⟩) bs.length bs.length] W fun e w'=>e=.returned (.slice none 0 0) ∧
  zz w' g b (q6 (q6 C 0 bs.length) 9 (((l++bs).length:Int)-((zd (l++bs)).length:Int))) (zd (l++bs))∧qj (fun j=>j<W.1.size∧j≠b∧j≠g) W w':=by
 have c1:W.cell? ⟨g,1,none⟩=some (.int .i64 (C.getD 0 0)):=h.cd 0 om;have z1:=h.blk.fz 1;have HT:=hid h;have hs:zz (W.setCell ⟨g,1,none⟩ (.int .i64 (C.getD 0 0+bs.length))) g b (q6 C 0 bs.length) l:=h.set 0 _ om;have hst:qp W (W.setCell ⟨g,1,none⟩ (.int .i64 (C.getD 0 0+bs.length))) g 1 [.int .i64 (C.getD 0 0+bs.length)]:=ze (h.blk.there 1 1 (by rw[apr,h.len];omega));have HB:=hid (hb.far hst hdg);have HK0:=hid ((qj.refl (fun j=>j<W.1.size∧j≠b∧j≠g) W).stored hst (fun q=>q.2.2 rfl));have hb1:=hC.out.1;have hb2:=hC.out.2;generalize C.getD 0 0=In at *;have HD:=hid hs;clear hs hst hb h hC;have HN:=hid (o4 hn hf);have hn':(0:Int)<(bs.length:Int):=by omega
 have hn2:(bs.length:Int)≤1024:=by omega
 have HP:∀w1,zz w1 g b (q6 C 0 bs.length) l→Blk w1 d (bsV bs)→Hid (Calls prog 38 #[.pointer (some ⟨b,0,none⟩),.slice (some ⟨d,0,none⟩) bs.length bs.length] w1 fun e w'=>e=.returned (.int .i64 (bs.length:Nat))∧zz w' g b (q6 C 0 bs.length) (l++bs)∧qj (fun k=>k≠b) w1 w'):=fun w1 h1 h2=>hid (by
  have:=arp (bs:=bs) (some ⟨d,0,none⟩) bs.length h1.win (h2.flat (Q:=fun k=>k≠b) hdb) (by unfold maxLen;omega) (a8 _);rw[show min bs.length (1024-l.length)=bs.length from by omega,b0o]at this;refine this.mono ?_;rintro e w' ⟨rfl,q1,q2⟩;exact⟨rfl,h1.moved q1 q2,q2⟩)
 generalize bs.length=n at *;go_enter func22,ntmps22;go_wp2_with (refine(ace HT.out).mono ?_;rintro e w' ⟨rfl,rfl⟩);generalize hW1:W.setCell ⟨g,1,none⟩ (.int .i64 (In +(n:Int)))=W1 at *;obtain⟨Fin,hFin⟩:∃F:World→Prop,F=fun w'=>zz w' g b (q6 (q6 C 0 n) 9 (((l++bs).length:Int)-((zd (l++bs)).length:Int))) (zd (l++bs))∧qj (fun j=>j<W.1.size∧j≠b∧j≠g) W w':=⟨_,rfl⟩
 have HFin:Hid (∀w',Fin w'↔zz w' g b (q6 (q6 C 0 n) 9 (((l++bs).length:Int)-((zd (l++bs)).length:Int))) (zd (l++bs))∧qj (fun j=>j<W.1.size∧j≠b∧j≠g) W w'):=hid (by rw[hFin];exact fun _=>Iff.rfl);clear hFin hW1 c1 z1;obtain⟨i0,hi⟩:∃i0,prog.info? 64=some i0:=info_of_underlying underlying64;have HAP:∀w:World,(Builtin.append_ #[75,75] 75 #[.slice none 0 0,.slice none 0 0]).run prog w=.ok (.slice none 0 0) w:=fun w=>run_append_nothing (P:=prog) w 75 75 75 64 i0 underlying75 hi none 0 0 (a8 _) (.slice none 0 0) ⟨.inl ⟨64,underlying75⟩,fun w'=>by simp[Builtin.lenOf],by simp[Builtin.firstCells],by simp[Builtin.firstCells],by simp,fun u hu=>by cases hu⟩
 have HAPP:=fun w=>hid (HAP w)
 clear HAP hi
 go_loopg [1,5] 1 (fun gk s1 s5 wr=>s5=.slice none 0 0 ∧((1≤gk∧s1=.slice (some ⟨d,0,none⟩) n n∧wr=W1) ∨(s1=.slice (some ⟨d,0,none⟩) 0 0∧Hid (Fin wr))))
 case atStart=>exact⟨rfl,.inl ⟨a8 _,rfl,rfl⟩⟩
 case round=>
  obtain⟨rfl,⟨hg1,rfl,rfl⟩|⟨rfl,hF⟩⟩:=hrel
  ·have c0:=HD.out.c0;go_wp2_with fail;refine(HP _ HD.out HB.out).out.mono ?_;rintro e w2 ⟨rfl,hd,hk⟩;have HR2:=hid (HR _ hd).out;have HK2:=hid (HK0.out.trans (hk.less fun j q=>q.2.1));clear hd hk HD HB HR HP c0;go_wp2_with fail;refine HR2.out.mono ?_;rintro e w3 ⟨rfl,hd,hk⟩;have hf3:Fin w3:=(HFin.out w3).2 ⟨hd,HK2.out.trans (hk.less fun j q=>⟨e9 q.1 HK2.out.size,q.2⟩)⟩;have HF3:=hid hf3;clear hd hk hf3;go_wp2_with (refine qw rfl _ _ _ rfl (.slice none 0 0) (.slice none 0 0) (.slice none 0 0) rfl rfl (HAPP _).out ?_)
   go_roundg 0
   case measure=>omega
   case rel=>exact⟨rfl,.inr ⟨rfl,HF3⟩⟩
  ·go_wp2_with fail;go_ret;exact⟨rfl,((HFin.out _).1 hF.out).1,((HFin.out _).1 hF.out).2⟩
def abh (C:List Int):Array Value:=(C.map (Value.int .i64)).toArray
def z13:List Int:=[0,0,0,0,0,0,0,0,0,0,0,0,0]
def z4A:Array Value:=#[.int .i64 0,.int .i64 0,.int .i64 0,.int .i64 0]
theorem a2y (w:World):(zeroValue 78).run prog w=.ok (.agg (abh z13)) w:=by kernel_rfl
theorem a8j (w:World):(zeroValue 76).run prog w=.ok (.agg z4A) w:=by kernel_rfl
theorem a3s (w:World):(Instr.build 78 #[]).run prog w=.ok (.agg (abh z13)) w:=by kernel_rfl
theorem akp {C:List Int} (h:C.length=13):(prog.info? 78).map (·.size)=some (abh C).size:=by
 unfold abh;rw[o6,b0s,h];kernel_rfl
theorem a9i {C:List Int} (h:C.length=13):(prog.info? 78).map (·.size)=some (C.map (Value.int .i64)).length:=by
 rw[b0s,h];kernel_rfl
theorem ayz (C:List Int):(abh C).all (·.oneCell')=true:=vm fun v hv=>by
 obtain⟨n,-,rfl⟩:=b2c.1 hv;rfl
theorem zz.rgC {W:World} {g b:Nat} {C:List Int} {l:List UInt8} (h:zz W g b C l):W.rangeAt g 1 (C.map (Value.int .i64)):=by
 have:=h.blk.rg;unfold ar6 at this;exact(World.rangeAt_cons.1 this).2
theorem ajb {W:World} {g b:Nat} {C:List Int} {l:List UInt8} (h:zz W g b C l) (h0:C.getD 0 0≠0) :
 Calls prog 24 #[.pointer (some ⟨g,0,none⟩)] W fun e w'=>e=.returned (.agg (abh C))∧zz w' g b C l∧Below W.1.size W w':=by
 have HZ:=fun W=>hid (a2y W)
 have HZA:=fun W=>hid (a8j W)
 have H:=hid h;have hb0:(C.getD 0 0==0)=false:=by rw[l6];exact h0
 clear h h0;go_enter func24,ntmps24
 go_upto_region 2 with(first
  | (refine qc rfl 78 rfl (abh z13) (HZ _).out ?_;intro W1 hW;have HC1:=hid (Blk.newL (L:=z13.map (Value.int .i64)) hW rfl);have H1:=hid (H.out.on hW.bel);have HB1:=hid hW.bel;clear hW)
  | (refine qc rfl 76 rfl z4A (HZA _).out ?_;intro W2 hW;have HC2:=hid (HC1.out.on hW.bel);have H2:=hid (H1.out.on hW.bel);have HB2:=hid (qb HB1.out hW.bel);clear hW))
 obtain⟨In,hIn⟩:∃In,C.getD 0 0=In:=⟨_,rfl⟩;rw[hIn]at hb0;have HIn:=hid hIn;clear hIn
 try (apply b1e;intro K_ HK_)
 have hS0:Below W2.1.size W2 W2.drew:=(n6 _ _).drew;refine o7 (S:=fun w'=>Below W2.1.size W2 w') kr hS0 (fun hHeld0=>?_);refine tkA 0 4 rfl ?_;go_frame;refine rdB 1 5 rfl fun K hK=>?_
 go_step;refine(ace (H2.out.on hHeld0)).mono ?_;rintro e W' ⟨rfl,rfl⟩
 try go_frame
 refine hK.out _ _ (hHeld0) (fun hHeld=>?_);clear hK K
 try go_frame
 refine tkA 2 6 rfl ?_;go_frame;refine tkA 3 7 rfl ?_;go_frame;refine tkA 4 8 rfl ?_;go_frame;refine tkA 5 9 rfl ?_;go_frame;refine tkA 6 10 rfl ?_;go_frame;refine tkA 7 11 rfl ?_;go_frame;refine tkQ (i:=8) (oi:=⟨some 12,_,_,_,_,_⟩) (v:=?_) rfl (Or.inl ⟨by rfl,?_⟩) ?_;rotate_left
 ·intro w' hSw;have c1:w'.cell? ⟨g,1,none⟩=some (.int .i64 In):=by have:=(H2.out.on hSw).cd 0 om;rw[HIn.out]at this;exact this
  go_simp
  try with_reducible rfl
 try go_frame
 refine tkA 9 13 rfl ?_;go_frame;refine tkA 10 14 rfl ?_;go_frame;refine tkU 11 15 rfl ?_;go_frame;refine tkU 12 16 rfl ?_;go_frame;refine tkU 13 17 rfl ?_;go_frame;refine tkU 14 18 rfl ?_;go_frame;refine tkU 15 19 rfl ?_;go_frame;refine tkU 16 20 rfl ?_;go_frame;refine tkU 17 21 rfl ?_;go_frame;refine tkA 18 22 rfl ?_;go_frame;refine tkA 19 23 rfl ?_;go_frame;refine b0j kr ?_ _
 try go_frame
 have HC3:Hid (Blk _ W.1.size (z13.map (Value.int .i64))):=hid (HC2.out.on hHeld0);have H3:=hid (H2.out.on hHeld0);have HB3:=hid (qb HB2.out hHeld0);clear HC2 H2 HB2 HC1 H1 HB1;have HL:=hid H3.out.len
 go_wp2_with (first
  | refine b0i rfl 78 _ rfl g 1 rfl (C.map (Value.int .i64)) _ H3.out.rgC underlying78 rfl (a9i HL.out) ?_
  | (refine qe rfl 78 _ _ rfl W.1.size 0 (abh C) rfl rfl (HC3.out.there 0 (abh C).size (by unfold abh;rw[o6,b0s,HL.out];decide)) (akp HL.out) (ayz C) ?_;intro W4 hs;have HC4:=hid (HC3.out.all hs (by unfold abh;rw[b1i,b0s,HL.out];rfl));have H4:=hid (H3.out.kept2 hs (by have:=H.out.blk.lt;omega) (by have:=H.out.win.lt;omega));have HB4:=hid (HB3.out.trans (hs.below (a8 _)));clear hs))
 try go_frame
 have HLD:=hid (t6 (P:=prog) W4 W.1.size 0 78 (abh C).toList _ HC4.out.rg underlying78 rfl (by rw[b1j];exact akp HL.out));refine b9 (v:=.agg (abh C)) (by rw[yk rfl];simp[asAddr,Result.andThen,HLD.out]) rfl ⟨rfl,H4.out,HB4.out⟩
theorem bkv (W:World) (d:Nat) (h:Blk W d (bsV [181,98])):Calls prog 10 #[.slice (some ⟨d,0,none⟩) [181,98].length [181,98].length] W (aoj 0 1 0 0 W):=by
 have hf:∀W',Below W.1.size W W'→qf (fun _=>True) W' (some ⟨d,0,none⟩) (bsV [181,98]):=fun W' hb=>(h.on hb).flat trivial
 have:=bfo (Q:=fun _=>True) (w:=W) (some ⟨d,0,none⟩) 2 181 [98] 1 2 (h.flat trivial) dc dc dc (by unfold maxLen;decide) (fun W1 hb1=>hid (bat 0 2 fun W2 hb2=>hid (axo 2 dc 0 fun W3 hb3=>hid (by
  exact ai4 (some ⟨d,0,none⟩) 2 [181,98] (hf _ (qb hb1 (qb hb2 hb3))) dc dc))))
 exact this
theorem ba5 (W:World) (g b:Nat) (C:List Int) (h:zz W g b C [0]) (hC:0≤C.getD 9 0∧C.getD 9 0≤1000000000):Calls prog 39 #[.pointer (some ⟨g,0,none⟩)] W (akk g b C [0] W):=
 awn h hC dc
theorem bi8 (W:World) (g b:Nat) (C:List Int) (h:zz W g b C [181,98]) (hC:0≤C.getD 9 0∧C.getD 9 0≤1000000000):Calls prog 39 #[.pointer (some ⟨g,0,none⟩)] W (akk g b C [181,98] W):=
 a09 (x:=181) (r:=[98]) h hC dc 1 fun W' d hk=>hid (bkv W' d hk)
theorem bdy (W:World) (g b d:Nat) (h:zz W g b z13 []) (hb:Blk W d (bsV [0])) (hdg:d≠g) (hdb:d≠b) :
 Calls prog 22 #[.pointer (some ⟨g,0,none⟩),.slice (some ⟨d,0,none⟩) 1 1] W fun e w'=>e=.returned (.slice none 0 0) ∧
  zz w' g b [1,0,0,0,0,0,0,0,0,1,0,0,0] []∧qj (fun j=>j<W.1.size∧j≠b∧j≠g) W w':=
 aqs (bs:=[0]) h hb hdg hdb dc dc (hid dc) fun W1 h1=>hid (ba5 W1 g b _ h1 dc)
theorem bdz (W:World) (g b d:Nat) (h:zz W g b [1,0,0,0,0,0,0,0,0,1,0,0,0] []) (hb:Blk W d (bsV [181,98])) (hdg:d≠g) (hdb:d≠b) :
 Calls prog 22 #[.pointer (some ⟨g,0,none⟩),.slice (some ⟨d,0,none⟩) 2 2] W fun e w'=>e=.returned (.slice none 0 0) ∧
  zz w' g b [3,0,0,0,0,0,0,0,0,1,0,0,0] [181,98]∧qj (fun j=>j<W.1.size∧j≠b∧j≠g) W w':=
 aqs (bs:=[181,98]) h hb hdg hdb dc dc (hid dc) fun W1 h1=>hid (bi8 W1 g b _ h1 dc)
theorem aai {w:World} {d:Nat} (h:Blk w d (bsV [181,98])):(convert 22 9 (.slice (some ⟨d,0,none⟩) 2 2)).run prog w=.ok (.string ⟨#[181,98]⟩) w:=
 agh w 22 9 5 ⟨d,0,none⟩ 2 [181,98] underlying22 underlying5 underlying9 (fun j hj=>by
  rw[adn];have hj2:j<2:=by simpa using hj
  have:j=0∨j=1:=by omega
  rcases this with rfl|rfl
  ·exact h.cell 0 rfl
  ·exact h.cell 1 rfl)
theorem a87 (w:World):(Instr.build 76 #[(0,.int .i64 1)]).run prog w=.ok (.agg #[.int .i64 1,.int .i64 0,.int .i64 0,.int .i64 0]) w:=by kernel_rfl
theorem a3v (w:World):(Instr.build 78 #[(0,.int .i64 3),(3,.agg #[.int .i64 1,.int .i64 0,.int .i64 0,.int .i64 0])]).run prog w=.ok (.agg (abh [3,0,0,0,0,0,0,0,0,1,0,0,0])) w:=by kernel_rfl
theorem bdw (w:World):(binOp .eql 78 (.agg (abh [3,0,0,0,0,0,0,0,0,1,0,0,0])) (.agg (abh [3,0,0,0,0,0,0,0,0,1,0,0,0]))).run prog w=.ok (.bool true) w:=by kernel_rfl
theorem bdv (C D:Array Value) (x y:Operand) (w:World):(eqGuard .eql 78 x y (.agg C) (.agg D)).run prog w=.ok () w:=by kernel_rfl
theorem aci {P:Program} {ops:Array Oper} {S:World→Prop} {o:Oper} {a:Act} (hw:Region.wanted o (yielded ops a.tmps)=true) (bo:BinOp) (xT:TypeId) (x y:Operand) (yT:TypeId) (ho:o.op=.binOp bo xT x y yT) {u v r:Value} (hx:a.eval x=u) (hy:a.eval y=v) (hg:∀w,(eqGuard bo xT x y u v).run P w=.ok () w) (hr:∀w,(binOp bo xT u v).run P w=.ok r w):YieldsIf P ops S o r a:=
 .inl ⟨hw,fun w _=>by
  unfold execOp;rw[ho];simp only[hx,hy,b1k,hg,hr,b1f,b27]⟩
theorem am6 (w:World):Calls prog 20 #[] w fun e w'=>e=.returned (.bool true)∧Below w.1.size w w':=by
 have EB:=fun W=>a87 W
 have EC:=fun W=>a3v W
 go_enter func20,ntmps20;go_wp2_with fail;refine(agf _).mono ?_;rintro e w1 ⟨rfl,hd,hb,hs⟩;have hz:w1.1.size=w.1.size+2:=hs;have HD1:=hid (hd.on (qa w1 (.cells #[.int .u8 0] 5)));have HB1:=hid (qb hb (qa w1 (.cells #[.int .u8 0] 5)));have HK1:Hid (Blk (w1.alloc (.cells #[.int .u8 0] 5)) w1.1.size (bsV [0])):=hid (Blk.newL (qg w1 #[.int .u8 0] 5) rfl);have HZ:=hid hz;clear hd hb hs hz;go_wp2_with fail;refine(bdy _ _ _ _ HD1.out HK1.out (by have:=HZ.out;omega) (by have:=HZ.out;omega)).mono ?_;rintro e w2 ⟨rfl,hd,hk⟩
 have HB2:Hid (Below w.1.size w w2):=hid (HB1.out.trans (hk.below fun j q=>by
  have:=HZ.out;refine⟨by simp;omega,by omega,by omega⟩))
 have HD2:=hid (hd.on (qa w2 (.cells #[.int .u8 181,.int .u8 98] 5)));have HB3:=hid (qb HB2.out (qa w2 (.cells #[.int .u8 181,.int .u8 98] 5)));have HK2:Hid (Blk (w2.alloc (.cells #[.int .u8 181,.int .u8 98] 5)) w2.1.size (bsV [181,98])):=hid (Blk.newL (qg w2 #[.int .u8 181,.int .u8 98] 5) rfl);have HZ2:Hid (w.1.size+2≤w2.1.size):=hid (by have h1:=hk.size;have h2:=HZ.out;simp at h1;omega);clear hd hk HD1 HB1 HK1 HB2;go_wp2_with fail;refine(bdz _ _ _ _ HD2.out HK2.out (by have:=HZ2.out;omega) (by have:=HZ2.out;omega)).mono ?_;rintro e w3 ⟨rfl,hd,hk⟩;have HD3:=hid hd
 have HB4:Hid (Below w.1.size w w3):=hid (HB3.out.trans (hk.below fun j q=>by
  have:=HZ2.out;refine⟨by simp;omega,by omega,by omega⟩))
 clear hd hk HD2 HB3 HK2;go_wp2_with fail
 try (apply b1e;intro K_ HK_)
 have hS0:Below w3.1.size w3 w3.drew:=(n6 _ _).drew;refine o7 (S:=fun w'=>Below w3.1.size w3 w') kr hS0 (fun hHeld0=>?_);refine tkA 0 13 rfl ?_;go_frame;refine tkA 1 14 rfl ?_;go_frame;refine tkA 2 15 rfl ?_;go_frame;refine tkA 3 16 rfl ?_;go_frame;refine tkA 4 17 rfl ?_;go_frame;refine tkA 5 18 rfl ?_;go_frame;refine tkA 6 19 rfl ?_;go_frame;refine tkA 7 20 rfl ?_;go_frame;refine tkA 9 22 rfl ?_;go_frame;refine tkA 10 23 rfl ?_;go_frame;refine rdB 8 21 rfl fun K hK=>?_
 go_step;refine(ajb (HD3.out.on hHeld0) dc).mono ?_;rintro e w4 ⟨rfl,hd,hb⟩;have HD4:=hid hd;have hS4:Below w3.1.size w3 w4:=hHeld0.trans (hb.mono hHeld0.size);clear hd hb
 try go_frame
 refine hK.out _ _ (hS4) (fun hHeld=>?_);clear hK K
 try go_frame
 refine tkQ (i:=11) (oi:=⟨some 24,_,_,_,_,_⟩) (v:=.bool true) rfl (aci (by rfl) .eql 78 (.tmp 21) (.tmp 23) 78 rfl (u:=.agg (abh [3,0,0,0,0,0,0,0,0,1,0,0,0])) (v:=.agg (abh [3,0,0,0,0,0,0,0,0,1,0,0,0])) kr kr (fun W=>bdv _ _ _ _ W) (fun W=>bdw W)) ?_;go_frame;refine tkA 12 25 rfl ?_;go_frame;refine tkA 13 26 rfl ?_;go_frame;refine tkA 14 27 rfl ?_;go_frame;refine b1a (rs:=[15,17]) kr sm ?_;refine b0r (o:=⟨some 28,_,_,_,_,_⟩) rfl (fun K hK=>?_) (b0r (o:=⟨some 30,_,_,_,_,_⟩) rfl (fun K hK=>?_) b06)
 ·rw[if_pos (by rfl)];go_step;refine(ab4 (HD4.out.on (n6 _ _))).mono ?_;rintro e v1 ⟨rfl,hk,-,hb,-⟩;have hR1:=hk;have hS1:Below w3.1.size w3 v1:=hS4.trans (hb.mono hS4.size);have hS1x:Below w4.1.size w4 v1:=hb
  try go_frame
  refine hK.out _ _ hS1 (fun hHeld1=>?_);clear hK K
  try go_frame
  refine b1a (rs:=[16,17]) kr sm ?_;refine b0r (o:=⟨some 29,_,_,_,_,_⟩) rfl (fun K hK=>?_) (b0r (o:=⟨some 30,_,_,_,_,_⟩) rfl (fun K hK=>?_) b06)
  ·rw[if_pos (by rfl)];have cv:=aai hR1;go_step;clear cv
   try go_frame
   refine hK.out _ _ hS1 (fun hHeld2=>?_);clear hK K
   try go_frame
   refine rdB 17 30 rfl fun K hK=>?_
   go_step;have hB3:Blk (World.alloc v1 (.cells #[.int .u8 181,.int .u8 98] 5)) (v1).1.size (bsV [181,98]):=Blk.newL (qg _ #[.int .u8 181,.int .u8 98] 5) rfl;have hb:=qa v1 (.cells #[.int .u8 181,.int .u8 98] 5);have hS3:=hS1.trans (hb.mono hS1.size);have hS3x:=qb hS1x hb;have hR3:=hR1.on hb;generalize World.alloc v1 (.cells #[.int .u8 181,.int .u8 98] 5)=v3 at *
   try go_frame
   refine hK.out _ _ hS3 (fun hHeld3=>?_);clear hK K
   try go_frame
   refine rdB 18 31 rfl fun K hK=>?_
   have cv:=aai hB3;go_step;clear cv
   try go_frame
   refine hK.out _ _ hS3 (fun hHeld4=>?_);clear hK K
   try go_frame
   refine tkA 19 32 rfl ?_;go_frame;refine tkA 20 33 rfl ?_;go_frame;refine tkA 21 0 rfl ?_;go_frame;refine b0j kr ?_ _
   try go_frame
   go_wp2_with fail;go_ret;exact⟨rfl,qb HB4.out hS3⟩
  ·rw[if_pos (by rfl)];go_step;have hB5:Blk (World.alloc v1 (.cells #[.int .u8 181,.int .u8 98] 5)) (v1).1.size (bsV [181,98]):=Blk.newL (qg _ #[.int .u8 181,.int .u8 98] 5) rfl;have hb:=qa v1 (.cells #[.int .u8 181,.int .u8 98] 5);have hS5:=hS1.trans (hb.mono hS1.size);have hS5x:=qb hS1x hb;have hR5:=hR1.on hb;generalize World.alloc v1 (.cells #[.int .u8 181,.int .u8 98] 5)=v5 at *
   try go_frame
   refine hK.out _ _ hS5 (fun hHeld5=>?_);clear hK K
   try go_frame
   refine b1a (rs:=[16,18]) kr sm ?_;refine b0r (o:=⟨some 29,_,_,_,_,_⟩) rfl (fun K hK=>?_) (b0r (o:=⟨some 31,_,_,_,_,_⟩) rfl (fun K hK=>?_) b06)
   ·rw[if_pos (by rfl)];have cv:=aai hR5;go_step;clear cv
    try go_frame
    refine hK.out _ _ hS5 (fun hHeld6=>?_);clear hK K
    try go_frame
    refine rdB 18 31 rfl fun K hK=>?_
    have cv:=aai hB5;go_step;clear cv
    try go_frame
    refine hK.out _ _ hS5 (fun hHeld7=>?_);clear hK K
    try go_frame
    refine tkA 19 32 rfl ?_;go_frame;refine tkA 20 33 rfl ?_;go_frame;refine tkA 21 0 rfl ?_;go_frame;refine b0j kr ?_ _
    try go_frame
    go_wp2_with fail;go_ret;exact⟨rfl,qb HB4.out hS5⟩
   ·rw[if_pos (by rfl)];have cv:=aai hB5;go_step;clear cv
    try go_frame
    refine hK.out _ _ hS5 (fun hHeld8=>?_);clear hK K
    try go_frame
    refine rdB 16 29 rfl fun K hK=>?_
    have cv:=aai hR5;go_step;clear cv
    try go_frame
    refine hK.out _ _ hS5 (fun hHeld9=>?_);clear hK K
    try go_frame
    refine tkA 19 32 rfl ?_;go_frame;refine tkA 20 33 rfl ?_;go_frame;refine tkA 21 0 rfl ?_;go_frame;refine b0j kr ?_ _
    try go_frame
    go_wp2_with fail;go_ret;exact⟨rfl,qb HB4.out hS5⟩
 ·rw[if_pos (by rfl)];go_step;have hB10:Blk (World.alloc w4 (.cells #[.int .u8 181,.int .u8 98] 5)) (w4).1.size (bsV [181,98]):=Blk.newL (qg _ #[.int .u8 181,.int .u8 98] 5) rfl;have hb:=qa w4 (.cells #[.int .u8 181,.int .u8 98] 5);have hS10:=hS4.trans (hb.mono hS4.size);have hS10x:=hb;generalize World.alloc w4 (.cells #[.int .u8 181,.int .u8 98] 5)=v10 at *
  try go_frame
  refine hK.out _ _ hS10 (fun hHeld10=>?_);clear hK K
  try go_frame
  refine b1a (rs:=[15,18]) kr sm ?_;refine b0r (o:=⟨some 28,_,_,_,_,_⟩) rfl (fun K hK=>?_) (b0r (o:=⟨some 31,_,_,_,_,_⟩) rfl (fun K hK=>?_) b06)
  ·rw[if_pos (by rfl)];go_step;refine(ab4 (HD4.out.on hS10x)).mono ?_;rintro e v11 ⟨rfl,hk,-,hb,-⟩;have hR11:=hk;have hS11:Below w3.1.size w3 v11:=hS10.trans (hb.mono hS10.size);have hS11x:Below w4.1.size w4 v11:=qb hS10x hb;have hB11:=hB10.on hb
   try go_frame
   refine hK.out _ _ hS11 (fun hHeld11=>?_);clear hK K
   try go_frame
   refine b1a (rs:=[16,18]) kr sm ?_;refine b0r (o:=⟨some 29,_,_,_,_,_⟩) rfl (fun K hK=>?_) (b0r (o:=⟨some 31,_,_,_,_,_⟩) rfl (fun K hK=>?_) b06)
   ·rw[if_pos (by rfl)];have cv:=aai hR11;go_step;clear cv
    try go_frame
    refine hK.out _ _ hS11 (fun hHeld12=>?_);clear hK K
    try go_frame
    refine rdB 18 31 rfl fun K hK=>?_
    have cv:=aai hB11;go_step;clear cv
    try go_frame
    refine hK.out _ _ hS11 (fun hHeld13=>?_);clear hK K
    try go_frame
    refine tkA 19 32 rfl ?_;go_frame;refine tkA 20 33 rfl ?_;go_frame;refine tkA 21 0 rfl ?_;go_frame;refine b0j kr ?_ _
    try go_frame
    go_wp2_with fail;go_ret;exact⟨rfl,qb HB4.out hS11⟩
   ·rw[if_pos (by rfl)];have cv:=aai hB11;go_step;clear cv
    try go_frame
    refine hK.out _ _ hS11 (fun hHeld14=>?_);clear hK K
    try go_frame
    refine rdB 16 29 rfl fun K hK=>?_
    have cv:=aai hR11;go_step;clear cv
    try go_frame
    refine hK.out _ _ hS11 (fun hHeld15=>?_);clear hK K
    try go_frame
    refine tkA 19 32 rfl ?_;go_frame;refine tkA 20 33 rfl ?_;go_frame;refine tkA 21 0 rfl ?_;go_frame;refine b0j kr ?_ _
    try go_frame
    go_wp2_with fail;go_ret;exact⟨rfl,qb HB4.out hS11⟩
  ·rw[if_pos (by rfl)];have cv:=aai hB10;go_step;clear cv
   try go_frame
   refine hK.out _ _ hS10 (fun hHeld16=>?_);clear hK K
   try go_frame
   refine rdB 15 28 rfl fun K hK=>?_
   go_step;refine(ab4 (HD4.out.on hS10x)).mono ?_;rintro e v17 ⟨rfl,hk,-,hb,-⟩;have hR17:=hk;have hS17:Below w3.1.size w3 v17:=hS10.trans (hb.mono hS10.size);have hS17x:Below w4.1.size w4 v17:=qb hS10x hb;have hB17:=hB10.on hb
   try go_frame
   refine hK.out _ _ hS17 (fun hHeld17=>?_);clear hK K
   try go_frame
   refine rdB 16 29 rfl fun K hK=>?_
   have cv:=aai hR17;go_step;clear cv
   try go_frame
   refine hK.out _ _ hS17 (fun hHeld18=>?_);clear hK K
   try go_frame
   refine tkA 19 32 rfl ?_;go_frame;refine tkA 20 33 rfl ?_;go_frame;refine tkA 21 0 rfl ?_;go_frame;refine b0j kr ?_ _
   try go_frame
   go_wp2_with fail;go_ret;exact⟨rfl,qb HB4.out hS17⟩
