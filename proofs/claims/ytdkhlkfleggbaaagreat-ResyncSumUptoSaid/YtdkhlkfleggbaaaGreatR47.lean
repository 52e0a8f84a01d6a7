/- Layer 40: skip. Printed by genrsy1.py. -/
import Derived.Test.YtdkhlkfleggbaaaGreatR46
import Derived.ChangeKeysEq
namespace Go.Proofs.YtdkhlkfleggbaaaGreat
set_option maxHeartbeats 3000000
set_option maxRecDepth 8000
open Lib (hid)
open Tryz
set_option linter.unusedVariables false
open Go.RowKit
theorem asf {P:Program} {a:Act} {w:World} {Q:Exit→Act→World→Prop} {stuff:Code} (l:Nat) (J:Act→World→Prop) (μ:Act→World→Nat) (hf:findLabel (Code.seq (Code.label l) stuff) l=some (Code.seq Code.skip stuff)) (h0:J a w)
 (pass:∀a w,J a w→stuff.wp P (Exit.jump l (fun a' w'=>J a' w'∧μ a' w'<μ a w) Q) a w):(Code.scope (Code.seq (Code.label l) stuff)).wp P Q a w:=
 wp_scope_jumps l J μ hf (wp_seq (wp_label (wp_mono (pass a w h0) fun e a' w' h=>by
  cases e with
  | goto l'=>exact⟨h.1,h.2.1⟩
  | normal=>exact h
  | exit id=>exact h
  | ret=>exact h
  | _=>exact h))) fun a w h=>wp_seq (wp_skip (pass a w h))
def zc (l:List UInt8):List UInt8:=l.dropWhile fun c=>xl c=0
theorem amt (l:List UInt8):(zc l).length≤l.length:=(List.dropWhile_suffix _).length_le
def qy (C:List Int) (k:Nat) (n:Int):List Int:=C.set k (C.getD k 0+n)
theorem afi (C:List Int) (k:Nat) (n:Int):(qy C k n).length=C.length:=List.length_set
theorem amc (C:List Int) (k:Nat):qy C k 0=C:=by
 unfold qy;rw[Int.add_zero,List.getD_eq_getElem?_getD];apply List.ext_getElem?;intro i;rw[List.getElem?_set]
 split
 ·rename_i e;subst e
  split
  ·rename_i h;rw[List.getElem?_eq_getElem h];rfl
  ·rename_i h;rw[List.getElem?_eq_none om]
 ·rfl
theorem a25 (C:List Int) (k:Nat) (m n:Int) (hk:k<C.length):qy (qy C k m) k n=qy C k (m+n):=by
 unfold qy;rw[List.set_set]
 congr 1
 simp[List.getD_eq_getElem?_getD,List.getElem?_set_self hk];omega
theorem a26 (C:List Int) (k:Nat) (m:Int) (hk:k<C.length):(qy C k m).getD k 0=C.getD k 0+m:=by
 unfold qy;simp[List.getD_eq_getElem?_getD,List.getElem?_set_self hk]
def an0 (g b:Nat) (C:List Int) (l:List UInt8) (W:World) (e:Ending) (w':World):Prop:=
 e=.returned (.bool (decide (zc l≠[])))∧xc w' g b (qy C 9 ((l.length:Int)-((zc l).length:Int))) (zc l)∧qk (fun j=>j≠b∧j≠g) W w'
def bih (g b:Nat) (C:List Int) (l:List UInt8) (W:World) (a:Act) (w:World):Prop:=
 ∃u3 u4 u5 u6 u7 u8 u9 u10 u11 u12 u13 u14 u15 u16 u17 u18 u19 u20 u21 u22 u23 u24 u25 u26 u27 u28 u29 u30 u31 u32 u33,a={tmps:=#[.pointer (some ⟨g,0,none⟩),undef,.bool false,u3,u4,u5,u6,u7,u8,u9,u10,u11,u12,u13,u14,u15,u16,u17,u18,u19,u20,u21,u22,u23,u24,u25,u26,u27,u28,u29,u30,u31,u32,u33],defers:=[]} ∧
  ∃r:List UInt8,zc r=zc l∧r.length≤l.length∧xc w g b (qy C 9 ((l.length:Int)-(r.length:Int))) r∧qk (fun j=>j≠b∧j≠g) W w
def agm (b:Nat) (w:World):Nat:=match w.cell? ⟨b,1026,none⟩with|some (.int _ n)=>n.toNat|_=>0
theorem ag8 {w:World} {b:Nat} {l:List UInt8} (h:vh w b l):agm b w=l.length:=by
 obtain⟨D,a,h⟩:=h;unfold agm;rw[h.blk.cell 1026 (aju h.len _ _)];simp
theorem xc.drewN {W:World} {g b:Nat} {C:List Int} {l:List UInt8} (h:xc W g b C l) (n:Nat):xc (W.drewN n) g b C l:=
 ⟨h.blk.kept rfl (Nat.le_refl _),h.len,h.win.kept rfl (Nat.le_refl _),h.ne⟩
theorem xc.drew {W:World} {g b:Nat} {C:List Int} {l:List UInt8} (h:xc W g b C l):xc W.drew g b C l:=
 ⟨h.blk.kept rfl (Nat.le_refl _),h.len,h.win.kept rfl (Nat.le_refl _),h.ne⟩
theorem xc.cd {W:World} {g b:Nat} {C:List Int} {l:List UInt8} (h:xc W g b C l) (k:Nat) (hk:k<13):W.cell? ⟨g,k+1,none⟩=some (.int .i64 (C.getD k 0)):=by
 have hl:=h.len;rw[h.ck k om,List.getD_eq_getElem?_getD,List.getElem?_eq_getElem om];rfl
theorem ag2 {W:World} {g b:Nat} {C:List Int} {l:List UInt8} (h:xc W g b C l) (hC:Hid (0≤C.getD 9 0∧C.getD 9 0≤1000000000)):Calls Tryz.prog 56 #[.pointer (some ⟨g,0,none⟩)] W (an0 g b C l W):=by
 have hL:=hid (h.win.lt);have hmax:l.length≤1024:=by obtain⟨D,a,q⟩:=h.win;exact q.max
 have H0:Hid (bih g b C l W {tmps:=#[.pointer (some ⟨g,0,none⟩),undef,.bool false,undef,undef,undef,undef,undef,undef,undef,undef,undef,undef,undef,undef,undef,undef,undef,undef,undef,undef,undef,undef,undef,undef,undef,undef,undef,undef,undef,undef,undef,undef,undef],defers:=[]} W):=hid ⟨undef,undef,undef,undef,undef,undef,undef,undef,undef,undef,undef,undef,undef,undef,undef,undef,undef,undef,undef,undef,undef,undef,undef,undef,undef,undef,undef,undef,undef,undef,undef,rfl,l,rfl,Nat.le_refl _,by rw[Int.sub_self,amc];exact h,qk.refl _ _⟩;clear h;go_enter func56,ntmps56;go_wp2_with fail;refine asf 0 (bih g b C l W) (fun _ w=>agm b w) rfl H0.out ?_
 ·rintro a w ⟨u3,u4,u5,u6,u7,u8,u9,u10,u11,u12,u13,u14,u15,u16,u17,u18,u19,u20,u21,u22,u23,u24,u25,u26,u27,u28,u29,u30,u31,u32,u33,rfl,r,hr,hrl,hd,hk⟩;have HD:=hid hd;have HK:=hid (And.intro hr hk);have c0:=hd.c0;clear hr hd hk H0;rcases r with _|⟨c,r⟩
  ·go_wp2_with fail;refine(asb HD.out.win).mono ?_;rintro e w' ⟨rfl,rfl⟩;go_wp2_with fail;simp only[Exit.jump];go_ret;have e:zc l=[]:=HK.out.1.symm;refine⟨by rw[e];rfl,?_,HK.out.2⟩;rw[e];exact HD.out
  ·have hlen:r.length<l.length:=by simp only[List.length_cons]at hrl;omega
   go_wp2_with fail;refine(asc HD.out.win).mono ?_;rintro e w' ⟨rfl,n,rfl⟩;have HD1:=hid (HD.out.drewN n);have HK1:=hid (HK.out.2.drewN n);have HM:=hid (ag8 HD.out.win);clear HD c0;have c0:=HD1.out.c0;go_wp2_with fail;refine(ahy c _).mono ?_;rintro e w' ⟨rfl,rfl⟩
   by_cases hp:xl c=0
   ·have HS:Hid (zc r=zc l):=hid (by rw[← HK.out.1];unfold zc;rw[List.dropWhile_cons_of_pos (by simp[hp])]);rw[hp];clear hp HK;go_wp2_with fail;refine(ahh 1 HD1.out.win om).mono ?_;rintro e w2 ⟨rfl,hw,hk⟩;have e1:(max 0 (min (1:Int) (((c::r).length:Nat):Int))).toNat=1:=by simp only[List.length_cons];omega
    rw[e1]at hw ⊢;have HD2:=hid (HD1.out.moved hw hk);have HK2:=hid (HK1.out.trans (hk.less fun j q=>q.1));clear e1 hw hk HD1 HK1 c0;have c9:w2.cell? ⟨g,10,none⟩=some (.int .i64 _):=HD2.out.cd 9 om;have z9:=HD2.out.blk.fz 10;rw[a26 _ _ _ (by have:=HD2.out.len;rw[afi]at this;omega)]at c9;have hb1:=hC.out.1;have hb2:=hC.out.2;have hq:(0:Int) ≤(l.length:Int)-((c::r).length:Int):=by omega
    have hq2:(l.length:Int)-((c::r).length:Int)≤1024:=by omega
    generalize hQ:C.getD 9 0 +((l.length:Int)-((c::r).length:Int))=q at *;have HQ:=hid hQ;have hq3:0≤q:=by omega
    have hq4:q≤1000001024:=by omega
    clear hQ hb1 hb2 hq hq2;go_wp2_with fail
    go_region
    go_wp2_with fail
    go_step3
    have hd3:=HD2.out.set 9 (q+1) om
    have e3:(qy C 9 ((l.length:Int)-((c::r).length:Int))).set 9 (q+1)=qy C 9 ((l.length:Int)-(r.length:Int)):=by
     have h13:=HD2.out.len;rw[afi]at h13;unfold qy;rw[List.set_set]
     congr 1
     have:=HQ.out;simp only[List.length_cons]at this ⊢;omega
    rw[e3]at hd3;refine⟨rfl,⟨_,_,_,_,_,_,_,_,_,_,_,_,_,_,_,_,_,_,_,_,_,_,_,_,_,_,_,_,_,_,_,rfl,r,HS.out,by omega,hd3.drew,(HK2.out.trans (HD2.out.keptS 9 (q+1))).drew⟩,?_⟩;show agm b (World.drew (w2.setCell ⟨g,10,none⟩ (.int .i64 (q+1))))<agm b w;rw[HM.out,ag8 hd3.drew.win,show (List.drop 1 (c::r)).length=r.length from rfl];simp only[List.length_cons];omega
   ·have hb:(xl c==0)=false:=by rw[beq_eq_false_iff_ne];exact hp
    have hb2:(xl c != 0)=true:=by rw[bne_iff_ne];exact hp
    have HS:Hid (c::r=zc l):=hid (by rw[← HK.out.1];unfold zc;rw[List.dropWhile_cons_of_neg (by simp[hp])]);clear hp HK;go_wp2_with fail;simp only[Exit.jump];go_ret;have e:=HS.out;refine⟨by rw[← e];rfl,?_,HK1.out⟩;rw[← e];exact HD1.out
def aak (v:VeD):Nat:=max v.n 1
def aiu:Nat→List UInt8→List VeD×List UInt8
 | 0,l=>([],l)
 | f+1,l=>if(jh l).d=0 then([],l)else(jh l::(aiu f (l.drop (aak (jh l)))).1,(aiu f (l.drop (aak (jh l)))).2)
def q7 (l:List UInt8):List VeD×List UInt8:=aiu l.length l
theorem atv {l:List UInt8} (h:(jh l).d≠0):0<l.length:=by
 cases l with
 | nil=>exact absurd rfl h
 | cons x l=>simp
theorem ah6 (v:VeD):1≤aak v:=by unfold aak;omega
theorem aqp {l:List UInt8} (h:(jh l).d≠0):aak (jh l)≤l.length:=by
 have h1:=atv h;unfold aak
 by_cases h2:(jh l).d=2
 ·have:=al2 l h2;omega
 ·have:=(aw1 l h2).1;omega
theorem atk:∀(f g:Nat) (l:List UInt8),l.length≤f→l.length≤g→aiu f l=aiu g l
 | 0,0,l,_,_=>rfl
 | 0,g+1,l,hf,_=>by
  obtain rfl:l=[]:=List.eq_nil_of_length_eq_zero om;rfl
 | f+1,0,l,_,hg=>by
  obtain rfl:l=[]:=List.eq_nil_of_length_eq_zero om;rfl
 | f+1,g+1,l,hf,hg=>by
  unfold aiu
  by_cases h:(jh l).d=0
  ·rw[if_pos h,if_pos h]
  ·have h1:=atv h;have h2:=ah6 (jh l);rw[if_neg h,if_neg h,atk f g _ (by rw[List.length_drop];omega) (by rw[List.length_drop];omega)]
theorem acf {l:List UInt8} (h:(jh l).d=0):q7 l=([],l):=by
 cases l with
 | nil=>rfl
 | cons x l=>
  show aiu (l.length+1) (x::l)=_;unfold aiu;rw[if_pos h]
theorem ace {l:List UInt8} (h:(jh l).d≠0):q7 l=(jh l::(q7 (l.drop (aak (jh l)))).1,(q7 (l.drop (aak (jh l)))).2):=by
 cases l with
 | nil=>exact absurd rfl h
 | cons x l=>
  have h2:=ah6 (jh (x::l));show aiu (l.length+1) (x::l)=_;rw[aiu,if_neg h,atk l.length _ _ (by rw[List.length_drop,List.length_cons];omega) (Nat.le_refl _)];rfl
theorem akt {P:List UInt8→Prop} (h0:∀l,(jh l).d=0→P l) (h1:∀l,(jh l).d≠0→P (l.drop (aak (jh l)))→P l):∀l,P l:=by
 intro l;obtain⟨n,hn⟩:∃n,l.length≤n:=⟨_,Nat.le_refl _⟩
 induction n generalizing l with
 | zero=>
  obtain rfl:l=[]:=List.eq_nil_of_length_eq_zero om;exact h0 _ rfl
 | succ n ih=>
  by_cases h:(jh l).d=0
  ·exact h0 l h
  ·have h2:=ah6 (jh l);exact h1 l h (ih _ (by rw[List.length_drop];omega))
theorem aks (l m:List UInt8):q7 (l++m)=((q7 l).1 ++(q7 ((q7 l).2++m)).1,(q7 ((q7 l).2++m)).2):=by
 revert m;refine akt (P:=fun l=>∀m,q7 (l++m)=((q7 l).1 ++(q7 ((q7 l).2++m)).1,(q7 ((q7 l).2++m)).2)) ?_ ?_ l
 ·intro l h m;rw[acf h];rfl
 ·intro l h ih m;have e:=bbe l m h;have h':(jh (l++m)).d≠0:=by rw[e];exact h
  rw[ace h',ace h,e,List.drop_append_of_le_length (aqp h),ih m];rfl
theorem ah0 (l:List UInt8):(jh (q7 l).2).d=0 ∧(q7 l).2.length<1024∧∃A,l=A ++(q7 l).2∧A.length=((q7 l).1.map aak).sum:=by
 refine akt (P:=fun l=>(jh (q7 l).2).d=0 ∧(q7 l).2.length<1024∧∃A,l=A ++(q7 l).2∧A.length=((q7 l).1.map aak).sum) ?_ ?_ l
 ·intro l h;rw[acf h];exact⟨h,aty l h,[],rfl,rfl⟩
 ·intro l h ⟨h1,h2,A,h3,h4⟩;rw[ace h];refine⟨h1,h2,l.take (aak (jh l))++A,?_,?_⟩
  ·rw[List.append_assoc,← h3,List.take_append_drop]
  ·rw[List.length_append,h4,List.length_take,Nat.min_eq_left (aqp h)];simp
theorem beq {P:VeD→Prop} (hP:∀l,(jh l).d≠0→P (jh l)) (l:List UInt8):∀v∈(q7 l).1,P v:=by
 refine akt (P:=fun l=>∀v∈(q7 l).1,P v) ?_ ?_ l
 ·intro l h;rw[acf h];intro v hv;cases hv
 ·intro l h ih;rw[ace h];intro v hv;rcases List.mem_cons.1 hv with rfl|hv
  ·exact hP l h
  ·exact ih v hv
def ax5 (v:VeD):Nat:=if v.d=1 then 9+v.p.toNat else if v.x.od then 5+v.p.toNat else 1+v.p.toNat
def ai7 (C:List Int) (v:VeD):List Int:=qy C (ax5 v) 1
def jj (C:List Int) (V:List VeD):List Int:=V.foldl ai7 C
theorem ax6 (C:List Int) (v:VeD):(ai7 C v).length=C.length:=afi _ _ _
theorem ahq (C:List Int) (V:List VeD):(jj C V).length=C.length:=by
 unfold jj
 induction V generalizing C with
 | nil=>rfl
 | cons v V ih=>rw[List.foldl_cons,ih,ax6]
theorem adc (C:List Int) (V U:List VeD):jj C (V++U)=jj (jj C V) U:=List.foldl_append
def zd (V:List VeD):List ItD:=(V.filter fun v=>decide (v.d=2)).map (·.x)
theorem afr (V U:List VeD):zd (V++U)=zd V++zd U:=by simp[zd]
def aj9:VeD:=⟨1,0,0,3,ad0⟩
theorem bbd {x:UInt8} {l:List UInt8} (h:xl x=0):jh (x::l)=aj9:=by rw[yo,if_pos h];rfl
theorem avz (l:List UInt8):q7 l=(List.replicate (l.length-(zc l).length) aj9 ++(q7 (zc l)).1,(q7 (zc l)).2):=by
 induction l with
 | nil=>rfl
 | cons x l ih=>
  by_cases h:xl x=0
  ·have e:zc (x::l)=zc l:=by unfold zc;rw[List.dropWhile_cons_of_pos (by simp[h])]
   have hv:=bbd (l:=l) h;have hle:=amt l;rw[e,ace (by rw[hv];decide),hv,show (x::l).drop (aak aj9)=l from rfl,ih,List.length_cons,show l.length+1-(zc l).length=(l.length-(zc l).length)+1 from by omega,List.replicate_succ];rfl
  ·have e:zc (x::l)=x::l:=by unfold zc;rw[List.dropWhile_cons_of_neg (by simp[h])]
   rw[e,Nat.sub_self];rfl
theorem ax7 (C:List Int) (k:Nat) (h:9<C.length):jj C (List.replicate k aj9)=qy C 9 k:=by
 induction k with
 | zero=>exact(amc C 9).symm
 | succ k ih=>
  rw[List.replicate_succ',adc,ih];show ai7 (qy C 9 k) aj9=_;unfold ai7;show qy (qy C 9 k) 9 1=_;rw[a25 _ _ _ _ h]
  congr 1
theorem au6 (k:Nat):zd (List.replicate k aj9)=[]:=by
 unfold zd;rw[List.filter_eq_nil_iff.2 (fun v hv=>by rw[(List.mem_replicate.1 hv).2];decide)];rfl
def a6n (v:VeD):Prop:=(v.p=0∨v.p=1∨v.p=2∨v.p=3) ∧(v.d=1∧v.n=0∨v.d=2∧8≤v.n∧v.n≤1024∧v.p≠0)
theorem bfg (l:List UInt8) (h:(jh l).d≠0):a6n (jh l):=by
 refine⟨?_,?_⟩
 ·cases l with
  | nil=>exact absurd rfl h
  | cons x l=>rw[bfh (x::l) x rfl];exact ahz x
 ·rcases bff l with q|q|q
  ·exact absurd q h
  ·exact .inl ⟨q,(aw1 l om).1⟩
  ·have:=al2 l q;exact .inr ⟨q,this.1,this.2.1,by omega⟩
theorem a0i (l:List UInt8):∀v∈(q7 l).1,a6n v:=beq (P:=a6n) bfg l
theorem asm {C:List Int} {k:Nat} (hk:k<C.length) (n:Int) (j:Nat):(qy C k n).getD j 0=C.getD j 0+if j=k then n else 0:=by
 unfold qy
 by_cases h:j=k
 ·subst h;rw[if_pos rfl];simp[List.getD_eq_getElem?_getD,hk]
 ·rw[if_neg h];have h':¬k=j:=fun e=>h e.symm
  simp[List.getD_eq_getElem?_getD,h']
def asy (C:List Int):Int:=C.getD 2 0+C.getD 3 0+C.getD 4 0
def bg7 (C:List Int):Int:=C.getD 6 0+C.getD 7 0+C.getD 8 0
def a7t (C:List Int):Int:=C.getD 9 0+C.getD 10 0+C.getD 11 0+C.getD 12 0
def vl (X:List ItD):Nat:=(X.filter fun x=>!x.od).length
theorem ao2:∀(V:List VeD) (C:List Int),C.length=13 →(∀v∈V,a6n v) →
 (jj C V).getD 0 0=C.getD 0 0 ∧(jj C V).getD 1 0=C.getD 1 0 ∧(jj C V).getD 5 0=C.getD 5 0∧asy (jj C V)=asy C +(vl (zd V):Int)∧asy (jj C V)+bg7 (jj C V)=asy C+bg7 C +((zd V).length:Int) ∧
 a7t (jj C V)-a7t C+8*((zd V).length:Int) ≤((V.map aak).sum:Int) ∧((V.map aak).sum:Int)≤a7t (jj C V)-a7t C+1024*((zd V).length:Int)
 | [],C,_,_=>by
  refine⟨rfl,rfl,rfl,?_,?_,?_,?_⟩<;>simp[jj,zd,vl]
 | v::V,C,hC,hV=>by
  have hv:=hV v sm;have ih:=ao2 V (ai7 C v) (by rw[ax6];exact hC) (fun u hu=>hV u (by simp[hu]));have e1:jj C (v::V)=jj (ai7 C v) V:=rfl;have e2:(((v::V).map aak).sum:Int)=(aak v:Int) +((V.map aak).sum:Int):=by rw[List.map_cons,List.sum_cons];omega
  rw[e1,e2];generalize hg:jj (ai7 C v) V=D at *;generalize (V.map aak).sum=z at *
  have hget:∀k,ax5 v=k→k<13→∀j,(ai7 C v).getD j 0=C.getD j 0+if j=k then 1 else 0:=fun k e hk j=>by
   unfold ai7;rw[e];exact asm om 1 j
  obtain⟨hp,hd⟩:=hv
  have i1:zd (v::V)=(if v.d=2 then [v.x]else [])++zd V:=by
   unfold zd
   by_cases h2:v.d=2<;>simp[h2]
  have i2:vl (zd (v::V))=(if v.d=2 then(if v.x.od=true then 0 else 1)else 0)+vl (zd V):=by
   rw[i1];unfold vl
   by_cases h2:v.d=2<;>by_cases h3:v.x.od=true<;>simp[h2,h3]<;>omega
  have i3:(zd (v::V)).length=(if v.d=2 then 1 else 0) +(zd V).length:=by
   rw[i1]
   by_cases h2:v.d=2<;>simp[h2]<;>omega
  rw[i2,i3];generalize (zd V).length=li at *;generalize vl (zd V)=gi at *;unfold asy bg7 a7t at *;unfold aak;unfold ax5 at hget;rcases hd with⟨d1,n0⟩|⟨d2,n1,n2,p0⟩
  ·rw[if_pos d1]at hget;rw[if_neg (show ¬v.d=2 by omega),if_neg (show ¬v.d=2 by omega),n0];rcases hp with p|p|p|p<;>rw[p]at hget<;>(have hq:=hget _ rfl dc)<;>simp only[hq]at ih<;>simp at ih ⊢<;>omega
  ·rw[if_neg (show ¬v.d=1 by omega)]at hget;rw[if_pos d2,if_pos d2]
   by_cases ho:v.x.od=true
   ·rw[if_pos ho]at hget ⊢;rcases hp with p|p|p|p
    ·exact absurd p p0
    all_goals (rw[p]at hget;have hq:=hget _ rfl dc;simp only[hq]at ih;simp at ih ⊢;omega)
   ·rw[if_neg ho]at hget ⊢;rcases hp with p|p|p|p
    ·exact absurd p p0
    all_goals (rw[p]at hget;have hq:=hget _ rfl dc;simp only[hq]at ih;simp at ih ⊢;omega)
theorem ax3 (C:List Int) (i j:Nat) (a b:Int):qy (qy C i a) j b=qy (qy C j b) i a:=by
 by_cases h:i=j
 ·subst h;unfold qy
  by_cases hi:i<C.length
  ·simp[List.getD_eq_getElem?_getD,hi,Int.add_right_comm]
  ·simp[List.set_eq_of_length_le (Nat.le_of_not_lt hi)]
 ·unfold qy;rw[List.set_comm _ _ h];have h':¬j=i:=fun e=>h e.symm
  simp[List.getD_eq_getElem?_getD,h,h']
theorem a27 (C:List Int) (i:Nat) (a b:Int):qy (qy C i a) i b=qy C i (a+b):=by
 unfold qy
 by_cases hi:i<C.length
 ·simp[List.getD_eq_getElem?_getD,hi,Int.add_assoc]
 ·simp[List.set_eq_of_length_le (Nat.le_of_not_lt hi)]
theorem asn (i:Nat) (a:Int):∀(V:List VeD) (C:List Int),jj (qy C i a) V=qy (jj C V) i a
 | [],_=>rfl
 | v::V,C=>by
  show jj (ai7 (qy C i a) v) V=qy (jj (ai7 C v) V) i a;rw[← asn i a V (ai7 C v)];unfold ai7;rw[ax3]
def afj (l:List UInt8):List Int:=qy (jj [0,0,0,0,0,0,0,0,0,0,0,0,0] (q7 l).1) 0 l.length
theorem bcf (l m:List UInt8):jj (qy (afj l) 0 m.length) (q7 ((q7 l).2++m)).1=afj (l++m):=by
 unfold afj;rw[a27,asn,aks l m,adc,List.length_append]
 congr 1
theorem a34 (l m:List UInt8):zd (q7 (l++m)).1=zd (q7 l).1++zd (q7 ((q7 l).2++m)).1:=by rw[aks,afr]
theorem xc.kept2 {W W':World} {g b k o:Nat} {cs:List Value} {C:List Int} {l:List UInt8} (h:xc W g b C l) (hs:qp W W' k o cs) (h1:g≠k) (h2:b≠k):xc W' g b C l:=
 ⟨h.blk.far hs h1,h.len,h.win.kept (hs.far b h2) (Nat.le_of_eq hs.sz.symm),h.ne⟩
def aj3 (g b:Nat) (C:List Int) (l:List UInt8) (W:World) (e:Ending) (w':World):Prop:=
 e=.returned (.slice none 0 0)∧xc w' g b (qy C 9 ((l.length:Int)-((zc l).length:Int))) (zc l)∧qk (fun j=>j<W.1.size∧j≠b∧j≠g) W w'
theorem avv {W:World} {g b:Nat} {C:List Int} {l:List UInt8} (h:xc W g b C l) (hC:Hid (0≤C.getD 9 0∧C.getD 9 0≤1000000000)) (hl:zc l=[]):Calls Tryz.prog 39 #[.pointer (some ⟨g,0,none⟩)] W (aj3 g b C l W):=by
 have HS:Hid (Calls Tryz.prog 56 #[.pointer (some ⟨g,0,none⟩)] W fun e w'=>e=.returned (.bool false)∧xc w' g b (qy C 9 ((l.length:Int)-((zc l).length:Int))) (zc l)∧qk (fun j=>j≠b∧j≠g) W w'):=hid (by
  have:=ag2 h hC;unfold an0 at this;rw[hl]at this ⊢;exact this)
 clear h hC hl;go_enter func39,ntmps39;go_wp2_with fail
 go_step3
 go_wp2_with fail
 go_step3
 go_wp2_with fail;refine HS.out.mono ?_;rintro e w1 ⟨rfl,hd,hk⟩;have HD:=hid (And.intro hd hk);clear hd hk HS;go_wp2_with fail;rw[Exit.noGoto_ret];go_ret;exact⟨rfl,HD.out.1,HD.out.2.less fun j q=>q.2⟩
theorem a0b {W:World} {g b:Nat} {C:List Int} {l r:List UInt8} {x:UInt8} (h:xc W g b C l) (hC:Hid (0≤C.getD 9 0∧C.getD 9 0≤1000000000)) (hl:zc l=x::r) (p:Int)
 (HA:∀W' d,Blk W' d (bsV (x::r))→Hid (Calls Tryz.prog 10 #[.slice (some ⟨d,0,none⟩) (x::r).length (x::r).length] W' (anu 0 p 0 0 W'))) :
 Calls Tryz.prog 39 #[.pointer (some ⟨g,0,none⟩)] W (aj3 g b C l W):=by
 have HS:Hid (Calls Tryz.prog 56 #[.pointer (some ⟨g,0,none⟩)] W fun e w'=>e=.returned (.bool true)∧xc w' g b (qy C 9 ((l.length:Int)-((zc l).length:Int))) (x::r)∧qk (fun j=>j≠b∧j≠g) W w'):=hid (by
  have:=ag2 h hC;unfold an0 at this;rw[hl]at this ⊢;exact this)
 have HL:=hid hl;have HZ:=fun W=>hid (aec W)
 have hlp:(0:Int)<((x::r).length:Int):=by simp only[List.length_cons];omega
 clear h hC hl;go_enter func39,ntmps39;go_wp2_with fail
 go_step3
 go_wp2_with fail
 go_step3
 go_wp2_with fail;refine HS.out.mono ?_;rintro e w1 ⟨rfl,hd,hk⟩;have HD:=hid hd;have HK:=hid hk;have c0:=hd.c0;clear hd hk HS;go_wp2_with fail;refine(ahj HD.out.win).mono ?_;rintro e w2 ⟨rfl,hbk,-,hb,-⟩;have HD2:=hid (HD.out.on hb);have HA2:=hid (HA _ _ hbk);have HK2:Hid (qk (fun j=>j<W.1.size∧j≠b∧j≠g) W w2):=hid ((HK.out.less fun j q=>q.2).trans (qk.of_below hb fun j q=>Nat.lt_of_lt_of_le q.1 HK.out.size));clear hbk hb HD HK c0 HA;generalize (x::r).length=L at *;go_wp2_with fail
 go_loopg [3,4] 1 (fun _ s3 s4 wr=>s3=.slice none 0 0∧s4=.slice (some ⟨w1.1.size,0,none⟩) L L∧wr=w2)
 case atStart=>exact⟨rfl,rfl,rfl⟩
 case round=>
  obtain⟨rfl,rfl,rfl⟩:=hrel;go_wp2_with fail;refine HA2.out.out.mono ?_;rintro e w3 ⟨rfl,hb⟩;have HD3:=hid (HD2.out.on hb);have HK3:=hid (HK2.out.trans (qk.of_below hb fun j q=>Nat.lt_of_lt_of_le q.1 HK2.out.size));clear hb HD2 HK2 HA2
  go_upto_region 7 with(first
   | (refine qc rfl 66 rfl (veA 0 0 0 0) (HZ _).out ?_;intro W4 hW;have HV4:=hid (Blk.newL (L:=veL 0 0 0 0 adb) hW rfl);have HD4:=hid (HD3.out.on hW.bel);have HK4:=hid (HK3.out.trans (qk.of_below hW.bel fun j q=>Nat.lt_of_lt_of_le q.1 HK3.out.size));clear hW)
   | (refine qe rfl 66 _ _ rfl w3.1.size 0 (veA 0 p 0 0) rfl rfl (HV4.out.there 0 124 (Nat.le_refl _)) (af6 _ _ _ _) (af5 _ _ _ _) ?_;intro W5 hs;have HV5:=hid (HV4.out.all hs rfl);have HD5:=hid (HD4.out.kept2 hs (by have:=HD3.out.blk.lt;omega) (by have:=HD3.out.win.lt;omega));have HK5:=hid (HK4.out.stored hs (fun q=>by have:=HK3.out.size;omega));clear hs))
  have v0:=HV5.out.cell 0 (v:=.int .i64 0) rfl;clear HV5 HV4 HD4 HK4;go_wp2_with fail;rw[Exit.noGoto_ret];go_ret;refine⟨rfl,?_,HK5.out⟩;rw[HL.out];have:=HD5.out;rw[HL.out]at this;exact this
theorem ap4 {W:World} {g b d:Nat} {C:List Int} {l bs:List UInt8} (h:xc W g b C l) (hb:Blk W d (bsV bs)) (hdg:d≠g) (hdb:d≠b) (hn:0<bs.length) (hf:l.length+bs.length≤1024) (hC:Hid (0≤C.getD 0 0∧C.getD 0 0≤1000000000))
 (HR:∀W1,xc W1 g b (qy C 0 bs.length) (l++bs)→Hid (Calls Tryz.prog 39 #[.pointer (some ⟨g,0,none⟩)] W1 (aj3 g b (qy C 0 bs.length) (l++bs) W1))) :
 Calls Tryz.prog 22 #[.pointer (some ⟨g,0,none⟩),.slice (some ⟨d,0,none⟩) bs.length bs.length] W fun e w'=>e=.returned (.slice none 0 0) ∧
  xc w' g b (qy (qy C 0 bs.length) 9 (((l++bs).length:Int)-((zc (l++bs)).length:Int))) (zc (l++bs))∧qk (fun j=>j<W.1.size∧j≠b∧j≠g) W w':=by
 have c1:W.cell? ⟨g,1,none⟩=some (.int .i64 (C.getD 0 0)):=h.cd 0 om;have z1:=h.blk.fz 1;have HT:=hid h;have hs:xc (W.setCell ⟨g,1,none⟩ (.int .i64 (C.getD 0 0+bs.length))) g b (qy C 0 bs.length) l:=h.set 0 _ om;have hst:qp W (W.setCell ⟨g,1,none⟩ (.int .i64 (C.getD 0 0+bs.length))) g 1 [.int .i64 (C.getD 0 0+bs.length)]:=ze (h.blk.there 1 1 (by rw[ao4,h.len];omega));have HB:=hid (hb.far hst hdg);have HK0:=hid ((qk.refl (fun j=>j<W.1.size∧j≠b∧j≠g) W).stored hst (fun q=>q.2.2 rfl));have hb1:=hC.out.1;have hb2:=hC.out.2;generalize C.getD 0 0=In at *;have HD:=hid hs;clear hs hst hb h hC;have HN:=hid (And.intro hn hf);have hn':(0:Int)<(bs.length:Int):=by omega
 have hn2:(bs.length:Int)≤1024:=by omega
 have HP:∀w1,xc w1 g b (qy C 0 bs.length) l→Blk w1 d (bsV bs)→Hid (Calls Tryz.prog 38 #[.pointer (some ⟨b,0,none⟩),.slice (some ⟨d,0,none⟩) bs.length bs.length] w1 fun e w'=>e=.returned (.int .i64 (bs.length:Nat))∧xc w' g b (qy C 0 bs.length) (l++bs)∧qk (fun k=>k≠b) w1 w'):=fun w1 h1 h2=>hid (by
  have:=aq1 (bs:=bs) (some ⟨d,0,none⟩) bs.length h1.win (h2.flat (Q:=fun k=>k≠b) hdb) (by unfold maxLen;omega) (Nat.le_refl _);rw[show min bs.length (1024-l.length)=bs.length from by omega,List.take_length]at this;refine this.mono ?_;rintro e w' ⟨rfl,q1,q2⟩;exact⟨rfl,h1.moved q1 q2,q2⟩)
 generalize bs.length=n at *;go_enter func22,ntmps22;go_wp2_with (refine(ab2 HT.out).mono ?_;rintro e w' ⟨rfl,rfl⟩);generalize hW1:W.setCell ⟨g,1,none⟩ (.int .i64 (In +(n:Int)))=W1 at *;obtain⟨Fin,hFin⟩:∃F:World→Prop,F=fun w'=>xc w' g b (qy (qy C 0 n) 9 (((l++bs).length:Int)-((zc (l++bs)).length:Int))) (zc (l++bs))∧qk (fun j=>j<W.1.size∧j≠b∧j≠g) W w':=⟨_,rfl⟩
 have HFin:Hid (∀w',Fin w'↔xc w' g b (qy (qy C 0 n) 9 (((l++bs).length:Int)-((zc (l++bs)).length:Int))) (zc (l++bs))∧qk (fun j=>j<W.1.size∧j≠b∧j≠g) W w'):=hid (by rw[hFin];exact fun _=>Iff.rfl);clear hFin hW1 c1 z1;obtain⟨i0,hi⟩:∃i0,Tryz.prog.info? 64=some i0:=info_of_underlying underlying64;have HAP:∀w:World,(Builtin.append_ #[75,75] 75 #[.slice none 0 0,.slice none 0 0]).run Tryz.prog w=.ok (.slice none 0 0) w:=fun w=>run_append_nothing (P:=Tryz.prog) w 75 75 75 64 i0 underlying75 hi none 0 0 (Nat.le_refl _) (.slice none 0 0) ⟨.inl ⟨64,underlying75⟩,fun w'=>by simp[Builtin.lenOf],by simp[Builtin.firstCells],by simp[Builtin.firstCells],by simp,fun u hu=>by cases hu⟩
 have HAPP:=fun w=>hid (HAP w)
 clear HAP hi
 go_loopg [1,5] 1 (fun gk s1 s5 wr=>s5=.slice none 0 0 ∧((1≤gk∧s1=.slice (some ⟨d,0,none⟩) n n∧wr=W1) ∨(s1=.slice (some ⟨d,0,none⟩) 0 0∧Hid (Fin wr))))
 case atStart=>exact⟨rfl,.inl ⟨Nat.le_refl _,rfl,rfl⟩⟩
 case round=>
  obtain⟨rfl,⟨hg1,rfl,rfl⟩|⟨rfl,hF⟩⟩:=hrel
  ·have c0:=HD.out.c0;go_wp2_with fail;refine(HP _ HD.out HB.out).out.mono ?_;rintro e w2 ⟨rfl,hd,hk⟩;have HR2:=hid (HR _ hd).out;have HK2:=hid (HK0.out.trans (hk.less fun j q=>q.2.1));clear hd hk HD HB HR HP c0;go_wp2_with fail;refine HR2.out.mono ?_;rintro e w3 ⟨rfl,hd,hk⟩;have hf3:Fin w3:=(HFin.out w3).2 ⟨hd,HK2.out.trans (hk.less fun j q=>⟨Nat.lt_of_lt_of_le q.1 HK2.out.size,q.2⟩)⟩;have HF3:=hid hf3;clear hd hk hf3;go_wp2_with (refine q6 rfl _ _ _ rfl (.slice none 0 0) (.slice none 0 0) (.slice none 0 0) rfl rfl (HAPP _).out ?_)
   go_roundg 0
   case measure=>omega
   case rel=>exact⟨rfl,.inr ⟨rfl,HF3⟩⟩
  ·go_wp2_with fail;go_ret;exact⟨rfl,((HFin.out _).1 hF.out).1,((HFin.out _).1 hF.out).2⟩
def aby (C:List Int):Array Value:=(C.map (Value.int .i64)).toArray
def z13:List Int:=[0,0,0,0,0,0,0,0,0,0,0,0,0]
def z4A:Array Value:=#[.int .i64 0,.int .i64 0,.int .i64 0,.int .i64 0]
theorem aq5 (w:World):(zeroValue 78).run Tryz.prog w=.ok (.agg (aby z13)) w:=by kernel_rfl
theorem a7e (w:World):(zeroValue 76).run Tryz.prog w=.ok (.agg z4A) w:=by kernel_rfl
theorem a2y (w:World):(Instr.build 78 #[]).run Tryz.prog w=.ok (.agg (aby z13)) w:=by kernel_rfl
theorem agn {C:List Int} (h:C.length=13):(Tryz.prog.info? 78).map (·.size)=some (aby C).size:=by
 unfold aby;rw[List.size_toArray,List.length_map,h];kernel_rfl
theorem a8c {C:List Int} (h:C.length=13):(Tryz.prog.info? 78).map (·.size)=some (C.map (Value.int .i64)).length:=by
 rw[List.length_map,h];kernel_rfl
theorem ao1 (C:List Int):(aby C).all (·.oneCell')=true:=k9 fun v hv=>by
 obtain⟨n,-,rfl⟩:=List.mem_map.1 hv;rfl
theorem xc.rgC {W:World} {g b:Nat} {C:List Int} {l:List UInt8} (h:xc W g b C l):W.rangeAt g 1 (C.map (Value.int .i64)):=by
 have:=h.blk.rg;unfold arj at this;exact(World.rangeAt_cons.1 this).2
theorem ait {W:World} {g b:Nat} {C:List Int} {l:List UInt8} (h:xc W g b C l) (h0:C.getD 0 0≠0) :
 Calls Tryz.prog 24 #[.pointer (some ⟨g,0,none⟩)] W fun e w'=>e=.returned (.agg (aby C))∧xc w' g b C l∧Below W.1.size W w':=by
 have HZ:=fun W=>hid (aq5 W)
 have HZA:=fun W=>hid (a7e W)
 have H:=hid h;have hb0:(C.getD 0 0==0)=false:=by rw[beq_eq_false_iff_ne];exact h0
 clear h h0;go_enter func24,ntmps24
 go_upto_region 2 with(first
  | (refine qc rfl 78 rfl (aby z13) (HZ _).out ?_;intro W1 hW;have HC1:=hid (Blk.newL (L:=z13.map (Value.int .i64)) hW rfl);have H1:=hid (H.out.on hW.bel);have HB1:=hid hW.bel;clear hW)
  | (refine qc rfl 76 rfl z4A (HZA _).out ?_;intro W2 hW;have HC2:=hid (HC1.out.on hW.bel);have H2:=hid (H1.out.on hW.bel);have HB2:=hid (qb HB1.out hW.bel);clear hW))
 obtain⟨In,hIn⟩:∃In,C.getD 0 0=In:=⟨_,rfl⟩;rw[hIn]at hb0;have HIn:=hid hIn;clear hIn
 try (apply wp_seq_k;intro K_ HK_)
 have hS0:Below W2.1.size W2 W2.drew:=(Below.refl _ _).drew;refine wp_region_held_drew (S:=fun w'=>Below W2.1.size W2 w') kr hS0 (fun hHeld0=>?_);refine tkA 0 4 rfl ?_
 try go_frame
 refine rdB 1 5 rfl fun K hK=>?_
 go_step;refine(ab2 (H2.out.on hHeld0)).mono ?_;rintro e W' ⟨rfl,rfl⟩
 try go_frame
 refine hK.out _ _ (hHeld0) (fun hHeld=>?_);clear hK K
 try go_frame
 refine tkA 2 6 rfl ?_
 try go_frame
 refine tkA 3 7 rfl ?_
 try go_frame
 refine tkA 4 8 rfl ?_
 try go_frame
 refine tkA 5 9 rfl ?_
 try go_frame
 refine tkA 6 10 rfl ?_
 try go_frame
 refine tkA 7 11 rfl ?_
 try go_frame
 refine tkQ (i:=8) (oi:=⟨some 12,_,_,_,_,_⟩) (v:=?_) rfl (Or.inl ⟨by rfl,?_⟩) ?_;rotate_left
 ·intro w' hSw;have c1:w'.cell? ⟨g,1,none⟩=some (.int .i64 In):=by have:=(H2.out.on hSw).cd 0 om;rw[HIn.out]at this;exact this
  go_simp
  try with_reducible rfl
 try go_frame
 refine tkA 9 13 rfl ?_
 try go_frame
 refine tkA 10 14 rfl ?_
 try go_frame
 refine tkU 11 15 rfl ?_
 try go_frame
 refine tkU 12 16 rfl ?_
 try go_frame
 refine tkU 13 17 rfl ?_
 try go_frame
 refine tkU 14 18 rfl ?_
 try go_frame
 refine tkU 15 19 rfl ?_
 try go_frame
 refine tkU 16 20 rfl ?_
 try go_frame
 refine tkU 17 21 rfl ?_
 try go_frame
 refine tkA 18 22 rfl ?_
 try go_frame
 refine tkA 19 23 rfl ?_
 try go_frame
 refine wpAnyH_done kr ?_ _
 try go_frame
 have HC3:Hid (Blk _ W.1.size (z13.map (Value.int .i64))):=hid (HC2.out.on hHeld0);have H3:=hid (H2.out.on hHeld0);have HB3:=hid (qb HB2.out hHeld0);clear HC2 H2 HB2 HC1 H1 HB1;have HL:=hid H3.out.len
 go_wp2_with (first
  | refine wpList_load_mid rfl 78 _ rfl g 1 rfl (C.map (Value.int .i64)) _ H3.out.rgC underlying78 rfl (a8c HL.out) ?_
  | (refine qe rfl 78 _ _ rfl W.1.size 0 (aby C) rfl rfl (HC3.out.there 0 (aby C).size (by unfold aby;rw[List.size_toArray,List.length_map,HL.out];decide)) (agn HL.out) (ao1 C) ?_;intro W4 hs;have HC4:=hid (HC3.out.all hs (by unfold aby;rw[List.toList_toArray,List.length_map,HL.out];rfl));have H4:=hid (H3.out.kept2 hs (by have:=H.out.blk.lt;omega) (by have:=H.out.win.lt;omega));have HB4:=hid (HB3.out.trans (hs.below (Nat.le_refl _)));clear hs))
 try go_frame
 have HLD:=hid (run_loadVar_mid (P:=Tryz.prog) W4 W.1.size 0 78 (aby C).toList _ HC4.out.rg underlying78 rfl (by rw[Array.length_toList];exact agn HL.out));refine bodyPost_ret (v:=.agg (aby C)) (by rw[v9 rfl];simp[asAddr,Result.andThen,HLD.out]) rfl ⟨rfl,H4.out,HB4.out⟩
theorem bjp (W:World) (d:Nat) (h:Blk W d (bsV [181,98])):Calls Tryz.prog 10 #[.slice (some ⟨d,0,none⟩) [181,98].length [181,98].length] W (anu 0 1 0 0 W):=by
 have hf:∀W',Below W.1.size W W'→qf (fun _=>True) W' (some ⟨d,0,none⟩) (bsV [181,98]):=fun W' hb=>(h.on hb).flat trivial
 have:=beb (Q:=fun _=>True) (w:=W) (some ⟨d,0,none⟩) 2 181 [98] 1 2 (h.flat trivial) dc dc dc (by unfold maxLen;decide) (fun W1 hb1=>hid (a9l 0 2 fun W2 hb2=>hid (aww 2 dc 0 fun W3 hb3=>hid (by
  exact aim (some ⟨d,0,none⟩) 2 [181,98] (hf _ (qb hb1 (qb hb2 hb3))) dc dc))))
 exact this
theorem a9x (W:World) (g b:Nat) (C:List Int) (h:xc W g b C [0]) (hC:0≤C.getD 9 0∧C.getD 9 0≤1000000000):Calls Tryz.prog 39 #[.pointer (some ⟨g,0,none⟩)] W (aj3 g b C [0] W):=
 avv h hC dc
theorem bh0 (W:World) (g b:Nat) (C:List Int) (h:xc W g b C [181,98]) (hC:0≤C.getD 9 0∧C.getD 9 0≤1000000000):Calls Tryz.prog 39 #[.pointer (some ⟨g,0,none⟩)] W (aj3 g b C [181,98] W):=
 a0b (x:=181) (r:=[98]) h hC dc 1 fun W' d hk=>hid (bjp W' d hk)
theorem bco (W:World) (g b d:Nat) (h:xc W g b z13 []) (hb:Blk W d (bsV [0])) (hdg:d≠g) (hdb:d≠b) :
 Calls Tryz.prog 22 #[.pointer (some ⟨g,0,none⟩),.slice (some ⟨d,0,none⟩) 1 1] W fun e w'=>e=.returned (.slice none 0 0) ∧
  xc w' g b [1,0,0,0,0,0,0,0,0,1,0,0,0] []∧qk (fun j=>j<W.1.size∧j≠b∧j≠g) W w':=
 ap4 (bs:=[0]) h hb hdg hdb dc dc (hid dc) fun W1 h1=>hid (a9x W1 g b _ h1 dc)
theorem bcp (W:World) (g b d:Nat) (h:xc W g b [1,0,0,0,0,0,0,0,0,1,0,0,0] []) (hb:Blk W d (bsV [181,98])) (hdg:d≠g) (hdb:d≠b) :
 Calls Tryz.prog 22 #[.pointer (some ⟨g,0,none⟩),.slice (some ⟨d,0,none⟩) 2 2] W fun e w'=>e=.returned (.slice none 0 0) ∧
  xc w' g b [3,0,0,0,0,0,0,0,0,1,0,0,0] [181,98]∧qk (fun j=>j<W.1.size∧j≠b∧j≠g) W w':=
 ap4 (bs:=[181,98]) h hb hdg hdb dc dc (hid dc) fun W1 h1=>hid (bh0 W1 g b _ h1 dc)
theorem yz {w:World} {d:Nat} (h:Blk w d (bsV [181,98])):(convert 22 9 (.slice (some ⟨d,0,none⟩) 2 2)).run Tryz.prog w=.ok (.string ⟨#[181,98]⟩) w:=
 afv w 22 9 5 ⟨d,0,none⟩ 2 [181,98] underlying22 underlying5 underlying9 (fun j hj=>by
  rw[acc];have hj2:j<2:=by simpa using hj
  have:j=0∨j=1:=by omega
  rcases this with rfl|rfl
  ·exact h.cell 0 rfl
  ·exact h.cell 1 rfl)
def acq (C:List Int) (N:Int):Prop:=∀k,0≤C.getD k 0∧C.getD k 0≤N
theorem as2 {Q:Nat→Prop} {w:World} {L:List Value} {x:ItD} (h:ItM Q w L x):∃R,L=.int .i64 x.pr::.bool x.od::R:=by
 obtain⟨U,N,T,rfl,-⟩:=h;exact⟨_,rfl⟩
def bge (x:ItD):Nat:=if x.od then 5+x.pr.toNat else 1+x.pr.toNat
theorem avt {Q:Nat→Prop} {W:World} {g b:Nat} {C:List Int} {l:List UInt8} {I:List Value} {x:ItD} (h:xc W g b C l) (hI:ItM Q W I x) (hp:x.pr=1∨x.pr=2∨x.pr=3) (hC:acq C 1000000000) :
 Calls Tryz.prog 58 #[.pointer (some ⟨g,0,none⟩),.agg I.toArray] W fun e w'=>e=.returned (.tuple #[])∧xc w' g b (qy C (bge x) 1) l∧qk (fun j=>j<W.1.size∧j≠g) W w':=by
 obtain⟨R,hR⟩:=as2 hI;have HIL:=hid hI.len;have HD:=hid h;unfold bge;obtain⟨pr,od,U0,N0,T0⟩:=x;dsimp only at *;have HRI:=hid hR;clear hI h hR;obtain⟨k,hk⟩:∃k,(if od=true then 5+pr.toNat else 1+pr.toNat)=k:=⟨_,rfl⟩;rw[hk];have hk13:k<13:=by rw[← hk];split<;>omega
 obtain⟨n,hn⟩:∃n,C.getD k 0=n:=⟨_,rfl⟩;have hn0:=(hC k).1;have hn1:=(hC k).2;rw[hn]at hn0 hn1
 have HCK:∀W1,Below W.1.size W W1→Hid (W1.cell? ⟨g,k+1,none⟩=some (.int .i64 n)∧W1.frozen? ⟨g,k+1,none⟩=false):=fun W1 hb=>hid (by
  have:=(HD.out.on hb).cd k hk13;rw[hn]at this;exact⟨this,(HD.out.on hb).blk.fz _⟩)
 have HFIN:∀W1,Below W.1.size W W1→Hid (xc (W1.setCell ⟨g,k+1,none⟩ (.int .i64 (n+1))) g b (qy C k 1) l∧qk (fun j=>j<W.1.size∧j≠g) W (W1.setCell ⟨g,k+1,none⟩ (.int .i64 (n+1)))):=fun W1 hb=>hid (by
  have hd:=(HD.out.on hb).set k (n+1) hk13;rw[← hn]at hd ⊢;exact⟨hd,(qk.of_below hb fun j q=>q.1).set (fun q=>q.2 rfl) _ _⟩)
 clear hC hk13 hn;cases od<;>rcases hp with rfl|rfl|rfl
 all_goals
  have hk':=hk.symm;simp only[Bool.false_eq_true,if_false,if_true,Int.reduceToNat,Nat.reduceAdd]at hk';subst hk';clear hk;simp only[Nat.reduceAdd]at HCK HFIN;go_enter func58,ntmps58;go_upto_region 1 with(refine ab6 rfl _ _ rfl I.toArray rfl ?_;intro W1 hW;have K1:=hid (Blk.newL (L:=I) hW List.toList_toArray);have HB1:=hid hW.bel;clear hW)
  have hk1:=K1.out;rw[HRI.out]at hk1;have i0:=hk1.cell 0 rfl;have i1:=hk1.cell 1 rfl;obtain⟨ck,zk⟩:=(HCK W1 HB1.out).out;have HF1:=HFIN W1 HB1.out;clear hk1 K1 HCK HFIN;go_wp2_with fail
  go_region
  go_wp2_with fail
  first
   | exact bodyPost_end (v:=.tuple #[]) (by simp[results,results58,go_sem]) rfl ⟨rfl,HF1.out.1.drew,HF1.out.2.drew⟩
   | exact bodyPost_ret (v:=.tuple #[]) (by simp[results,results58,go_sem]) rfl ⟨rfl,HF1.out.1.drew,HF1.out.2.drew⟩
theorem aq3 {P:Program} {a:Act} {w:World} {Q:Exit→Act→World→Prop} {first stuff:Code} (l:Nat) (J:Act→World→Prop) (μ:Act→World→Nat) (hf:findLabel (Code.seq first (Code.seq (Code.label l) stuff)) l=some (Code.seq Code.skip stuff)) (h0:first.wp P (Exit.then J (fun _ _ _=>False)) a w)
 (pass:∀a w,J a w→stuff.wp P (Exit.jump l (fun a' w'=>J a' w'∧μ a' w'<μ a w) Q) a w):(Code.scope (Code.seq first (Code.seq (Code.label l) stuff))).wp P Q a w:=
 wp_scope_jumps l J μ hf (wp_seq (wp_mono h0 fun e a w h=>by
  cases e with
  | normal=>
   exact wp_seq (wp_label (wp_mono (pass a w h) fun e a' w' h=>by
    cases e with
    | goto l'=>exact⟨h.1,h.2.1⟩
    | normal=>exact h
    | exit id=>exact h
    | ret=>exact h
    | _=>exact h))
  | _=>exact h.elim)) fun a w h=>wp_seq (wp_skip (pass a w h))
theorem a79 {C:List Int} {N:Int} (h:acq C N) (k:Nat):acq (qy C k 1) (N+1):=fun j=>by
 have h1:=h j;unfold qy
 by_cases e:j=k
 ·subst e;rw[List.getD_eq_getElem?_getD,List.getElem?_set_self'];rw[List.getD_eq_getElem?_getD]at h1;cases hc:C[j]? with
  | none=>rw[hc]at h1;simp at h1 ⊢;omega
  | some z=>
   rw[hc]at h1;rw[List.getD_eq_getElem?_getD,hc];simp at h1 ⊢;omega
 ·rw[List.getD_eq_getElem?_getD,List.getElem?_set_ne (fun q=>e q.symm),← List.getD_eq_getElem?_getD];omega
theorem ahp {N:Int}:∀(V:List VeD) {C:List Int},acq C N→acq (jj C V) (N+V.length)
 | [],C,h=>by simpa [jj]using h
 | v::V,C,h=>by
  have:=ahp (N:=N+1) V (C:=ai7 C v) (a79 h _);show acq (jj (ai7 C v) V) _;rw[List.length_cons];rw[show N +((V.length+1:Nat):Int)=N+1 +(V.length:Int)from by omega];exact this
theorem bd4 {w w':World} {B:Nat} {e:TypeId} {size:Nat} {v:Value} {n:Nat} {xs:List Value} (h:w.ownsRow B e size v n xs) (hk:∀k,B≤k→k<w.1.size→w'.heap[k]?=w.heap[k]?):w'.ownsRow B e size v n xs:=by
 refine⟨h.1,?_⟩;rcases h.2 with q|⟨g,cap,cur,h1,h2,h3,h4⟩
 ·exact .inl q
 ·exact .inr ⟨g,cap,cur,h1,h2,by rw[hk g h2 (Array.getElem?_eq_some_iff.1 h3).1];exact h3,h4⟩
def ye (B:Nat) (v:Value) (X:List ItD) (w:World):Prop:=∃Ls,w.ownsRow B 64 120 v X.length Ls.flatten∧acr (fun k=>B≤k∧k<w.1.size∧some k≠v.ownBlock) w Ls X
theorem ye.nil (B:Nat) (w:World):ye B (.slice none 0 0) [] w:=⟨[],World.ownsRow_nil _ _ _ _,acr.nil _ _⟩
theorem ye.kept {B:Nat} {v:Value} {X:List ItD} {w w':World} (h:ye B v X w) (hk:∀k,B≤k→k<w.1.size→w'.heap[k]?=w.heap[k]?) (hz:w.1.size≤w'.1.size):ye B v X w':=by
 obtain⟨Ls,h1,h2⟩:=h;exact⟨Ls,bd4 h1 hk,(h2.keep fun k q=>hk k q.1 q.2.1).less fun k q=>⟨q.1,Nat.lt_of_lt_of_le q.2.1 hz,q.2.2⟩⟩
theorem bd5 {w:World} {B:Nat} {e:TypeId} {size:Nat} {v:Value} {n:Nat} {xs:List Value} (h:w.ownsRow B e size v n xs) {k:Nat} (hk:v.ownBlock=some k):B≤k∧k<w.1.size:=by
 rcases h.2 with⟨q,-⟩|⟨g,cap,cur,q,hb,h3,-⟩
 ·subst q;cases hk
 ·subst q;simp only[Value.ownBlock,Option.some.injEq]at hk;subst hk;exact⟨hb,(Array.getElem?_eq_some_iff.1 h3).1⟩
theorem ye.own {B:Nat} {v:Value} {X:List ItD} {w:World} (h:ye B v X w) {k:Nat} (hk:v.ownBlock=some k):B≤k∧k<w.1.size:=by
 obtain⟨Ls,h1,-⟩:=h;exact bd5 h1 hk
theorem a33:(Tryz.prog.info? 64).map (fun i=>(i.zero,i.size,decide (i.bytes≤2000)))=some (some (.agg ada),120,true):=by kernel_rfl
theorem as0:∃i z,Tryz.prog.info? 64=some i∧i.zero=some z∧i.size=120∧z.cells.size=120∧i.bytes≤2000:=by
 have h:=a33;cases hi:Tryz.prog.info? 64 with
 | none=>rw[hi]at h;cases h
 | some i=>
  rw[hi,Option.map_some,Option.some.injEq,Prod.mk.injEq,Prod.mk.injEq]at h;exact⟨i,_,rfl,h.1,h.2.1,rfl,of_decide_eq_true h.2.2⟩
theorem ye.app {B:Nat} {v:Value} {X Y:List ItD} {w:World} (h:ye B v X w) (hB:B≤w.1.size) (A:Option Addr) (c:Nat) (Ms:List (List Value)) {R:Nat→Prop} (hf:qf R w A Ms.flatten) (hm:acr (fun k=>B≤k∧k<w.1.size∧some k≠v.ownBlock) w Ms Y) (hn:X.length+Y.length≤20000000) :
 ∃v' w',(Builtin.append_ #[75,75] 75 #[v,.slice A Y.length c]).run Tryz.prog w=.ok v' w'∧ye B v' (X++Y) w'∧Below B w w' ∧(∀k,k<w.1.size→some k≠v.ownBlock→w'.heap[k]?=w.heap[k]?) ∧(v'.ownBlock=v.ownBlock∨v'.ownBlock=some w.1.size):=by
 obtain⟨Ls,h1,h2⟩:=h;obtain⟨i0,z0,i1,i2,i3,i4,i5⟩:=as0;have hbytes:(X.length+Y.length)*i0.bytes≤140737488355328:=Nat.le_trans (Nat.mul_le_mul hn i5) dc;obtain⟨v',w',q1,q2,q3,q4⟩:=ka (P:=Tryz.prog) w 75 75 64 i0 z0 120 i0.bytes underlying75 i1 i2 i3 rfl i4 dc B v X.length Ls.flatten h1 A Y.length c Ms.flatten (by rw[hm.flat_len]) hf (hm.ones) (by unfold maxLen;omega) hbytes hB;have hk:∀k,B≤k∧k<w.1.size∧some k≠v.ownBlock→w'.heap[k]?=w.heap[k]?:=fun k q=>q3.block k q.2.1 q.2.2
 refine⟨v',w',q1,⟨Ls++Ms,by rw[List.flatten_append,List.length_append];exact q2,?_⟩,(Below.refl B w).grown q3 hB (fun k hk=>(bd5 h1 hk).1),fun k r1 r2=>q3.block k r1 r2,q4⟩;refine((h2.app hm).keep hk).less fun k q=>⟨q.1,Nat.lt_of_lt_of_le q.2.1 q3.size,?_⟩
 rcases q4 with e|e
 ·rw[e];exact q.2.2
 ·rw[e];intro r;injection r with r;have:=q.2.1;omega
theorem xc.moved2 {W W':World} {g b B:Nat} {C:List Int} {l:List UInt8} (h:xc W g b C l) (hk:qk (fun j=>j<B) W W') (hb:b<B∧g<B):xc W' g b C l:=⟨h.blk.kept (hk.block g hb.2) hk.size,h.len,h.win.kept (hk.block b hb.1) hk.size,h.ne⟩
structure aeo (W:World) (g b:Nat) (C:List Int) (l:List UInt8) (V:List VeD) (r:List UInt8) (v:Value) (w:World):Prop where
 sc:q7 l=(V ++(q7 r).1,(q7 r).2)
 len:V.length+r.length≤l.length
 dec:xc w g b (jj C V) r
 its:ye W.1.size v (zd V) w
 kept:qk (fun j=>j<W.1.size∧j≠b∧j≠g) W w
theorem aeo.start {W:World} {g b:Nat} {C:List Int} {l:List UInt8} (h:xc W g b C l):aeo W g b C l [] l (.slice none 0 0) W:=⟨rfl,by simp,h,ye.nil _ _,qk.refl _ _⟩
theorem aeo.mv {W:World} {g b:Nat} {C:List Int} {l:List UInt8} {V V':List VeD} {r r':List UInt8} {v:Value} {w w':World} (h:aeo W g b C l V r v w) (hbg:b<W.1.size∧g<W.1.size) (hk:qk (fun j=>j<w.1.size∧j≠b∧j≠g) w w') (hd:xc w' g b (jj C V') r')
 (hsc:q7 l=(V' ++(q7 r').1,(q7 r').2)) (hl:V'.length+r'.length≤l.length) (hit:zd V'=zd V):aeo W g b C l V' r' v w':=
 ⟨hsc,hl,hd,by rw[hit];exact h.its.kept (fun k q r=>hk.block k ⟨r,by omega,by omega⟩) hk.size,h.kept.trans (hk.less fun j q=>⟨Nat.lt_of_lt_of_le q.1 h.kept.size,q.2⟩)⟩
theorem aeo.on {W:World} {g b:Nat} {C:List Int} {l:List UInt8} {V:List VeD} {r:List UInt8} {v:Value} {w w':World} (h:aeo W g b C l V r v w) (hbg:b<W.1.size∧g<W.1.size) (hb:Below w.1.size w w'):aeo W g b C l V r v w':=
 h.mv hbg (qk.of_below hb fun j q=>q.1) (h.dec.on hb) h.sc h.len rfl
def a2k (W:World) (g b:Nat) (C:List Int) (l:List UInt8) (e:Ending) (w':World):Prop:=∃v,e=.returned v∧aeo W g b C l (q7 l).1 (q7 l).2 v w'
theorem aeo.stop {W:World} {g b:Nat} {C:List Int} {l:List UInt8} {V:List VeD} {r:List UInt8} {v:Value} {w:World} (h:aeo W g b C l V r v w) (hr:(jh r).d=0):a2k W g b C l (.returned v) w:=by
 have e:=h.sc;rw[acf hr,List.append_nil]at e;refine⟨v,rfl,?_⟩;rw[e];have h':=h;rw[show aeo W g b C l V r v w↔aeo W g b C l V r v w from Iff.rfl]at h';exact h'
theorem aph (V:List VeD) (v:VeD):zd (V++[v])=if v.d=2 then zd V++[v.x]else zd V:=by
 rw[afr];unfold zd
 by_cases h:v.d=2<;>simp[h]
theorem a93 {l:List UInt8} {V:List VeD} {r:List UInt8} (h:q7 l=(V ++(q7 r).1,(q7 r).2)) (hr:(jh r).d≠0):q7 l=((V++[jh r]) ++(q7 (r.drop (aak (jh r)))).1,(q7 (r.drop (aak (jh r)))).2):=by
 rw[h,ace hr];simp
theorem a94 {l:List UInt8} {V:List VeD} {r:List UInt8} (h:q7 l=(V ++(q7 r).1,(q7 r).2)):q7 l=((V++List.replicate (r.length-(zc r).length) aj9) ++(q7 (zc r)).1,(q7 (zc r)).2):=by
 rw[h,avz r];simp
def bk4 (W:World) (g b:Nat) (C:List Int) (l:List UInt8) (a:Act) (w:World):Prop:=
 ∃v u2 u4 u5 u6 u7 u8 u9 u10 u11 u12 u13 u14 u15 u16 u17 u18 u19 u20 u21 u22 u23 u24 u25 u26 u27 u28 u29 u30 u31 u32 u33 u34 u35 u36 u37 u38 u39 u40 u41 u42 u43 u44 u45 u46 u47 u48 u49 u50 u51 u52 u53 u54 u55 u56 u57 u58 u59 u60 u61 u62,a={tmps:=#[.pointer (some ⟨g,0,none⟩),undef,u2,v,u4,u5,u6,u7,u8,u9,u10,u11,u12,u13,u14,u15,u16,u17,u18,u19,u20,u21,u22,u23,u24,u25,u26,u27,u28,u29,u30,u31,u32,u33,u34,u35,u36,u37,u38,u39,u40,u41,u42,u43,u44,u45,u46,u47,u48,u49,u50,u51,u52,u53,u54,u55,u56,u57,u58,u59,u60,u61,u62],defers:=[]}∧∃V r,aeo W g b C l V r v w
theorem a14 {P:Program} {ops:Array Oper} {rest:List Oper} {o:Oper} {a:Act} {w W:World} {Q:Exit→Act→World→Prop} (hgd:o.guard=none) (t:TypeId) (x:Operand) (ho:o.op=.buildSlice t 1 #[(0,x)]) {u v:Value} (hx:a.eval x=u) (hr:(Instr.buildSlice t 1 #[(0,u)]).run P w=.ok v W)
 (h:wpList P ops Q rest (a.put o.dst v) W):wpList P ops Q (o::rest) a w:=
 abv hgd (by unfold execOp;rw[ho];simp[hx,hr]) h
theorem a22 {I:List Value} (hl:I.length=120) (w:World):(Instr.buildSlice 75 1 #[(0,.agg I.toArray)]).run Tryz.prog w=.ok (.slice (some ⟨w.1.size,0,none⟩) 1 1) (w.alloc (.cells I.toArray 64)):=by
 obtain⟨i,z,h1,h2,h3,h4,-⟩:=as0;have hu:=run_underlying (P:=Tryz.prog) underlying75 w;have hz:(sizeOf 64).run Tryz.prog w=.ok 120 w:=by simp[sizeOf,typeInfo,h1,h3]
 have hf:∀Z:Array Value,Z.size=120→Instr.fill (fun k=>some (k*120,120)) Z [(0,.agg I.toArray)]=some I.toArray:=fun Z hZ=>by
  rw[aay (off:=0) (L:=I) rfl (by rw[hl]) (by rw[hl,hZ];omega)]
  have e:ja Z.toList 0 I=I:=by
   unfold ja;rw[List.take_zero,List.nil_append,Nat.zero_add,List.drop_of_length_le (by rw[hl];simp[hZ]),List.append_nil]
  rw[e];rfl
 unfold Instr.buildSlice;have hzero:(zeroValue 64).run Tryz.prog w=.ok (.agg ada) w:=acn w;simp only[Sem.run_bind,hu,Result.andThen_ok,hz];simp[hzero,hf,newRow]
theorem a4u {W:World} {g b:Nat} {C:List Int} {l:List UInt8} (h:xc W g b C l) (hC:acq C 900000000):Calls Tryz.prog 39 #[.pointer (some ⟨g,0,none⟩)] W (a2k W g b C l):=by
 have hbg:b<W.1.size∧g<W.1.size:=⟨h.win.lt,h.blk.lt⟩;have hmax:l.length≤1024:=by obtain⟨D,a,q⟩:=h.win;exact q.max
 have H0:Hid (bk4 W g b C l {tmps:=#[.pointer (some ⟨g,0,none⟩),undef,.slice none 0 0,.slice none 0 0,undef,undef,undef,undef,undef,undef,undef,undef,undef,undef,undef,undef,undef,undef,undef,undef,undef,undef,undef,undef,undef,undef,undef,undef,undef,undef,undef,undef,undef,undef,undef,undef,undef,undef,undef,undef,undef,undef,undef,undef,undef,undef,undef,undef,undef,undef,undef,undef,undef,undef,undef,undef,undef,undef,undef,undef,undef,undef,undef],defers:=[]} W):=hid ⟨_,_,_,_,_,_,_,_,_,_,_,_,_,_,_,_,_,_,_,_,_,_,_,_,_,_,_,_,_,_,_,_,_,_,_,_,_,_,_,_,_,_,_,_,_,_,_,_,_,_,_,_,_,_,_,_,_,_,_,_,_,rfl,[],l,aeo.start h⟩;have HBG:=hid hbg;have HCC:=hid (And.intro hC (And.intro hmax h.len));have HZ:=fun W=>hid (aec W)
 clear h hbg hmax hC;go_enter func39,ntmps39;go_wp2_with fail;refine aq3 0 (bk4 W g b C l) (fun _ w=>agm b w) rfl ?_ ?_
 ·go_wp2_with fail;exact H0.out
 rintro a w ⟨v,u2,u4,u5,u6,u7,u8,u9,u10,u11,u12,u13,u14,u15,u16,u17,u18,u19,u20,u21,u22,u23,u24,u25,u26,u27,u28,u29,u30,u31,u32,u33,u34,u35,u36,u37,u38,u39,u40,u41,u42,u43,u44,u45,u46,u47,u48,u49,u50,u51,u52,u53,u54,u55,u56,u57,u58,u59,u60,u61,u62,rfl,V,r,hs⟩;have HS:=hid hs;clear hs H0;have HV:=hid (ahp V HCC.out.1);have HL:=hid HS.out.len;go_wp2_with fail;refine(ag2 HS.out.dec (hid ⟨(HV.out 9).1,by have:=(HV.out 9).2;have:=HL.out;have:=HCC.out.2;omega⟩)).mono ?_;rintro e w1 ⟨rfl,hd,hk⟩;have hrl:=amt r;have hcl:(jj C V).length=13:=by rw[ahq];exact HCC.out.2.2
 have HS1:Hid (aeo W g b C l (V++List.replicate (r.length-(zc r).length) aj9) (zc r) v w1):=hid (HS.out.mv HBG.out (hk.less fun j q=>q.2) (by
  rw[adc,ax7 _ _ om];rw[show ((r.length-(zc r).length:Nat):Int)=(r.length:Int)-((zc r).length:Int)from by omega];exact hd) (a94 HS.out.sc) (by have:=HS.out.len;rw[List.length_append,List.length_replicate];omega) (by rw[afr,au6,List.append_nil]))
 have HRL:=hid (And.intro hrl (ag8 HS.out.dec.win));clear hd hk hrl hcl HS HV HL;generalize V++List.replicate (r.length-(zc r).length) aj9=V1 at *;rcases hsk:zc r with _|⟨x,t⟩
 ·rw[hsk]at HS1;go_wp2_with fail;simp only[Exit.jump];go_ret;exact HS1.out.stop rfl
 have HRX:Hid ((x::t).length≤r.length∧agm b w=r.length):=hid (by rw[← hsk];exact HRL.out);rw[hsk]at HS1;clear hsk HRL;have c0:=HS1.out.dec.c0;go_wp2_with fail;refine(ahj HS1.out.dec.win).mono ?_;rintro e w2 ⟨rfl,hbk,-,hb,hsz⟩;have HS2:=hid (HS1.out.on HBG.out hb);have HK2:=hid hbk;have HD2:Hid (W.1.size≤w1.1.size∧w1.1.size<w2.1.size):=hid ⟨HS1.out.kept.size,by omega⟩;have HOB:Hid (v.ownBlock≠some w1.1.size):=hid (fun q=>Nat.lt_irrefl _ (HS1.out.its.own q).2);clear hb hbk hsz HS1 c0;generalize w1.1.size=d at *
 have HXL:Hid ((x::t).length≤1024∧0<(x::t).length):=hid (by
  obtain⟨D,a,q⟩:=HS2.out.dec.win;exact⟨q.max,by simp⟩)
 generalize (x::t)=s0 at *;generalize hsn:s0.length=sn at *;have HSN:=hid hsn;clear hsn;go_wp2_with fail
 go_loopg [3,4] (sn+1) (fun gk s3 s4 wr=>∃V2 r2 X c,s4=.slice X r2.length c∧r2.length<gk∧r2.length≤c∧Hid (qf (fun k=>k=d) wr X (bsV r2))∧Hid (aeo W g b C l V2 r2 s3 wr)∧Hid (r2.length≤sn∧d<wr.1.size∧s3.ownBlock≠some d))
 case atStart=>exact⟨V1,s0,_,sn,by rw[HSN.out],by rw[HSN.out];omega,by rw[HSN.out];exact Nat.le_refl _,HK2.out.flat rfl,HS2.out,by rw[HSN.out];exact⟨Nat.le_refl _,HD2.out.2,HOB.out⟩⟩
 case round=>
  obtain⟨V2,r2,X,c,rfl,hgk,hrc,HF,HS,HD⟩:=hrel;clear HK2 HS2;rcases r2 with _|⟨y,t2⟩
  ·go_wp2_with fail
   try simp only[Exit.jump]
   try go_step3
   refine⟨rfl,⟨_,_,_,_,_,_,_,_,_,_,_,_,_,_,_,_,_,_,_,_,_,_,_,_,_,_,_,_,_,_,_,_,_,_,_,_,_,_,_,_,_,_,_,_,_,_,_,_,_,_,_,_,_,_,_,_,_,_,_,_,_,rfl,V2,[],HS.out⟩,?_⟩;show agm b wr<agm b w;rw[ag8 HS.out.dec.win,HRX.out.2];have:=HRX.out.1;have:=HXL.out.2;have:=HSN.out;simp only[List.length_nil];omega
  obtain⟨bd,off,rfl,hbd,-⟩:=HF.out 0 (bV y) rfl;have hbd:bd=d:=hbd;subst hbd;have hyl:0<(y::t2).length:=by simp
  have hproto:(jh (y::t2)).p=0 ∨(jh (y::t2)).p=1 ∨(jh (y::t2)).p=2 ∨(jh (y::t2)).p=3:=by
   rw[bfh (y::t2) y rfl];exact ahz y
  have HDT:=hid (And.intro (bff (y::t2)) (And.intro (al2 (y::t2)) (And.intro (aw1 (y::t2)) hproto)));have HMORE:=hid (fun hr=>a93 (r:=y::t2) HS.out.sc hr);have HSTOP:=hid (fun(h0:(jh (y::t2)).d=0)=>h0);have HAT:=fun W' (hW:Below wr.1.size wr W')=>hid (a9i (some ⟨bd,off,none⟩) c (y::t2) ((HF.out.lt.below hW (fun k q=>q.2)).less (R:=fun _=>True) fun _ _=>trivial) (by have:=HD.out.1;have:=HXL.out.1;have:=HSN.out;omega) hrc)
  unfold a2r at HAT;clear hproto;generalize hvv:jh (y::t2)=ver at *;have HVV:=hid hvv;clear hvv;generalize hr3:y::t2=r3 at *;clear hr3;obtain⟨rn,hrn⟩:∃rn,r3.length=rn:=⟨_,rfl⟩;have HRN:=hid hrn;rw[hrn]at hgk hrc hyl HAT ⊢;clear hrn;obtain⟨vd,vp,vn,ve,vx⟩:=ver;dsimp only at *;have hrp:(0:Int)<(rn:Int):=by omega
  go_wp2_with fail;refine(HAT wr (Below.refl _ _)).out.mono ?_;rintro e w3 ⟨I,rfl,hit,hb⟩;have HS3:=hid (HS.out.on HBG.out hb);have HF3:=hid ((HF.out.lt.below hb (fun k q=>q.2)).less (R:=fun k=>k=bd) fun k q=>q.1);have HVL:=hid (aw0 (d:=vd) (p:=vp) (n:=vn) (e:=ve) hit.len);have HVO:=hid (aqs (d:=vd) (p:=vp) (n:=vn) (e:=ve) hit.ones);have HVS:=hid (aqt HVL.out);have HIT:=hid hit;have HD3:Hid (W.1.size≤bd∧bd<wr.1.size∧wr.1.size≤w3.1.size∧W.1.size≤wr.1.size):=hid ⟨HD2.out.1,HD.out.2.1,hb.size,HS.out.kept.size⟩;have HOW:Hid (∀k,u3.ownBlock=some k→W.1.size≤k∧k<wr.1.size):=hid (fun k q=>HS.out.its.own q);clear hb hit HAT HS HF
  go_upto_region 7 with(first
   | (refine qc rfl 66 rfl (veA 0 0 0 0) (HZ _).out ?_;intro W4 hW;have HV4:=hid (Blk.newL (L:=veL 0 0 0 0 adb) hW rfl);have HS4:=hid (HS3.out.on HBG.out hW.bel);have HP4:=hid (fun k (q:k<w3.1.size)=>hW.bel.block k q);have HZ4:=hid hW.sz;have HKP4:=hid (qk.of_below (S:=fun j=>j<w3.1.size) hW.bel fun j q=>q);clear hW)
   | (refine qe rfl 66 _ _ rfl w3.1.size 0 (veL vd vp vn ve I).toArray rfl rfl (aau HV4.out HVL.out) HVS.out HVO.out ?_;intro W5 hs;have HV5:=hid (ac2 HV4.out HVL.out hs);have HZ5:Hid (W5.1.size=w3.1.size+1):=hid (hs.sz.trans HZ4.out);have HP5:=hid (fun k (q:k<w3.1.size)=>(hs.far k (Nat.ne_of_lt q)).trans (HP4.out k q));have HKP5:=hid (HKP4.out.stored hs (fun q=>Nat.lt_irrefl _ q));clear hs))
  try go_frame
  have hk35:qk (fun j=>j<w3.1.size) w3 W5:=HKP5.out;have HS5:=hid (HS3.out.mv HBG.out (hk35.less fun j q=>q.1) (HS3.out.dec.moved2 hk35 (by have:=HS3.out.kept.size;have:=HBG.out;omega)) HS3.out.sc HS3.out.len rfl);have HF5:=hid (HF3.out.keep fun k (q:k=bd)=>HP5.out k (by rw[q];have:=HD3.out;omega));have HI5:=hid (HIT.out.keep fun k q=>HP5.out k q.2);obtain⟨e0,e1,e2,-,e4⟩:=bfe HV5.out;have HE4:=hid e4;have HQ5:Hid (w3.1.size<W5.1.size):=hid (by rw[HZ5.out];exact Nat.lt_succ_self _);clear hk35 e4 HV4 HS4 HP4 HZ4 HS3 HF3 HIT HP5 HVL HVO HVS;have HVB:Hid (wr.1.size≤w3.1.size∧W.1.size≤w3.1.size):=hid ⟨HD3.out.2.2.1,Nat.le_trans HD3.out.2.2.2 HD3.out.2.2.1⟩;generalize hvbe:w3.1.size=vb at *;have HVE:=hid hvbe;clear hvbe;rcases HDT.out.1 with hd0|hd1|hd2
  ·have hd0:vd=0:=hd0;subst hd0;go_wp2_with fail
   try simp only[Exit.jump]
   go_ret;exact HS5.out.stop (by rw[HVV.out])
  ·have hd1:vd=1:=hd1;subst hd1;obtain⟨hn0,hx0⟩:=HDT.out.2.2.1 dc;have hn0:vn=0:=hn0;subst hn0;have hpp:=HDT.out.2.2.2;obtain⟨k,hk⟩:∃k,9+vp.toNat=k:=⟨_,rfl⟩;have hk13:k<13:=by rw[← hk];omega
   have hvl:=HS5.out.len;have hcn:=ahp V2 HCC.out.1 k;have hl24:=HCC.out.2.1;obtain⟨cn,hcn2⟩:∃cn,(jj C V2).getD k 0=cn:=⟨_,rfl⟩;rw[hcn2]at hcn;have hc0:0≤cn:=hcn.1;have hc1:cn≤1000000000:=by omega
   have hck:=HS5.out.dec.cd k hk13;rw[hcn2]at hck;have hzk:=HS5.out.dec.blk.fz (k+1);have hd6:=HS5.out.dec.set k (cn+1) hk13;have hst6:=HS5.out.dec.keptS k (cn+1)
   have HD6:Hid (xc (W5.setCell ⟨g,k+1,none⟩ (.int .i64 (cn+1))).drew g b (qy (jj C V2) k 1) r3∧qk (fun j=>j≠b∧j≠g) W5 (W5.setCell ⟨g,k+1,none⟩ (.int .i64 (cn+1))).drew):=hid ⟨by
    rw[← hcn2]at hd6 ⊢;exact hd6.drew,hst6.drew⟩
   have hcv:jj C (V2++[⟨1,vp,0,ve,vx⟩])=qy (jj C V2) k 1:=by
    rw[adc];show qy (jj C V2) (ax5 ⟨1,vp,0,ve,vx⟩) 1=_;rw[show ax5 ⟨1,vp,0,ve,vx⟩=k from hk]
   have HEND:Hid (∀W7,vh W7 b (r3.drop 1)→qk (fun j=>j≠b) (W5.setCell ⟨g,k+1,none⟩ (.int .i64 (cn+1))).drew W7→aeo W g b C l (V2++[⟨1,vp,0,ve,vx⟩]) (r3.drop 1) u3 W7∧agm b W7<agm b w):=hid fun W7 hw hk7=>by
    have hr:=HS5.out.mv (V':=V2++[⟨1,vp,0,ve,vx⟩]) (r':=r3.drop 1) HBG.out ((HD6.out.2.trans (hk7.less fun j q=>q.1)).less fun j q=>q.2) (by rw[hcv];exact HD6.out.1.moved hw hk7) (HMORE.out dc) (by rw[List.length_append,List.length_drop,HRN.out];have:=HRN.out;simp only[List.length_cons,List.length_nil];omega) (by rw[aph];rfl);refine⟨hr,?_⟩;rw[ag8 hr.dec.win,HRX.out.2,List.length_drop,HRN.out];have:=HRX.out.1;have:=HSN.out;have h9:=HD.out.1;rw[HRN.out]at h9;omega
   clear hcn hcn2 hd6 hst6 hcv hx0 hvl hl24 HMORE HSTOP HDT HI5 HF5 HE4 HV5 HS5 HVV;have hk':=hk.symm;rcases hpp with rfl|rfl|rfl|rfl
   all_goals
    simp only[Int.reduceToNat,Nat.reduceAdd,Int.toNat_zero]at hk';subst hk';clear hk hk13;simp only[Nat.reduceAdd]at hck hzk HD6 HEND;go_upto_region 11 with fail
    go_region
    clear hck hzk;generalize W5.setCell ⟨g,_,none⟩ (.int .i64 (cn+1))=W6 at *;have g0:=HD6.out.1.c0;go_wp2_with fail;refine(ahh 1 HD6.out.1.win om).mono ?_;rintro e W7 ⟨rfl,hw,hk⟩;rw[show (max 0 (min (1:Int) (r3.length:Int))).toNat=1 from by rw[HRN.out];omega]at hw ⊢;have HE7:=hid (HEND.out W7 hw hk);clear hw hk HD6 g0;go_wp2_with fail
    try simp only[Exit.jump]
    try go_step3
    exact⟨rfl,⟨_,_,_,_,_,_,_,_,_,_,_,_,_,_,_,_,_,_,_,_,_,_,_,_,_,_,_,_,_,_,_,_,_,_,_,_,_,_,_,_,_,_,_,_,_,_,_,_,_,_,_,_,_,_,_,_,_,_,_,_,_,rfl,_,_,HE7.out.1⟩,HE7.out.2⟩
  ·have hd2:vd=2:=hd2;subst hd2;have ht:=HDT.out.2.1 rfl
   have hpr:vx.pr=1∨vx.pr=2∨vx.pr=3:=by
    have h4:vx.pr=vp:=ht.2.2.2.1;rw[h4];exact ht.2.2.2.2
   have htn:8≤vn∧vn≤1024∧vn≤rn:=by have:=HRN.out;have h1:=ht.1;have h2:=ht.2.1;have h3:=ht.2.2.1;exact⟨h1,h2,by rw[← this];exact h3⟩
   have hvl:=HS5.out.len;have hl24:=HCC.out.2.1
   have hcok:acq (jj C V2) 1000000000:=fun k=>by
    have:=ahp V2 HCC.out.1 k;exact⟨this.1,by omega⟩
   have hck:bge vx=ax5 ⟨2,vp,vn,ve,vx⟩:=by
    have h4:vx.pr=vp:=ht.2.2.2.1;unfold bge ax5;rw[h4];rfl
   have HCT:=hid (avt HS5.out.dec HI5.out hpr hcok);have HIL:=hid HI5.out.len;have HIX:Hid (V2.length≤1024):=hid om;have hVN:=htn;have HTN:=hid htn;have HCK:=hid hck;clear ht hpr htn hvl hl24 hcok hck HDT;go_wp2_with (refine wpList_load_mid rfl 64 _ rfl vb 4 rfl I _ HE4.out underlying64 sm (by rw[HIL.out];kernel_rfl) ?_);refine HCT.out.mono ?_;rintro e W6 ⟨rfl,hd6,hk6⟩;have HD6:=hid hd6;have HK6:=hid hk6;have HE6:=hid (afu HE4.out (hk6.block vb ⟨HQ5.out,by have:=HD3.out;have:=HBG.out;have:=HVB.out;omega⟩));have HI6:=hid (HI5.out.keep fun k q=>hk6.block k ⟨by have:=q.2;have:=HQ5.out;have:=HVE.out;omega,by have:=q.1;have:=HD3.out;have:=HBG.out;omega⟩);have HR6:=hid (HS5.out.its.kept (w':=W6) (fun k q r=>hk6.block k ⟨r,by have:=HBG.out;omega⟩) hk6.size);have HF6:=hid (HF5.out.keep fun k (q:k=bd)=>hk6.block k ⟨by rw[q];have:=HD3.out;have:=HQ5.out;have:=HVB.out;omega,by rw[q];have:=HD3.out;have:=HBG.out;omega⟩)
   have HKA:=hid (HS5.out.kept.trans (hk6.less fun j q=>⟨Nat.lt_of_lt_of_le q.1 HS5.out.kept.size,q.2.2⟩));have HQ6:Hid (vb<W6.1.size):=hid (Nat.lt_of_lt_of_le HQ5.out hk6.size);have he2:=(World.cell?_of_block (a:=⟨vb,2,none⟩) (hk6.block vb ⟨HQ5.out,by have:=HD3.out;have:=HBG.out;have:=HVB.out;omega⟩)).trans e2;have HE2:=hid he2;clear hd6 hk6 HCT HE4 HI5 HF5 e0 e1 e2 he2 HV5;go_upto_region 14 with fail;have hba:=qa W6 (.cells I.toArray 64);have hrow:=HR6.out.kept (fun k _ r=>hba.block k r) hba.size;have hblk:Blk (W6.alloc (.cells I.toArray 64)) W6.1.size I:=Blk.newL (qg W6 _ _) List.toList_toArray
   have hfl:qf (fun _=>True) (W6.alloc (.cells I.toArray 64)) (some ⟨W6.1.size,0,none⟩) [I].flatten:=by
    rw[show [I].flatten=I from by simp];exact hblk.flat trivial
   have hits:acr (fun k=>W.1.size≤k∧k<(W6.alloc (.cells I.toArray 64)).1.size∧some k≠u3.ownBlock) (W6.alloc (.cells I.toArray 64)) [I] [vx]:=acr.one ((HI6.out.keep fun k q=>hba.block k (by have:=q.2;have:=HQ6.out;have:=HVB.out;have:=HVE.out;omega)).less fun k q=>⟨by have:=q.1;have:=HD3.out;omega,by have:=q.2;have:=HQ6.out;have:=hba.size;have:=HVB.out;have:=HVE.out;omega,fun r=>by have:=(HOW.out k r.symm).2;have:=q.1;omega⟩)
   have hnx:(zd V2).length+[vx].length≤20000000:=by
    have h1:(zd V2).length≤V2.length:=by unfold zd;rw[List.length_map];exact List.length_filter_le _ _
    have:=HIX.out;simp only[List.length_cons,List.length_nil];omega
   obtain⟨v8,W8,hrun,hr8,hb8,hx8,ho8⟩:=hrow.app (by have:=HR6.out;have:=hba.size;have:=HD3.out;have:=HQ6.out;have:=HVB.out;omega) (some ⟨W6.1.size,0,none⟩) 1 [I] hfl hits hnx;have HRUN:=hid hrun;have HSL:=hid (a22 HIL.out W6);have hfar:∀k,k<W6.1.size→some k≠u3.ownBlock→W8.heap[k]?=W6.heap[k]?:=fun k r1 r2=>(hx8 k (Nat.lt_of_lt_of_le r1 hba.size) r2).trans (hba.block k r1)
   have hbd:some bd≠u3.ownBlock:=fun q=>HD.out.2.2 q.symm
   have hvb:some vb≠u3.ownBlock:=fun q=>by have:=(HOW.out vb q.symm).2;have:=HD3.out;have:=HVB.out;omega
   have hkb:qk (fun j=>j<W.1.size) W6 W8:=(qk.of_below hba (fun j (q:j<W.1.size)=>by have:=HD3.out;have:=HQ6.out;have:=HVB.out;omega)).trans (qk.of_below hb8 fun j q=>q);have HD8:=hid (HD6.out.moved2 hkb HBG.out);have HR8:Hid (ye W.1.size v8 (zd (V2++[⟨2,vp,vn,ve,vx⟩])) W8):=hid (by rw[aph];exact hr8);have HE8:=hid ((World.cell?_of_block (a:=⟨vb,2,none⟩) (hfar vb HQ6.out hvb)).trans HE2.out);have HF8:=hid (HF6.out.keep fun k (q:k=bd)=>hfar k (by rw[q];have:=HD3.out;have:=HQ6.out;have:=HVB.out;omega) (by rw[q];exact hbd));have HKB:=hid (HKA.out.trans (hkb.less fun j q=>q.1))
   have HO8:Hid (v8.ownBlock≠some bd∧W6.1.size≤W8.1.size):=hid ⟨by
    rcases ho8 with q|q
    ·rw[q];exact fun r=>hbd r.symm
    ·rw[q];intro r;injection r with r;have:=HD3.out;have:=HQ6.out;have:=HVB.out;have:=hba.size;omega,hkb.size⟩
   have HQ6b:=hid HQ6.out;clear hba hrow hblk hfl hits hnx hrun hr8 hb8 hx8 ho8 hfar hbd hvb hkb HD6 HK6 HI6 HR6 HF6 HKA HE2
   go_wp2_with (first
    | refine wpList_load_mid rfl 64 _ rfl vb 4 rfl I _ HE6.out underlying64 sm (by rw[HIL.out];kernel_rfl) ?_
    | refine a14 (u:=.agg I.toArray) rfl 75 _ rfl rfl HSL.out ?_
    | (at_builtin;refine q6 rfl _ _ 75 rfl _ _ _ rfl rfl HRUN.out ?_))
   have hHDR:=ahh (vn:Int) HD8.out.drew.win (by have:=HTN.out;omega);rw[show (max 0 (min (vn:Int) (r3.length:Int))).toNat=vn from by rw[HRN.out];have:=HTN.out;omega]at hHDR;have HDR:=hid hHDR
   have HEND:Hid (∀W9,vh W9 b (r3.drop vn)→qk (fun j=>j≠b) W8 W9→aeo W g b C l (V2++[⟨2,vp,vn,ve,vx⟩]) (r3.drop vn) v8 W9∧qf (fun k=>k=bd) W9 (some ⟨bd,off+vn,none⟩) (bsV (r3.drop vn))∧W8.1.size≤W9.1.size):=hid fun W9 hw hk9=>by
    have hst:aak ⟨2,vp,vn,ve,vx⟩=vn:=by show max vn 1=vn;have:=HTN.out;omega
    have hsc:=HMORE.out dc;rw[hst]at hsc;refine⟨⟨hsc,?_,?_,HR8.out.kept (fun k q _=>hk9.block k (by have:=HBG.out;omega)) hk9.size,HKB.out.trans (hk9.less fun j q=>q.2.1)⟩,?_,hk9.size⟩
    ·have h1:=HRN.out;have h2:=HTN.out;have h3:=HS5.out.len;rw[List.length_append,List.length_drop];simp only[List.length_cons,List.length_nil];omega
    ·rw[adc];show xc W9 g b (qy (jj C V2) (ax5 ⟨2,vp,vn,ve,vx⟩) 1) _;rw[← HCK.out];exact HD8.out.moved hw hk9
    ·have:=(HF8.out.keep fun k (q:k=bd)=>hk9.block k (by rw[q];have:=HD3.out;have:=HBG.out;omega)).part vn
     rwa [abd]at this
   have HGB:Hid (g≠b∧vb≠b):=hid ⟨fun q=>HD8.out.ne q.symm,fun q=>by have:=HVB.out;have:=HBG.out;omega⟩;have hv0:(0:Int) ≤(vn:Int):=by omega
   have hv1:(vn:Int) ≤(rn:Int):=by have:=HTN.out;omega
   have hv2:(rn:Int) ≤(c:Int):=by omega
   have hDL:(r3.drop vn).length=rn-vn:=by rw[List.length_drop,HRN.out]
   have HDL:=hid hDL;clear hHDR hDL HF8 HKB HR8 HE6 HIL HIX HSL HRUN HQ6 HMORE hVN HCK HVV HSTOP HS5 HOW;rcases Nat.lt_or_ge vn c with hlt|hge
   ·have hv3:(vn:Int)<(c:Int):=by omega
    have hS0:qk (fun j=>j≠b) W8 W8.drew:=(qk.refl _ _).drew;refine wp_region_held_drew (S:=fun w'=>qk (fun j=>j≠b) W8 w') kr hS0 (fun hHeld0=>?_);refine tkA 0 54 rfl ?_
    try go_frame
    refine tkA 1 55 rfl ?_
    try go_frame
    refine tkA 2 56 rfl ?_
    try go_frame
    refine tkA 3 57 rfl ?_
    try go_frame
    refine tkQ (i:=4) (oi:=⟨some 58,_,_,_,_,_⟩) (v:=?_) rfl (Or.inl ⟨by rfl,?_⟩) ?_;rotate_left
    ·intro w' hSw;have g0:w'.cell? ⟨g,0,none⟩=some (.pointer (some ⟨b,0,none⟩)):=(hSw.cell (b:=g) (o:=0) HGB.out.1).trans HD8.out.c0;go_simp
     try with_reducible rfl
    try go_frame
    refine tkA 5 59 rfl ?_
    try go_frame
    refine tkQ (i:=6) (oi:=⟨some 60,_,_,_,_,_⟩) (v:=?_) rfl (Or.inl ⟨by rfl,?_⟩) ?_;rotate_left
    ·intro w' hSw;have g2:w'.cell? ⟨vb,2,none⟩=some (.int .i64 (vn:Int)):=(hSw.cell (b:=vb) (o:=2) HGB.out.2).trans HE8.out;go_simp
     try with_reducible rfl
    try go_frame
    refine rdB 7 61 rfl fun K hK=>?_
    go_step;refine HDR.out.mono ?_;rintro e W9 ⟨rfl,hw9,hk9⟩;have HW9:Hid (vh W9 b (r3.drop vn)∧qk (fun j=>j≠b) W8 W9):=hid ⟨hw9,hHeld0.trans hk9⟩;clear hw9 hk9
    try go_frame
    refine hK.out _ _ (HW9.out.2) (fun hHeld=>?_);clear hK K
    try go_frame
    refine tkA 8 62 rfl ?_
    try go_frame
    refine tkA 9 4 rfl ?_
    try go_frame
    refine wpAnyH_done kr ?_ _
    try go_frame
    go_wp2_with fail
    go_roundg rn
    case measure=>omega
    case rel=>
     obtain⟨q1,q2,q3⟩:=HEND.out _ HW9.out.1 HW9.out.2;exact⟨_,r3.drop vn,_,c-vn,by rw[HDL.out],by rw[HDL.out];have:=HTN.out;omega,by rw[HDL.out];omega,q2,q1,by rw[HDL.out];have:=HD.out.1;rw[HRN.out]at this;omega,by have:=HO8.out.2;have:=HQ6b.out;have:=HD3.out;omega,HO8.out.1⟩
   ·obtain rfl:c=vn:=by have:=HTN.out;omega
    obtain rfl:rn=c:=by have:=HTN.out;omega
    have hS0:qk (fun j=>j≠b) W8 W8.drew:=(qk.refl _ _).drew;refine wp_region_held_drew (S:=fun w'=>qk (fun j=>j≠b) W8 w') kr hS0 (fun hHeld0=>?_);refine tkA 0 54 rfl ?_
    try go_frame
    refine tkA 1 55 rfl ?_
    try go_frame
    refine tkA 2 56 rfl ?_
    try go_frame
    refine tkA 3 57 rfl ?_
    try go_frame
    refine tkQ (i:=4) (oi:=⟨some 58,_,_,_,_,_⟩) (v:=?_) rfl (Or.inl ⟨by rfl,?_⟩) ?_;rotate_left
    ·intro w' hSw;have g0:w'.cell? ⟨g,0,none⟩=some (.pointer (some ⟨b,0,none⟩)):=(hSw.cell (b:=g) (o:=0) HGB.out.1).trans HD8.out.c0;go_simp
     try with_reducible rfl
    try go_frame
    refine tkA 5 59 rfl ?_
    try go_frame
    refine tkQ (i:=6) (oi:=⟨some 60,_,_,_,_,_⟩) (v:=?_) rfl (Or.inl ⟨by rfl,?_⟩) ?_;rotate_left
    ·intro w' hSw;have g2:w'.cell? ⟨vb,2,none⟩=some (.int .i64 (rn:Int)):=(hSw.cell (b:=vb) (o:=2) HGB.out.2).trans HE8.out;go_simp
     try with_reducible rfl
    try go_frame
    refine rdB 7 61 rfl fun K hK=>?_
    go_step;refine HDR.out.mono ?_;rintro e W9 ⟨rfl,hw9,hk9⟩;have HW9:Hid (vh W9 b (r3.drop rn)∧qk (fun j=>j≠b) W8 W9):=hid ⟨hw9,hHeld0.trans hk9⟩;clear hw9 hk9
    try go_frame
    refine hK.out _ _ (HW9.out.2) (fun hHeld=>?_);clear hK K
    try go_frame
    refine tkA 8 62 rfl ?_
    try go_frame
    refine tkA 9 4 rfl ?_
    try go_frame
    refine wpAnyH_done kr ?_ _
    try go_frame
    go_wp2_with fail
    go_roundg rn
    case measure=>omega
    case rel=>
     obtain⟨q1,q2,q3⟩:=HEND.out _ HW9.out.1 HW9.out.2;have e0:r3.drop rn=[]:=List.eq_nil_of_length_eq_zero (by rw[HDL.out];omega);rw[e0]at q1;exact⟨_,[],_,0,rfl,by simp;omega,Nat.le_refl _,qf.nil _ _ _,q1,Nat.zero_le _,by have:=HO8.out.2;have:=HQ6b.out;have:=HD3.out;omega,HO8.out.1⟩
theorem ao0 {C:List Int} {N n:Int} (h:acq C N) (k:Nat) (hn:0≤n):acq (qy C k n) (N+n):=fun j=>by
 have h1:=h j;unfold qy
 by_cases e:j=k
 ·subst e;rw[List.getD_eq_getElem?_getD,List.getElem?_set_self'];rw[List.getD_eq_getElem?_getD]at h1;cases hc:C[j]? with
  | none=>rw[hc]at h1;simp at h1 ⊢;omega
  | some z=>
   rw[hc]at h1;rw[List.getD_eq_getElem?_getD,hc];simp at h1 ⊢;omega
 ·rw[List.getD_eq_getElem?_getD,List.getElem?_set_ne (fun q=>e q.symm),← List.getD_eq_getElem?_getD];omega
theorem acq.le {C:List Int} {N M:Int} (h:acq C N) (hm:N≤M):acq C M:=fun k=>⟨(h k).1,Int.le_trans (h k).2 hm⟩
theorem aey (l:List UInt8):(q7 l).1.length +(q7 l).2.length≤l.length:=by
 refine akt (P:=fun l=>(q7 l).1.length +(q7 l).2.length≤l.length) ?_ ?_ l
 ·intro l h;rw[acf h];simp
 ·intro l h ih;rw[ace h];have h1:=aqp h;have h2:=ah6 (jh l);rw[List.length_drop]at ih;simp only[List.length_cons];omega
structure a6k (W:World) (g b:Nat) (C:List Int) (s:List UInt8) (v:Value) (w:World):Prop where
 dec:xc w g b (jj C (q7 s).1) (q7 s).2
 its:ye W.1.size v (zd (q7 s).1) w
 kept:qk (fun j=>j<W.1.size∧j≠b∧j≠g) W w
def bft (W:World) (g b:Nat) (C:List Int) (s:List UInt8) (e:Ending) (w':World):Prop:=∃v,e=.returned v∧a6k W g b C s v w'
theorem a3d {W W1:World} {g b:Nat} {C:List Int} {l:List UInt8} (h:xc W1 g b C l) (hd:(jh l).d=0) (hk:qk (fun j=>j<W.1.size∧j≠b∧j≠g) W W1):a6k W g b C l (.slice none 0 0) W1:=by
 refine⟨?_,?_,hk⟩
 ·rw[acf hd];exact h
 ·rw[acf hd];exact ye.nil _ _
theorem a0a {W:World} {g b:Nat} {C:List Int} {l bs:List UInt8} (A:Option Addr) (c:Nat) (h:xc W g b C l) (hst:(jh l).d=0) (hbs:qf (fun k=>k<W.1.size∧k≠b∧k≠g) W A (bsV bs)) (hn:bs.length≤4000000) (hc:bs.length≤c) (hC:acq C 400000000) :
 Calls Tryz.prog 22 #[.pointer (some ⟨g,0,none⟩),.slice A bs.length c] W (bft W g b (qy C 0 bs.length) (l++bs)):=by
 have hbg:b<W.1.size∧g<W.1.size:=⟨h.win.lt,h.blk.lt⟩;have HBG:=hid hbg;have c1:W.cell? ⟨g,1,none⟩=some (.int .i64 (C.getD 0 0)):=h.cd 0 om;have z1:=h.blk.fz 1;have HT:=hid h;have hs:xc (W.setCell ⟨g,1,none⟩ (.int .i64 (C.getD 0 0+bs.length))) g b (qy C 0 bs.length) l:=h.set 0 _ om;have hst2:qp W (W.setCell ⟨g,1,none⟩ (.int .i64 (C.getD 0 0+bs.length))) g 1 [.int .i64 (C.getD 0 0+bs.length)]:=ze (h.blk.there 1 1 (by rw[ao4,h.len];omega));have HK0:=hid ((qk.refl (fun j=>j<W.1.size∧j≠b∧j≠g) W).stored hst2 (fun q=>q.2.2 rfl));have HF0:=hid (hbs.kept HK0.out fun k q=>q);have hb1:=(hC 0).1;have hb2:=(hC 0).2;have HCO:=hid (ao0 hC 0 (n:=(bs.length:Int)) (Int.natCast_nonneg _));have HMX:Hid (l.length<1024):=hid (aty l hst);have HFS:=hid (a3d hs hst HK0.out);generalize C.getD 0 0=In at *;generalize hC1:qy C 0 bs.length=C1 at *;have hbl:(bs.length:Int)≤4000000:=by omega
 have HL:=hid (And.intro hn hc);clear hs hst2 h hC hbs hst hC1 hbg hn hc;generalize hnn:bs.length=n at *;have HNN:=hid hnn;clear hnn;go_enter func22,ntmps22;go_wp2_with (refine(ab2 HT.out).mono ?_;rintro e w' ⟨rfl,rfl⟩);generalize W.setCell ⟨g,1,none⟩ (.int .i64 (In +(n:Int)))=W1 at *;clear c1 z1
 go_loopg [1,5] (n+1) (fun gk s1 s5 wr=>∃p q X k,s1=.slice X q.length k∧q.length<gk∧q.length≤k∧Hid (bs=p++q)∧Hid (qf (fun j=>j<W.1.size∧j≠b∧j≠g) wr X (bsV q))∧Hid (a6k W g b C1 (l++p) s5 wr))
 case atStart=>exact⟨[],bs,A,c,by rw[HNN.out],by rw[HNN.out];omega,by rw[HNN.out];exact HL.out.2,rfl,HF0.out,by rw[List.append_nil];exact HFS.out⟩
 case round=>
  obtain⟨p,q,X,k,rfl,hgk,hqk,HB,HF,HS⟩:=hrel;clear HFS HF0 HK0
  by_cases hq0:q=[]
  ·subst hq0;go_wp2_with fail;go_ret;refine⟨_,rfl,?_⟩;have e:=HB.out;rw[List.append_nil]at e;rw[e];exact HS.out
  ·have hql:0<q.length:=List.length_pos_iff.2 hq0;have hrr:=ah0 (l++p);have HRL:Hid ((q7 (l++p)).2.length<1024):=hid hrr.2.1;have hpb:p.length+q.length=n:=by rw[← HNN.out,HB.out,List.length_append]
   have hsl:=aey (l++p)
   have HCK:Hid (acq (jj C1 (q7 (l++p)).1) 900000000):=hid ((ahp _ HCO.out).le (by
    have:=HMX.out;rw[List.length_append]at hsl;omega))
   obtain⟨m,hm⟩:∃m,min q.length (1024-(q7 (l++p)).2.length)=m:=⟨_,rfl⟩;have hm1:1≤m:=by have:=HRL.out;omega
   have hm2:m≤q.length:=by omega
   have HSC:=hid (aks (l++p) (q.take m));have HPT:=hid (aq1 (bs:=q) X k HS.out.dec.win (HF.out.less fun j r=>r.2.1) (by unfold maxLen;omega) hqk);rw[hm]at HPT;have HQ2:Hid (bs=(p++q.take m)++q.drop m):=hid (by rw[List.append_assoc,List.take_append_drop];exact HB.out);have HDL:Hid ((q.drop m).length=q.length-m):=hid List.length_drop;have c0:=HS.out.dec.c0
   have HQS:Hid (∀j u,(bsV q)[j]?=some u→∃b' off,X=some ⟨b',off,none⟩):=hid fun j u hu=>by
    obtain⟨b',off,e,-⟩:=HF.out j u hu;exact⟨b',off,e⟩
   obtain⟨x0,hx0⟩:∃x0,(bsV q)[0]?=some x0:=⟨_,List.getElem?_eq_getElem (by rw[zz];exact hql)⟩;obtain⟨bx,ox,rfl⟩:=HQS.out 0 x0 hx0;have hqI:(0:Int)<(q.length:Int):=by omega
   have hmI:(m:Int) ≤(q.length:Int):=by omega
   have hm0:(0:Int) ≤(m:Int):=by omega
   have hkI:(q.length:Int) ≤(k:Int):=by omega
   have HPB:=hid hpb;clear hm hrr hsl hx0 HQS hpb;have HFQ:=HF;generalize hqn:q.length=qn at *;have HQN:=hid hqn;clear hqn hq0
   have HEND:∀w2,vh w2 b ((q7 (l++p)).2++q.take m)→qk (fun j=>j≠b) wr w2→Hid (Calls Tryz.prog 39 #[.pointer (some ⟨g,0,none⟩)] w2 (a2k w2 g b (jj C1 (q7 (l++p)).1) ((q7 (l++p)).2++q.take m))∧qf (fun j=>j<W.1.size∧j≠b∧j≠g) w2 (some ⟨bx,ox+m,none⟩) (bsV (q.drop m))∧ye W.1.size u5 (zd (q7 (l++p)).1) w2∧qk (fun j=>j<W.1.size∧j≠b∧j≠g) W w2∧W.1.size≤w2.1.size):=fun w2 hw hk=>hid ⟨a4u (HS.out.dec.moved hw hk) HCK.out,by
    have:=(HF.out.kept hk fun j r=>r.2.1).part m
    rwa [abd]at this,HS.out.its.kept (fun j r _=>hk.block j (by have:=HBG.out;omega)) hk.size,HS.out.kept.trans (hk.less fun j r=>r.2.1),Nat.le_trans HS.out.kept.size hk.size⟩
   have HLP:Hid ((q7 (l++p)).1.length≤5000000 ∧(q7 ((q7 (l++p)).2++q.take m)).1.length≤5000000):=hid (by
    have h1:=aey (l++p);have h2:=aey ((q7 (l++p)).2++q.take m);have h3:=HMX.out;have h4:=HRL.out;have h5:=HQN.out;have h6:=HPB.out;rw[List.length_append]at h1 h2;rw[List.length_take]at h2;omega)
   have HXD:Hid (m=k→q.drop m=[]):=hid fun e=>List.eq_nil_of_length_eq_zero (by rw[HDL.out];omega)
   have HXE:Hid (l ++(p++q.take m)=(l++p)++q.take m):=hid (List.append_assoc _ _ _).symm;generalize q.drop m=q2 at *;generalize q.take m=q1 at *;generalize hV1:(q7 (l++p)).1=V1 at *;generalize hR1:(q7 (l++p)).2=R1 at *;clear hV1 hR1 HS HF HFQ HRL HCK HB;go_wp2_with fail;refine HPT.out.mono ?_;rintro e w2 ⟨rfl,hw,hk⟩;have HE2:=HEND w2 hw hk;clear hw hk HEND HPT c0
   have HTAIL:∀v3 w3,aeo w2 g b (jj C1 V1) (R1++q1) (q7 (R1++q1)).1 (q7 (R1++q1)).2 v3 w3→Hid (∃v4 w4,(Builtin.append_ #[75,75] 75 #[u5,v3]).run Tryz.prog w3=.ok v4 w4∧a6k W g b C1 (l ++(p++q1)) v4 w4∧∀X2,(m=k∨X2=some ⟨bx,ox+m,none⟩)→qf (fun j=>j<W.1.size∧j≠b∧j≠g) w4 X2 (bsV q2)):=fun v3 w3 hr=>hid (by
    obtain⟨-,hf2,hi2,hk2,hz2⟩:=HE2.out;have hi3:ye W.1.size u5 (zd V1) w3:=hi2.kept (fun j r1 r2=>hr.kept.block j ⟨r2,by have:=HBG.out;omega,by have:=HBG.out;omega⟩) hr.kept.size;obtain⟨Ls,ho3,hq3⟩:=hr.its;obtain⟨A3,c3,rfl,-,hfl3,-⟩:=xv ho3;have hl1:(zd V1).length≤V1.length:=by unfold zd;rw[List.length_map];exact List.length_filter_le _ _
    have hl2:(zd (q7 (R1++q1)).1).length ≤(q7 (R1++q1)).1.length:=by unfold zd;rw[List.length_map];exact List.length_filter_le _ _
    have hlp:=HLP.out;have hz3:=hr.kept.size;obtain⟨v4,w4,h1,h2,h3,-,-⟩:=hi3.app om A3 c3 Ls hfl3 (hq3.less fun j r=>⟨by have:=r.1;omega,r.2.1,fun q=>by have:=(hi2.own q.symm).2;have:=r.1;omega⟩) om;have hk4:qk (fun j=>j<W.1.size) w3 w4:=qk.of_below h3 fun j q=>q
    refine⟨v4,w4,h1,⟨?_,?_,hk2.trans ((hr.kept.less fun j r=>⟨by have:=r.1;omega,r.2⟩).trans (hk4.less fun j r=>r.1))⟩,fun X2 hX=>?_⟩
    ·rw[HXE.out,HSC.out,adc];exact hr.dec.moved2 hk4 HBG.out
    ·rw[HXE.out,HSC.out,afr];exact h2
    ·rcases hX with e|rfl
     ·rw[HXD.out e];exact qf.nil _ _ _
     ·exact(hf2.keep fun j r=>hr.kept.block j ⟨by have:=r.1;omega,r.2⟩).keep fun j r=>hk4.block j r.1)
   rcases Nat.lt_or_ge m k with hmk|hmk
   ·have hmk2:(m:Int)<(k:Int):=by omega
    go_wp2_with fail;refine HE2.out.1.mono ?_;rintro e w3 ⟨v3,rfl,hr⟩;obtain⟨v4,w4,hrun,hfs,hfl⟩:=(HTAIL v3 w3 hr).out;have HRUN:=hid hrun;have HFS:=hid (And.intro hfs (hfl (some ⟨bx,ox+m,none⟩) (.inr rfl)));clear hr hrun hfs hfl HTAIL HE2;go_wp2_with (at_builtin;refine q6 rfl _ _ 75 rfl _ _ _ rfl rfl HRUN.out ?_)
    go_roundg qn
    case measure=>omega
    case rel=>exact⟨p++q1,q2,_,k-m,by rw[HDL.out],by rw[HDL.out];omega,by rw[HDL.out];omega,HQ2.out,HFS.out.2,HFS.out.1⟩
   ·obtain rfl:k=m:=by omega
    obtain rfl:qn=k:=by omega
    go_wp2_with fail;refine HE2.out.1.mono ?_;rintro e w3 ⟨v3,rfl,hr⟩;obtain⟨v4,w4,hrun,hfs,hfl⟩:=(HTAIL v3 w3 hr).out;have HRUN:=hid hrun;have HFS:=hid (And.intro hfs (hfl (some ⟨bx,ox,none⟩) sm));clear hr hrun hfs hfl HTAIL HE2;go_wp2_with (at_builtin;refine q6 rfl _ _ 75 rfl _ _ _ rfl rfl HRUN.out ?_)
    go_roundg qn
    case measure=>omega
    case rel=>exact⟨p++q1,q2,_,0,by rw[HDL.out,Nat.sub_self],by rw[HDL.out];omega,by rw[HDL.out];omega,HQ2.out,HFS.out.2,HFS.out.1⟩
theorem a72 (w:World):(Instr.build 76 #[(0,.int .i64 1)]).run Tryz.prog w=.ok (.agg #[.int .i64 1,.int .i64 0,.int .i64 0,.int .i64 0]) w:=by kernel_rfl
theorem a21 (w:World):(Instr.build 78 #[(0,.int .i64 3),(3,.agg #[.int .i64 1,.int .i64 0,.int .i64 0,.int .i64 0])]).run Tryz.prog w=.ok (.agg (aby [3,0,0,0,0,0,0,0,0,1,0,0,0])) w:=by kernel_rfl
theorem bcn (w:World):(binOp .eql 78 (.agg (aby [3,0,0,0,0,0,0,0,0,1,0,0,0])) (.agg (aby [3,0,0,0,0,0,0,0,0,1,0,0,0]))).run Tryz.prog w=.ok (.bool true) w:=by kernel_rfl
theorem bcm (C D:Array Value) (x y:Operand) (w:World):(eqGuard .eql 78 x y (.agg C) (.agg D)).run Tryz.prog w=.ok () w:=by kernel_rfl
theorem ahk {P:Program} {ops:Array Oper} {S:World→Prop} {o:Oper} {a:Act} (hw:Region.wanted o (yielded ops a.tmps)=true) (bo:BinOp) (xT:TypeId) (x y:Operand) (yT:TypeId) (ho:o.op=.binOp bo xT x y yT) {u v r:Value} (hx:a.eval x=u) (hy:a.eval y=v) (hg:∀w,(eqGuard bo xT x y u v).run P w=.ok () w) (hr:∀w,(binOp bo xT u v).run P w=.ok r w):YieldsIf P ops S o r a:=
 .inl ⟨hw,fun w _=>by
  unfold execOp;rw[ho];simp only[hx,hy,Sem.run_bind,hg,hr,Result.andThen_ok,Sem.run_pure]⟩
theorem amk (w:World):Calls Tryz.prog 20 #[] w fun e w'=>e=.returned (.bool true)∧Below w.1.size w w':=by
 have EB:=fun W=>a72 W
 have EC:=fun W=>a21 W
 go_enter func20,ntmps20;go_wp2_with fail;refine(ap6 _).mono ?_;rintro e w1 ⟨rfl,hd,hb,hs⟩;have hz:w1.1.size=w.1.size+2:=hs;have HD1:=hid (hd.on (qa w1 (.cells #[.int .u8 0] 5)));have HB1:=hid (qb hb (qa w1 (.cells #[.int .u8 0] 5)));have HK1:Hid (Blk (w1.alloc (.cells #[.int .u8 0] 5)) w1.1.size (bsV [0])):=hid (Blk.newL (qg w1 #[.int .u8 0] 5) rfl);have HZ:=hid hz;clear hd hb hs hz;go_wp2_with fail;refine(bco _ _ _ _ HD1.out HK1.out (by have:=HZ.out;omega) (by have:=HZ.out;omega)).mono ?_;rintro e w2 ⟨rfl,hd,hk⟩
 have HB2:Hid (Below w.1.size w w2):=hid (HB1.out.trans (hk.below fun j q=>by
  have:=HZ.out;refine⟨by simp;omega,by omega,by omega⟩))
 have HD2:=hid (hd.on (qa w2 (.cells #[.int .u8 181,.int .u8 98] 5)));have HB3:=hid (qb HB2.out (qa w2 (.cells #[.int .u8 181,.int .u8 98] 5)));have HK2:Hid (Blk (w2.alloc (.cells #[.int .u8 181,.int .u8 98] 5)) w2.1.size (bsV [181,98])):=hid (Blk.newL (qg w2 #[.int .u8 181,.int .u8 98] 5) rfl);have HZ2:Hid (w.1.size+2≤w2.1.size):=hid (by have h1:=hk.size;have h2:=HZ.out;simp at h1;omega);clear hd hk HD1 HB1 HK1 HB2;go_wp2_with fail;refine(bcp _ _ _ _ HD2.out HK2.out (by have:=HZ2.out;omega) (by have:=HZ2.out;omega)).mono ?_;rintro e w3 ⟨rfl,hd,hk⟩;have HD3:=hid hd
 have HB4:Hid (Below w.1.size w w3):=hid (HB3.out.trans (hk.below fun j q=>by
  have:=HZ2.out;refine⟨by simp;omega,by omega,by omega⟩))
 clear hd hk HD2 HB3 HK2;go_wp2_with fail
 try (apply wp_seq_k;intro K_ HK_)
 have hS0:Below w3.1.size w3 w3.drew:=(Below.refl _ _).drew;refine wp_region_held_drew (S:=fun w'=>Below w3.1.size w3 w') kr hS0 (fun hHeld0=>?_);refine tkA 0 13 rfl ?_
 try go_frame
 refine tkA 1 14 rfl ?_
 try go_frame
 refine tkA 2 15 rfl ?_
 try go_frame
 refine tkA 3 16 rfl ?_
 try go_frame
 refine tkA 4 17 rfl ?_
 try go_frame
 refine tkA 5 18 rfl ?_
 try go_frame
 refine tkA 6 19 rfl ?_
 try go_frame
 refine tkA 7 20 rfl ?_
 try go_frame
 refine tkA 9 22 rfl ?_
 try go_frame
 refine tkA 10 23 rfl ?_
 try go_frame
 refine rdB 8 21 rfl fun K hK=>?_
 go_step;refine(ait (HD3.out.on hHeld0) dc).mono ?_;rintro e w4 ⟨rfl,hd,hb⟩;have HD4:=hid hd;have hS4:Below w3.1.size w3 w4:=hHeld0.trans (hb.mono hHeld0.size);clear hd hb
 try go_frame
 refine hK.out _ _ (hS4) (fun hHeld=>?_);clear hK K
 try go_frame
 refine tkQ (i:=11) (oi:=⟨some 24,_,_,_,_,_⟩) (v:=.bool true) rfl (ahk (by rfl) .eql 78 (.tmp 21) (.tmp 23) 78 rfl (u:=.agg (aby [3,0,0,0,0,0,0,0,0,1,0,0,0])) (v:=.agg (aby [3,0,0,0,0,0,0,0,0,1,0,0,0])) kr kr (fun W=>bcm _ _ _ _ W) (fun W=>bcn W)) ?_
 try go_frame
 refine tkA 12 25 rfl ?_
 try go_frame
 refine tkA 13 26 rfl ?_
 try go_frame
 refine tkA 14 27 rfl ?_
 try go_frame
 refine wpAnyH_ready (rs:=[15,17]) kr sm ?_;refine AllReadyH.cons (o:=⟨some 28,_,_,_,_,_⟩) rfl (fun K hK=>?_) (AllReadyH.cons (o:=⟨some 30,_,_,_,_,_⟩) rfl (fun K hK=>?_) AllReadyH.nil)
 ·rw[if_pos (by rfl)];go_step;refine(ad9 (HD4.out.on (Below.refl _ _))).mono ?_;rintro e v1 ⟨rfl,hk,-,hb,-⟩;have hR1:=hk;have hS1:Below w3.1.size w3 v1:=hS4.trans (hb.mono hS4.size);have hS1x:Below w4.1.size w4 v1:=hb
  try go_frame
  refine hK.out _ _ hS1 (fun hHeld1=>?_);clear hK K
  try go_frame
  refine wpAnyH_ready (rs:=[16,17]) kr sm ?_;refine AllReadyH.cons (o:=⟨some 29,_,_,_,_,_⟩) rfl (fun K hK=>?_) (AllReadyH.cons (o:=⟨some 30,_,_,_,_,_⟩) rfl (fun K hK=>?_) AllReadyH.nil)
  ·rw[if_pos (by rfl)];have cv:=yz hR1;go_step;clear cv
   try go_frame
   refine hK.out _ _ hS1 (fun hHeld2=>?_);clear hK K
   try go_frame
   refine rdB 17 30 rfl fun K hK=>?_
   go_step;have hB3:Blk (World.alloc v1 (.cells #[.int .u8 181,.int .u8 98] 5)) (v1).1.size (bsV [181,98]):=Blk.newL (qg _ #[.int .u8 181,.int .u8 98] 5) rfl;have hb:=qa v1 (.cells #[.int .u8 181,.int .u8 98] 5);have hS3:=hS1.trans (hb.mono hS1.size);have hS3x:=qb hS1x hb;have hR3:=hR1.on hb;generalize World.alloc v1 (.cells #[.int .u8 181,.int .u8 98] 5)=v3 at *
   try go_frame
   refine hK.out _ _ hS3 (fun hHeld3=>?_);clear hK K
   try go_frame
   refine rdB 18 31 rfl fun K hK=>?_
   have cv:=yz hB3;go_step;clear cv
   try go_frame
   refine hK.out _ _ hS3 (fun hHeld4=>?_);clear hK K
   try go_frame
   refine tkA 19 32 rfl ?_
   try go_frame
   refine tkA 20 33 rfl ?_
   try go_frame
   refine tkA 21 0 rfl ?_
   try go_frame
   refine wpAnyH_done kr ?_ _
   try go_frame
   go_wp2_with fail;go_ret;exact⟨rfl,qb HB4.out hS3⟩
  ·rw[if_pos (by rfl)];go_step;have hB5:Blk (World.alloc v1 (.cells #[.int .u8 181,.int .u8 98] 5)) (v1).1.size (bsV [181,98]):=Blk.newL (qg _ #[.int .u8 181,.int .u8 98] 5) rfl;have hb:=qa v1 (.cells #[.int .u8 181,.int .u8 98] 5);have hS5:=hS1.trans (hb.mono hS1.size);have hS5x:=qb hS1x hb;have hR5:=hR1.on hb;generalize World.alloc v1 (.cells #[.int .u8 181,.int .u8 98] 5)=v5 at *
   try go_frame
   refine hK.out _ _ hS5 (fun hHeld5=>?_);clear hK K
   try go_frame
   refine wpAnyH_ready (rs:=[16,18]) kr sm ?_;refine AllReadyH.cons (o:=⟨some 29,_,_,_,_,_⟩) rfl (fun K hK=>?_) (AllReadyH.cons (o:=⟨some 31,_,_,_,_,_⟩) rfl (fun K hK=>?_) AllReadyH.nil)
   ·rw[if_pos (by rfl)];have cv:=yz hR5;go_step;clear cv
    try go_frame
    refine hK.out _ _ hS5 (fun hHeld6=>?_);clear hK K
    try go_frame
    refine rdB 18 31 rfl fun K hK=>?_
    have cv:=yz hB5;go_step;clear cv
    try go_frame
    refine hK.out _ _ hS5 (fun hHeld7=>?_);clear hK K
    try go_frame
    refine tkA 19 32 rfl ?_
    try go_frame
    refine tkA 20 33 rfl ?_
    try go_frame
    refine tkA 21 0 rfl ?_
    try go_frame
    refine wpAnyH_done kr ?_ _
    try go_frame
    go_wp2_with fail;go_ret;exact⟨rfl,qb HB4.out hS5⟩
   ·rw[if_pos (by rfl)];have cv:=yz hB5;go_step;clear cv
    try go_frame
    refine hK.out _ _ hS5 (fun hHeld8=>?_);clear hK K
    try go_frame
    refine rdB 16 29 rfl fun K hK=>?_
    have cv:=yz hR5;go_step;clear cv
    try go_frame
    refine hK.out _ _ hS5 (fun hHeld9=>?_);clear hK K
    try go_frame
    refine tkA 19 32 rfl ?_
    try go_frame
    refine tkA 20 33 rfl ?_
    try go_frame
    refine tkA 21 0 rfl ?_
    try go_frame
    refine wpAnyH_done kr ?_ _
    try go_frame
    go_wp2_with fail;go_ret;exact⟨rfl,qb HB4.out hS5⟩
 ·rw[if_pos (by rfl)];go_step;have hB10:Blk (World.alloc w4 (.cells #[.int .u8 181,.int .u8 98] 5)) (w4).1.size (bsV [181,98]):=Blk.newL (qg _ #[.int .u8 181,.int .u8 98] 5) rfl;have hb:=qa w4 (.cells #[.int .u8 181,.int .u8 98] 5);have hS10:=hS4.trans (hb.mono hS4.size);have hS10x:=hb;generalize World.alloc w4 (.cells #[.int .u8 181,.int .u8 98] 5)=v10 at *
  try go_frame
  refine hK.out _ _ hS10 (fun hHeld10=>?_);clear hK K
  try go_frame
  refine wpAnyH_ready (rs:=[15,18]) kr sm ?_;refine AllReadyH.cons (o:=⟨some 28,_,_,_,_,_⟩) rfl (fun K hK=>?_) (AllReadyH.cons (o:=⟨some 31,_,_,_,_,_⟩) rfl (fun K hK=>?_) AllReadyH.nil)
  ·rw[if_pos (by rfl)];go_step;refine(ad9 (HD4.out.on hS10x)).mono ?_;rintro e v11 ⟨rfl,hk,-,hb,-⟩;have hR11:=hk;have hS11:Below w3.1.size w3 v11:=hS10.trans (hb.mono hS10.size);have hS11x:Below w4.1.size w4 v11:=qb hS10x hb;have hB11:=hB10.on hb
   try go_frame
   refine hK.out _ _ hS11 (fun hHeld11=>?_);clear hK K
   try go_frame
   refine wpAnyH_ready (rs:=[16,18]) kr sm ?_;refine AllReadyH.cons (o:=⟨some 29,_,_,_,_,_⟩) rfl (fun K hK=>?_) (AllReadyH.cons (o:=⟨some 31,_,_,_,_,_⟩) rfl (fun K hK=>?_) AllReadyH.nil)
   ·rw[if_pos (by rfl)];have cv:=yz hR11;go_step;clear cv
    try go_frame
    refine hK.out _ _ hS11 (fun hHeld12=>?_);clear hK K
    try go_frame
    refine rdB 18 31 rfl fun K hK=>?_
    have cv:=yz hB11;go_step;clear cv
    try go_frame
    refine hK.out _ _ hS11 (fun hHeld13=>?_);clear hK K
    try go_frame
    refine tkA 19 32 rfl ?_
    try go_frame
    refine tkA 20 33 rfl ?_
    try go_frame
    refine tkA 21 0 rfl ?_
    try go_frame
    refine wpAnyH_done kr ?_ _
    try go_frame
    go_wp2_with fail;go_ret;exact⟨rfl,qb HB4.out hS11⟩
   ·rw[if_pos (by rfl)];have cv:=yz hB11;go_step;clear cv
    try go_frame
    refine hK.out _ _ hS11 (fun hHeld14=>?_);clear hK K
    try go_frame
    refine rdB 16 29 rfl fun K hK=>?_
    have cv:=yz hR11;go_step;clear cv
    try go_frame
    refine hK.out _ _ hS11 (fun hHeld15=>?_);clear hK K
    try go_frame
    refine tkA 19 32 rfl ?_
    try go_frame
    refine tkA 20 33 rfl ?_
    try go_frame
    refine tkA 21 0 rfl ?_
    try go_frame
    refine wpAnyH_done kr ?_ _
    try go_frame
    go_wp2_with fail;go_ret;exact⟨rfl,qb HB4.out hS11⟩
  ·rw[if_pos (by rfl)];have cv:=yz hB10;go_step;clear cv
   try go_frame
   refine hK.out _ _ hS10 (fun hHeld16=>?_);clear hK K
   try go_frame
   refine rdB 15 28 rfl fun K hK=>?_
   go_step;refine(ad9 (HD4.out.on hS10x)).mono ?_;rintro e v17 ⟨rfl,hk,-,hb,-⟩;have hR17:=hk;have hS17:Below w3.1.size w3 v17:=hS10.trans (hb.mono hS10.size);have hS17x:Below w4.1.size w4 v17:=qb hS10x hb;have hB17:=hB10.on hb
   try go_frame
   refine hK.out _ _ hS17 (fun hHeld17=>?_);clear hK K
   try go_frame
   refine rdB 16 29 rfl fun K hK=>?_
   have cv:=yz hR17;go_step;clear cv
   try go_frame
   refine hK.out _ _ hS17 (fun hHeld18=>?_);clear hK K
   try go_frame
   refine tkA 19 32 rfl ?_
   try go_frame
   refine tkA 20 33 rfl ?_
   try go_frame
   refine tkA 21 0 rfl ?_
   try go_frame
   refine wpAnyH_done kr ?_ _
   try go_frame
   go_wp2_with fail;go_ret;exact⟨rfl,qb HB4.out hS17⟩
theorem bjt (w:World):(binOp .eql 76 (.agg z4A) (.agg z4A)).run Tryz.prog w=.ok (.bool true) w:=by kernel_rfl
theorem bjs (x y:Operand) (w:World):(eqGuard .eql 76 x y (.agg z4A) (.agg z4A)).run Tryz.prog w=.ok () w:=by kernel_rfl
theorem xc.rgB {W:World} {g b:Nat} {l:List UInt8} (h:xc W g b z13 l):W.rangeAt g 10 z4A.toList:=by
 have:=h.rgC;exact((World.rangeAt_append (l:=(List.replicate 9 (0:Int)).map (Value.int .i64)) (m:=z4A.toList)).1 this).2
theorem ap3 {W:World} {g b:Nat} {l:List UInt8} (h:xc W g b z13 l) :
 Calls Tryz.prog 24 #[.pointer (some ⟨g,0,none⟩)] W fun e w'=>e=.returned (.agg (aby z13))∧xc w' g b z13 l∧Below W.1.size W w':=by
 have HZ:=fun W=>hid (aq5 W)
 have HZA:=fun W=>hid (a7e W)
 have HBC:=fun W=>hid (a2y W)
 have H:=hid h;clear h;go_enter func24,ntmps24
 go_upto_region 2 with(first
  | (refine qc rfl 78 rfl (aby z13) (HZ _).out ?_;intro W1 hW;have HC1:=hid (Blk.newL (L:=z13.map (Value.int .i64)) hW rfl);have H1:=hid (H.out.on hW.bel);have HB1:=hid hW.bel;have HS1:=hid hW.sz;clear hW)
  | (refine qc rfl 76 rfl z4A (HZA _).out ?_;intro W2 hW;have HC2:=hid (HC1.out.on hW.bel);have HN2:=hid (Blk.newL (L:=z4A.toList) hW rfl);have H2:=hid (H1.out.on hW.bel);have HB2:=hid (qb HB1.out hW.bel);clear hW))
 try (apply wp_seq_k;intro K_ HK_)
 have hS0:Below W2.1.size W2 W2.drew:=(Below.refl _ _).drew;refine wp_region_held_drew (S:=fun w'=>Below W2.1.size W2 w') kr hS0 (fun hHeld0=>?_);refine tkA 0 4 rfl ?_
 try go_frame
 refine rdB 1 5 rfl fun K hK=>?_
 go_step;refine(ab2 (H2.out.on hHeld0)).mono ?_;rintro e W' ⟨rfl,rfl⟩
 try go_frame
 refine hK.out _ _ (hHeld0) (fun hHeld=>?_);clear hK K
 try go_frame
 refine tkA 2 6 rfl ?_
 try go_frame
 refine tkA 3 7 rfl ?_
 try go_frame
 refine tkA 4 8 rfl ?_
 try go_frame
 refine tkA 5 9 rfl ?_
 try go_frame
 refine tkA 6 10 rfl ?_
 try go_frame
 refine tkA 7 11 rfl ?_
 try go_frame
 refine tkQ (i:=8) (oi:=⟨some 12,_,_,_,_,_⟩) (v:=?_) rfl (Or.inl ⟨by rfl,?_⟩) ?_;rotate_left
 ·intro w' hSw;have c1:w'.cell? ⟨g,1,none⟩=some (.int .i64 0):=(H2.out.on hSw).cd 0 dc;go_simp
  try with_reducible rfl
 try go_frame
 refine tkA 9 13 rfl ?_
 try go_frame
 refine tkA 10 14 rfl ?_
 try go_frame
 refine tkA 11 15 rfl ?_
 try go_frame
 refine tkA 12 16 rfl ?_
 try go_frame
 refine tkA 13 17 rfl ?_
 try go_frame
 refine tkA 14 18 rfl ?_
 try go_frame
 refine tkQ (i:=15) (oi:=⟨some 19,_,_,_,_,_⟩) (v:=.agg z4A) rfl (yieldsIf_load_mid (by rfl) 76 _ rfl g 10 rfl z4A.toList _ (fun w' hSw=>(H2.out.on hSw).rgB) underlying76 rfl kr) ?_
 try go_frame
 refine tkQ (i:=16) (oi:=⟨some 20,_,_,_,_,_⟩) (v:=.agg z4A) rfl (yieldsIf_load_mid (by rfl) 76 _ rfl W1.1.size 0 rfl z4A.toList _ (fun w' hSw=>(HN2.out.on hSw).rg) underlying76 rfl kr) ?_
 try go_frame
 refine tkQ (i:=17) (oi:=⟨some 21,_,_,_,_,_⟩) (v:=.bool true) rfl (ahk (by rfl) .eql 76 (.tmp 19) (.tmp 20) 76 rfl (u:=.agg z4A) (v:=.agg z4A) kr kr (fun W=>bjs _ _ W) (fun W=>bjt W)) ?_
 try go_frame
 refine tkA 18 22 rfl ?_
 try go_frame
 refine tkA 19 23 rfl ?_
 try go_frame
 refine wpAnyH_done kr ?_ _
 try go_frame
 have HC3:Hid (Blk _ W.1.size (z13.map (Value.int .i64))):=hid (HC2.out.on hHeld0);have H3:=hid (H2.out.on hHeld0);have HB3:=hid (qb HB2.out hHeld0);clear HC2 H2 HB2 HC1 H1 HB1 HN2
 go_wp2_with (first
  | refine zn rfl 78 rfl (HBC _).out ?_
  | (refine qe rfl 78 _ _ rfl W.1.size 0 (aby z13) rfl rfl (HC3.out.there 0 13 dc) (agn rfl) (ao1 _) ?_;intro W4 hs;have HC4:=hid (HC3.out.all hs rfl);have H4:=hid (H3.out.kept2 hs (by have:=H.out.blk.lt;omega) (by have:=H.out.win.lt;omega));have HB4:=hid (HB3.out.trans (hs.below (Nat.le_refl _)));clear hs))
 try go_frame
 have HLD:=hid (run_loadVar_mid (P:=Tryz.prog) W4 W.1.size 0 78 (aby z13).toList _ HC4.out.rg underlying78 rfl (by rw[Array.length_toList];exact agn rfl));refine bodyPost_ret (v:=.agg (aby z13)) (by rw[v9 rfl];simp[asAddr,Result.andThen,HLD.out]) rfl ⟨rfl,H4.out,HB4.out⟩
def bie (Q:Nat→Prop) (w:World) (v:Value) (p:List UInt8):Prop:=∃X c,v=.slice X p.length c∧p.length≤c∧qf Q w X (bsV p)
def agj (Q:Nat→Prop) (w:World) (A:Option Addr) (ps:List (List UInt8)):Prop:=∃V,qf Q w A V∧∀(j:Nat) p,ps[j]?=some p→∃v,V[j]?=some v∧bie Q w v p
theorem agj.get {Q:Nat→Prop} {w:World} {A:Option Addr} {ps:List (List UInt8)} (h:agj Q w A ps) {k:Nat} {p:List UInt8} (hp:ps[k]?=some p):∃b off X c,A=some ⟨b,off,none⟩∧Q b∧w.cell? ⟨b,off+k,none⟩=some (.slice X p.length c)∧p.length≤c∧qf Q w X (bsV p):=by
 obtain⟨V,h1,h2⟩:=h;obtain⟨v,hv,X,c,rfl,hc,hf⟩:=h2 k p hp;obtain⟨b,off,e,hq,hcell⟩:=h1 k _ hv;exact⟨b,off,X,c,e,hq,hcell,hc,hf⟩
def agq (ps:List (List UInt8)):Nat:=(ps.map fun p=>min p.length 4000).sum
def a3e (ps:List (List UInt8)):Bool:=decide (ps.length≤60∧agq ps≤4000)
theorem ayh (a b:List (List UInt8)):agq (a++b)=agq a+agq b:=by unfold agq;rw[List.map_append,List.sum_append]
theorem a8i {ps:List (List UInt8)} {k:Nat} {p:List UInt8} (hk:ps[k]?=some p):agq (ps.take (k+1))=agq (ps.take k)+min p.length 4000:=by
 rw[List.take_add_one,hk,ayh];simp[agq]
theorem bgm (ps:List (List UInt8)) (k:Nat):agq (ps.take k)≤agq ps:=by
 have h:=ayh (ps.take k) (ps.drop k);rw[List.take_append_drop]at h;omega
theorem bc2 (z:Nat):min (z:Int) 4000=((min z 4000:Nat):Int):=by omega
theorem ap5 {Q:Nat→Prop} {w:World} (A:Option Addr) (ps:List (List UInt8)) (c:Nat) (h:agj Q w A ps) (hm:ps.length≤maxLen) (hb:∀p∈ps,p.length≤maxLen) :
 Calls Tryz.prog 19 #[.slice A ps.length c] w fun e w'=>e=.returned (.bool (a3e ps))∧w=w':=by
 unfold maxLen at hm;have HI:=hid h;have HE:Hid (agq (ps.take ps.length)=agq ps):=hid (by rw[List.take_length])
 have HD:Hid (∀b:Bool,(b=true↔ps.length≤60∧agq ps≤4000)→b=a3e ps):=hid fun b hb=>by
  unfold a3e;rw[Bool.eq_iff_iff,hb];simp
 have HB:=hid hb;generalize hL:ps.length=n at *;have HL:=hid hL;clear h hb hL;go_enter func19,ntmps19
 by_cases h60:60<n
 ·have i60:(60:Int)<(n:Int):=by omega
  go_wp2_with fail;go_ret;exact⟨by rw[HD.out false (by constructor<;>intro q;(· cases q);omega)];rfl,rfl⟩
 have i60:(n:Int)≤60:=by omega
 go_wp2_with fail
 go_loopg [3,4] n (fun g s3 s4 wr=>∃k:Nat,k≤n∧n-k≤g∧s4=.int .i64 k∧s3=.int .i64 (agq (ps.take k):Int)∧agq (ps.take k)≤4000∧wr=w)
 case atStart=>exact⟨0,Nat.zero_le _,by omega,rfl,rfl,by simp[agq],rfl⟩
 case round=>
  obtain⟨k,hk,hg,rfl,rfl,hf,rfl⟩:=hrel
  by_cases hlt:k<n
  ·have hkl:k<ps.length:=by rw[HL.out];exact hlt
   obtain⟨b',o',X,c',rfl,-,hc,-,-⟩:=HI.out.get (List.getElem?_eq_getElem hkl);have HSN:=hid (a8i (List.getElem?_eq_getElem hkl));have hpl:=HB.out _ (List.getElem_mem hkl);have hle:=bgm ps (k+1);have HLE:=hid hle;have HSF:=hid hf;unfold maxLen at hpl;clear hle;generalize ps[k].length=x at *;generalize agq (ps.take k)=m at *;have i1:(k:Int)<n:=by omega
   have i2:(0:Int) ≤(k:Int):=Int.natCast_nonneg _;have eM:=bc2 x;have hM:min x 4000≤4000:=Nat.min_le_right _ _;generalize min x 4000=M at *;have i7:(0:Int) ≤(m:Int)+M:=by omega
   have i8:(m:Int)+M≤8000:=by omega
   clear hM
   by_cases hs:m+M≤4000
   ·have i5:(m:Int)+M≤4000:=by omega
    clear hs hf hpl;go_wp2_with fail
    go_roundg (n-(k+1))
    case measure=>omega
    case rel=>exact⟨k+1,by omega,by omega,by simp,by rw[HSN.out];simp,by rw[HSN.out];omega,rfl⟩
   ·have i5:4000<(m:Int)+M:=by omega
    have HS:=hid hs;clear hs hf hpl;go_wp2_with fail;go_ret;exact⟨by rw[HD.out false (by have:=HSN.out;have:=HLE.out;have:=HS.out;constructor<;>intro q;(· cases q);omega)];rfl,rfl⟩
  ·obtain rfl:k=n:=by omega
   go_wp2_with fail;go_ret;exact⟨by rw[HD.out true (by have:=HE.out;simp;omega)];rfl,rfl⟩
theorem bfa:(Tryz.prog.info? 5).map (fun i=>(i.zero,i.size,i.bytes))=some (some (.int .u8 0),1,1):=by kernel_rfl
theorem bh5:∃i z,Tryz.prog.info? 5=some i∧i.zero=some z∧i.size=1∧i.bytes=1∧z.cells.size=1:=by
 have h:=bfa;cases hi:Tryz.prog.info? 5 with
 | none=>rw[hi]at h;cases h
 | some i=>
  rw[hi,Option.map_some,Option.some.injEq,Prod.mk.injEq,Prod.mk.injEq]at h;exact⟨i,_,rfl,h.1,h.2.1,h.2.2,rfl⟩
theorem ast {ps:List (List UInt8)} {k:Nat} {p:List UInt8} (hk:ps[k]?=some p):(ps.take (k+1)).flatten=(ps.take k).flatten++p:=by
 rw[List.take_add_one,hk,List.flatten_append];simp
theorem aup {ps:List (List UInt8)} (k:Nat):(ps.take k).flatten.length≤ps.flatten.length:=by
 have h:((ps.take k).flatten ++(ps.drop k).flatten).length=ps.flatten.length:=by rw[← List.flatten_append,List.take_append_drop]
 rw[List.length_append]at h;omega
theorem aru {w:World} (A:Option Addr) (ps:List (List UInt8)) (c:Nat) (h:agj (fun b=>b<w.1.size) w A ps) (hm:ps.length≤maxLen) (hj:ps.flatten.length≤4000000) :
 Calls Tryz.prog 23 #[.slice A ps.length c] w fun e w'=>∃v,e=.returned v∧aam w 5 1 v ps.flatten.length (bsV ps.flatten) w':=by
 unfold maxLen at hm;have HI:=hid h;have HJ:=hid hj;have HE:Hid ((ps.take ps.length).flatten=ps.flatten):=hid (by rw[List.take_length]);generalize hL:ps.length=n at *;have HL:=hid hL;clear h hj hL;obtain⟨iu,zu,hu1,hu2,hu3,hu4,hu5⟩:=bh5;have HU:=hid (And.intro hu1 (And.intro hu2 (And.intro hu3 hu4)));clear hu1 hu2 hu3 hu4;go_enter func23,ntmps23;go_wp2_with fail
 go_loopg [3,4] n (fun g s3 s4 wr=>∃k:Nat,k≤n∧n-k≤g∧s4=.int .i64 k∧Hid (aam w 5 1 s3 (ps.take k).flatten.length (bsV (ps.take k).flatten) wr))
 case atStart=>exact⟨0,Nat.zero_le _,by omega,rfl,aam.nil _ _ _ (Below.refl _ _)⟩
 case round=>
  obtain⟨k,hk,hg,rfl,HO⟩:=hrel
  by_cases hlt:k<n
  ·have hkl:k<ps.length:=by rw[HL.out];exact hlt
   obtain⟨b',o',X,c',rfl,hq,hc,-,hf⟩:=HI.out.get (List.getElem?_eq_getElem hkl);have hc':wr.cell? ⟨b',o'+k,none⟩=some (.slice X ps[k].length c'):=(HO.out.2.cell (p:=⟨b',o'+k,none⟩) hq).trans hc;have hf':qf (fun b=>b<w.1.size) wr X (bsV ps[k]):=hf.keep fun b q=>HO.out.2.block b q
   have e1:=ast (List.getElem?_eq_getElem hkl)
   have e2:(ps.take k).flatten.length+ps[k].length≤4000000:=by
    have:=aup (ps:=ps) (k+1);rw[e1,List.length_append]at this;exact Nat.le_trans this HJ.out
   obtain⟨v',w',hrun,ho,hb⟩:=ahx (P:=Tryz.prog) (t:=22) (ty:=22) HO.out.1 HO.out.2.size HU.out underlying22 hu5 dc X ps[k].length c' (bsV ps[k]) (by rw[zz];omega) hf' (aff _) (by unfold maxLen;omega) om
   have HN:Hid (aam w 5 1 v' (ps.take (k+1)).flatten.length (bsV (ps.take (k+1)).flatten) w'):=hid (by
    rw[e1,ac3,List.length_append];exact⟨ho,HO.out.2.trans hb⟩)
   have HRUN:=hid hrun;have hpl:ps[k].length≤4000000:=by omega
   clear hrun ho hb hc hf hf' e1 e2 HO;generalize ps[k].length=x at *;have i1:(k:Int)<n:=by omega
   have i2:(0:Int) ≤(k:Int):=Int.natCast_nonneg _;go_wp2_with (at_builtin;refine q6 rfl _ _ 22 rfl _ _ _ rfl rfl HRUN.out ?_)
   go_roundg (n-(k+1))
   case measure=>omega
   case rel=>exact⟨k+1,by omega,by omega,by simp,HN⟩
  ·obtain rfl:k=n:=by omega
   go_wp2_with fail;go_ret;exact⟨_,rfl,by rw[← HE.out];exact HO.out⟩
theorem ye.odd {B:Nat} {A:Option Addr} {n c:Nat} {X:List ItD} {w:World} (h:ye B (.slice A n c) X w) (k:Nat) (hk:k<X.length):∃b off,A=some ⟨b,off,none⟩∧B≤b∧b<w.1.size∧w.cell? ⟨b,off +(k*120+1),none⟩=some (.bool X[k].od):=by
 obtain⟨Ls,h1,h2⟩:=h;obtain⟨P,L,D,e1,e2,e3⟩:=h2.at_ k hk;obtain⟨A',c',e,-,hf,-⟩:=xv h1;injection e with ea en ec
 subst ea;obtain⟨R,hR⟩:=as2 e3
 obtain⟨b,off,q1,q2,q3⟩:=hf (k*120+1) (.bool X[k].od) (by
  rw[e1,hR,← e2,List.append_assoc,List.getElem?_append_right om];rw[show P.length+1-P.length=1 by omega];rfl)
 exact⟨b,off,q1,q2.1,q2.2,q3⟩
theorem a3y {X:List ItD} {k:Nat} (hk:k<X.length):vl (X.take (k+1))=vl (X.take k)+if X[k].od=true then 0 else 1:=by
 rw[List.take_succ_eq_append_getElem hk];unfold vl;rw[List.filter_append,List.length_append]
 congr 1
 by_cases h:X[k].od=true<;>simp[h]
theorem a8t (X Y:List ItD):vl (X++Y)=vl X+vl Y:=by
 unfold vl;rw[List.filter_append,List.length_append]
theorem apf (X:List ItD):vl X≤X.length:=List.length_filter_le _ _
theorem as1 (V:List VeD):(zd V).length≤V.length:=by
 unfold zd;rw[List.length_map];exact List.length_filter_le _ _
theorem a6o (l:List UInt8) (hl:l.length≤4000000):acq (afj l) 400000000:=by
 have h0:acq [0,0,0,0,0,0,0,0,0,0,0,0,0] 0:=fun k=>by
  have:([0,0,0,0,0,0,0,0,0,0,0,0,0]:List Int).getD k 0=0:=by
   rcases Nat.lt_or_ge k 13 with q|q
   ·match k,q with
    | 0,_=>rfl
    | 1,_=>rfl
    | 2,_=>rfl
    | 3,_=>rfl
    | 4,_=>rfl
    | 5,_=>rfl
    | 6,_=>rfl
    | 7,_=>rfl
    | 8,_=>rfl
    | 9,_=>rfl
    | 10,_=>rfl
    | 11,_=>rfl
    | 12,_=>rfl
   ·rw[List.getD_eq_getElem?_getD,List.getElem?_eq_none (by exact q)];rfl
  omega
 have h1:=aey l;have h2:=ao0 (ahp (q7 l).1 h0) 0 (n:=(l.length:Int)) (Int.natCast_nonneg _);exact h2.le om
theorem avu {w0 W:World} {g b:Nat} {l p:List UInt8} (X:Option Addr) (c:Nat) (h:xc W g b (afj l) (q7 l).2) (hf:qf (fun j=>j<w0.1.size) w0 X (bsV p)) (hb:Below w0.1.size w0 W) (hg:w0.1.size≤g∧w0.1.size≤b) (hl:l.length+p.length≤2000000) (hc:p.length≤c) :
 Calls Tryz.prog 22 #[.pointer (some ⟨g,0,none⟩),.slice X p.length c] W fun e w'=>∃v,e=.returned v∧xc w' g b (afj (l++p)) (q7 (l++p)).2∧ye W.1.size v (zd (q7 ((q7 l).2++p)).1) w'∧Below w0.1.size w0 w':=by
 have hs:=hb.size;refine(a0a X c h (ah0 l).1 ((hf.keep fun j q=>hb.block j q).less fun j q=>⟨by omega,by omega,by omega⟩) om hc (a6o l om)).mono ?_;rintro e w' ⟨v,rfl,hd,hi,hk⟩;refine⟨v,rfl,?_,hi,hb.trans (hk.below fun j q=>⟨by omega,by omega,by omega⟩)⟩;rw[bcf]at hd;rw[aks];exact hd
theorem agj.below {w w':World} {A:Option Addr} {ps:List (List UInt8)} (h:agj (fun b=>b<w.1.size) w A ps) (hb:Below w.1.size w w'):agj (fun b=>b<w'.1.size) w' A ps:=by
 obtain⟨V,h1,h2⟩:=h;refine⟨V,(h1.keep fun b q=>hb.block b q).less fun b q=>Nat.lt_of_lt_of_le q hb.size,fun j p hp=>?_⟩;obtain⟨v,hv,X,c,e,hc,hf⟩:=h2 j p hp;exact⟨v,hv,X,c,e,hc,(hf.keep fun b q=>hb.block b q).less fun b q=>Nat.lt_of_lt_of_le q hb.size⟩
theorem bcg (l:List UInt8):(afj l).length=13:=by
 unfold afj;rw[afi,ahq];rfl
theorem az9 {W:World} {g b:Nat} {l r:List UInt8} (h:xc W g b (afj l) r) :
 Calls Tryz.prog 24 #[.pointer (some ⟨g,0,none⟩)] W fun e w'=>e=.returned (.agg (aby (afj l)))∧xc w' g b (afj l) r∧Below W.1.size W w':=by
 by_cases hl:l=[]
 ·subst hl;exact ap3 h
 ·refine ait h ?_;have hp:0<l.length:=List.length_pos_iff.2 hl;have e:=(ao2 (q7 l).1 [0,0,0,0,0,0,0,0,0,0,0,0,0] rfl (a0i l)).1;unfold afj;rw[asm (by rw[ahq];decide),e,if_pos rfl];simp;omega
theorem a78 (l:List UInt8):∃c2 c3 c4 c6 c7 c8 c9 d0 d1 d2:Int,afj l=[(l.length:Int),0,c2,c3,c4,0,c6,c7,c8,c9,d0,d1,d2]∧c2+c3+c4=(vl (zd (q7 l).1):Int)∧c2+c3+c4 +(c6+c7+c8)=((zd (q7 l).1).length:Int) ∧
 c9+d0+d1+d2+8*((zd (q7 l).1).length:Int) +((q7 l).2.length:Int) ≤(l.length:Int) ∧(l.length:Int)≤c9+d0+d1+d2+1024*((zd (q7 l).1).length:Int) +((q7 l).2.length:Int):=by
 obtain⟨h0,h1,h5,h6,h7,h8,h9⟩:=ao2 (q7 l).1 [0,0,0,0,0,0,0,0,0,0,0,0,0] rfl (a0i l);obtain⟨-,-,P,hP,hl⟩:=ah0 l
 have hll:l.length=((q7 l).1.map aak).sum +(q7 l).2.length:=by
  have:=congrArg List.length hP;rw[List.length_append,hl]at this;exact this
 have hlen:(jj [0,0,0,0,0,0,0,0,0,0,0,0,0] (q7 l).1).length=13:=by rw[ahq];rfl
 unfold afj;unfold asy bg7 a7t at *;generalize jj [0,0,0,0,0,0,0,0,0,0,0,0,0] (q7 l).1=C at *
 match C,hlen with
 | [x0,x1,x2,x3,x4,x5,x6,x7,x8,x9,y0,y1,y2],_=>
  simp at h0 h1 h5 h6 h7 h8 h9;subst h0 h1 h5;exact⟨x2,x3,x4,x6,x7,x8,x9,y0,y1,y2,by simp[qy],by omega,by omega,by omega,by omega⟩
end Go.Proofs.YtdkhlkfleggbaaaGreat
