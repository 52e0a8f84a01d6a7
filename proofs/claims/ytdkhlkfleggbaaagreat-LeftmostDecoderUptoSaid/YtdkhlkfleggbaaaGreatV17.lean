/- Parts. -/
import Derived.Test.YtdkhlkfleggbaaaGreatV16
namespace Go.Proofs.YtdkhlkfleggbaaaGreat
set_option maxHeartbeats 16000000
set_option maxRecDepth 8000
open Tryz
set_option linter.unusedVariables false
open Go.RowKit
abbrev ku (a:Bool) (f:Int) (A:Option Addr) (n c:Nat) (b0:Bool) (n0:Int) (b1:Bool) (n1:Int) (b2:Bool) (n2:Int):Array Value:=#[.bool a,.int .i64 f,.slice A n c,.bool b0,.int .i64 n0,.bool b1,.int .i64 n1,.bool b2,.int .i64 n2]
abbrev ba9 (a:Bool) (f:Int) (A:Option Addr) (n c:Nat) (b0:Bool) (n0:Int) (b1:Bool) (n1:Int) (b2:Bool) (n2:Int):Value:=.agg (ku a f A n c b0 n0 b1 n1 b2 n2)
def ahe (w:World) (B:Nat) (A:Option Addr) (l:List Int):Prop:=∀k (hk:k<l.length),∃b off,A=some ⟨b,off,none⟩/\b<B/\w.cell? ⟨b,off+k,none⟩=some (.int .i64 l[k])
theorem ahe.below {w w':World} {B B':Nat} {A:Option Addr} {l:List Int} (h:ahe w B A l) (hb:Below B' w w') (hB:B<=B'):ahe w' B A l:=λk hk=>by
 obtain⟨b,off,h1,h2,h3⟩:=h k hk;exact⟨b,off,h1,h2,(hb.cell (p:=⟨b,off+k,none⟩) (by show b<B';omega)).trans h3⟩
theorem ahe.more {w:World} {B B':Nat} {A:Option Addr} {l:List Int} (h:ahe w B A l) (hB:B<=B'):ahe w B' A l:=λk hk=>by
 obtain⟨b,off,h1,h2,h3⟩:=h k hk;exact⟨b,off,h1,by omega,h3⟩
def ako (x:a36×Int) (w:World) (r:Ending) (w':World):Prop:=
 ∃A n c,r=.returned (.tuple #[ba9 x.1.a x.1.f A n c x.1.p0.1 x.1.p0.2 x.1.p1.1 x.1.p1.2 x.1.p2.1 x.1.p2.2,.int .i64 x.2])/\x.1.ids.length=n/\ahe w' w'.1.size A x.1.ids/\Below w.1.size w w'
def ahq (D:List Int):Array Value:=((D.map (Value.int .i64))++List.replicate (12-D.length) (Value.int .i64 0)).toArray
theorem bbg (D:List Int) (h:D.length<=12):(ahq D).size=12:=by simp[ahq];omega
theorem bfh (D:List Int) (n:Int) (h:D.length<12):(ahq D).setIfInBounds D.length (.int .i64 n)=ahq (D++[n]):=by
 obtain⟨k,hk⟩:∃k,12-D.length=k+1:=⟨11-D.length,by omega⟩;have hk2:12-(D.length+1)=k:=by omega
 unfold ahq;rw[b1c]
 congr 1
 rw[hk,b4k,List.set_append_right _ _ sm,e9,List.length_singleton,hk2];simp
theorem bfg (D:List Int) (k:Nat) (h:k<D.length):(ahq D)[k]?=some (.int .i64 D[k]):=by
 unfold ahq;simp only[b2j];rw[b0e (by simpa using h)];simp[h]
theorem bbh (D:List Int) (h:D.length<12):(ahq D)[D.length]?=some (.int .i64 0):=by
 unfold ahq;simp only[b2j];rw[b0a sm,List.getElem?_replicate,if_pos (by simp;omega)]
theorem adj {w:World} {R b o o':Nat} {u:Value} (h:R≠b):(w.setCell ⟨R,o,none⟩ u).cell? ⟨b,o',none⟩=w.cell? ⟨b,o',none⟩:=a9 _ _ _ _ (λq=>by injection q with q;exact h q)
theorem bjd {w:World} {IB:Nat} {D:List Int} (h:∀j,w.cell? ⟨IB,j,none⟩=(ahq D)[j]?) (hz:IB<w.1.size):ahe w w.1.size (some ⟨IB,0,none⟩) D:=λk hk=>⟨IB,0,rfl,hz,by rw[b0j,h,bfg D k hk]⟩
theorem ank (A:Option Addr) (n c:Nat) (w:World) (h:((n:Int) != 17)=true):Calls prog 104 #[.slice A n c] w (ako (yk,3) w):=by
 go_enter func104,ntmps104;go_wp2;exact b9 (v:=.tuple #[ba9 false 0 none 0 0 false 0 false 0 false 0,.int .i64 3]) (by simp[results,results104,go_sem]) rfl ⟨none,0,0,rfl,rfl,λk hk=>absurd hk (b04 _),qa _ _⟩
theorem a5r (A:Option Addr) (n c:Nat) (R:List ByteArray) (w:World) (hl:R.length=n) (hA:A=none->c=0) (hs:v6 w w.1.size A R) (hz:∀t∈R,t.size<=1100000) (hkn:Q_ (n=17)) :
 Calls prog 104 #[.slice A n c] w (ako (jz R) w):=by
 obtain⟨a,r1,h1⟩:∃n u,Q_ (ahw (0,R)=(n,u)):=⟨_,_,rfl⟩;obtain⟨f,r2,h2⟩:∃n u,Q_ (zl 1 3 r1=(n,u)):=⟨_,_,rfl⟩;obtain⟨ids,r3,h3⟩:∃n u,Q_ (yz 12 r2=(n,u)):=⟨_,_,rfl⟩;obtain⟨b0,n0,r4,h4⟩:∃b n u,Q_ (qu 1 3 2 0 99999 r3=((b,n),u)):=⟨_,_,_,rfl⟩;obtain⟨b1,n1,r5,h5⟩:∃b n u,Q_ (qu 1 3 2 0 99999 r4=((b,n),u)):=⟨_,_,_,rfl⟩;obtain⟨b2,n2,r6,h6⟩:∃b n u,Q_ (qu 1 3 2 0 99999 r5=((b,n),u)):=⟨_,_,_,rfl⟩;obtain⟨X,hX⟩:∃X,jz R=X:=⟨_,rfl⟩;have HT:Q_ (X=if r6.1=0 then(⟨a,f,ids,(b0,n0),(b1,n1),(b2,n2)⟩,0)else(yk,r6.1)):=hX.symm.trans (bba (by rw[hl];exact hkn.o) h1 h2 h3 h4 h5 h6);rw[hX];clear hX;have HB0:=q_ (qa w (.cells (ku false 0 none 0 0 false 0 false 0 false 0) 51));have HL:=q_ (aky (c:=c) hA ((hs.below HB0.o (a8 _)).more HB0.o.size) (by have:=hkn.o;omega) hz);rw[hl]at HL;have hR0:∀o,(w.alloc (.cells (ku false 0 none 0 0 false 0 false 0 false 0) 51)).cell? ⟨w.1.size,o,none⟩=(ku false 0 none 0 0 false 0 false 0 false 0)[o]?:=λo=>b8 _ _ _ _ rfl
 have hR1:∀o,(w.alloc (.cells (ku false 0 none 0 0 false 0 false 0 false 0) 51)).frozen? ⟨w.1.size,o,none⟩=false:=λo=>by rw[l6];exact qk _ _ _ (a8 _)
 have HR0:=q_ hR0;have HR1:=q_ hR1;have HZ0:Q_ ((w.alloc (.cells (ku false 0 none 0 0 false 0 false 0 false 0) 51)).1.size=w.1.size+1):=by show _=_;simp
 have i17:((n:Int) != 17)=false:=by have:=hkn.o;rw[b0b];omega
 clear hs hA hz hR0 hR1 hl;go_enter func104,ntmps104
 try dsimp only
 repeat (fail_if_success (show Code.wp _ (Code.seq (Code.region 1 _ _) _) _ _ _)
         first|go_values|go_skip|go_guarded|go_step|go_upon|go_back|(simp only[b3a,b3b]at *;go_simp)|(go_ite<;>go_prune<;>(try go_simp)))
 go_cut [] (λwx=>wx=w.alloc (.cells (ku false 0 none 0 0 false 0 false 0 false 0) 51))
 case first=>
  go_wp2_with fail
  go_meet
  rfl
 case rest=>
 subst hcut;generalize hW0:w.alloc (.cells (ku false 0 none 0 0 false 0 false 0 false 0) 51)=W0 at *;clear hW0;go_wp2_with fail;refine HL.o.mono ?_;rintro r w1 ⟨g,rfl,hx1,hg1,hz1,hb1⟩;have HX1:=q_ hx1;have HB1:=q_ hb1;have HG1:=q_ hg1;clear hx1 hb1 hg1 hz1 HL;go_wp2_with fail;refine(asm h1 HX1.o).mono ?_;rintro r w2 ⟨rfl,hx2,hf2⟩;have HX2:=q_ hx2;have HF2:=q_ hf2;clear hx2 hf2;go_wp2_with fail;refine(a5s h2 HX2.o).mono ?_;rintro r w3 ⟨rfl,hx3,hf3⟩;have HX3:=q_ hx3;have HF3:=q_ (HF2.o.step hf3);clear hx3 hf3 HX2 HF2;go_wp2_with fail;have hbm:=qa w3 (.cells (ku a f none 0 0 false 0 false 0 false 0) 51);have hzm:(w3.alloc (.cells (ku a f none 0 0 false 0 false 0 false 0) 51)).1.size=w3.1.size+1:=by simp
 have hbi:=qa (w3.alloc (.cells (ku a f none 0 0 false 0 false 0 false 0) 51)) (.cells #[.int .i64 0,.int .i64 0,.int .i64 0,.int .i64 0,.int .i64 0,.int .i64 0,.int .i64 0,.int .i64 0,.int .i64 0,.int .i64 0,.int .i64 0,.int .i64 0] 307)
 have T0:TkI (qz g r2) g (w3.1.size+1) (ahq []) ((w3.alloc (.cells (ku a f none 0 0 false 0 false 0 false 0) 51)).alloc (.cells #[.int .i64 0,.int .i64 0,.int .i64 0,.int .i64 0,.int .i64 0,.int .i64 0,.int .i64 0,.int .i64 0,.int .i64 0,.int .i64 0,.int .i64 0,.int .i64 0] 307)) ((w3.alloc (.cells (ku a f none 0 0 false 0 false 0 false 0) 51)).alloc (.cells #[.int .i64 0,.int .i64 0,.int .i64 0,.int .i64 0,.int .i64 0,.int .i64 0,.int .i64 0,.int .i64 0,.int .i64 0,.int .i64 0,.int .i64 0,.int .i64 0] 307)):=
  ⟨(HX3.o.keep hbm).keep hbi,λj=>b8 _ _ _ _ hzm.symm,λj=>by rw[l6];exact qk _ _ _ om,by have:=HX3.o.lt;omega,by simp,rfl,rfl,rfl,a8 _,λ_ _ _ _=>rfl⟩
 have HMB:Q_ ((∀o,((w3.alloc (.cells (ku a f none 0 0 false 0 false 0 false 0) 51)).alloc (.cells #[.int .i64 0,.int .i64 0,.int .i64 0,.int .i64 0,.int .i64 0,.int .i64 0,.int .i64 0,.int .i64 0,.int .i64 0,.int .i64 0,.int .i64 0,.int .i64 0] 307)).cell? ⟨w3.1.size,o,none⟩=(ku a f none 0 0 false 0 false 0 false 0)[o]?) /\(∀o,((w3.alloc (.cells (ku a f none 0 0 false 0 false 0 false 0) 51)).alloc (.cells #[.int .i64 0,.int .i64 0,.int .i64 0,.int .i64 0,.int .i64 0,.int .i64 0,.int .i64 0,.int .i64 0,.int .i64 0,.int .i64 0,.int .i64 0,.int .i64 0] 307)).frozen? ⟨w3.1.size,o,none⟩=false)):=
  ⟨λo=>(n7 _ _ _ sm).trans (b8 _ _ _ _ rfl),λo=>by rw[l6,l6];exact qk _ _ _ (a8 _)⟩
 have hz0:=HZ0.o;have hb1s:=HB1.o.size;have hf3s:=HF3.o.size;have hx3l:=HX3.o.lt;have hg1:=HG1.o
 have hbB:Below W0.1.size W0 ((w3.alloc (.cells (ku a f none 0 0 false 0 false 0 false 0) 51)).alloc (.cells #[.int .i64 0,.int .i64 0,.int .i64 0,.int .i64 0,.int .i64 0,.int .i64 0,.int .i64 0,.int .i64 0,.int .i64 0,.int .i64 0,.int .i64 0,.int .i64 0] 307)):=
  qb (b2x HB1.o (HF3.o.below om (λk hk=>by simp[Value.ownBlock]at hk) om)) (qb hbm hbi)
 have HRW:Q_ ((∀o,((w3.alloc (.cells (ku a f none 0 0 false 0 false 0 false 0) 51)).alloc (.cells #[.int .i64 0,.int .i64 0,.int .i64 0,.int .i64 0,.int .i64 0,.int .i64 0,.int .i64 0,.int .i64 0,.int .i64 0,.int .i64 0,.int .i64 0,.int .i64 0] 307)).cell? ⟨w.1.size,o,none⟩=(ku false 0 none 0 0 false 0 false 0 false 0)[o]?) /\(∀o,((w3.alloc (.cells (ku a f none 0 0 false 0 false 0 false 0) 51)).alloc (.cells #[.int .i64 0,.int .i64 0,.int .i64 0,.int .i64 0,.int .i64 0,.int .i64 0,.int .i64 0,.int .i64 0,.int .i64 0,.int .i64 0,.int .i64 0,.int .i64 0] 307)).frozen? ⟨w.1.size,o,none⟩=false)/\Below w.1.size w ((w3.alloc (.cells (ku a f none 0 0 false 0 false 0 false 0) 51)).alloc (.cells #[.int .i64 0,.int .i64 0,.int .i64 0,.int .i64 0,.int .i64 0,.int .i64 0,.int .i64 0,.int .i64 0,.int .i64 0,.int .i64 0,.int .i64 0,.int .i64 0] 307))):=
  ⟨λo=>((qy hbB).1 _ o om).trans (HR0.o o),λo=>((qy hbB).2 _ o om).trans (HR1.o o),b2x HB0.o (hbB.mono om)⟩
 have HLT:Q_ (w.1.size<g/\g<w3.1.size/\w3.1.size+1<((w3.alloc (.cells (ku a f none 0 0 false 0 false 0 false 0) 51)).alloc (.cells #[.int .i64 0,.int .i64 0,.int .i64 0,.int .i64 0,.int .i64 0,.int .i64 0,.int .i64 0,.int .i64 0,.int .i64 0,.int .i64 0,.int .i64 0,.int .i64 0] 307)).1.size):=⟨by omega,by omega,by simp⟩;have HI0:Q_ ([] ++(yz 12 r2).1=ids /\(yz 12 r2).2=r3/\TkI (qz g r2) g (w3.1.size+1) (ahq []) ((w3.alloc (.cells (ku a f none 0 0 false 0 false 0 false 0) 51)).alloc (.cells #[.int .i64 0,.int .i64 0,.int .i64 0,.int .i64 0,.int .i64 0,.int .i64 0,.int .i64 0,.int .i64 0,.int .i64 0,.int .i64 0,.int .i64 0,.int .i64 0] 307)) ((w3.alloc (.cells (ku a f none 0 0 false 0 false 0 false 0) 51)).alloc (.cells #[.int .i64 0,.int .i64 0,.int .i64 0,.int .i64 0,.int .i64 0,.int .i64 0,.int .i64 0,.int .i64 0,.int .i64 0,.int .i64 0,.int .i64 0,.int .i64 0] 307))):=⟨by rw[h3.o];rfl,by rw[h3.o],T0⟩
 clear hbm hzm hbi T0 hz0 hb1s hf3s hx3l hg1 hbB HX3 HF3 HB1 HG1 HR0 HR1 HZ0 HB0 HX1;generalize hW:(w3.alloc (.cells (ku a f none 0 0 false 0 false 0 false 0) 51)).alloc (.cells #[.int .i64 0,.int .i64 0,.int .i64 0,.int .i64 0,.int .i64 0,.int .i64 0,.int .i64 0,.int .i64 0,.int .i64 0,.int .i64 0,.int .i64 0,.int .i64 0] 307)=W at *;generalize hIB:w3.1.size+1=IB at *;generalize w3.1.size=MB at *;clear hW;have HIM:Q_ (MB<IB):=by show _<_;omega
 clear hIB
 go_loopw [7,21] (λnv iv wr=>∃(i:Nat) (D:List Int) (s:Rd),iv=.int .i64 (i:Int)/\nv=.int .i64 (D.length:Int)/\i<=12/\D.length<=i/\Q_ (D ++(yz (12-i) s).1=ids /\(yz (12-i) s).2=r3/\TkI (qz g s) g IB (ahq D) W wr)) (λ_ iv _=>12-(intOf iv).toNat)
 case atStart=>exact⟨0,[],r2,rfl,rfl,by omega,b0d _,HI0⟩
 case round=>
  clear HI0;obtain⟨i,D,s,rfl,rfl,hi,hDi,hI⟩:=hrel
  by_cases hlt:i<12
  ·obtain⟨b,n,s',e0⟩:∃b n u,Q_ (qu 1 3 0 1 255 s=((b,n),u)):=⟨_,_,_,rfl⟩;have hst:=a6y (k:=11-i) e0.o;rw[show 11-i+1=12-i from by omega,show 11-i=12-(i+1)from by omega]at hst;have HST:=q_ hst;clear hst;have i1:(i:Int)<12:=by omega
   have i2:(0:Int) <=(i:Int):=by omega
   go_wp2_with fail;refine(bbb _).mono ?_;rintro r x1 ⟨rfl,hb⟩;have HT1:=q_ (hI.o.2.2.keep (Y:=qz g s) (hI.o.2.2.x.keep hb) hb);clear hb;go_wp2_with fail;refine(kp e0 HT1.o.x).mono ?_;rintro r x2 ⟨rfl,hx,hf⟩;have HT2:=q_ (HT1.o.frm (Y:=qz g s') hx hf);clear hx hf HT1;have hbn:=qa x2 (.cells #[.bool b,.int .i64 n] 42);have hT3:=HT2.o.keep (Y:=qz g s') (HT2.o.x.keep hbn) hbn;have hn0:(x2.alloc (.cells #[.bool b,.int .i64 n] 42)).cell? ⟨x2.1.size,0,none⟩=some (.bool b):=b8 _ _ _ _ rfl;have hn1:(x2.alloc (.cells #[.bool b,.int .i64 n] 42)).cell? ⟨x2.1.size,1,none⟩=some (.int .i64 n):=b8 _ _ _ _ rfl;have hc:=hT3.c D.length;rw[bbh D om]at hc;have hfz:=hT3.z D.length;have HT3:=q_ hT3;have i3:(0:Int) <=(D.length:Int):=by omega
   have i4:(D.length:Int)<12:=by omega
   clear hbn hT3;cases b with
   | false=>
    have HNX:Q_ (D ++(yz (12-(i+1)) s').1=ids /\(yz (12-(i+1)) s').2=r3/\TkI (qz g s') g IB (ahq D) W (x2.alloc (.cells #[.bool false,.int .i64 n] 42))):=by
     have q1:=hI.o.1;have q2:=hI.o.2.1;rw[HST.o]at q1 q2;exact⟨q1,q2,HT3.o⟩
    go_wp2_with fail
    go_roundw
    case rel=>exact⟨i+1,D,s',by go_num,rfl,by omega,by omega,HNX⟩
    case measure=>simp[intOf];omega
   | true=>
    have hp:=HT3.o.put (o:=D.length) (u:=.int .i64 n) (by rw[bbg D om];omega) (HT3.o.x.far (by have:=HLT.o;have:=HIM.o;omega):qz g s' _);rw[bfh D n om]at hp
    have HNX:Q_ ((D++[n]) ++(yz (12-(i+1)) s').1=ids /\(yz (12-(i+1)) s').2=r3/\TkI (qz g s') g IB (ahq (D++[n])) W ((x2.alloc (.cells #[.bool true,.int .i64 n] 42)).setCell ⟨IB,D.length,none⟩ (.int .i64 n))):=by
     have q1:=hI.o.1;have q2:=hI.o.2.1;rw[HST.o]at q1 q2;refine⟨?_,q2,hp⟩;rw[<- q1];simp
    clear hp;go_wp2_with fail
    go_roundw
    case rel=>exact⟨i+1,D++[n],s',by go_num,by simp,by omega,by simp;omega,HNX⟩
    case measure=>simp[intOf];omega
  ·obtain rfl:i=12:=by omega
   have hD:D=ids:=by have:=hI.o.1;simpa [yz]using this
   have hs3:s=r3:=by have:=hI.o.2.1;simpa [yz]using this
   subst hD hs3;have HTI:=q_ hI.o.2.2;have i3:(0:Int) <=(D.length:Int):=by omega
   have i4:(D.length:Int)<=12:=by omega
   have hT0:TkI (qz g s) g MB (ku a f none 0 0 false 0 false 0 false 0) wr wr:=⟨HTI.o.x,λo=>(HTI.o.cell (by have:=HLT.o;have:=HIM.o;omega) (by have:=HLT.o;omega) (by have:=HIM.o;omega)).trans (HMB.o.1 o),λo=>(HTI.o.frozen (by have:=HLT.o;have:=HIM.o;omega) (by have:=HLT.o;omega) (by have:=HIM.o;omega)).trans (HMB.o.2 o),HLT.o.2.1,by have:=HTI.o.mz;have:=HIM.o;omega,rfl,rfl,rfl,a8 _,λ_ _ _ _=>rfl⟩;have HIDS:Q_ (∀j,wr.cell? ⟨IB,j,none⟩=(ahq D)[j]?):=HTI.o.c;have HIZ:Q_ (IB<wr.1.size):=HTI.o.mz
   have HRWx:Q_ ((∀o,wr.cell? ⟨w.1.size,o,none⟩=(ku false 0 none 0 0 false 0 false 0 false 0)[o]?) /\(∀o,wr.frozen? ⟨w.1.size,o,none⟩=false)/\Below w.1.size w wr):=
    ⟨λo=>(HTI.o.cell (by have:=HLT.o;have:=HIM.o;omega) (by have:=HLT.o;omega) (by have:=HLT.o;have:=HIM.o;omega)).trans (HRW.o.1 o),λo=>(HTI.o.frozen (by have:=HLT.o;have:=HIM.o;omega) (by have:=HLT.o;omega) (by have:=HLT.o;have:=HIM.o;omega)).trans (HRW.o.2.1 o),b2x HRW.o.2.2 (HTI.o.below (by have:=HLT.o;omega) (by have:=HLT.o;have:=HIM.o;omega))⟩
   have m2:=hT0.c 2;have z2:=hT0.z 2;have HT0:=q_ hT0;clear hT0 hI HRW HMB;go_wp2_with fail;have hp:=HT0.o.put (o:=2) (u:=.slice (some ⟨IB,0,none⟩) D.length D.length) sm (HT0.o.x.far HLT.o.2.1);have e:∀C:Array Value,C=ku a f (some ⟨IB,0,none⟩) D.length D.length false 0 false 0 false 0->TkI (qz g s) g MB C wr (wr.setCell ⟨MB,2,none⟩ (.slice (some ⟨IB,0,none⟩) D.length D.length)):=λC hC=>by subst hC;exact hp
   have HT1:=q_ (e _ rfl);clear e hp m2 z2 HT0;generalize wr.setCell ⟨MB,2,none⟩ (.slice (some ⟨IB,0,none⟩) D.length D.length)=y0 at *;refine(aj3 _).mono ?_;rintro r x0 ⟨rfl,hb⟩;have HT2:=q_ (HT1.o.keep (Y:=qz g s) (HT1.o.x.keep hb) hb);clear hb HT1;go_wp2_with fail;refine(kp h4 HT2.o.x).mono ?_;rintro r y1 ⟨rfl,hx,hf⟩;have HT1:=q_ (HT2.o.frm hx hf);clear hx hf HT2;go_wp2_with fail;refine(aj3 _).mono ?_;rintro r x1 ⟨rfl,hb⟩;have HT2:=q_ (HT1.o.keep (Y:=qz g r4) (HT1.o.x.keep hb) hb);clear hb HT1;go_wp2_with fail;refine(kp h5 HT2.o.x).mono ?_;rintro r y2 ⟨rfl,hx,hf⟩;have HT1:=q_ (HT2.o.frm hx hf);clear hx hf HT2;go_wp2_with fail;refine(aj3 _).mono ?_;rintro r x2 ⟨rfl,hb⟩;have HT2:=q_ (HT1.o.keep (Y:=qz g r5) (HT1.o.x.keep hb) hb);clear hb HT1;go_wp2_with fail;refine(kp h6 HT2.o.x).mono ?_;rintro r y3 ⟨rfl,hx,hf⟩;have HT1:=q_ (HT2.o.frm hx hf)
   clear hx hf HT2;have hT4:=HT1.o;have m3:=hT4.c 3;have z3:=hT4.z 3;have m4:=hT4.c 4;have z4:=hT4.z 4;have m5:=hT4.c 5;have z5:=hT4.z 5;have m6:=hT4.c 6;have z6:=hT4.z 6;have m7:=hT4.c 7;have z7:=hT4.z 7;have m8:=hT4.c 8;have z8:=hT4.z 8;clear hT4;go_upto_region 16 with fail;have hx0:qz g r6 ((y3.setCell ⟨MB,3,none⟩ (.bool b0)).setCell ⟨MB,4,none⟩ (.int .i64 n0)):=((HT1.o.x).far (G:=MB) (o:=3) (u:=.bool b0) HLT.o.2.1).far (G:=MB) (o:=4) (u:=.int .i64 n0) HLT.o.2.1;have hs0:TkI (qz g r6) g MB (ku a f (some ⟨IB,0,none⟩) D.length D.length b0 n0 false 0 false 0) wr ((y3.setCell ⟨MB,3,none⟩ (.bool b0)).setCell ⟨MB,4,none⟩ (.int .i64 n0)):=(HT1.o).store (o:=3) rfl rfl (λj=>by rcases j with _|_|_|_|_|_|_|_|_|j<;>simp) hx0;have hx1:qz g r6 ((((y3.setCell ⟨MB,3,none⟩ (.bool b0)).setCell ⟨MB,4,none⟩ (.int .i64 n0)).setCell ⟨MB,5,none⟩ (.bool b1)).setCell ⟨MB,6,none⟩ (.int .i64 n1)):=((hx0).far (G:=MB) (o:=5) (u:=.bool b1) HLT.o.2.1).far (G:=MB) (o:=6) (u:=.int .i64 n1) HLT.o.2.1
   have hs1:TkI (qz g r6) g MB (ku a f (some ⟨IB,0,none⟩) D.length D.length b0 n0 b1 n1 false 0) wr ((((y3.setCell ⟨MB,3,none⟩ (.bool b0)).setCell ⟨MB,4,none⟩ (.int .i64 n0)).setCell ⟨MB,5,none⟩ (.bool b1)).setCell ⟨MB,6,none⟩ (.int .i64 n1)):=(hs0).store (o:=5) rfl rfl (λj=>by rcases j with _|_|_|_|_|_|_|_|_|j<;>simp) hx1;have hx2:qz g r6 ((((((y3.setCell ⟨MB,3,none⟩ (.bool b0)).setCell ⟨MB,4,none⟩ (.int .i64 n0)).setCell ⟨MB,5,none⟩ (.bool b1)).setCell ⟨MB,6,none⟩ (.int .i64 n1)).setCell ⟨MB,7,none⟩ (.bool b2)).setCell ⟨MB,8,none⟩ (.int .i64 n2)):=((hx1).far (G:=MB) (o:=7) (u:=.bool b2) HLT.o.2.1).far (G:=MB) (o:=8) (u:=.int .i64 n2) HLT.o.2.1;have hs2:TkI (qz g r6) g MB (ku a f (some ⟨IB,0,none⟩) D.length D.length b0 n0 b1 n1 b2 n2) wr ((((((y3.setCell ⟨MB,3,none⟩ (.bool b0)).setCell ⟨MB,4,none⟩ (.int .i64 n0)).setCell ⟨MB,5,none⟩ (.bool b1)).setCell ⟨MB,6,none⟩ (.int .i64 n1)).setCell ⟨MB,7,none⟩ (.bool b2)).setCell ⟨MB,8,none⟩ (.int .i64 n2)):=(hs1).store (o:=7) rfl rfl (λj=>by rcases j with _|_|_|_|_|_|_|_|_|j<;>simp) hx2
   have HT5:=q_ hs2;clear hs0 hs1 hs2 hx0 hx1 hx2 HT1 m3 m4 m5 m6 m7 m8 z3 z4 z5 z6 z7 z8;generalize ((((((y3.setCell ⟨MB,3,none⟩ (.bool b0)).setCell ⟨MB,4,none⟩ (.int .i64 n0)).setCell ⟨MB,5,none⟩ (.bool b1)).setCell ⟨MB,6,none⟩ (.int .i64 n1)).setCell ⟨MB,7,none⟩ (.bool b2)).setCell ⟨MB,8,none⟩ (.int .i64 n2))=y9 at *;have HER:=q_ (aqb HT5.o.x);obtain⟨E,hE⟩:∃E,r6.1=E:=⟨_,rfl⟩;rw[hE]at HER HT;clear hE;have hIDS:∀j,y9.cell? ⟨IB,j,none⟩=(ahq D)[j]?:=λj=>(HT5.o.cell HIZ.o (by have:=HLT.o;have:=HIM.o;omega) (by have:=HIM.o;omega)).trans (HIDS.o j)
   have HID9:=q_ hIDS;have HIZ9:Q_ (IB<y9.1.size):=by show _<_;have:=HT5.o.size;have:=HIZ.o;omega
   have hr:∀j,y9.cell? ⟨w.1.size,j,none⟩=(ku false 0 none 0 0 false 0 false 0 false 0)[j]?:=λj=>(HT5.o.cell (by have:=HIZ.o;have:=HLT.o;have:=HIM.o;omega) (by have:=HLT.o;omega) (by have:=HLT.o;omega)).trans (HRWx.o.1 j)
   have hf:∀j,y9.frozen? ⟨w.1.size,j,none⟩=false:=λj=>(HT5.o.frozen (by have:=HIZ.o;have:=HLT.o;have:=HIM.o;omega) (by have:=HLT.o;omega) (by have:=HLT.o;omega)).trans (HRWx.o.2.1 j)
   have HB9:Q_ (Below w.1.size w y9):=b2x HRWx.o.2.2 (HT5.o.below (by have:=HLT.o;omega) (by have:=HIZ.o;have:=HLT.o;have:=HIM.o;omega));have hm:=HT5.o.c;have HR:=q_ (show AtC y9 w.1.size (ku false 0 none 0 0 false 0 false 0 false 0)from hr);have r_0:=hr 0;have r_1:=hr 1;have r_2:=hr 2;have r_3:=hr 3;have r_4:=hr 4;have r_5:=hr 5;have r_6:=hr 6;have r_7:=hr 7;have r_8:=hr 8;have f_0:=hf 0;have f_1:=hf 1;have f_2:=hf 2;have f_3:=hf 3;have f_4:=hf 4;have f_5:=hf 5;have f_6:=hf 6;have f_7:=hf 7;have f_8:=hf 8;have m_0:=hm 0;have m_1:=hm 1;have m_2:=hm 2;have m_3:=hm 3;have m_4:=hm 4;have m_5:=hm 5;have m_6:=hm 6;have m_7:=hm 7;have m_8:=hm 8;clear hr hf hm hIDS HT5 HIDS HRWx;go_wp2_with fail;refine HER.o.mono ?_;rintro r w' ⟨rfl,rfl⟩
   by_cases hE:E=0
   ·subst hE;have HX2:Q_ (X=(⟨a,f,D,(b0,n0),(b1,n1),(b2,n2)⟩,0)):=HT.o.trans (if_pos rfl);have HNE:Q_ (w.1.size≠IB):=by show _≠_;have:=HLT.o;have:=HIM.o;omega
    clear HT;have K:=(((((((((HR.o.set 0 (.bool a) sm).set 1 (.int .i64 f) sm).set 2 (.slice (some ⟨IB,0,none⟩) D.length D.length) sm).set 3 (.bool b0) sm).set 4 (.int .i64 n0) sm).set 5 (.bool b1) sm).set 6 (.int .i64 n1) sm).set 7 (.bool b2) sm).set 8 (.int .i64 n2) sm);have k0:=K 0;have k1:=K 1;have k2:=K 2;have k3:=K 3;have k4:=K 4;have k5:=K 5;have k6:=K 6;have k7:=K 7;have k8:=K 8;simp at k0 k1 k2 k3 k4 k5 k6 k7 k8;go_wp2_with fail;refine b9 (v:=.tuple #[ba9 a f (some ⟨IB,0,none⟩) D.length D.length b0 n0 b1 n1 b2 n2,.int .i64 0]) (by simp[results,results104,go_sem,k0,k1,k2,k3,k4,k5,k6,k7,k8]) rfl ?_;rw[HX2.o];exact⟨some ⟨IB,0,none⟩,D.length,D.length,rfl,rfl,bjd (λk=>((adj HNE.o).trans (((adj HNE.o).trans (((adj HNE.o).trans (((adj HNE.o).trans (((adj HNE.o).trans (((adj HNE.o).trans (((adj HNE.o).trans (((adj HNE.o).trans (((adj HNE.o).trans (HID9.o k))))))))))))))))))) (by simpa using HIZ9.o),(qv (qv (qv (qv (qv (qv (qv (qv (qv HB9.o (a8 _)) (a8 _)) (a8 _)) (a8 _)) (a8 _)) (a8 _)) (a8 _)) (a8 _)) (a8 _))⟩
   ·have hne:(E != 0)=true:=by rw[b0r];exact hE
    have HX2:Q_ (X=(yk,E)):=HT.o.trans (if_neg hE);clear hE HT;have K:=(((((((((HR.o.set 0 (.bool false) sm).set 1 (.int .i64 0) sm).set 2 (.slice none 0 0) sm).set 3 (.bool false) sm).set 4 (.int .i64 0) sm).set 5 (.bool false) sm).set 6 (.int .i64 0) sm).set 7 (.bool false) sm).set 8 (.int .i64 0) sm);have k0:=K 0;have k1:=K 1;have k2:=K 2;have k3:=K 3;have k4:=K 4;have k5:=K 5;have k6:=K 6;have k7:=K 7;have k8:=K 8;simp at k0 k1 k2 k3 k4 k5 k6 k7 k8;go_wp2_with fail;refine b9 (v:=.tuple #[ba9 false 0 none 0 0 false 0 false 0 false 0,.int .i64 E]) (by simp[results,results104,go_sem,k0,k1,k2,k3,k4,k5,k6,k7,k8]) rfl ?_;rw[HX2.o];exact⟨none,0,0,rfl,rfl,λk hk=>absurd hk (b04 _),(qv (qv (qv (qv (qv (qv (qv (qv (qv HB9.o (a8 _)) (a8 _)) (a8 _)) (a8 _)) (a8 _)) (a8 _)) (a8 _)) (a8 _)) (a8 _))⟩
abbrev abm (g:Nat):Obj:=.cells #[.pointer (some ⟨g,0,none⟩)] 286
abbrev bmf (g:Nat):Value:=.agg #[.pointer (some ⟨g,0,none⟩)]
theorem ad6 {g:Nat} {s t:Rd} {a:ByteArray} {w:World} (ha:Q_ (qw s=(a,t))) (hp:qz g s w):a.size<=1100000:=by
 have:=ha.o;unfold qw at this;injection this with e _
 rw[<- e];exact ahp hp.choose_spec.2.2
theorem aoo (w:World) (g:Nat):(w.alloc (abm g)).cell? ⟨w.1.size,0,none⟩=some (.pointer (some ⟨g,0,none⟩)):=b8 _ _ _ _ rfl
theorem a0o {g:Nat} {s t:Rd} {b:Bool} {h m c e:Int} {w:World} (ht:Q_ (ajg s=((b,h,m,c,e),t))) (hp:qz g s w):Calls prog 138 #[bmf g] w (jv g (ap5 b h m c e) t w):=by
 obtain⟨a,s1,ha⟩:∃a s1,Q_ (qw s=(a,s1)):=⟨_,_,rfl⟩;have hsm:=ad6 ha hp
 obtain⟨E,ht1,ht2⟩:∃E,Q_ (aam a.data.toList=((b,h,m,c,e),E))/\Q_ (xu E s1=t):=by
  have q:=ht.o;unfold ajg at q;rw[ha.o]at q;injection q with q1 q2
  exact⟨_,b5m q1 rfl,q2⟩
 have hgl:=hp.lt;have hb0:=qa w (abm g);have hb1:=qa (w.alloc (abm g)) (aax false 0 0 0 0);have hz0:(w.alloc (abm g)).1.size=w.1.size+1:=by simp
 have HX0:=q_ ((hp.keep hb0).keep hb1);have HF0:Q_ (Frm g vm w ((w.alloc (abm g)).alloc (aax false 0 0 0 0))):=Frm.of_below (qb hb0 hb1);have p0:((w.alloc (abm g)).alloc (aax false 0 0 0 0)).cell? ⟨w.1.size,0,none⟩=some (.pointer (some ⟨g,0,none⟩)):=(n7 _ _ _ sm).trans (aoo w g);have HP0:=q_ p0;have HR0:Q_ (∀o,((w.alloc (abm g)).alloc (aax false 0 0 0 0)).cell? ⟨w.1.size+1,o,none⟩=(#[Value.bool false,.int .i64 0,.int .i64 0,.int .i64 0,.int .i64 0]:Array Value)[o]?):=λo=>b8 _ _ _ _ hz0.symm
 have HRF:Q_ (∀o,((w.alloc (abm g)).alloc (aax false 0 0 0 0)).frozen? ⟨w.1.size+1,o,none⟩=false):=λo=>by rw[l6,l6];exact qk _ _ _ om
 have HZ:Q_ (w.1.size+1<((w.alloc (abm g)).alloc (aax false 0 0 0 0)).1.size/\g<w.1.size):=⟨by simp,hgl⟩;clear hb0 hb1 hz0 hp hgl ht;go_enter func138,ntmps138;go_wp2_with fail;generalize hW0:(w.alloc (abm g)).alloc (aax false 0 0 0 0)=W0 at *;refine(zd ha HX0.o).mono ?_;rintro r w1 ⟨rfl,hx1,hf1⟩;have HX1:=q_ hx1;have HF1:=q_ hf1;clear hx1 hf1 hW0 HX0;go_wp2_with fail;refine(ane a w1 hsm).mono ?_;rw[ht1.o];rintro r w2 ⟨rfl,hb2⟩;dsimp only;have hbc:=qa w2 (aax b h m c e);have HX3:Q_ (qz g s1 (w2.alloc (aax b h m c e))):=(HX1.o.keep hb2).keep hbc;have HF3:Q_ (Frm g vm W0 (w2.alloc (aax b h m c e))):=HF1.o.step (Frm.of_below (qb hb2 hbc));have HC3:Q_ (∀o,(w2.alloc (aax b h m c e)).cell? ⟨w2.1.size,o,none⟩=(#[Value.bool b,.int .i64 h,.int .i64 m,.int .i64 c,.int .i64 e]:Array Value)[o]?):=λo=>b8 _ _ _ _ rfl
 have HZ3:Q_ (w2.1.size<(w2.alloc (aax b h m c e)).1.size/\W0.1.size<=w2.1.size):=⟨by simp,by have:=HF1.o.size;have:=hb2.size;omega⟩;have p3:(w2.alloc (aax b h m c e)).cell? ⟨w.1.size,0,none⟩=some (.pointer (some ⟨g,0,none⟩)):=(qj HF3.o (by have:=HZ.o;omega) (by have:=HZ.o;omega) 0).trans HP0.o;clear hbc hb2 HX1 HF1 p0;go_wp2_with fail;generalize hW3:w2.alloc (aax b h m c e)=W3 at *;clear hW3 p3;refine(xp ht2 HX3.o).mono ?_;rintro r w4 ⟨rfl,hx4,hf4⟩;have HX4:=q_ hx4;have HF4:=q_ (HF3.o.step hf4);have hc4:∀o,w4.cell? ⟨w2.1.size,o,none⟩=(#[Value.bool b,.int .i64 h,.int .i64 m,.int .i64 c,.int .i64 e]:Array Value)[o]?:=λo=>(qj hf4 HZ3.o.1 (by have:=HZ.o;have:=HZ3.o;omega) o).trans (HC3.o o)
 have hr4:∀o,w4.cell? ⟨w.1.size+1,o,none⟩=(#[Value.bool false,.int .i64 0,.int .i64 0,.int .i64 0,.int .i64 0]:Array Value)[o]?:=λo=>(qj HF4.o HZ.o.1 (by have:=HZ.o;omega) o).trans (HR0.o o)
 have fz:∀o,w4.frozen? ⟨w.1.size+1,o,none⟩=false:=λo=>(qx HF4.o HZ.o.1 (by have:=HZ.o;omega) o).trans (HRF.o o)
 have HF5:=q_ (HF0.o.step HF4.o);have c0:=hc4 0;have c1:=hc4 1;have c2:=hc4 2;have c3:=hc4 3;have c4:=hc4 4;have r0:=hr4 0;have r1:=hr4 1;have r2:=hr4 2;have r3:=hr4 3;have r4:=hr4 4;have HOLD:Q_ (∀o,o<5->∃v,w4.cell? ⟨w.1.size+1,o,none⟩=some v):=λo ho=>by rw[hr4 o];rcases(by omega:o=0\/o=1\/o=2\/o=3\/o=4)with rfl|rfl|rfl|rfl|rfl<;>exact⟨_,rfl⟩
 clear hx4 hf4 hc4 hr4 HC3 HR0 HRF HF3 HX3 HF0 HF4;go_wp2_with fail;have hd:=a7j (W:=w4) (g:=w.1.size+1) (a:=.bool b) (b:=.int .i64 h) (c:=.int .i64 m) (d:=.int .i64 c) (e:=.int .i64 e) HOLD.o;have d0:=hd 0 om;have d1:=hd 1 om;have d2:=hd 2 om;have d3:=hd 3 om;have d4:=hd 4 om;simp at d0 d1 d2 d3 d4;have hG:g<w.1.size+1:=by have:=HZ.o.2;omega
 refine b9 (v:=ap5 b h m c e) (by simp[results,results138,go_sem,d0,d1,d2,d3,d4]) rfl ⟨rfl,?_,?_⟩
 ·exact((((HX4.o.far hG).far hG).far hG).far hG).far hG
 ·exact((((HF5.o.put (b2r _)).put (b2r _)).put (b2r _)).put (b2r _)).put (b2r _)
theorem awd {g:Nat} {s t:Rd} {n:Int} {w:World} (ht:Q_ (zl 0 8 s=(n,t))) (hp:qz g s w):Calls prog 139 #[bmf g] w (jv g (.int .i64 n) t w):=by
 obtain⟨a,s1,ha⟩:∃a s1,Q_ (qw s=(a,s1)):=⟨_,_,rfl⟩;obtain⟨hw1,hw2,hw3⟩:=aj8 (lo:=0) (hi:=8) ha.o;have ht:=ht.o;have hgl:=hp.lt;have hb0:=qa w (abm g);have HP:=q_ (hp.keep hb0);have HF0:Q_ (Frm g vm w (w.alloc (abm g))):=Frm.of_below hb0;have p0:=aoo w g;have HP0:=q_ p0;have HZ:Q_ (g<w.1.size/\w.1.size<(w.alloc (abm g)).1.size):=⟨hgl,by simp⟩;clear hp hb0 hgl;rcases ap9 a with⟨hb,h1⟩|⟨hz,h1,⟨h2,hb⟩|⟨h2,hb⟩|⟨h2,h3,hb,hv⟩⟩
 ·have e:=hw1 hb;rw[e]at ht;injection ht with e1 e2
  subst e1 e2;clear e hw1 hw2 hw3 hb;have i1:((a.size:Int)==1)=false:=by rw[l7];omega
  go_enter func139,ntmps139;go_wp2_with fail;generalize hW0:w.alloc (abm g)=W0 at *;refine(zd ha HP.o).mono ?_;rintro r w1 ⟨rfl,hx,hf⟩;have HX:=q_ hx;have HF:=q_ (HF0.o.step hf);have p1:=(qj hf (b:=w.1.size) HZ.o.2 (by have:=HZ.o.1;omega) 0).trans HP0.o;clear hx hf HP HF0;go_wp2_with fail;refine(xp rfl HX.o).mono ?_;rintro r w2 ⟨rfl,hx2,hf2⟩;have HX2:=q_ hx2;have HF2:=q_ (HF.o.step hf2);clear hx2 hf2;go_wp2_with fail;go_ret;exact⟨rfl,HX2.o,HF2.o⟩
 ·have e:=hw1 hb;rw[e]at ht;injection ht with e1 e2
  subst e1 e2;clear e hw1 hw2 hw3 hb;have i1:((a.size:Int)==1)=true:=by rw[b1w];omega
  have i2:((a[0].toNat:Nat):Int)<48:=by omega
  go_enter func139,ntmps139;go_wp2_with fail;generalize hW0:w.alloc (abm g)=W0 at *;refine(zd ha HP.o).mono ?_;rintro r w1 ⟨rfl,hx,hf⟩;have HX:=q_ hx;have HF:=q_ (HF0.o.step hf);have p1:=(qj hf (b:=w.1.size) HZ.o.2 (by have:=HZ.o.1;omega) 0).trans HP0.o;clear hx hf HP HF0;go_wp2_with fail;refine(xp rfl HX.o).mono ?_;rintro r w2 ⟨rfl,hx2,hf2⟩;have HX2:=q_ hx2;have HF2:=q_ (HF.o.step hf2);clear hx2 hf2;go_wp2_with fail;go_ret;exact⟨rfl,HX2.o,HF2.o⟩
 ·have e:=hw1 hb;rw[e]at ht;injection ht with e1 e2
  subst e1 e2;clear e hw1 hw2 hw3 hb;have i1:((a.size:Int)==1)=true:=by rw[b1w];omega
  have i2:(48:Int) <=((a[0].toNat:Nat):Int):=by omega
  have i3:(57:Int)<((a[0].toNat:Nat):Int):=by omega
  go_enter func139,ntmps139;go_wp2_with fail;generalize hW0:w.alloc (abm g)=W0 at *;refine(zd ha HP.o).mono ?_;rintro r w1 ⟨rfl,hx,hf⟩;have HX:=q_ hx;have HF:=q_ (HF0.o.step hf);have p1:=(qj hf (b:=w.1.size) HZ.o.2 (by have:=HZ.o.1;omega) 0).trans HP0.o;clear hx hf HP HF0;go_wp2_with fail;refine(xp rfl HX.o).mono ?_;rintro r w2 ⟨rfl,hx2,hf2⟩;have HX2:=q_ hx2;have HF2:=q_ (HF.o.step hf2);clear hx2 hf2;go_wp2_with fail;go_ret;exact⟨rfl,HX2.o,HF2.o⟩
 ·have i1:((a.size:Int)==1)=true:=by rw[b1w];omega
  have i2:(48:Int) <=((a[0].toNat:Nat):Int):=by omega
  have i3:((a[0].toNat:Nat):Int)<=57:=by omega
  rw[hv]at hw2 hw3
  by_cases hq:(a[0].toNat:Int)-48<0\/8<(a[0].toNat:Int)-48
  ·have e:=hw2 hb hq;rw[e]at ht;injection ht with e1 e2
   subst e1 e2;have q2:56<(a[0].toNat:Int):=by omega
   clear e hw1 hw2 hw3 hb hv hq;go_enter func139,ntmps139;go_wp2_with fail;generalize hW0:w.alloc (abm g)=W0 at *;refine(zd ha HP.o).mono ?_;rintro r w1 ⟨rfl,hx,hf⟩;have HX:=q_ hx;have HF:=q_ (HF0.o.step hf);have p1:=(qj hf (b:=w.1.size) HZ.o.2 (by have:=HZ.o.1;omega) 0).trans HP0.o;clear hx hf HP HF0;go_wp2_with fail;refine(xp rfl HX.o).mono ?_;rintro r w2 ⟨rfl,hx2,hf2⟩;have HX2:=q_ hx2;have HF2:=q_ (HF.o.step hf2);clear hx2 hf2;go_wp2_with fail;go_ret;exact⟨rfl,HX2.o,HF2.o⟩
  ·have e:=hw3 hb hq;rw[e]at ht;injection ht with e1 e2
   subst e1 e2;have q2:(a[0].toNat:Int)<=56:=by omega
   clear e hw1 hw2 hw3 hb hv hq;go_enter func139,ntmps139;go_wp2_with fail;generalize hW0:w.alloc (abm g)=W0 at *;refine(zd ha HP.o).mono ?_;rintro r w1 ⟨rfl,hx,hf⟩;have HX:=q_ hx;have HF:=q_ (HF0.o.step hf);have p1:=(qj hf (b:=w.1.size) HZ.o.2 (by have:=HZ.o.1;omega) 0).trans HP0.o;clear hx hf HP HF0;go_wp2_with fail;go_ret;exact⟨rfl,HX.o,HF.o⟩
theorem anj {g:Nat} {s t:Rd} {b:Bool} {n:Int} {w:World} (ht:Q_ (vr ⟨#[77]⟩ b s=t)) (hp:qz g s w):Calls prog 143 #[bmf g,jo b n] w (jv g (.tuple #[]) t w):=by
 obtain⟨a,s1,ha⟩:∃a s1,Q_ (qw s=(a,s1)):=⟨_,_,rfl⟩
 have ht2:t=if a ≠⟨#[77]⟩ /\(b=true\/a≠ByteArray.empty)then xu 3 s1 else s1:=by
  have q:=ht.o;unfold vr at q;rw[ha.o]at q;exact q.symm
 have hways:=au2 a ⟨#[77]⟩ b s1;rw[<- ht2,show (⟨#[77]⟩:ByteArray).toList=[77]by rw[b07]]at hways;have hgl:=hp.lt;have hb0:=qa w (abm g);have hb1:=qa (w.alloc (abm g)) (.cells #[.bool b,.int .i64 n] 42);have hz0:(w.alloc (abm g)).1.size=w.1.size+1:=by simp
 have HP:=q_ ((hp.keep hb0).keep hb1);have HF0:Q_ (Frm g vm w ((w.alloc (abm g)).alloc (.cells #[.bool b,.int .i64 n] 42))):=Frm.of_below (qb hb0 hb1);have p0:((w.alloc (abm g)).alloc (.cells #[.bool b,.int .i64 n] 42)).cell? ⟨w.1.size,0,none⟩=some (.pointer (some ⟨g,0,none⟩)):=(n7 _ _ _ sm).trans (aoo w g);have HP0:=q_ p0;have HN0:Q_ (((w.alloc (abm g)).alloc (.cells #[.bool b,.int .i64 n] 42)).cell? ⟨w.1.size+1,0,none⟩=some (.bool b)):=b8 _ _ _ _ hz0.symm;have HZ:Q_ (g<w.1.size/\w.1.size<((w.alloc (abm g)).alloc (.cells #[.bool b,.int .i64 n] 42)).1.size):=⟨hgl,by simp;omega⟩;have HZN:Q_ (w.1.size+1<((w.alloc (abm g)).alloc (.cells #[.bool b,.int .i64 n] 42)).1.size):=by show _<_;simp
 clear hp hb0 hb1 hz0 hgl ht2 ht;rcases hways with⟨k1,hq⟩|⟨k1,kb,hq⟩|⟨k1,kb,k2,hq⟩|⟨k1,kb,k2,hq⟩
 ·subst hq;go_enter func143,ntmps143;go_wp2_with fail;generalize hW0:(w.alloc (abm g)).alloc (.cells #[.bool b,.int .i64 n] 42)=W0 at *;refine(zd ha HP.o).mono ?_;rintro r w1 ⟨rfl,hx,hf⟩;have HX:=q_ hx;have HF:=q_ (HF0.o.step hf);have p1:=(qj hf (b:=w.1.size) HZ.o.2 (by have:=HZ.o.1;omega) 0).trans HP0.o;have n1:=(qj hf (b:=w.1.size+1) HZN.o (by have:=HZ.o.1;omega) 0).trans HN0.o;clear hx hf HP HF0;go_wp2_with fail
  go_end0
  exact⟨rfl,HX.o,HF.o⟩
 ·subst kb hq;go_enter func143,ntmps143;go_wp2_with fail;generalize hW0:(w.alloc (abm g)).alloc (.cells #[.bool true,.int .i64 n] 42)=W0 at *;refine(zd ha HP.o).mono ?_;rintro r w1 ⟨rfl,hx,hf⟩;have HX:=q_ hx;have HF:=q_ (HF0.o.step hf);have p1:=(qj hf (b:=w.1.size) HZ.o.2 (by have:=HZ.o.1;omega) 0).trans HP0.o;have n1:=(qj hf (b:=w.1.size+1) HZN.o (by have:=HZ.o.1;omega) 0).trans HN0.o;clear hx hf HP HF0;go_wp2_with fail;refine(xp rfl HX.o).mono ?_;rintro r w2 ⟨rfl,hx2,hf2⟩;have HX2:=q_ hx2;have HF2:=q_ (HF.o.step hf2);clear hx2 hf2;go_wp2_with fail
  go_end0
  exact⟨rfl,HX2.o,HF2.o⟩
 ·subst kb hq;go_enter func143,ntmps143;go_wp2_with fail;generalize hW0:(w.alloc (abm g)).alloc (.cells #[.bool false,.int .i64 n] 42)=W0 at *;refine(zd ha HP.o).mono ?_;rintro r w1 ⟨rfl,hx,hf⟩;have HX:=q_ hx;have HF:=q_ (HF0.o.step hf);have p1:=(qj hf (b:=w.1.size) HZ.o.2 (by have:=HZ.o.1;omega) 0).trans HP0.o;have n1:=(qj hf (b:=w.1.size+1) HZN.o (by have:=HZ.o.1;omega) 0).trans HN0.o;clear hx hf HP HF0;go_wp2_with fail;refine(xp rfl HX.o).mono ?_;rintro r w2 ⟨rfl,hx2,hf2⟩;have HX2:=q_ hx2;have HF2:=q_ (HF.o.step hf2);clear hx2 hf2;go_wp2_with fail
  go_end0
  exact⟨rfl,HX2.o,HF2.o⟩
 ·subst kb hq;go_enter func143,ntmps143;go_wp2_with fail;generalize hW0:(w.alloc (abm g)).alloc (.cells #[.bool false,.int .i64 n] 42)=W0 at *;refine(zd ha HP.o).mono ?_;rintro r w1 ⟨rfl,hx,hf⟩;have HX:=q_ hx;have HF:=q_ (HF0.o.step hf);have p1:=(qj hf (b:=w.1.size) HZ.o.2 (by have:=HZ.o.1;omega) 0).trans HP0.o;have n1:=(qj hf (b:=w.1.size+1) HZN.o (by have:=HZ.o.1;omega) 0).trans HN0.o;clear hx hf HP HF0;go_wp2_with fail
  go_end0
  exact⟨rfl,HX.o,HF.o⟩
abbrev bn3 (g:au9):Value:=bjc g.1.1 g.1.2.1 g.1.2.2.1 g.1.2.2.2.1 g.1.2.2.2.2 g.2.1.1 g.2.1.2 g.2.2.1.1 g.2.2.1.2 g.2.2.2.1 g.2.2.2.2.1.1 g.2.2.2.2.1.2 g.2.2.2.2.2.1.1 g.2.2.2.2.2.1.2 g.2.2.2.2.2.2.1.1 g.2.2.2.2.2.2.1.2 g.2.2.2.2.2.2.2.1.1 g.2.2.2.2.2.2.2.1.2 g.2.2.2.2.2.2.2.2.1.1 g.2.2.2.2.2.2.2.2.1.2 g.2.2.2.2.2.2.2.2.2.1 g.2.2.2.2.2.2.2.2.2.2
def akn (x:au9×Int) (w:World) (r:Ending) (w':World):Prop:=r=.returned (.tuple #[bn3 x.1,.int .i64 x.2])/\Below w.1.size w w'
theorem aho:(prog.info? 44).map (·.size)=some 22:=by kernel_rfl
theorem a1q {w:World} {R:Nat} {C:Array Value} (h:AtC w R C):w.rangeAt R 0 C.toList:=λj v hv=>by rw[b0j,h j];simpa using hv
theorem aas {w:World} {R:Nat} {C:Array Value} (h:AtC w R C) (hf:∀j,w.frozen? ⟨R,j,none⟩=false) {n:Nat} (hn:n=C.size):w.there R 0 n:=λj hj=>by
 rw[b0j,h j,hf j];exact⟨by simp;omega,rfl⟩
theorem aa2 {B R:Nat} {a:World} (hR:B<=R):∀(vs:List Value) (o:Nat) (w:World),Below B a w->Below B a (w.setCells R o vs)
 | [],_,_,h=>h
 | v::r,o,w,h=>by
  rw[World.setCells];exact aa2 hR r (o+1) _ (qv h hR)
theorem aqh {w:World} {b:Nat} {C:Array Value} (hC:C.size=22) (h:w.rangeAt b 0 C.toList):(loadVar 44 ⟨b,0,none⟩).run prog w=.ok (.agg C) w:=by
 have:=t9 (P:=prog) w b 0 44 C.toList _ h underlying44 rfl (by rw[aho];simp[hC])
 simpa using this
theorem ze {g M:Nat} {s:Rd} {C:Array Value} {W w:World} (h:TkI (qz g s) g M C W w) (o:Nat) (u:Value) (ho:o<C.size):TkI (qz g s) g M (C.setIfInBounds o u) W (w.setCell ⟨M,o,none⟩ u):=h.put ho (h.x.far h.gm)
theorem aaz {g M:Nat} {s:Rd} {C:Array Value} {W w:World} (h:TkI (qz g s) g M C W w) (C':Array Value) (e:C=C'):Q_ (TkI (qz g s) g M C' W w):=by subst e;exact h
theorem ba7 {R:List ByteArray} {cb:Bool} {ch:Int} {cm:Int} {cs:Int} {cc:Int} {lb:Bool} {ln:Int} {ob:Bool} {on:Int} {q:Int} {sb:Bool} {sn:Int} {hb:Bool} {hn:Int} {ab:Bool} {an:Int} {gb:Bool} {gn:Int} {eb:Bool} {en:Int} {tb:Bool} {tn:Int} {r1 r2 r3 r4 r5 r6 r7 r8 r9 r10 r11 r12:Rd} (hl:R.length=14) (h1:Q_ (ajg (0,R)=((cb,ch,cm,cs,cc),r1))) (h2:Q_ (adg true r1=((lb,ln),r2))) (h3:Q_ (adg false r2=((ob,on),r3))) (h4:Q_ (zl 0 8 r3=(q,r4))) (h5:Q_ (qu 1 2 0 0 99 r4=((sb,sn),r5))) (h6:Q_ (qu 1 3 2 0 99999 r5=((hb,hn),r6))) (h7:Q_ (qu 1 6 1 (-9999999) 9999999 r6=((ab,an),r7))) (h8:Q_ (vr ⟨#[77]⟩ ab r7=r8)) (h9:Q_ (qu 1 4 1 (-99999) 99999 r8=((gb,gn),r9))) (h10:Q_ (vr ⟨#[77]⟩ gb r9=r10)) (h11:Q_ (qu 1 4 1 0 99999 r10=((eb,en),r11))) (h12:Q_ (qu 1 4 0 0 1023 r11=((tb,tn),r12))) :
 yh R=if r12.1=0 then(((cb,ch,cm,cs,cc),(lb,ln),(ob,on),q,(sb,sn),(hb,hn),(ab,an),(gb,gn),(eb,en),(tb,tn)),0)else(aag,r12.1):=by
 have c7:ye bl6 r6=((ab,an),r8):=by unfold ye bl6;simp only;rw[h7.o];simp only;rw[h8.o]
 have c9:ye bmh r8=((gb,gn),r10):=by unfold ye bmh;simp only;rw[h9.o];simp only;rw[h10.o]
 have hR:bff (0,R)=(((cb,ch,cm,cs,cc),(lb,ln),(ob,on),q,(sb,sn),(hb,hn),(ab,an),(gb,gn),(eb,en),(tb,tn)),r12):=by
  unfold bff;simp only[ag9,h1.o,h2.o,h3.o,h4.o,h5.o,h6.o,c7,c9,h11.o,h12.o]
 unfold yh;rw[if_neg (λq=>q hl),hR]
theorem a5o (A:Option Addr) (n c:Nat) (R:List ByteArray) (w:World) (hl:R.length=n) (hA:A=none->c=0) (hs:v6 w w.1.size A R) (hz:∀t∈R,t.size<=1100000) (hkn:Q_ (n=14)) :
 Calls prog 102 #[.slice A n c] w (akn (yh R) w):=by
 obtain⟨cb,ch,cm,cs,cc,r1,h1⟩:∃cb ch cm cs cc u,Q_ (ajg (0,R)=((cb,ch,cm,cs,cc),u)):=⟨_,_,_,_,_,_,rfl⟩;obtain⟨lb,ln,r2,h2⟩:∃lb ln u,Q_ (adg true r1=((lb,ln),u)):=⟨_,_,_,rfl⟩;obtain⟨ob,on,r3,h3⟩:∃ob on u,Q_ (adg false r2=((ob,on),u)):=⟨_,_,_,rfl⟩;obtain⟨q,r4,h4⟩:∃q u,Q_ (zl 0 8 r3=(q,u)):=⟨_,_,rfl⟩;obtain⟨sb,sn,r5,h5⟩:∃sb sn u,Q_ (qu 1 2 0 0 99 r4=((sb,sn),u)):=⟨_,_,_,rfl⟩;obtain⟨hb,hn,r6,h6⟩:∃hb hn u,Q_ (qu 1 3 2 0 99999 r5=((hb,hn),u)):=⟨_,_,_,rfl⟩;obtain⟨ab,an,r7,h7⟩:∃ab an u,Q_ (qu 1 6 1 (-9999999) 9999999 r6=((ab,an),u)):=⟨_,_,_,rfl⟩;obtain⟨r8,h8⟩:∃u,Q_ (vr ⟨#[77]⟩ ab r7=u):=⟨_,rfl⟩;obtain⟨gb,gn,r9,h9⟩:∃gb gn u,Q_ (qu 1 4 1 (-99999) 99999 r8=((gb,gn),u)):=⟨_,_,_,rfl⟩;obtain⟨r10,h10⟩:∃u,Q_ (vr ⟨#[77]⟩ gb r9=u):=⟨_,rfl⟩;obtain⟨eb,en,r11,h11⟩:∃eb en u,Q_ (qu 1 4 1 0 99999 r10=((eb,en),u)):=⟨_,_,_,rfl⟩
 obtain⟨tb,tn,r12,h12⟩:∃tb tn u,Q_ (qu 1 4 0 0 1023 r11=((tb,tn),u)):=⟨_,_,_,rfl⟩;obtain⟨X,hX⟩:∃X,yh R=X:=⟨_,rfl⟩;have HT:Q_ (X=if r12.1=0 then(((cb,ch,cm,cs,cc),(lb,ln),(ob,on),q,(sb,sn),(hb,hn),(ab,an),(gb,gn),(eb,en),(tb,tn)),0)else(aag,r12.1)):=hX.symm.trans (ba7 (by rw[hl];exact hkn.o) h1 h2 h3 h4 h5 h6 h7 h8 h9 h10 h11 h12);rw[hX];clear hX;have HB0:=q_ (qa w (.cells (km false 0 0 0 0 false 0 false 0 0 false 0 false 0 false 0 false 0 false 0 false 0) 44));have HL:=q_ (aky (c:=c) hA ((hs.below HB0.o (a8 _)).more HB0.o.size) (by have:=hkn.o;omega) hz);rw[hl]at HL;have hR0:∀o,(w.alloc (.cells (km false 0 0 0 0 false 0 false 0 0 false 0 false 0 false 0 false 0 false 0 false 0) 44)).cell? ⟨w.1.size,o,none⟩=(km false 0 0 0 0 false 0 false 0 0 false 0 false 0 false 0 false 0 false 0 false 0)[o]?:=λo=>b8 _ _ _ _ rfl
 have hR1:∀o,(w.alloc (.cells (km false 0 0 0 0 false 0 false 0 0 false 0 false 0 false 0 false 0 false 0 false 0) 44)).frozen? ⟨w.1.size,o,none⟩=false:=λo=>by rw[l6];exact qk _ _ _ (a8 _)
 have HR0:=q_ hR0;have HR1:=q_ hR1;have HZ0:Q_ ((w.alloc (.cells (km false 0 0 0 0 false 0 false 0 0 false 0 false 0 false 0 false 0 false 0 false 0) 44)).1.size=w.1.size+1):=by show _=_;simp
 have i14:((n:Int) != 14)=false:=by have:=hkn.o;rw[b0b];omega
 clear hs hA hz hR0 hR1 hl;go_enter func102,ntmps102
 try dsimp only
 repeat (fail_if_success (show Code.wp _ (Code.seq (Code.region 1 _ _) _) _ _ _)
         first|go_values|go_skip|go_guarded|go_step|go_upon|go_back|(simp only[b3a,b3b]at *;go_simp)|(go_ite<;>go_prune<;>(try go_simp)))
 go_cut [] (λwx=>wx=w.alloc (.cells (km false 0 0 0 0 false 0 false 0 0 false 0 false 0 false 0 false 0 false 0 false 0) 44))
 case first=>
  go_wp2_with fail
  go_meet
  rfl
 case rest=>
 subst hcut;generalize hW0:w.alloc (.cells (km false 0 0 0 0 false 0 false 0 0 false 0 false 0 false 0 false 0 false 0 false 0) 44)=W0 at *;clear hW0;go_wp2_with fail;refine HL.o.mono ?_;rintro r w1 ⟨g,rfl,hx1,hg1,hz1,hb1⟩;have HX1:=q_ hx1;have HB1:=q_ hb1;have HG1:=q_ hg1;clear hx1 hb1 hg1 hz1 HL;have p1:=aoo w1 g
 try dsimp only
 repeat (fail_if_success (show Code.wp _ (Code.seq (Code.region 5 _ _) _) _ _ _)
         first|go_values|go_skip|go_guarded|go_step|go_upon|go_back|(simp only[b3a,b3b]at *;go_simp)|(go_ite<;>go_prune<;>(try go_simp)))
 generalize hWP:w1.alloc (abm g)=WP at *
 go_quiet (fail)
 try dsimp only
 repeat (fail_if_success (show Code.wp _ (Code.seq (Code.region 5 _ _) _) _ _ _)
         first|go_values|go_skip|go_guarded|go_step|go_upon|go_back|(simp only[b3a,b3b]at *;go_simp)|(go_ite<;>go_prune<;>(try go_simp)))
 have hz0:=HZ0.o;have hg1:=HG1.o;have hb1s:=HB1.o.size;have hgl:=HX1.o.lt;have hbP:=qa w1 (abm g);have hzP:(w1.alloc (abm g)).1.size=w1.1.size+1:=by simp
 rw[hWP]at hbP hzP;have hbQ:Below w1.1.size w1 (WP.drewN nq):=aai hbP nq;have hzQ:(WP.drewN nq).1.size=w1.1.size+1:=hzP;have pQ:(WP.drewN nq).cell? ⟨w1.1.size,0,none⟩=some (.pointer (some ⟨g,0,none⟩)):=p1;generalize WP.drewN nq=WQ at *;have hbM:=qa WQ (.cells (km false 0 0 0 0 false 0 false 0 0 false 0 false 0 false 0 false 0 false 0 false 0) 44)
 have T0:Q_ (TkI (qz g (0,R)) g WQ.1.size (km false 0 0 0 0 false 0 false 0 0 false 0 false 0 false 0 false 0 false 0 false 0) (WQ.alloc (.cells (km false 0 0 0 0 false 0 false 0 0 false 0 false 0 false 0 false 0 false 0 false 0) 44)) (WQ.alloc (.cells (km false 0 0 0 0 false 0 false 0 0 false 0 false 0 false 0 false 0 false 0 false 0) 44))):=
  ⟨(HX1.o.keep hbQ).keep hbM,λj=>b8 _ _ _ _ rfl,λj=>by rw[l6];exact qk _ _ _ (a8 _),by omega,by simp,rfl,rfl,rfl,a8 _,λ_ _ _ _=>rfl⟩
 have HPP:Q_ ((WQ.alloc (.cells (km false 0 0 0 0 false 0 false 0 0 false 0 false 0 false 0 false 0 false 0 false 0) 44)).cell? ⟨w1.1.size,0,none⟩=some (.pointer (some ⟨g,0,none⟩))):=(n7 _ _ _ (by show _<_;omega)).trans pQ;have hbB:Below W0.1.size W0 (WQ.alloc (.cells (km false 0 0 0 0 false 0 false 0 0 false 0 false 0 false 0 false 0 false 0 false 0) 44)):=qb HB1.o (qb hbQ hbM)
 have HRW:Q_ ((∀o,(WQ.alloc (.cells (km false 0 0 0 0 false 0 false 0 0 false 0 false 0 false 0 false 0 false 0 false 0) 44)).cell? ⟨w.1.size,o,none⟩=(km false 0 0 0 0 false 0 false 0 0 false 0 false 0 false 0 false 0 false 0 false 0)[o]?) /\(∀o,(WQ.alloc (.cells (km false 0 0 0 0 false 0 false 0 0 false 0 false 0 false 0 false 0 false 0 false 0) 44)).frozen? ⟨w.1.size,o,none⟩=false)/\Below w.1.size w (WQ.alloc (.cells (km false 0 0 0 0 false 0 false 0 0 false 0 false 0 false 0 false 0 false 0 false 0) 44))):=
  ⟨λo=>((qy hbB).1 _ o om).trans (HR0.o o),λo=>((qy hbB).2 _ o om).trans (HR1.o o),b2x HB0.o (hbB.mono om)⟩
 have HLT:Q_ (w.1.size<g/\g<w1.1.size/\w1.1.size<WQ.1.size/\WQ.1.size<(WQ.alloc (.cells (km false 0 0 0 0 false 0 false 0 0 false 0 false 0 false 0 false 0 false 0 false 0) 44)).1.size):=⟨by omega,by omega,by omega,by simp⟩;clear hz0 hg1 hb1s hgl hbP hzP hbQ hzQ hbM hbB pQ p1 HX1 HB1 HG1 HR0 HR1 HZ0 HB0 hWP;go_upto_region 6 with fail;generalize hW:WQ.alloc (.cells (km false 0 0 0 0 false 0 false 0 0 false 0 false 0 false 0 false 0 false 0 false 0) 44)=W at *;clear hW;generalize WQ.1.size=M at *;generalize w1.1.size=P at *;have HP:Q_ (∀(X:World->Prop) C' wr,TkI X g M C' W wr->wr.cell? ⟨P,0,none⟩=some (.pointer (some ⟨g,0,none⟩))):=λX C' wr hk=>(hk.cell (by have:=HLT.o;omega) (by have:=HLT.o;omega) (by have:=HLT.o;omega)).trans HPP.o
 have HT1:=T0;clear T0 HPP;have p_:=HP.o _ _ _ HT1.o;go_wp2_with fail;refine(a0o h1 HT1.o.x).mono ?_;rintro r x1 ⟨rfl,hx,hf⟩;have HT2:=q_ (HT1.o.frm hx hf);clear hx hf HT1;clear p_;have m0:=HT2.o.c 0;have z0:=HT2.o.z 0;have m1:=HT2.o.c 1;have z1:=HT2.o.z 1;have m2:=HT2.o.c 2;have z2:=HT2.o.z 2;have m3:=HT2.o.c 3;have z3:=HT2.o.z 3;have m4:=HT2.o.c 4;have z4:=HT2.o.z 4;go_upto_region 7 with fail;have HT1:=aaz (ze (ze (ze (ze (ze HT2.o 0 (.bool cb) sm) 1 (.int .i64 ch) sm) 2 (.int .i64 cm) sm) 3 (.int .i64 cs) sm) 4 (.int .i64 cc) sm) (km cb ch cm cs cc false 0 false 0 0 false 0 false 0 false 0 false 0 false 0 false 0) rfl;clear HT2 m0 z0 m1 z1 m2 z2 m3 z3 m4 z4;generalize (((((x1.setCell ⟨M,0,none⟩ (.bool cb)).setCell ⟨M,1,none⟩ (.int .i64 ch)).setCell ⟨M,2,none⟩ (.int .i64 cm)).setCell ⟨M,3,none⟩ (.int .i64 cs)).setCell ⟨M,4,none⟩ (.int .i64 cc))=y1 at *
 go_wp2_with fail;refine(avz h2 HT1.o.x).mono ?_;rintro r x2 ⟨rfl,hx,hf⟩;have HT2:=q_ (HT1.o.frm hx hf);clear hx hf HT1;have m0:=HT2.o.c 5;have z0:=HT2.o.z 5;have m1:=HT2.o.c 6;have z1:=HT2.o.z 6;go_upto_region 8 with fail;have HT1:=aaz (ze (ze HT2.o 5 (.bool lb) sm) 6 (.int .i64 ln) sm) (km cb ch cm cs cc lb ln false 0 0 false 0 false 0 false 0 false 0 false 0 false 0) rfl;clear HT2 m0 z0 m1 z1;generalize ((x2.setCell ⟨M,5,none⟩ (.bool lb)).setCell ⟨M,6,none⟩ (.int .i64 ln))=y2 at *;go_wp2_with fail;refine(avz h3 HT1.o.x).mono ?_;rintro r x3 ⟨rfl,hx,hf⟩;have HT2:=q_ (HT1.o.frm hx hf);clear hx hf HT1;have m0:=HT2.o.c 7;have z0:=HT2.o.z 7;have m1:=HT2.o.c 8;have z1:=HT2.o.z 8;go_upto_region 9 with fail;have HT1:=aaz (ze (ze HT2.o 7 (.bool ob) sm) 8 (.int .i64 on) sm) (km cb ch cm cs cc lb ln ob on 0 false 0 false 0 false 0 false 0 false 0 false 0) rfl
 clear HT2 m0 z0 m1 z1;generalize ((x3.setCell ⟨M,7,none⟩ (.bool ob)).setCell ⟨M,8,none⟩ (.int .i64 on))=y3 at *;have p_:=HP.o _ _ _ HT1.o;go_wp2_with fail;refine(awd h4 HT1.o.x).mono ?_;rintro r x4 ⟨rfl,hx,hf⟩;have HT2:=q_ (HT1.o.frm hx hf);clear hx hf HT1;clear p_;have m0:=HT2.o.c 9;have z0:=HT2.o.z 9;go_upto_region 10 with fail;have HT1:=aaz (ze HT2.o 9 (.int .i64 q) sm) (km cb ch cm cs cc lb ln ob on q false 0 false 0 false 0 false 0 false 0 false 0) rfl;clear HT2 m0 z0;generalize (x4.setCell ⟨M,9,none⟩ (.int .i64 q))=y4 at *;go_wp2_with fail;refine(a0n _).mono ?_;rintro r x_ ⟨rfl,hb⟩;have HT2:=q_ (HT1.o.keep (Y:=qz g r4) (HT1.o.x.keep hb) hb);clear hb HT1;have HT1:=HT2;clear HT2;go_wp2_with fail;refine(kp h5 HT1.o.x).mono ?_;rintro r x5 ⟨rfl,hx,hf⟩;have HT2:=q_ (HT1.o.frm hx hf);clear hx hf HT1;have m0:=HT2.o.c 10;have z0:=HT2.o.z 10
 have m1:=HT2.o.c 11;have z1:=HT2.o.z 11;go_upto_region 11 with fail;have HT1:=aaz (ze (ze HT2.o 10 (.bool sb) sm) 11 (.int .i64 sn) sm) (km cb ch cm cs cc lb ln ob on q sb sn false 0 false 0 false 0 false 0 false 0) rfl;clear HT2 m0 z0 m1 z1;generalize ((x5.setCell ⟨M,10,none⟩ (.bool sb)).setCell ⟨M,11,none⟩ (.int .i64 sn))=y5 at *;go_wp2_with fail;refine(a0m _).mono ?_;rintro r x_ ⟨rfl,hb⟩;have HT2:=q_ (HT1.o.keep (Y:=qz g r5) (HT1.o.x.keep hb) hb);clear hb HT1;have HT1:=HT2;clear HT2;go_wp2_with fail;refine(kp h6 HT1.o.x).mono ?_;rintro r x6 ⟨rfl,hx,hf⟩;have HT2:=q_ (HT1.o.frm hx hf);clear hx hf HT1;have m0:=HT2.o.c 12;have z0:=HT2.o.z 12;have m1:=HT2.o.c 13;have z1:=HT2.o.z 13;go_upto_region 12 with fail;have HT1:=aaz (ze (ze HT2.o 12 (.bool hb) sm) 13 (.int .i64 hn) sm) (km cb ch cm cs cc lb ln ob on q sb sn hb hn false 0 false 0 false 0 false 0) rfl
 clear HT2 m0 z0 m1 z1;generalize ((x6.setCell ⟨M,12,none⟩ (.bool hb)).setCell ⟨M,13,none⟩ (.int .i64 hn))=y6 at *;go_wp2_with fail;refine(a5q _).mono ?_;rintro r x_ ⟨rfl,hb⟩;have HT2:=q_ (HT1.o.keep (Y:=qz g r6) (HT1.o.x.keep hb) hb);clear hb HT1;have HT1:=HT2;clear HT2;go_wp2_with fail;refine(kp h7 HT1.o.x).mono ?_;rintro r x7 ⟨rfl,hx,hf⟩;have HT2:=q_ (HT1.o.frm hx hf);clear hx hf HT1;have m0:=HT2.o.c 14;have z0:=HT2.o.z 14;have m1:=HT2.o.c 15;have z1:=HT2.o.z 15;go_upto_region 13 with fail;have HT1:=aaz (ze (ze HT2.o 14 (.bool ab) sm) 15 (.int .i64 an) sm) (km cb ch cm cs cc lb ln ob on q sb sn hb hn ab an false 0 false 0 false 0) rfl;clear HT2 m0 z0 m1 z1;generalize ((x7.setCell ⟨M,14,none⟩ (.bool ab)).setCell ⟨M,15,none⟩ (.int .i64 an))=y7 at *;have p_:=HP.o _ _ _ HT1.o;have m_0:=HT1.o.c 14;have m_1:=HT1.o.c 15;go_wp2_with fail;refine(anj h8 HT1.o.x).mono ?_
 rintro r x8 ⟨rfl,hx,hf⟩;have HT2:=q_ (HT1.o.frm hx hf);clear hx hf HT1;clear p_;clear m_0 m_1;have HT1:=HT2;clear HT2;go_upto_region 14 with fail;go_wp2_with fail;refine(awe _).mono ?_;rintro r x_ ⟨rfl,hb⟩;have HT2:=q_ (HT1.o.keep (Y:=qz g r8) (HT1.o.x.keep hb) hb);clear hb HT1;have HT1:=HT2;clear HT2;go_wp2_with fail;refine(kp h9 HT1.o.x).mono ?_;rintro r x9 ⟨rfl,hx,hf⟩;have HT2:=q_ (HT1.o.frm hx hf);clear hx hf HT1;have m0:=HT2.o.c 16;have z0:=HT2.o.z 16;have m1:=HT2.o.c 17;have z1:=HT2.o.z 17;go_upto_region 15 with fail;have HT1:=aaz (ze (ze HT2.o 16 (.bool gb) sm) 17 (.int .i64 gn) sm) (km cb ch cm cs cc lb ln ob on q sb sn hb hn ab an gb gn false 0 false 0) rfl;clear HT2 m0 z0 m1 z1;generalize ((x9.setCell ⟨M,16,none⟩ (.bool gb)).setCell ⟨M,17,none⟩ (.int .i64 gn))=y9 at *;have p_:=HP.o _ _ _ HT1.o;have m_0:=HT1.o.c 16;have m_1:=HT1.o.c 17
 go_wp2_with fail;refine(anj h10 HT1.o.x).mono ?_;rintro r x10 ⟨rfl,hx,hf⟩;have HT2:=q_ (HT1.o.frm hx hf);clear hx hf HT1;clear p_;clear m_0 m_1;have HT1:=HT2;clear HT2;go_upto_region 16 with fail;go_wp2_with fail;refine(a5p _).mono ?_;rintro r x_ ⟨rfl,hb⟩;have HT2:=q_ (HT1.o.keep (Y:=qz g r10) (HT1.o.x.keep hb) hb);clear hb HT1;have HT1:=HT2;clear HT2;go_wp2_with fail;refine(kp h11 HT1.o.x).mono ?_;rintro r x11 ⟨rfl,hx,hf⟩;have HT2:=q_ (HT1.o.frm hx hf);clear hx hf HT1;have m0:=HT2.o.c 18;have z0:=HT2.o.z 18;have m1:=HT2.o.c 19;have z1:=HT2.o.z 19;go_upto_region 17 with fail;have HT1:=aaz (ze (ze HT2.o 18 (.bool eb) sm) 19 (.int .i64 en) sm) (km cb ch cm cs cc lb ln ob on q sb sn hb hn ab an gb gn eb en false 0) rfl;clear HT2 m0 z0 m1 z1;generalize ((x11.setCell ⟨M,18,none⟩ (.bool eb)).setCell ⟨M,19,none⟩ (.int .i64 en))=y11 at *;go_wp2_with fail
 refine(ba8 _).mono ?_;rintro r x_ ⟨rfl,hb⟩;have HT2:=q_ (HT1.o.keep (Y:=qz g r11) (HT1.o.x.keep hb) hb);clear hb HT1;have HT1:=HT2;clear HT2;go_wp2_with fail;refine(kp h12 HT1.o.x).mono ?_;rintro r x12 ⟨rfl,hx,hf⟩;have HT2:=q_ (HT1.o.frm hx hf);clear hx hf HT1;have m0:=HT2.o.c 20;have z0:=HT2.o.z 20;have m1:=HT2.o.c 21;have z1:=HT2.o.z 21;go_upto_region 18 with fail;have HT1:=aaz (ze (ze HT2.o 20 (.bool tb) sm) 21 (.int .i64 tn) sm) (km cb ch cm cs cc lb ln ob on q sb sn hb hn ab an gb gn eb en tb tn) rfl;clear HT2 m0 z0 m1 z1;generalize ((x12.setCell ⟨M,20,none⟩ (.bool tb)).setCell ⟨M,21,none⟩ (.int .i64 tn))=y12 at *;generalize y12=y9 at *;obtain⟨E,hE⟩:∃E,r12.1=E:=⟨_,rfl⟩;have HER:=q_ (aqb HT1.o.x);rw[hE]at HER HT;clear hE;have p_:=HP.o _ _ _ HT1.o;have hr:∀j,y9.cell? ⟨w.1.size,j,none⟩=(km false 0 0 0 0 false 0 false 0 0 false 0 false 0 false 0 false 0 false 0 false 0)[j]?:=λj=>(HT1.o.cell (by have:=HLT.o;omega) (by have:=HLT.o;omega) (by have:=HLT.o;omega)).trans (HRW.o.1 j)
 have hf:∀j,y9.frozen? ⟨w.1.size,j,none⟩=false:=λj=>(HT1.o.frozen (by have:=HLT.o;omega) (by have:=HLT.o;omega) (by have:=HLT.o;omega)).trans (HRW.o.2.1 j)
 have HB9:Q_ (Below w.1.size w y9):=b2x HRW.o.2.2 (HT1.o.below (by have:=HLT.o;omega) (by have:=HLT.o;omega));have hm:=HT1.o.c;have HR:=q_ (show AtC y9 w.1.size (km false 0 0 0 0 false 0 false 0 0 false 0 false 0 false 0 false 0 false 0 false 0)from hr);have HRF:=q_ hf;have HRM:=q_ (a1q (show AtC y9 M (km cb ch cm cs cc lb ln ob on q sb sn hb hn ab an gb gn eb en tb tn)from hm));clear HT1 HRW HP hr hf hm;go_wp2_with fail;refine HER.o.mono ?_;rintro r w' ⟨rfl,rfl⟩;clear p_
 by_cases hE:E=0
 ·subst hE;have HX2:Q_ (X=(((cb,ch,cm,cs,cc),(lb,ln),(ob,on),q,(sb,sn),(hb,hn),(ab,an),(gb,gn),(eb,en),(tb,tn)),0)):=HT.o.trans (if_pos rfl);clear HT;go_upto_region 21 with fail
  try (apply b1q;intro K_ HK_)
  apply b20;refine b0q rfl _ _ rfl M 0 rfl (km cb ch cm cs cc lb ln ob on q sb sn hb hn ab an gb gn eb en tb tn).toList _ HRM.o underlying44 rfl aho ?_;refine b28 rfl _ _ _ rfl w.1.size 0 (km cb ch cm cs cc lb ln ob on q sb sn hb hn ab an gb gn eb en tb tn) rfl rfl (aas HR.o HRF.o rfl) aho (by simp[Value.oneCell']) ?_;have hY:=b1u y9 w.1.size 0 (km cb ch cm cs cc lb ln ob on q sb sn hb hn ab an gb gn eb en tb tn).toList (aas HR.o HRF.o rfl);have HBK:=q_ (aa2 (a8 _) (km cb ch cm cs cc lb ln ob on q sb sn hb hn ab an gb gn eb en tb tn).toList 0 y9 HB9.o);have hld:=aqh (C:=km cb ch cm cs cc lb ln ob on q sb sn hb hn ab an gb gn eb en tb tn) rfl hY;clear hY HR HRF HB9;generalize World.setCells y9 w.1.size 0 (km cb ch cm cs cc lb ln ob on q sb sn hb hn ab an gb gn eb en tb tn).toList=Y at *;have HLD:=q_ hld;clear hld
  go_wp2_with fail;refine b9 (v:=.tuple #[bjc cb ch cm cs cc lb ln ob on q sb sn hb hn ab an gb gn eb en tb tn,.int .i64 0]) (by rw[b1p rfl];simp[asAddr,Result.andThen,HLD.o]) rfl ?_;rw[HX2.o];exact⟨rfl,HBK.o⟩
 ·have hne:(E != 0)=true:=by rw[b0r];exact hE
  have HX2:Q_ (X=(aag,E)):=HT.o.trans (if_neg hE);clear hE HT;go_upto_region 20 with fail
  try (apply b1q;intro K_ HK_)
  apply b20;go_step;go_step;go_step;go_step;go_step;go_step;refine b28 rfl _ _ _ rfl w.1.size 0 (km false 0 0 0 0 false 0 false 0 0 false 0 false 0 false 0 false 0 false 0 false 0) rfl rfl (aas HR.o HRF.o rfl) aho (by simp[Value.oneCell']) ?_;have hY:=b1u y9 w.1.size 0 (km false 0 0 0 0 false 0 false 0 0 false 0 false 0 false 0 false 0 false 0 false 0).toList (aas HR.o HRF.o rfl);have HBK:=q_ (aa2 (a8 _) (km false 0 0 0 0 false 0 false 0 0 false 0 false 0 false 0 false 0 false 0 false 0).toList 0 y9 HB9.o);have hld:=aqh (C:=km false 0 0 0 0 false 0 false 0 0 false 0 false 0 false 0 false 0 false 0 false 0) rfl hY;clear hY HR HRF HB9;generalize World.setCells y9 w.1.size 0 (km false 0 0 0 0 false 0 false 0 0 false 0 false 0 false 0 false 0 false 0 false 0).toList=Y at *;have HLD:=q_ hld;clear hld;go_wp2_with fail;refine b9 (v:=.tuple #[bjc false 0 0 0 0 false 0 false 0 0 false 0 false 0 false 0 false 0 false 0 false 0,.int .i64 E]) (by rw[b1p rfl];simp[asAddr,Result.andThen,HLD.o]) rfl ?_
  rw[HX2.o];exact⟨rfl,HBK.o⟩
theorem ani (A:Option Addr) (n c:Nat) (w:World) (h:((n:Int) != 14)=true):Calls prog 102 #[.slice A n c] w (akn (aag,3) w):=by
 have HB9:=q_ (qa w (.cells (km false 0 0 0 0 false 0 false 0 0 false 0 false 0 false 0 false 0 false 0 false 0) 44));have HR:Q_ (AtC (w.alloc (.cells (km false 0 0 0 0 false 0 false 0 0 false 0 false 0 false 0 false 0 false 0 false 0) 44)) w.1.size (km false 0 0 0 0 false 0 false 0 0 false 0 false 0 false 0 false 0 false 0 false 0)):=λo=>b8 _ _ _ _ rfl
 have HRF:Q_ (∀o,(w.alloc (.cells (km false 0 0 0 0 false 0 false 0 0 false 0 false 0 false 0 false 0 false 0 false 0) 44)).frozen? ⟨w.1.size,o,none⟩=false):=λo=>by rw[l6];exact qk _ _ _ (a8 _)
 go_enter func102,ntmps102
 try dsimp only
 repeat (fail_if_success (show Code.wp _ (Code.seq (Code.region 1 _ _) _) _ _ _)
         first|go_values|go_skip|go_guarded|go_step|go_upon|go_back|(simp only[b3a,b3b]at *;go_simp)|(go_ite<;>go_prune<;>(try go_simp)))
 generalize hW0:w.alloc (.cells (km false 0 0 0 0 false 0 false 0 0 false 0 false 0 false 0 false 0 false 0 false 0) 44)=W0 at *;clear hW0;go_upto_region 2 with fail
 try (apply b1q;intro K_ HK_)
 apply b20;go_step;go_step;go_step;refine b28 rfl _ _ _ rfl w.1.size 0 (km false 0 0 0 0 false 0 false 0 0 false 0 false 0 false 0 false 0 false 0 false 0) rfl rfl (aas HR.o HRF.o rfl) aho (by simp[Value.oneCell']) ?_;have hY:=b1u W0 w.1.size 0 (km false 0 0 0 0 false 0 false 0 0 false 0 false 0 false 0 false 0 false 0 false 0).toList (aas HR.o HRF.o rfl);have HBK:=q_ (aa2 (a8 _) (km false 0 0 0 0 false 0 false 0 0 false 0 false 0 false 0 false 0 false 0 false 0).toList 0 W0 HB9.o);have hld:=aqh (C:=km false 0 0 0 0 false 0 false 0 0 false 0 false 0 false 0 false 0 false 0 false 0) rfl hY;clear hY HR HRF HB9;generalize World.setCells W0 w.1.size 0 (km false 0 0 0 0 false 0 false 0 0 false 0 false 0 false 0 false 0 false 0 false 0).toList=Y at *;have HLD:=q_ hld;clear hld;go_wp2_with fail;refine b9 (v:=.tuple #[bjc false 0 0 0 0 false 0 false 0 0 false 0 false 0 false 0 false 0 false 0 false 0,.int .i64 3]) (by rw[b1p rfl];simp[asAddr,Result.andThen,HLD.o]) rfl ?_
 exact⟨rfl,HBK.o⟩
theorem a0l (A:Option Addr) (R:List ByteArray) (c:Nat) (w:World) (hA:A=none->c=0) (hs:v6 w w.1.size A R) (hz:∀t∈R,t.size<=1100000):Calls prog 102 #[.slice A R.length c] w (akn (yh R) w):=by
 by_cases h:R.length=14
 ·exact a5o A R.length c R w rfl hA hs hz h
 ·rw[show yh R=(aag,3)from if_pos h];exact ani A R.length c w (by rw[b0r];omega)
theorem awy (A B:Option Addr) (n c d:Nat) (L:List Int) (w:World) (hn:Q_ (L.length=n)) (hA:Q_ (ahe w w.1.size A L)) (hB:Q_ (ahe w w.1.size B L)) (h0:n<=1100000) :
 Calls prog 51 #[.slice A n c,.slice B n d] w λe w'=>e=.returned (.bool true)/\Below w.1.size w w':=by
 have hb:((n:Int) != (n:Int))=false:=by rw[b0b]
 go_enter func51,ntmps51;go_wp2
 go_loopw [5] (λi wr=>∃k nq:Nat,k<=n/\i=.int .i64 k/\wr=w.drewN nq) (λi _=>n-(intOf i).toNat)
 case atStart=>exact⟨0,0,b0d _,rfl,rfl⟩
 case round=>
  obtain⟨k,nq,hk,rfl,rfl⟩:=hrel
  by_cases hlt:k<n
  ·have hkl:k<L.length:=by rw[hn.o];exact hlt
   obtain⟨b1,o1,hA1,hb1,hc1⟩:=hA.o k hkl;obtain⟨b2,o2,hA2,hb2,hc2⟩:=hB.o k hkl;subst hA1 hA2;generalize L[k]=v at *;have hv:(v != v)=false:=by rw[b0b]
   have i1:(0:Int) <=(k:Int):=o5 _;have i2:(k:Int)<(n:Int):=by omega
   clear hkl;go_wp2_with fail
   go_quiet (fail)
   go_wp2_with fail
   go_roundw
   case rel=>exact⟨k+1,_,by omega,by go_num,rfl⟩
   case measure=>simp[intOf];omega
  ·go_wp2_with fail;go_ret;exact⟨by rfl,aai (n9 _ _) _⟩
theorem awz (a:Bool) (f:Int) (b0:Bool) (n0:Int) (b1:Bool) (n1:Int) (b2:Bool) (n2:Int) (A B:Option Addr) (n c d:Nat) (L:List Int) (w:World) (hn:Q_ (L.length=n)) (hA:Q_ (ahe w w.1.size A L)) (hB:Q_ (ahe w w.1.size B L)) (h0:n<=1100000) :
 Calls prog 49 #[ba9 a f A n c b0 n0 b1 n1 b2 n2,ba9 a f B n d b0 n0 b1 n1 b2 n2] w λe w'=>e=.returned (.bool true)/\Below w.1.size w w':=by
 have hbb:Below w.1.size w ((w.alloc (.cells (ku a f A n c b0 n0 b1 n1 b2 n2) 51)).alloc (.cells (ku a f B n d b0 n0 b1 n1 b2 n2) 51)):=qb (qa _ _) (qa _ _)
 have HV:Q_ (Calls prog 51 #[.slice A n c,.slice B n d] ((w.alloc (.cells (ku a f A n c b0 n0 b1 n1 b2 n2) 51)).alloc (.cells (ku a f B n d b0 n0 b1 n1 b2 n2) 51)) λe w'=>e=.returned (.bool true)/\Below ((w.alloc (.cells (ku a f A n c b0 n0 b1 n1 b2 n2) 51)).alloc (.cells (ku a f B n d b0 n0 b1 n1 b2 n2) 51)).1.size ((w.alloc (.cells (ku a f A n c b0 n0 b1 n1 b2 n2) 51)).alloc (.cells (ku a f B n d b0 n0 b1 n1 b2 n2) 51)) w'):=
  awy A B n c d L _ hn ((hA.o.below hbb (a8 _)).more hbb.size) ((hB.o.below hbb (a8 _)).more hbb.size) h0
 have HB:=q_ hbb;have HC1:Q_ (∀o,((w.alloc (.cells (ku a f A n c b0 n0 b1 n1 b2 n2) 51)).alloc (.cells (ku a f B n d b0 n0 b1 n1 b2 n2) 51)).cell? ⟨w.1.size,o,none⟩=(ku a f A n c b0 n0 b1 n1 b2 n2)[o]?):=λo=>(n7 _ _ _ sm).trans (b8 _ _ _ _ rfl)
 have HC2:Q_ (∀o,((w.alloc (.cells (ku a f A n c b0 n0 b1 n1 b2 n2) 51)).alloc (.cells (ku a f B n d b0 n0 b1 n1 b2 n2) 51)).cell? ⟨w.1.size+1,o,none⟩=(ku a f B n d b0 n0 b1 n1 b2 n2)[o]?):=λo=>b8 _ _ _ _ sm
 have HZ:Q_ (((w.alloc (.cells (ku a f A n c b0 n0 b1 n1 b2 n2) 51)).alloc (.cells (ku a f B n d b0 n0 b1 n1 b2 n2) 51)).1.size=w.1.size+2):=by show _=_;simp
 have hv:(f==f)=true:=by simp
 have hv0:(n0==n0)=true:=by simp
 have hv1:(n1==n1)=true:=by simp
 have hv2:(n2==n2)=true:=by simp
 clear hA hB hbb;go_enter func49,ntmps49;go_wp2_with fail;refine HV.o.mono ?_;rintro r w1 ⟨rfl,hb1⟩;have hz:=HZ.o;have HC1':Q_ (∀o,w1.cell? ⟨w.1.size,o,none⟩=(ku a f A n c b0 n0 b1 n1 b2 n2)[o]?):=λo=>((qy hb1).1 _ o om).trans (HC1.o o)
 have HC2':Q_ (∀o,w1.cell? ⟨w.1.size+1,o,none⟩=(ku a f B n d b0 n0 b1 n1 b2 n2)[o]?):=λo=>((qy hb1).1 _ o om).trans (HC2.o o)
 have HB1:=q_ (qb HB.o hb1);clear hz hb1 HC1 HC2 HB HV HZ;have x3:=HC1'.o 3;have y3:=HC2'.o 3;have x4:=HC1'.o 4;have y4:=HC2'.o 4;have x5:=HC1'.o 5;have y5:=HC2'.o 5;have x6:=HC1'.o 6;have y6:=HC2'.o 6;have x7:=HC1'.o 7;have y7:=HC2'.o 7;have x8:=HC1'.o 8;have y8:=HC2'.o 8;go_wp2_with fail;go_ret;exact⟨by first|rfl|simp,HB1.o⟩
theorem a0s (A:Option Addr) (R:List ByteArray) (c:Nat) (w:World) (hA:A=none->c=0) (hs:v6 w w.1.size A R) (hz:∀t∈R,t.size<=1100000):Calls prog 104 #[.slice A R.length c] w (ako (jz R) w):=by
 by_cases h:R.length=17
 ·exact a5r A R.length c R w rfl hA hs hz h
 ·have:jz R=(yk,3):=by unfold jz;rw[if_pos h]
  rw[this];exact ank A R.length c w (by rw[b0r];omega)
theorem a23 (R:List ByteArray):(jz R).1.ids.length<=12:=by
 unfold jz
 split
 ·exact b0d _
 ·split
  ·exact auj 12 _
  ·exact b0d _
open Go.RowKit Go.Shelf
attribute [local go_sem] Oper.semAt_some
open Go.RowKit Go.Shelf
attribute [local go_sem] Oper.semAt_some
