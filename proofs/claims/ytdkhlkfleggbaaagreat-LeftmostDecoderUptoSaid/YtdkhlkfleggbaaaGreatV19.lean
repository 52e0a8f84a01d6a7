/- Parts. -/
import Derived.Test.YtdkhlkfleggbaaaGreatV12
namespace Go.Proofs.YtdkhlkfleggbaaaGreat
set_option maxHeartbeats 8000000
set_option maxRecDepth 8000
open Tryz
set_option linter.unusedVariables false
open Go.RowKit
theorem anl (A:Option Addr) (n c:Nat) (w:World) (hb:n<3\/19<n\/n%4≠3) (h3:n<=1100000):Calls prog 106 #[.slice A n c] w (akp (vv,3) w):=by
 by_cases h:(n:Int)<3
 ·clear hb;go_enter func106,ntmps106;go_wp2;exact b9 (v:=.tuple #[a5u 0 0 0 none 0 0,.int .i64 3]) (by simp[results,results106,go_sem]) rfl ⟨none,0,rfl,λk hk=>absurd hk (b04 _),qa _ _⟩
 ·have i0:(3:Int) <=(n:Int):=by omega
  clear h;go_enter func106,ntmps106;go_wp2
  all_goals try simp only[b0b,b0r]at *
  all_goals first|(exfalso;omega)|exact b9 (v:=.tuple #[a5u 0 0 0 none 0 0,.int .i64 3]) (by simp[results,results106,go_sem]) rfl ⟨none,0,rfl,λk hk=>absurd hk (b04 _),qa _ _⟩
def a38 (X:Rd->World->Prop) (g M:Nat) (T N S:Int) (L:List V4) (rs5:Rd) (W:World) (j:Nat) (wr:World):Prop:=
 ∃(D:List V4) (v:Value) (s:Rd),D ++(jx j s).1=L /\(jx j s).2=rs5/\s.2.length=4*j/\D.length+j<=4/\TkI (X s) g M #[.int .i64 T,.int .i64 N,.int .i64 S,v] W wr/\wr.ownsRow W.1.size 210 8 v D.length (agz D)
theorem a8h:(prog.info? 210).map (λi=>(i.zero,i.size,i.bytes))=some (some (.agg #[.bool false,.int .i64 0,.bool false,.int .i64 0,.bool false,.int .i64 0,.bool false,.int .i64 0]),8,64):=by kernel_rfl
theorem a5t (A:Option Addr) (n c k:Nat) (R:List ByteArray) (w:World) (hl:R.length=n) (hA:A=none->c=0) (hs:v6 w w.1.size A R) (hz:∀t∈R,t.size<=1100000) (hkn:Q_ (n=3+4*k)) (hk4:k<=4) :
 Calls prog 106 #[.slice A n c] w (akp (zx R) w):=by
 obtain⟨T,rs1,h1⟩:∃n u,Q_ (zl 1 9 (0,R)=(n,u)):=⟨_,_,rfl⟩;obtain⟨N,rs2,h2⟩:∃n u,Q_ (zl 1 T rs1=(n,u)):=⟨_,_,rfl⟩;obtain⟨b,S,rs3,h3⟩:∃b n u,Q_ (qu 1 2 0 0 99 rs2=((b,n),u)):=⟨_,_,_,rfl⟩;obtain⟨rs4,h4⟩:∃u,Q_ (u=if b=true then rs3 else xu 3 rs3):=⟨_,rfl⟩;obtain⟨L,rs5,h5⟩:∃l u,Q_ (jx k rs4=(l,u)):=⟨_,_,rfl⟩;obtain⟨X,hX⟩:∃X,zx R=X:=⟨_,rfl⟩;have HT:Q_ (X=if rs5.1=0 then(⟨T,N,S,L⟩,0)else(vv,rs5.1)):=hX.symm.trans (bbc (by have:=hkn.o;unfold avl;rw[hl];omega) (by have:=hkn.o;rw[hl];omega) h1 h2 h3 h4 h5);rw[hX];clear hX
 have hlen:rs4.2.length=4*k:=by
  have e3:rs3.2.length=4*k:=by
   rw[bg2 h3.o,aq0 h2.o,aq0 h1.o];have:=hkn.o;simp only[List.length_tail,hl];omega
  rw[h4.o]
  split
  ·exact e3
  ·exact e3
 have HLEN:=q_ hlen;have hS0:b=false->S=0:=λq=>by subst q;exact a1v h3.o
 have HS0:=q_ hS0;clear hlen hS0;have HB0:=q_ (qa w (.cells (agn 0 0 0 none 0 0) 56));have HL:=q_ (aky (c:=c) hA ((hs.below HB0.o (a8 _)).more HB0.o.size) (by have:=hkn.o;omega) hz);rw[hl]at HL;have hR0:∀o,(w.alloc (.cells (agn 0 0 0 none 0 0) 56)).cell? ⟨w.1.size,o,none⟩=(agn 0 0 0 none 0 0)[o]?:=λo=>b8 _ _ _ _ rfl
 have hR1:∀o,(w.alloc (.cells (agn 0 0 0 none 0 0) 56)).frozen? ⟨w.1.size,o,none⟩=false:=λo=>by rw[l6];exact qk _ _ _ (a8 _)
 have HR0:=q_ hR0;have HR1:=q_ hR1;have HZ0:Q_ ((w.alloc (.cells (agn 0 0 0 none 0 0) 56)).1.size=w.1.size+1):=by show _=_;simp
 clear hs hA hz hR0 hR1 hl;have i0:(3:Int) <=(n:Int):=by have:=hkn.o;omega
 have i1:(n:Int)<=19:=by have:=hkn.o;omega
 go_enter func106,ntmps106
 try dsimp only
 repeat (fail_if_success (show Code.wp _ (Code.seq (Code.region 2 _ _) _) _ _ _)
         first|go_values|go_skip|go_guarded|go_step|go_upon|go_back|(simp only[b3a,b3b]at *;go_simp)|(go_ite<;>go_prune<;>(try go_simp)))
 go_cut [] (λwx=>wx=w.alloc (.cells (agn 0 0 0 none 0 0) 56))
 case first=>
  go_wp2_with fail
  all_goals first|(exfalso;have:=hkn.o;omega)|(go_meet;rfl)
 case rest=>
 subst hcut;generalize hW0:w.alloc (.cells (agn 0 0 0 none 0 0) 56)=W0 at *;clear hW0;go_wp2_with fail;refine HL.o.mono ?_;rintro r w1 ⟨g,rfl,hx1,hg1,hz1,hb1⟩;have hb3:=qa w1 (.cells (agn 0 0 0 none 0 0) 56);have hz0:=HZ0.o;have T0:TkI (qz g (0,R)) g w1.1.size (agn 0 0 0 none 0 0) (w1.alloc (.cells (agn 0 0 0 none 0 0) 56)) (w1.alloc (.cells (agn 0 0 0 none 0 0) 56)):=⟨hx1.keep hb3,λj=>b8 _ _ _ _ rfl,λj=>by rw[l6];exact qk _ _ _ (a8 _),by omega,by simp,rfl,rfl,rfl,a8 _,λ_ _ _ _=>rfl⟩;have hq:(w1.alloc (.cells (agn 0 0 0 none 0 0) 56)).1.size=w1.1.size+1:=by simp
 have HRR:Q_ (∀(Y:World->Prop) C' wr,TkI Y g w1.1.size C' (w1.alloc (.cells (agn 0 0 0 none 0 0) 56)) wr ->(∀o,wr.cell? ⟨w.1.size,o,none⟩=(agn 0 0 0 none 0 0)[o]?) /\(∀o,wr.frozen? ⟨w.1.size,o,none⟩=false)/\Below w.1.size w wr):=λY C' wr hk=>
  have h03:=qb hb1 hb3
  ⟨λo=>(hk.cell om om om).trans (((qy h03).1 _ o om).trans (HR0.o o)),λo=>(hk.frozen om om om).trans (((qy h03).2 _ o om).trans (HR1.o o)),b2x (HB0.o.trans (h03.mono om)) (hk.below om om)⟩
 have HWw:Q_ (w.1.size<(w1.alloc (.cells (agn 0 0 0 none 0 0) 56)).1.size):=by show _<_;have:=hb1.size;omega
 have HWM:Q_ (w1.1.size<(w1.alloc (.cells (agn 0 0 0 none 0 0) 56)).1.size):=by show _<_;omega
 have HGM:Q_ (g<w1.1.size):=by show _<_;omega
 have HT0:=q_ T0;clear T0 hz0 hq hb3 hx1 hg1 hz1 hb1 HL HR0 HR1 HZ0 HB0;go_upto_region 6 with fail;generalize hW3:w1.alloc (.cells (agn 0 0 0 none 0 0) 56)=W at *;generalize w1.1.size=M at *;clear hW3;go_wp2_with fail;refine(ajc h1 HT0.o.x).mono ?_;rintro r x0 ⟨rfl,hx,hf⟩;have hT:=HT0.o.frm hx hf;have m0:=hT.c 0;have z0:=hT.z 0;have HT1:=q_ hT;clear hT hx hf HT0;go_wp2_with fail;have hp:=HT1.o.put (o:=0) (u:=.int .i64 T) sm (HT1.o.x.far HGM.o);have e:∀C:Array Value,C=#[.int .i64 T,.int .i64 0,.int .i64 0,.slice none 0 0]->TkI (qz g rs1) g M C W (x0.setCell ⟨M,0,none⟩ (.int .i64 T)):=λC hC=>by subst hC;exact hp
 have HT0:=q_ (e _ rfl);clear e hp m0 z0 HT1;generalize x0.setCell ⟨M,0,none⟩ (.int .i64 T)=y0 at *;have m0:=HT0.o.c 0;go_wp2_with fail;refine(ajc h2 HT0.o.x).mono ?_;rintro r x1 ⟨rfl,hx,hf⟩;have hT:=HT0.o.frm hx hf;have m1:=hT.c 1;have z1:=hT.z 1;have HT1:=q_ hT;clear hT hx hf HT0;go_wp2_with fail;have hp:=HT1.o.put (o:=1) (u:=.int .i64 N) sm (HT1.o.x.far HGM.o);have e:∀C:Array Value,C=#[.int .i64 T,.int .i64 N,.int .i64 0,.slice none 0 0]->TkI (qz g rs2) g M C W (x1.setCell ⟨M,1,none⟩ (.int .i64 N)):=λC hC=>by subst hC;exact hp
 have HT0:=q_ (e _ rfl);clear e hp m0 m1 z1 HT1;generalize x1.setCell ⟨M,1,none⟩ (.int .i64 N)=y1 at *;go_wp2_with fail;refine(a0y _).mono ?_;rintro r x2 ⟨rfl,hb⟩;have HT1:=q_ (HT0.o.keep (Y:=qz g rs2) (HT0.o.x.keep hb) hb);clear hb HT0;go_wp2_with fail;refine(kp h3 HT1.o.x).mono ?_;rintro r x3 ⟨rfl,hx,hf⟩;have HT2:=q_ (HT1.o.frm hx hf);clear hx hf HT1;have hbn:=qa x3 (.cells #[.bool b,.int .i64 S] 42);have HNB:Q_ (∀o,(x3.alloc (.cells #[.bool b,.int .i64 S] 42)).cell? ⟨x3.1.size,o,none⟩=(#[Value.bool b,.int .i64 S]:Array Value)[o]?):=λo=>b8 _ _ _ _ rfl
 have HT3:=q_ (HT2.o.keep (Y:=qz g rs3) (HT2.o.x.keep hbn) hbn);have HZ3:Q_ (x3.1.size<(x3.alloc (.cells #[.bool b,.int .i64 S] 42)).1.size/\M<x3.1.size):=⟨by simp,HT2.o.mz⟩;clear hbn HT2
 try dsimp only
 repeat (fail_if_success (show Code.wp _ (Code.seq (Code.region 9 _ _) _) _ _ _)
         first|go_values|go_skip|go_guarded|go_step|go_upon|go_back|(simp only[b3a,b3b]at *;go_simp)|(go_ite<;>go_prune<;>(try go_simp)))
 generalize hx4:x3.alloc (.cells #[.bool b,.int .i64 S] 42)=x4 at *;generalize x3.1.size=NB at *;clear hx4
 go_cut [] (λwx=>Q_ (TkI (qz g rs4) g M #[.int .i64 T,.int .i64 N,.int .i64 0,.slice none 0 0] W wx /\(∀o,wx.cell? ⟨NB,o,none⟩=(#[Value.bool b,.int .i64 S]:Array Value)[o]?)))
 case first=>
  have q0:=HNB.o 0;have q1:=HNB.o 1;cases hbb:b with
  | true=>
   have HU:Q_ (rs4=rs3):=by show _=_;rw[h4.o,hbb];rfl
   subst hbb;go_wp2_with fail
   go_meet
   rw[HU.o];exact q_ ⟨HT3.o,HNB.o⟩
  | false=>
   have HU:Q_ (rs4=xu 3 rs3):=by show _=_;rw[h4.o,hbb];rfl
   have hSz:=HS0.o hbb;subst hbb hSz;go_wp2_with fail;refine(xp rfl HT3.o.x).mono ?_;rintro r x5 ⟨rfl,hx,hf⟩;have HX:Q_ (TkI (qz g rs4) g M #[.int .i64 T,.int .i64 N,.int .i64 0,.slice none 0 0] W x5 /\(∀o,x5.cell? ⟨NB,o,none⟩=(#[Value.bool false,.int .i64 0]:Array Value)[o]?)):=⟨HT3.o.frm (by rw[HU.o];exact hx) hf,λo=>(qj hf HZ3.o.1 (by have:=HZ3.o.2;have:=HGM.o;omega) o).trans (HNB.o o)⟩;clear hx hf;go_wp2_with fail
   go_meet
   exact HX
 case rest=>
 obtain⟨hT4,hnb⟩:=hcut.o;have HT4:=q_ hT4;have q0:=hnb 0;have q1:=hnb 1;have m2:=hT4.c 2;have z2:=hT4.z 2;clear hcut hT4 hnb HT3 HNB HZ3 HS0;go_wp2_with fail;have hp:=HT4.o.put (o:=2) (u:=.int .i64 S) sm (HT4.o.x.far HGM.o);have HT5:=q_ (show TkI (qz g rs4) g M #[.int .i64 T,.int .i64 N,.int .i64 S,.slice none 0 0] W _ from hp);have HI0:Q_ (a38 (qz g) g M T N S L rs5 W k _):=⟨[],_,rs4,by rw[h5.o];rfl,by rw[h5.o],HLEN.o,by simpa using hk4,HT5.o,b2p _ _ _ _⟩;clear hp m2 z2 q0 q1 HT4 HT5 HLEN
 go_loopg [8] k (λj _ wr=>Q_ (a38 (qz g) g M T N S L rs5 W j wr))
 case atStart=>exact HI0
 case round=>
  clear HI0;obtain⟨D,v,s,hD,hu,hls,hd4,hT,hown⟩:=hrel.o
  by_cases hj:gk=0
  ·subst hj;have HLF:=q_ (akx hT.x);rw[hls]at HLF
   have HD:Q_ (D=L/\s=rs5):=by
    refine⟨?_,hu⟩;rw[<- hD];simp[jx]
   have HTT:=q_ hT;have HOWN:=q_ hown;clear hD hu hls hd4 hT hown hrel;go_wp2_with fail;refine HLF.o.mono ?_;rintro r w' ⟨rfl,rfl⟩;obtain⟨hr,hf,hb⟩:=HRR.o _ _ _ HTT.o;have HB:=q_ hb;have hm:=HTT.o.c;obtain⟨rfl,rfl⟩:=HD.o;obtain⟨A2,c2,rfl,hvw,hfr,-⟩:=a8l HOWN.o;have HVW:=q_ hvw;have HVF:Q_ (∀b1 o1,A2=some ⟨b1,o1,none⟩->w.1.size≠b1):=λb1 o1 e q=>by have h9:=hfr _ e;have:=HWw.o;simp only at h9;omega
   clear hfr;have r0:=hr 0;have r1:=hr 1;have r2:=hr 2;have r3:=hr 3;have f0:=hf 0;have f1:=hf 1;have f2:=hf 2;have f3:=hf 3;have m0:=hm 0;have m1:=hm 1;have m2:=hm 2;have m3:=hm 3;have HR:=q_ (show AtC _ w.1.size (agn 0 0 0 none 0 0)from hr);have HX:=q_ HTT.o.x;clear hr hf hm hb hvw HRR HOWN HTT;obtain⟨E,hE⟩:∃E,s.1=E:=⟨_,rfl⟩;rw[hE]at HT;have HER:=q_ (aqb HX.o);rw[hE]at HER;clear hE;go_wp2_with fail;refine HER.o.mono ?_;rintro r w' ⟨rfl,rfl⟩
   by_cases hE:E=0
   ·subst hE;have HX2:Q_ (X=(⟨T,N,S,D⟩,0)):=HT.o.trans (if_pos rfl);clear HT;have K:=((((HR.o.set 0 (.int .i64 T) sm).set 1 (.int .i64 N) sm).set 2 (.int .i64 S) sm).set 3 (.slice A2 D.length c2) sm);have k0:=K 0;have k1:=K 1;have k2:=K 2;have k3:=K 3;simp at k0 k1 k2 k3;go_wp2_with fail;refine b9 (v:=.tuple #[a5u T N S A2 D.length c2,.int .i64 0]) (by simp[results,results106,go_sem,k0,k1,k2,k3]) rfl ?_;rw[HX2.o];refine⟨A2,c2,rfl,?_,(qv (qv (qv (qv HB.o (a8 _)) (a8 _)) (a8 _)) (a8 _))⟩;exact λk hk=>by obtain⟨b1,o1,e1,e2,e3⟩:=HVW.o k hk;exact⟨b1,o1,e1,by simpa using e2,λj u hu=>(a9 _ _ _ _ (λq=>by injection q with q;exact HVF.o b1 o1 e1 q)).trans ((a9 _ _ _ _ (λq=>by injection q with q;exact HVF.o b1 o1 e1 q)).trans ((a9 _ _ _ _ (λq=>by injection q with q;exact HVF.o b1 o1 e1 q)).trans ((a9 _ _ _ _ (λq=>by injection q with q;exact HVF.o b1 o1 e1 q)).trans (e3 j u hu))))⟩
   ·have hne:(E != 0)=true:=by rw[b0r];exact hE
    have HX2:Q_ (X=(vv,E)):=HT.o.trans (if_neg hE);clear hE HT;have K:=((((HR.o.set 0 (.int .i64 0) sm).set 1 (.int .i64 0) sm).set 2 (.int .i64 0) sm).set 3 (.slice none 0 0) sm);have k0:=K 0;have k1:=K 1;have k2:=K 2;have k3:=K 3;simp at k0 k1 k2 k3;go_wp2_with fail;refine b9 (v:=.tuple #[a5u 0 0 0 none 0 0,.int .i64 E]) (by simp[results,results106,go_sem,k0,k1,k2,k3]) rfl ?_;rw[HX2.o];exact⟨none,0,rfl,λk hk=>absurd hk (b04 _),(qv (qv (qv (qv HB.o (a8 _)) (a8 _)) (a8 _)) (a8 _))⟩
  ·obtain⟨j,rfl⟩:∃j,gk=j+1:=⟨gk-1,by omega⟩;obtain⟨b0,n0,q1,e0⟩:∃b n u,Q_ (qu 1 3 0 1 255 s=((b,n),u)):=⟨_,_,_,rfl⟩;obtain⟨b1,n1,q2,e1⟩:∃b n u,Q_ (qu 1 2 0 0 90 q1=((b,n),u)):=⟨_,_,_,rfl⟩;obtain⟨b2,n2,q3,e2⟩:∃b n u,Q_ (qu 1 3 0 0 359 q2=((b,n),u)):=⟨_,_,_,rfl⟩;obtain⟨b3,n3,q4,e3⟩:∃b n u,Q_ (qu 1 2 0 0 99 q3=((b,n),u)):=⟨_,_,_,rfl⟩
   have hvw:aal s=(((b0,n0),(b1,n1),(b2,n2),(b3,n3)),q4):=by
    unfold aal;rw[e0.o];simp only;rw[e1.o];simp only;rw[e2.o];simp only;rw[e3.o]
   have HD:Q_ ((D++[((b0,n0),(b1,n1),(b2,n2),(b3,n3))]) ++(jx j q4).1=L /\(jx j q4).2=rs5/\q4.2.length=4*j):=by
    refine⟨?_,?_,by rw[a1w hvw];omega⟩
    ·rw[<- hD];simp only[jx,hvw];simp
    ·rw[<- hu];simp only[jx,hvw]
   have HLF:=q_ (akx hT.x);obtain⟨m,hm⟩:∃m,s.2.length=m:=⟨_,rfl⟩;rw[hm]at HLF;have i1:(0:Int)<(m:Int):=by omega
   have HTT:=q_ hT;have HOWN:=q_ hown;clear hvw hD hu hls hT hown hrel hm;go_wp2_with fail;refine HLF.o.mono ?_;rintro r w' ⟨rfl,rfl⟩;have hbv:=qa wr (.cells #[.bool false,.int .i64 0,.bool false,.int .i64 0,.bool false,.int .i64 0,.bool false,.int .i64 0] 210);have T9:TkI (qz g s) g wr.1.size #[.bool false,.int .i64 0,.bool false,.int .i64 0,.bool false,.int .i64 0,.bool false,.int .i64 0] (wr.alloc (.cells #[.bool false,.int .i64 0,.bool false,.int .i64 0,.bool false,.int .i64 0,.bool false,.int .i64 0] 210)) (wr.alloc (.cells #[.bool false,.int .i64 0,.bool false,.int .i64 0,.bool false,.int .i64 0,.bool false,.int .i64 0] 210)):=⟨HTT.o.x.keep hbv,λj=>b8 _ _ _ _ rfl,λj=>by rw[l6];exact qk _ _ _ (a8 _),HTT.o.x.lt,by simp,rfl,rfl,rfl,a8 _,λ_ _ _ _=>rfl⟩;have HV:=q_ HTT.o.x.lt;have HT0:=q_ T9;clear T9 hbv HLF
   go_upto_region 14 with fail;generalize hW9:wr.alloc (.cells #[.bool false,.int .i64 0,.bool false,.int .i64 0,.bool false,.int .i64 0,.bool false,.int .i64 0] 210)=W9 at HT0;have HW9:=q_ hW9
   try rw[hW9]
   generalize hVV:wr.1.size=VV at HT0 HV;have HVV:=q_ hVV
   try rw[hVV]
   clear hW9 hVV;go_wp2_with fail;refine(bbd _).mono ?_;rintro r x0 ⟨rfl,hb⟩;have HT1:=q_ (HT0.o.keep (Y:=qz g s) (HT0.o.x.keep hb) hb);clear hb HT0;go_wp2_with fail;refine(kp e0 HT1.o.x).mono ?_;rintro r y0 ⟨rfl,hx,hf⟩;have hT2:=HT1.o.frm hx hf;have m0:=hT2.c 0;have m1:=hT2.c 1;have z0:=hT2.z 0;have z1:=hT2.z 1;simp only[b2j,b2m,b3k]at m0 m1;have HT2:=q_ hT2;clear hT2 hx hf HT1;go_wp2_with fail;have hx2:=((HT2.o.x.far (G:=VV) (o:=0) (u:=.bool b0) HV.o).far (G:=VV) (o:=1) (u:=.int .i64 n0) HV.o);have hT3:=HT2.o.store (C':=#[Value.bool b0,.int .i64 n0,Value.bool false,.int .i64 0,Value.bool false,.int .i64 0,Value.bool false,.int .i64 0]) (o:=0) rfl rfl (λj=>by rcases j with _|_|_|_|_|_|_|_|j<;>simp) hx2;clear m0 m1 z0 z1 hx2;generalize ((y0.setCell ⟨VV,0,none⟩ (.bool b0)).setCell ⟨VV,1,none⟩ (.int .i64 n0))=v0 at *
   have HT0:=q_ hT3;clear hT3 HT2;go_wp2_with fail;refine(a0x _).mono ?_;rintro r x1 ⟨rfl,hb⟩;have HT1:=q_ (HT0.o.keep (Y:=qz g q1) (HT0.o.x.keep hb) hb);clear hb HT0;go_wp2_with fail;refine(kp e1 HT1.o.x).mono ?_;rintro r y1 ⟨rfl,hx,hf⟩;have hT2:=HT1.o.frm hx hf;have m0:=hT2.c 2;have m1:=hT2.c 3;have z0:=hT2.z 2;have z1:=hT2.z 3;simp only[b2j,b2m,b3k]at m0 m1;have HT2:=q_ hT2;clear hT2 hx hf HT1;go_wp2_with fail;have hx2:=((HT2.o.x.far (G:=VV) (o:=2) (u:=.bool b1) HV.o).far (G:=VV) (o:=3) (u:=.int .i64 n1) HV.o);have hT3:=HT2.o.store (C':=#[Value.bool b0,.int .i64 n0,Value.bool b1,.int .i64 n1,Value.bool false,.int .i64 0,Value.bool false,.int .i64 0]) (o:=2) rfl rfl (λj=>by rcases j with _|_|_|_|_|_|_|_|j<;>simp) hx2;clear m0 m1 z0 z1 hx2;generalize ((y1.setCell ⟨VV,2,none⟩ (.bool b1)).setCell ⟨VV,3,none⟩ (.int .i64 n1))=v1 at *
   have HT0:=q_ hT3;clear hT3 HT2;go_wp2_with fail;refine(a0w _).mono ?_;rintro r x2 ⟨rfl,hb⟩;have HT1:=q_ (HT0.o.keep (Y:=qz g q2) (HT0.o.x.keep hb) hb);clear hb HT0;go_wp2_with fail;refine(kp e2 HT1.o.x).mono ?_;rintro r y2 ⟨rfl,hx,hf⟩;have hT2:=HT1.o.frm hx hf;have m0:=hT2.c 4;have m1:=hT2.c 5;have z0:=hT2.z 4;have z1:=hT2.z 5;simp only[b2j,b2m,b3k]at m0 m1;have HT2:=q_ hT2;clear hT2 hx hf HT1;go_wp2_with fail;have hx2:=((HT2.o.x.far (G:=VV) (o:=4) (u:=.bool b2) HV.o).far (G:=VV) (o:=5) (u:=.int .i64 n2) HV.o);have hT3:=HT2.o.store (C':=#[Value.bool b0,.int .i64 n0,Value.bool b1,.int .i64 n1,Value.bool b2,.int .i64 n2,Value.bool false,.int .i64 0]) (o:=4) rfl rfl (λj=>by rcases j with _|_|_|_|_|_|_|_|j<;>simp) hx2;clear m0 m1 z0 z1 hx2;generalize ((y2.setCell ⟨VV,4,none⟩ (.bool b2)).setCell ⟨VV,5,none⟩ (.int .i64 n2))=v2 at *
   have HT0:=q_ hT3;clear hT3 HT2;go_wp2_with fail;refine(awg _).mono ?_;rintro r x3 ⟨rfl,hb⟩;have HT1:=q_ (HT0.o.keep (Y:=qz g q3) (HT0.o.x.keep hb) hb);clear hb HT0;go_wp2_with fail;refine(kp e3 HT1.o.x).mono ?_;rintro r y3 ⟨rfl,hx,hf⟩;have hT2:=HT1.o.frm hx hf;have m0:=hT2.c 6;have m1:=hT2.c 7;have z0:=hT2.z 6;have z1:=hT2.z 7;simp only[b2j,b2m,b3k]at m0 m1;have HT2:=q_ hT2;clear hT2 hx hf HT1;go_upto_region 18 with fail;have hx2:=((HT2.o.x.far (G:=VV) (o:=6) (u:=.bool b3) HV.o).far (G:=VV) (o:=7) (u:=.int .i64 n3) HV.o);have hT3:=HT2.o.store (C':=#[Value.bool b0,.int .i64 n0,Value.bool b1,.int .i64 n1,Value.bool b2,.int .i64 n2,Value.bool b3,.int .i64 n3]) (o:=6) rfl rfl (λj=>by rcases j with _|_|_|_|_|_|_|_|j<;>simp) hx2;clear m0 m1 z0 z1 hx2;generalize ((y3.setCell ⟨VV,6,none⟩ (.bool b3)).setCell ⟨VV,7,none⟩ (.int .i64 n3))=v3 at *
   have HT0:=q_ hT3;clear hT3 HT2
   have hT4:TkI (qz g q4) g wr.1.size #[Value.bool b0,.int .i64 n0,.bool b1,.int .i64 n1,.bool b2,.int .i64 n2,.bool b3,.int .i64 n3] (wr.alloc (.cells #[.bool false,.int .i64 0,.bool false,.int .i64 0,.bool false,.int .i64 0,.bool false,.int .i64 0] 210)) v3:=by
    have q:=HT0.o;rw[<- HVV.o,<- HW9.o]at q;exact q
   have hF4:=ba4 hT4;have hFN:=hF4.then_below (qa v3 (.cells #[Value.bool b0,.int .i64 n0,.bool b1,.int .i64 n1,.bool b2,.int .i64 n2,.bool b3,.int .i64 n3] 210));have hvo:∀k,v.ownBlock=some k->W.1.size<=k:=λk hk=>(HOWN.o.lt k hk).1
   have hgW:g<W.1.size:=by have:=HWM.o;have:=HGM.o;omega
   have hown5:=auc HOWN.o hFN (λq=>by have:=hvo _ q;omega);have m3:=(qj hF4 HTT.o.mz (by have:=HGM.o;omega) 3).trans (HTT.o.c 3)
   have hnews:∀j u,(j5 ((b0,n0),(b1,n1),(b2,n2),(b3,n3)))[j]?=some u ->(v3.alloc (.cells #[Value.bool b0,.int .i64 n0,.bool b1,.int .i64 n1,.bool b2,.int .i64 n2,.bool b3,.int .i64 n3] 210)).cell? ((⟨v3.1.size,0,none⟩:Addr).add j)=some u:=λj u hu=>by
    have e1:(⟨v3.1.size,0,none⟩:Addr).add j=⟨v3.1.size,j,none⟩:=by unfold Addr.add;split<;>simp_all
    rw[e1,b8 _ _ _ _ rfl,<- hu];simp only[b2j];rfl
   have HF4:=q_ hF4;have HFN:=q_ hFN;have HO5:=q_ hown5;have HVO:=q_ hvo;have HNW:=q_ hnews;have hcw:=HT0.o.c;have w0:=hcw 0;have w1':=hcw 1;have w2:=hcw 2;have w3:=hcw 3;have w4:=hcw 4;have w5:=hcw 5;have w6:=hcw 6;have w7:=hcw 7;have HX4:=q_ HT0.o.x;have HWV:Q_ (W.1.size <=(v3.alloc (.cells #[Value.bool b0,.int .i64 n0,.bool b1,.int .i64 n1,.bool b2,.int .i64 n2,.bool b3,.int .i64 n3] 210)).1.size):=by show _<=_;exact p9 HTT.o.size hFN.size
   obtain⟨i0,hi,hz0',hz1',hz2'⟩:=anm a8h;clear hT4 hF4 hFN hvo hgW hown5 hnews hcw HT0 HW9 HVV;go_wp2_with (at_builtin;refine wpList_append_lies _ rfl _ _ 54 rfl W.1.size 210 i0 (.agg #[.bool false,.int .i64 0,.bool false,.int .i64 0,.bool false,.int .i64 0,.bool false,.int .i64 0]) 8 64 underlying54 hi hz0' hz1' hz2' rfl dc _ _ _ rfl HO5.o ⟨v3.1.size,0,none⟩ 1 1 (j5 ((b0,n0),(b1,n1),(b2,n2),(b3,n3))) rfl rfl HNW.o ?c2 dc ?c3 ?c4 HWV.o _ rfl ?_)
   case c2=>intro u hu;simp[j5]at hu;rcases hu with rfl|rfl|rfl|rfl|rfl|rfl|rfl|rfl<;>rfl
   case c3=>unfold maxLen;omega
   case c4=>omega
   intro g2 cap w6' hown' hgrow hlies hg2
   have hFG:Frm g v v3 w6':=by
    have q1:=(Frm.of_below (g:=g) (v:=v) (qa v3 (.cells #[Value.bool b0,.int .i64 n0,.bool b1,.int .i64 n1,.bool b2,.int .i64 n2,.bool b3,.int .i64 n3] 210)));exact q1.trans (at0 hgrow) (.inl rfl)
   have hx6:qz g q4 w6':=(HX4.o.keep (qa v3 (.cells #[Value.bool b0,.int .i64 n0,.bool b1,.int .i64 n1,.bool b2,.int .i64 n2,.bool b3,.int .i64 n3] 210))).grow (g':=M) (at0 hgrow) HGM.o (λk hk=>by have:=HVO.o k hk;have:=HWM.o;have:=HGM.o;omega)
   have hFW:Frm g v wr w6':=by
    have q:Frm g v wr v3:=⟨HF4.o.os,HF4.o.tape,HF4.o.output,HF4.o.size,λk h1 h2 _=>HF4.o.block k h1 h2 (by simp[Value.ownBlock])⟩;exact q.trans hFG (.inl rfl)
   have hT6:=HTT.o.grow (Y:=qz g q4) HWM.o hFW HVO.o hx6;have m6:=hT6.c 3;have z6:=hT6.z 3;have hp:=hT6.put (o:=3) (u:=.slice (some ⟨g2,0,none⟩) (D.length+1) cap) sm (hx6.far HGM.o);have e:∀C:Array Value,C=#[.int .i64 T,.int .i64 N,.int .i64 S,.slice (some ⟨g2,0,none⟩) (D.length+1) cap]->TkI (qz g q4) g M C W (w6'.setCell ⟨M,3,none⟩ (.slice (some ⟨g2,0,none⟩) (D.length+1) cap)):=λC hC=>by subst hC;exact hp
   have hown7:(w6'.setCell ⟨M,3,none⟩ (.slice (some ⟨g2,0,none⟩) (D.length+1) cap)).ownsRow W.1.size 210 8 (.slice (some ⟨g2,0,none⟩) (D.length+1) cap) (D++[((b0,n0),(b1,n1),(b2,n2),(b3,n3))]).length (agz (D++[((b0,n0),(b1,n1),(b2,n2),(b3,n3))])):=by
    rw[e9,a3n];exact auc hown' (g:=M) ((Frm.of_below (n9 _ _)).set _ _) (λq=>by have:=(hown'.lt M q).1;have:=HWM.o;omega)
   have HNEXT:Q_ (a38 (qz g) g M T N S L rs5 W j (w6'.setCell ⟨M,3,none⟩ (.slice (some ⟨g2,0,none⟩) (D.length+1) cap))):=⟨_,_,q4,HD.o.1,HD.o.2.1,HD.o.2.2,by simp;omega,e _ rfl,hown7⟩;clear e hp hown7 hT6 hFW hx6 hFG hown' hgrow hlies hg2 m3 w0 w1' w2 w3 w4 w5 w6 w7;go_wp2_with fail
   go_roundg j
   case measure=>omega
   case rel=>exact HNEXT
