/- Parts. -/
import Derived.Test.YtdkhlkfleggbaaaGreatQ22
namespace Go.Proofs.YtdkhlkfleggbaaaGreat
set_option maxHeartbeats 8000000
set_option maxRecDepth 8000
open Lib (hid)
open Tryz
set_option linter.unusedVariables false
open Go.RowKit
theorem amt (A:Option Addr) (n c:Nat) (w:World) (hb:n<3∨19<n∨n%4≠3) (h3:n≤1000000):Calls prog 106 #[.slice A n c] w (aj1 (vt,3) w):=by
 by_cases h:(n:Int)<3
 ·clear hb;go_enter func106,ntmps106;go_wp2;exact bodyPost_ret (v:=.tuple #[a37 0 0 0 none 0 0,.int .i64 3]) (by simp[results,results106,go_sem]) rfl ⟨none,0,rfl,fun k hk=>absurd hk (Nat.not_lt_zero _),qa _ _⟩
 ·have i0:(3:Int) ≤(n:Int):=by omega
  clear h;go_enter func106,ntmps106;go_wp2
  all_goals try simp only[bne_eq_false_iff_eq,bne_iff_ne]at *
  all_goals first|(exfalso;omega)|exact bodyPost_ret (v:=.tuple #[a37 0 0 0 none 0 0,.int .i64 3]) (by simp[results,results106,go_sem]) rfl ⟨none,0,rfl,fun k hk=>absurd hk (Nat.not_lt_zero _),qa _ _⟩
def a2q (X:Rd→World→Prop) (g M:Nat) (T N S:Int) (L:List V4) (rs5:Rd) (W:World) (j:Nat) (wr:World):Prop:=
 ∃(D:List V4) (v:Value) (s:Rd),D ++(jx j s).1=L ∧(jx j s).2=rs5∧s.2.length=4*j∧D.length+j≤4∧TkI (X s) g M #[.int .i64 T,.int .i64 N,.int .i64 S,v] W wr∧wr.ownsRow W.1.size 210 8 v D.length (ago D)
theorem a6m:(prog.info? 210).map (fun i=>(i.zero,i.size,i.bytes))=some (some (.agg #[.bool false,.int .i64 0,.bool false,.int .i64 0,.bool false,.int .i64 0,.bool false,.int .i64 0]),8,64):=by kernel_rfl
theorem a36 (A:Option Addr) (n c k:Nat) (R:List ByteArray) (w:World) (hl:R.length=n) (hA:A=none→c=0) (hs:vy w w.1.size A R) (hz:∀t∈R,t.size≤1000000) (hkn:Hid (n=3+4*k)) (hk4:k≤4) :
 Calls prog 106 #[.slice A n c] w (aj1 (zw R) w):=by
 obtain⟨T,rs1,h1⟩:∃n u,Hid (zi 1 9 (0,R)=(n,u)):=⟨_,_,rfl⟩;obtain⟨N,rs2,h2⟩:∃n u,Hid (zi 1 T rs1=(n,u)):=⟨_,_,rfl⟩;obtain⟨b,S,rs3,h3⟩:∃b n u,Hid (qq 1 2 0 0 99 rs2=((b,n),u)):=⟨_,_,_,rfl⟩;obtain⟨rs4,h4⟩:∃u,Hid (u=if b=true then rs3 else xq 3 rs3):=⟨_,rfl⟩;obtain⟨L,rs5,h5⟩:∃l u,Hid (jx k rs4=(l,u)):=⟨_,_,rfl⟩;obtain⟨X,hX⟩:∃X,zw R=X:=⟨_,rfl⟩;have HT:Hid (X=if rs5.1=0 then(⟨T,N,S,L⟩,0)else(vt,rs5.1)):=hX.symm.trans (a9c (by have:=hkn.out;unfold auh;rw[hl];omega) (by have:=hkn.out;rw[hl];omega) h1 h2 h3 h4 h5);rw[hX];clear hX
 have hlen:rs4.2.length=4*k:=by
  have e3:rs3.2.length=4*k:=by
   rw[be2 h3.out,aqc h2.out,aqc h1.out];have:=hkn.out;simp only[List.length_tail,hl];omega
  rw[h4.out]
  split
  ·exact e3
  ·exact e3
 have HLEN:=hid hlen;have hS0:b=false→S=0:=fun q=>by subst q;exact a0j h3.out
 have HS0:=hid hS0;clear hlen hS0;have HB0:=hid (qa w (.cells (agd 0 0 0 none 0 0) 56));have HL:=hid (aka (c:=c) hA ((hs.below HB0.out (Nat.le_refl _)).more HB0.out.size) (by have:=hkn.out;omega) hz);rw[hl]at HL;have hR0:∀o,(w.alloc (.cells (agd 0 0 0 none 0 0) 56)).cell? ⟨w.1.size,o,none⟩=(agd 0 0 0 none 0 0)[o]?:=fun o=>World.cell?_alloc_at _ _ _ _ rfl
 have hR1:∀o,(w.alloc (.cells (agd 0 0 0 none 0 0) 56)).frozen? ⟨w.1.size,o,none⟩=false:=fun o=>by rw[frozen?_alloc_cells];exact qj _ _ _ (Nat.le_refl _)
 have HR0:=hid hR0;have HR1:=hid hR1;have HZ0:Hid ((w.alloc (.cells (agd 0 0 0 none 0 0) 56)).1.size=w.1.size+1):=by show _=_;simp
 clear hs hA hz hR0 hR1 hl;have i0:(3:Int) ≤(n:Int):=by have:=hkn.out;omega
 have i1:(n:Int)≤19:=by have:=hkn.out;omega
 go_enter func106,ntmps106
 try dsimp only
 repeat (fail_if_success (show Code.wp _ (Code.seq (Code.region 2 _ _) _) _ _ _)
         first|go_values|go_skip|go_guarded|go_step|go_upon|go_back|(simp only[Int.not_lt,Int.not_le]at *;go_simp)|(go_ite<;>go_prune<;>(try go_simp)))
 go_cut [] (fun wx=>wx=w.alloc (.cells (agd 0 0 0 none 0 0) 56))
 case first=>
  go_wp2_with fail
  all_goals first|(exfalso;have:=hkn.out;omega)|(go_meet;rfl)
 case rest=>
 subst hcut;generalize hW0:w.alloc (.cells (agd 0 0 0 none 0 0) 56)=W0 at *;clear hW0;go_wp2_with fail;refine HL.out.mono ?_;rintro r w1 ⟨g,rfl,hx1,hg1,hz1,hb1⟩;have hb3:=qa w1 (.cells (agd 0 0 0 none 0 0) 56);have hz0:=HZ0.out;have T0:TkI (qw g (0,R)) g w1.1.size (agd 0 0 0 none 0 0) (w1.alloc (.cells (agd 0 0 0 none 0 0) 56)) (w1.alloc (.cells (agd 0 0 0 none 0 0) 56)):=⟨hx1.keep hb3,fun j=>World.cell?_alloc_at _ _ _ _ rfl,fun j=>by rw[frozen?_alloc_cells];exact qj _ _ _ (Nat.le_refl _),by omega,by simp,rfl,rfl,rfl,Nat.le_refl _,fun _ _ _ _=>rfl⟩;have hq:(w1.alloc (.cells (agd 0 0 0 none 0 0) 56)).1.size=w1.1.size+1:=by simp
 have HRR:Hid (∀(Y:World→Prop) C' wr,TkI Y g w1.1.size C' (w1.alloc (.cells (agd 0 0 0 none 0 0) 56)) wr →(∀o,wr.cell? ⟨w.1.size,o,none⟩=(agd 0 0 0 none 0 0)[o]?) ∧(∀o,wr.frozen? ⟨w.1.size,o,none⟩=false)∧Below w.1.size w wr):=fun Y C' wr hk=>
  have h03:=qb hb1 hb3
  ⟨fun o=>(hk.cell om om om).trans (((qv h03).1 _ o om).trans (HR0.out o)),fun o=>(hk.frozen om om om).trans (((qv h03).2 _ o om).trans (HR1.out o)),Below.trans (HB0.out.trans (h03.mono om)) (hk.below om om)⟩
 have HWw:Hid (w.1.size<(w1.alloc (.cells (agd 0 0 0 none 0 0) 56)).1.size):=by show _<_;have:=hb1.size;omega
 have HWM:Hid (w1.1.size<(w1.alloc (.cells (agd 0 0 0 none 0 0) 56)).1.size):=by show _<_;omega
 have HGM:Hid (g<w1.1.size):=by show _<_;omega
 have HT0:=hid T0;clear T0 hz0 hq hb3 hx1 hg1 hz1 hb1 HL HR0 HR1 HZ0 HB0;go_upto_region 6 with fail;generalize hW3:w1.alloc (.cells (agd 0 0 0 none 0 0) 56)=W at *;generalize w1.1.size=M at *;clear hW3;go_wp2_with fail;refine(aip h1 HT0.out.x).mono ?_;rintro r x0 ⟨rfl,hx,hf⟩;have hT:=HT0.out.frm hx hf;have m0:=hT.c 0;have z0:=hT.z 0;have HT1:=hid hT;clear hT hx hf HT0;go_wp2_with fail;have hp:=HT1.out.put (o:=0) (u:=.int .i64 T) sm (HT1.out.x.far HGM.out);have e:∀C:Array Value,C=#[.int .i64 T,.int .i64 0,.int .i64 0,.slice none 0 0]→TkI (qw g rs1) g M C W (x0.setCell ⟨M,0,none⟩ (.int .i64 T)):=fun C hC=>by subst hC;exact hp
 have HT0:=hid (e _ rfl);clear e hp m0 z0 HT1;generalize x0.setCell ⟨M,0,none⟩ (.int .i64 T)=y0 at *;have m0:=HT0.out.c 0;go_wp2_with fail;refine(aip h2 HT0.out.x).mono ?_;rintro r x1 ⟨rfl,hx,hf⟩;have hT:=HT0.out.frm hx hf;have m1:=hT.c 1;have z1:=hT.z 1;have HT1:=hid hT;clear hT hx hf HT0;go_wp2_with fail;have hp:=HT1.out.put (o:=1) (u:=.int .i64 N) sm (HT1.out.x.far HGM.out);have e:∀C:Array Value,C=#[.int .i64 T,.int .i64 N,.int .i64 0,.slice none 0 0]→TkI (qw g rs2) g M C W (x1.setCell ⟨M,1,none⟩ (.int .i64 N)):=fun C hC=>by subst hC;exact hp
 have HT0:=hid (e _ rfl);clear e hp m0 m1 z1 HT1;generalize x1.setCell ⟨M,1,none⟩ (.int .i64 N)=y1 at *;go_wp2_with fail;refine(azo _).mono ?_;rintro r x2 ⟨rfl,hb⟩;have HT1:=hid (HT0.out.keep (Y:=qw g rs2) (HT0.out.x.keep hb) hb);clear hb HT0;go_wp2_with fail;refine(km h3 HT1.out.x).mono ?_;rintro r x3 ⟨rfl,hx,hf⟩;have HT2:=hid (HT1.out.frm hx hf);clear hx hf HT1;have hbn:=qa x3 (.cells #[.bool b,.int .i64 S] 42);have HNB:Hid (∀o,(x3.alloc (.cells #[.bool b,.int .i64 S] 42)).cell? ⟨x3.1.size,o,none⟩=(#[Value.bool b,.int .i64 S]:Array Value)[o]?):=fun o=>World.cell?_alloc_at _ _ _ _ rfl
 have HT3:=hid (HT2.out.keep (Y:=qw g rs3) (HT2.out.x.keep hbn) hbn);have HZ3:Hid (x3.1.size<(x3.alloc (.cells #[.bool b,.int .i64 S] 42)).1.size∧M<x3.1.size):=⟨by simp,HT2.out.mz⟩;clear hbn HT2
 try dsimp only
 repeat (fail_if_success (show Code.wp _ (Code.seq (Code.region 9 _ _) _) _ _ _)
         first|go_values|go_skip|go_guarded|go_step|go_upon|go_back|(simp only[Int.not_lt,Int.not_le]at *;go_simp)|(go_ite<;>go_prune<;>(try go_simp)))
 generalize hx4:x3.alloc (.cells #[.bool b,.int .i64 S] 42)=x4 at *;generalize x3.1.size=NB at *;clear hx4
 go_cut [] (fun wx=>Hid (TkI (qw g rs4) g M #[.int .i64 T,.int .i64 N,.int .i64 0,.slice none 0 0] W wx ∧(∀o,wx.cell? ⟨NB,o,none⟩=(#[Value.bool b,.int .i64 S]:Array Value)[o]?)))
 case first=>
  have q0:=HNB.out 0;have q1:=HNB.out 1;cases hbb:b with
  | true=>
   have HU:Hid (rs4=rs3):=by show _=_;rw[h4.out,hbb];rfl
   subst hbb;go_wp2_with fail
   go_meet
   rw[HU.out];exact hid ⟨HT3.out,HNB.out⟩
  | false=>
   have HU:Hid (rs4=xq 3 rs3):=by show _=_;rw[h4.out,hbb];rfl
   have hSz:=HS0.out hbb;subst hbb hSz;go_wp2_with fail;refine(xl rfl HT3.out.x).mono ?_;rintro r x5 ⟨rfl,hx,hf⟩;have HX:Hid (TkI (qw g rs4) g M #[.int .i64 T,.int .i64 N,.int .i64 0,.slice none 0 0] W x5 ∧(∀o,x5.cell? ⟨NB,o,none⟩=(#[Value.bool false,.int .i64 0]:Array Value)[o]?)):=⟨HT3.out.frm (by rw[HU.out];exact hx) hf,fun o=>(qi hf HZ3.out.1 (by have:=HZ3.out.2;have:=HGM.out;omega) o).trans (HNB.out o)⟩;clear hx hf;go_wp2_with fail
   go_meet
   exact HX
 case rest=>
 obtain⟨hT4,hnb⟩:=hcut.out;have HT4:=hid hT4;have q0:=hnb 0;have q1:=hnb 1;have m2:=hT4.c 2;have z2:=hT4.z 2;clear hcut hT4 hnb HT3 HNB HZ3 HS0;go_wp2_with fail;have hp:=HT4.out.put (o:=2) (u:=.int .i64 S) sm (HT4.out.x.far HGM.out);have HT5:=hid (show TkI (qw g rs4) g M #[.int .i64 T,.int .i64 N,.int .i64 S,.slice none 0 0] W _ from hp);have HI0:Hid (a2q (qw g) g M T N S L rs5 W k _):=⟨[],_,rs4,by rw[h5.out];rfl,by rw[h5.out],HLEN.out,by simpa using hk4,HT5.out,World.ownsRow_nil _ _ _ _⟩;clear hp m2 z2 q0 q1 HT4 HT5 HLEN
 go_loopg [8] k (fun j _ wr=>Hid (a2q (qw g) g M T N S L rs5 W j wr))
 case atStart=>exact HI0
 case round=>
  clear HI0;obtain⟨D,v,s,hD,hu,hls,hd4,hT,hown⟩:=hrel.out
  by_cases hj:gk=0
  ·subst hj;have HLF:=hid (aj9 hT.x);rw[hls]at HLF
   have HD:Hid (D=L∧s=rs5):=by
    refine⟨?_,hu⟩;rw[← hD];simp[jx]
   have HTT:=hid hT;have HOWN:=hid hown;clear hD hu hls hd4 hT hown hrel;go_wp2_with fail;refine HLF.out.mono ?_;rintro r w' ⟨rfl,rfl⟩;obtain⟨hr,hf,hb⟩:=HRR.out _ _ _ HTT.out;have HB:=hid hb;have hm:=HTT.out.c;obtain⟨rfl,rfl⟩:=HD.out;obtain⟨A2,c2,rfl,hvw,hfr,-⟩:=a6q HOWN.out;have HVW:=hid hvw;have HVF:Hid (∀b1 o1,A2=some ⟨b1,o1,none⟩→w.1.size≠b1):=fun b1 o1 e q=>by have h9:=hfr _ e;have:=HWw.out;simp only at h9;omega
   clear hfr;have r0:=hr 0;have r1:=hr 1;have r2:=hr 2;have r3:=hr 3;have f0:=hf 0;have f1:=hf 1;have f2:=hf 2;have f3:=hf 3;have m0:=hm 0;have m1:=hm 1;have m2:=hm 2;have m3:=hm 3;have HR:=hid (show AtC _ w.1.size (agd 0 0 0 none 0 0)from hr);have HX:=hid HTT.out.x;clear hr hf hm hb hvw HRR HOWN HTT;obtain⟨E,hE⟩:∃E,s.1=E:=⟨_,rfl⟩;rw[hE]at HT;have HER:=hid (apk HX.out);rw[hE]at HER;clear hE;go_wp2_with fail;refine HER.out.mono ?_;rintro r w' ⟨rfl,rfl⟩
   by_cases hE:E=0
   ·subst hE;have HX2:Hid (X=(⟨T,N,S,D⟩,0)):=HT.out.trans (if_pos rfl);clear HT;have K:=((((HR.out.set 0 (.int .i64 T) sm).set 1 (.int .i64 N) sm).set 2 (.int .i64 S) sm).set 3 (.slice A2 D.length c2) sm);have k0:=K 0;have k1:=K 1;have k2:=K 2;have k3:=K 3;simp at k0 k1 k2 k3;go_wp2_with fail;refine bodyPost_ret (v:=.tuple #[a37 T N S A2 D.length c2,.int .i64 0]) (by simp[results,results106,go_sem,k0,k1,k2,k3]) rfl ?_;rw[HX2.out];refine⟨A2,c2,rfl,?_,(qs (qs (qs (qs HB.out (Nat.le_refl _)) (Nat.le_refl _)) (Nat.le_refl _)) (Nat.le_refl _))⟩;exact fun k hk=>by obtain⟨b1,o1,e1,e2,e3⟩:=HVW.out k hk;exact⟨b1,o1,e1,by simpa using e2,fun j u hu=>(World.cell?_setCell_other _ _ _ _ (fun q=>by injection q with q;exact HVF.out b1 o1 e1 q)).trans ((World.cell?_setCell_other _ _ _ _ (fun q=>by injection q with q;exact HVF.out b1 o1 e1 q)).trans ((World.cell?_setCell_other _ _ _ _ (fun q=>by injection q with q;exact HVF.out b1 o1 e1 q)).trans ((World.cell?_setCell_other _ _ _ _ (fun q=>by injection q with q;exact HVF.out b1 o1 e1 q)).trans (e3 j u hu))))⟩
   ·have hne:(E != 0)=true:=by rw[bne_iff_ne];exact hE
    have HX2:Hid (X=(vt,E)):=HT.out.trans (if_neg hE);clear hE HT;have K:=((((HR.out.set 0 (.int .i64 0) sm).set 1 (.int .i64 0) sm).set 2 (.int .i64 0) sm).set 3 (.slice none 0 0) sm);have k0:=K 0;have k1:=K 1;have k2:=K 2;have k3:=K 3;simp at k0 k1 k2 k3;go_wp2_with fail;refine bodyPost_ret (v:=.tuple #[a37 0 0 0 none 0 0,.int .i64 E]) (by simp[results,results106,go_sem,k0,k1,k2,k3]) rfl ?_;rw[HX2.out];exact⟨none,0,rfl,fun k hk=>absurd hk (Nat.not_lt_zero _),(qs (qs (qs (qs HB.out (Nat.le_refl _)) (Nat.le_refl _)) (Nat.le_refl _)) (Nat.le_refl _))⟩
  ·obtain⟨j,rfl⟩:∃j,gk=j+1:=⟨gk-1,by omega⟩;obtain⟨b0,n0,q1,e0⟩:∃b n u,Hid (qq 1 3 0 1 255 s=((b,n),u)):=⟨_,_,_,rfl⟩;obtain⟨b1,n1,q2,e1⟩:∃b n u,Hid (qq 1 2 0 0 90 q1=((b,n),u)):=⟨_,_,_,rfl⟩;obtain⟨b2,n2,q3,e2⟩:∃b n u,Hid (qq 1 3 0 0 359 q2=((b,n),u)):=⟨_,_,_,rfl⟩;obtain⟨b3,n3,q4,e3⟩:∃b n u,Hid (qq 1 2 0 0 99 q3=((b,n),u)):=⟨_,_,_,rfl⟩
   have hvw:aaf s=(((b0,n0),(b1,n1),(b2,n2),(b3,n3)),q4):=by
    unfold aaf;rw[e0.out];simp only;rw[e1.out];simp only;rw[e2.out];simp only;rw[e3.out]
   have HD:Hid ((D++[((b0,n0),(b1,n1),(b2,n2),(b3,n3))]) ++(jx j q4).1=L ∧(jx j q4).2=rs5∧q4.2.length=4*j):=by
    refine⟨?_,?_,by rw[a0k hvw];omega⟩
    ·rw[← hD];simp only[jx,hvw];simp
    ·rw[← hu];simp only[jx,hvw]
   have HLF:=hid (aj9 hT.x);obtain⟨m,hm⟩:∃m,s.2.length=m:=⟨_,rfl⟩;rw[hm]at HLF;have i1:(0:Int)<(m:Int):=by omega
   have HTT:=hid hT;have HOWN:=hid hown;clear hvw hD hu hls hT hown hrel hm;go_wp2_with fail;refine HLF.out.mono ?_;rintro r w' ⟨rfl,rfl⟩;have hbv:=qa wr (.cells #[.bool false,.int .i64 0,.bool false,.int .i64 0,.bool false,.int .i64 0,.bool false,.int .i64 0] 210);have T9:TkI (qw g s) g wr.1.size #[.bool false,.int .i64 0,.bool false,.int .i64 0,.bool false,.int .i64 0,.bool false,.int .i64 0] (wr.alloc (.cells #[.bool false,.int .i64 0,.bool false,.int .i64 0,.bool false,.int .i64 0,.bool false,.int .i64 0] 210)) (wr.alloc (.cells #[.bool false,.int .i64 0,.bool false,.int .i64 0,.bool false,.int .i64 0,.bool false,.int .i64 0] 210)):=⟨HTT.out.x.keep hbv,fun j=>World.cell?_alloc_at _ _ _ _ rfl,fun j=>by rw[frozen?_alloc_cells];exact qj _ _ _ (Nat.le_refl _),HTT.out.x.lt,by simp,rfl,rfl,rfl,Nat.le_refl _,fun _ _ _ _=>rfl⟩;have HV:=hid HTT.out.x.lt;have HT0:=hid T9;clear T9 hbv HLF
   go_upto_region 14 with fail;generalize hW9:wr.alloc (.cells #[.bool false,.int .i64 0,.bool false,.int .i64 0,.bool false,.int .i64 0,.bool false,.int .i64 0] 210)=W9 at HT0;have HW9:=hid hW9
   try rw[hW9]
   generalize hVV:wr.1.size=VV at HT0 HV;have HVV:=hid hVV
   try rw[hVV]
   clear hW9 hVV;go_wp2_with fail;refine(a9d _).mono ?_;rintro r x0 ⟨rfl,hb⟩;have HT1:=hid (HT0.out.keep (Y:=qw g s) (HT0.out.x.keep hb) hb);clear hb HT0;go_wp2_with fail;refine(km e0 HT1.out.x).mono ?_;rintro r y0 ⟨rfl,hx,hf⟩;have hT2:=HT1.out.frm hx hf;have m0:=hT2.c 0;have m1:=hT2.c 1;have z0:=hT2.z 0;have z1:=hT2.z 1;simp only[List.getElem?_toArray,List.getElem?_cons_succ,List.getElem?_cons_zero]at m0 m1;have HT2:=hid hT2;clear hT2 hx hf HT1;go_wp2_with fail;have hx2:=((HT2.out.x.far (G:=VV) (o:=0) (u:=.bool b0) HV.out).far (G:=VV) (o:=1) (u:=.int .i64 n0) HV.out);have hT3:=HT2.out.store (C':=#[Value.bool b0,.int .i64 n0,Value.bool false,.int .i64 0,Value.bool false,.int .i64 0,Value.bool false,.int .i64 0]) (o:=0) rfl rfl (fun j=>by rcases j with _|_|_|_|_|_|_|_|j<;>simp) hx2;clear m0 m1 z0 z1 hx2;generalize ((y0.setCell ⟨VV,0,none⟩ (.bool b0)).setCell ⟨VV,1,none⟩ (.int .i64 n0))=v0 at *
   have HT0:=hid hT3;clear hT3 HT2;go_wp2_with fail;refine(azn _).mono ?_;rintro r x1 ⟨rfl,hb⟩;have HT1:=hid (HT0.out.keep (Y:=qw g q1) (HT0.out.x.keep hb) hb);clear hb HT0;go_wp2_with fail;refine(km e1 HT1.out.x).mono ?_;rintro r y1 ⟨rfl,hx,hf⟩;have hT2:=HT1.out.frm hx hf;have m0:=hT2.c 2;have m1:=hT2.c 3;have z0:=hT2.z 2;have z1:=hT2.z 3;simp only[List.getElem?_toArray,List.getElem?_cons_succ,List.getElem?_cons_zero]at m0 m1;have HT2:=hid hT2;clear hT2 hx hf HT1;go_wp2_with fail;have hx2:=((HT2.out.x.far (G:=VV) (o:=2) (u:=.bool b1) HV.out).far (G:=VV) (o:=3) (u:=.int .i64 n1) HV.out);have hT3:=HT2.out.store (C':=#[Value.bool b0,.int .i64 n0,Value.bool b1,.int .i64 n1,Value.bool false,.int .i64 0,Value.bool false,.int .i64 0]) (o:=2) rfl rfl (fun j=>by rcases j with _|_|_|_|_|_|_|_|j<;>simp) hx2;clear m0 m1 z0 z1 hx2;generalize ((y1.setCell ⟨VV,2,none⟩ (.bool b1)).setCell ⟨VV,3,none⟩ (.int .i64 n1))=v1 at *
   have HT0:=hid hT3;clear hT3 HT2;go_wp2_with fail;refine(azm _).mono ?_;rintro r x2 ⟨rfl,hb⟩;have HT1:=hid (HT0.out.keep (Y:=qw g q2) (HT0.out.x.keep hb) hb);clear hb HT0;go_wp2_with fail;refine(km e2 HT1.out.x).mono ?_;rintro r y2 ⟨rfl,hx,hf⟩;have hT2:=HT1.out.frm hx hf;have m0:=hT2.c 4;have m1:=hT2.c 5;have z0:=hT2.z 4;have z1:=hT2.z 5;simp only[List.getElem?_toArray,List.getElem?_cons_succ,List.getElem?_cons_zero]at m0 m1;have HT2:=hid hT2;clear hT2 hx hf HT1;go_wp2_with fail;have hx2:=((HT2.out.x.far (G:=VV) (o:=4) (u:=.bool b2) HV.out).far (G:=VV) (o:=5) (u:=.int .i64 n2) HV.out);have hT3:=HT2.out.store (C':=#[Value.bool b0,.int .i64 n0,Value.bool b1,.int .i64 n1,Value.bool b2,.int .i64 n2,Value.bool false,.int .i64 0]) (o:=4) rfl rfl (fun j=>by rcases j with _|_|_|_|_|_|_|_|j<;>simp) hx2;clear m0 m1 z0 z1 hx2;generalize ((y2.setCell ⟨VV,4,none⟩ (.bool b2)).setCell ⟨VV,5,none⟩ (.int .i64 n2))=v2 at *
   have HT0:=hid hT3;clear hT3 HT2;go_wp2_with fail;refine(avd _).mono ?_;rintro r x3 ⟨rfl,hb⟩;have HT1:=hid (HT0.out.keep (Y:=qw g q3) (HT0.out.x.keep hb) hb);clear hb HT0;go_wp2_with fail;refine(km e3 HT1.out.x).mono ?_;rintro r y3 ⟨rfl,hx,hf⟩;have hT2:=HT1.out.frm hx hf;have m0:=hT2.c 6;have m1:=hT2.c 7;have z0:=hT2.z 6;have z1:=hT2.z 7;simp only[List.getElem?_toArray,List.getElem?_cons_succ,List.getElem?_cons_zero]at m0 m1;have HT2:=hid hT2;clear hT2 hx hf HT1;go_upto_region 18 with fail;have hx2:=((HT2.out.x.far (G:=VV) (o:=6) (u:=.bool b3) HV.out).far (G:=VV) (o:=7) (u:=.int .i64 n3) HV.out);have hT3:=HT2.out.store (C':=#[Value.bool b0,.int .i64 n0,Value.bool b1,.int .i64 n1,Value.bool b2,.int .i64 n2,Value.bool b3,.int .i64 n3]) (o:=6) rfl rfl (fun j=>by rcases j with _|_|_|_|_|_|_|_|j<;>simp) hx2;clear m0 m1 z0 z1 hx2;generalize ((y3.setCell ⟨VV,6,none⟩ (.bool b3)).setCell ⟨VV,7,none⟩ (.int .i64 n3))=v3 at *
   have HT0:=hid hT3;clear hT3 HT2
   have hT4:TkI (qw g q4) g wr.1.size #[Value.bool b0,.int .i64 n0,.bool b1,.int .i64 n1,.bool b2,.int .i64 n2,.bool b3,.int .i64 n3] (wr.alloc (.cells #[.bool false,.int .i64 0,.bool false,.int .i64 0,.bool false,.int .i64 0,.bool false,.int .i64 0] 210)) v3:=by
    have q:=HT0.out;rw[← HVV.out,← HW9.out]at q;exact q
   have hF4:=a84 hT4;have hFN:=hF4.then_below (qa v3 (.cells #[Value.bool b0,.int .i64 n0,.bool b1,.int .i64 n1,.bool b2,.int .i64 n2,.bool b3,.int .i64 n3] 210));have hvo:∀k,v.ownBlock=some k→W.1.size≤k:=fun k hk=>(HOWN.out.lt k hk).1
   have hgW:g<W.1.size:=by have:=HWM.out;have:=HGM.out;omega
   have hown5:=atf HOWN.out hFN (fun q=>by have:=hvo _ q;omega);have m3:=(qi hF4 HTT.out.mz (by have:=HGM.out;omega) 3).trans (HTT.out.c 3)
   have hnews:∀j u,(j5 ((b0,n0),(b1,n1),(b2,n2),(b3,n3)))[j]?=some u →(v3.alloc (.cells #[Value.bool b0,.int .i64 n0,.bool b1,.int .i64 n1,.bool b2,.int .i64 n2,.bool b3,.int .i64 n3] 210)).cell? ((⟨v3.1.size,0,none⟩:Addr).add j)=some u:=fun j u hu=>by
    have e1:(⟨v3.1.size,0,none⟩:Addr).add j=⟨v3.1.size,j,none⟩:=by unfold Addr.add;split<;>simp_all
    rw[e1,World.cell?_alloc_at _ _ _ _ rfl,← hu];simp only[List.getElem?_toArray];rfl
   have HF4:=hid hF4;have HFN:=hid hFN;have HO5:=hid hown5;have HVO:=hid hvo;have HNW:=hid hnews;have hcw:=HT0.out.c;have w0:=hcw 0;have w1':=hcw 1;have w2:=hcw 2;have w3:=hcw 3;have w4:=hcw 4;have w5:=hcw 5;have w6:=hcw 6;have w7:=hcw 7;have HX4:=hid HT0.out.x;have HWV:Hid (W.1.size ≤(v3.alloc (.cells #[Value.bool b0,.int .i64 n0,.bool b1,.int .i64 n1,.bool b2,.int .i64 n2,.bool b3,.int .i64 n3] 210)).1.size):=by show _≤_;exact Nat.le_trans HTT.out.size hFN.size
   obtain⟨i0,hi,hz0',hz1',hz2'⟩:=amu a6m;clear hT4 hF4 hFN hvo hgW hown5 hnews hcw HT0 HW9 HVV;go_wp2_with (at_builtin;refine wpList_append_lies _ rfl _ _ 54 rfl W.1.size 210 i0 (.agg #[.bool false,.int .i64 0,.bool false,.int .i64 0,.bool false,.int .i64 0,.bool false,.int .i64 0]) 8 64 underlying54 hi hz0' hz1' hz2' rfl dc _ _ _ rfl HO5.out ⟨v3.1.size,0,none⟩ 1 1 (j5 ((b0,n0),(b1,n1),(b2,n2),(b3,n3))) rfl rfl HNW.out ?c2 dc ?c3 ?c4 HWV.out _ rfl ?_)
   case c2=>intro u hu;simp[j5]at hu;rcases hu with rfl|rfl|rfl|rfl|rfl|rfl|rfl|rfl<;>rfl
   case c3=>unfold maxLen;omega
   case c4=>omega
   intro g2 cap w6' hown' hgrow hlies hg2
   have hFG:Frm g v v3 w6':=by
    have q1:=(Frm.of_below (g:=g) (v:=v) (qa v3 (.cells #[Value.bool b0,.int .i64 n0,.bool b1,.int .i64 n1,.bool b2,.int .i64 n2,.bool b3,.int .i64 n3] 210)));exact q1.trans (as5 hgrow) (.inl rfl)
   have hx6:qw g q4 w6':=(HX4.out.keep (qa v3 (.cells #[Value.bool b0,.int .i64 n0,.bool b1,.int .i64 n1,.bool b2,.int .i64 n2,.bool b3,.int .i64 n3] 210))).grow (g':=M) (as5 hgrow) HGM.out (fun k hk=>by have:=HVO.out k hk;have:=HWM.out;have:=HGM.out;omega)
   have hFW:Frm g v wr w6':=by
    have q:Frm g v wr v3:=⟨HF4.out.os,HF4.out.tape,HF4.out.output,HF4.out.size,fun k h1 h2 _=>HF4.out.block k h1 h2 (by simp[Value.ownBlock])⟩;exact q.trans hFG (.inl rfl)
   have hT6:=HTT.out.grow (Y:=qw g q4) HWM.out hFW HVO.out hx6;have m6:=hT6.c 3;have z6:=hT6.z 3;have hp:=hT6.put (o:=3) (u:=.slice (some ⟨g2,0,none⟩) (D.length+1) cap) sm (hx6.far HGM.out);have e:∀C:Array Value,C=#[.int .i64 T,.int .i64 N,.int .i64 S,.slice (some ⟨g2,0,none⟩) (D.length+1) cap]→TkI (qw g q4) g M C W (w6'.setCell ⟨M,3,none⟩ (.slice (some ⟨g2,0,none⟩) (D.length+1) cap)):=fun C hC=>by subst hC;exact hp
   have hown7:(w6'.setCell ⟨M,3,none⟩ (.slice (some ⟨g2,0,none⟩) (D.length+1) cap)).ownsRow W.1.size 210 8 (.slice (some ⟨g2,0,none⟩) (D.length+1) cap) (D++[((b0,n0),(b1,n1),(b2,n2),(b3,n3))]).length (ago (D++[((b0,n0),(b1,n1),(b2,n2),(b3,n3))])):=by
    rw[List.length_append,a19];exact atf hown' (g:=M) ((Frm.of_below (Below.refl _ _)).set _ _) (fun q=>by have:=(hown'.lt M q).1;have:=HWM.out;omega)
   have HNEXT:Hid (a2q (qw g) g M T N S L rs5 W j (w6'.setCell ⟨M,3,none⟩ (.slice (some ⟨g2,0,none⟩) (D.length+1) cap))):=⟨_,_,q4,HD.out.1,HD.out.2.1,HD.out.2.2,by simp;omega,e _ rfl,hown7⟩;clear e hp hown7 hT6 hFW hx6 hFG hown' hgrow hlies hg2 m3 w0 w1' w2 w3 w4 w5 w6 w7;go_wp2_with fail
   go_roundg j
   case measure=>omega
   case rel=>exact HNEXT
theorem ar1 (A B:Option Addr) (n c d:Nat) (L:List V4) (w:World) (hn:Hid (L.length=n)) (hA:Hid (Vws w w.1.size A L)) (hB:Hid (Vws w w.1.size B L)) (h0:n≤1000000) :
 Calls prog 69 #[.slice A n c,.slice B n d] w fun e w'=>e=.returned (.bool true)∧Below w.1.size w w':=by
 have hb:((n:Int) != (n:Int))=false:=by rw[bne_eq_false_iff_eq]
 go_enter func69,ntmps69;go_wp2
 go_loopw [5] (fun i wr=>∃k nq:Nat,k≤n∧i=.int .i64 k∧wr=w.drewN nq) (fun i _=>n-(intOf i).toNat)
 case atStart=>exact⟨0,0,Nat.zero_le _,rfl,rfl⟩
 case round=>
  obtain⟨k,nq,hk,rfl,rfl⟩:=hrel
  by_cases hlt:k<n
  ·have hkl:k<L.length:=by rw[hn.out];exact hlt
   obtain⟨b1,o1,hA1,hb1,hc1⟩:=hA.out k hkl;obtain⟨b2,o2,hA2,hb2,hc2⟩:=hB.out k hkl;subst hA1 hA2;generalize L[k]=v at *;obtain⟨⟨vb0,vn0⟩,⟨vb1,vn1⟩,⟨vb2,vn2⟩,⟨vb3,vn3⟩⟩:=v
   have e1:∀(j:Nat) u,(j5 ((vb0,vn0),(vb1,vn1),(vb2,vn2),(vb3,vn3)))[j]?=some u→w.cell? ⟨b1,o1+k*8+j,none⟩=some u:=fun j u hu=>by
    rw[show o1+k*8+j=o1+8*k+j from by omega];exact hc1 j u hu
   have e2:∀(j:Nat) u,(j5 ((vb0,vn0),(vb1,vn1),(vb2,vn2),(vb3,vn3)))[j]?=some u→w.cell? ⟨b2,o2+k*8+j,none⟩=some u:=fun j u hu=>by
    rw[show o2+k*8+j=o2+8*k+j from by omega];exact hc2 j u hu
   have x0:w.cell? ⟨b1,o1+k*8,none⟩=some (.bool vb0):=e1 0 _ rfl;have x1:=e1 1 _ rfl;have x2:=e1 2 _ rfl;have x3:=e1 3 _ rfl;have x4:=e1 4 _ rfl;have x5:=e1 5 _ rfl;have x6:=e1 6 _ rfl;have x7:=e1 7 _ rfl;have y0:w.cell? ⟨b2,o2+k*8,none⟩=some (.bool vb0):=e2 0 _ rfl;have y1:=e2 1 _ rfl;have y2:=e2 2 _ rfl;have y3:=e2 3 _ rfl;have y4:=e2 4 _ rfl;have y5:=e2 5 _ rfl;have y6:=e2 6 _ rfl;have y7:=e2 7 _ rfl;have i1:(0:Int) ≤(k:Int):=Int.natCast_nonneg _;have i2:(k:Int)<(n:Int):=by omega
   clear hc1 hc2 e1 e2 hkl;go_wp2_with fail
   go_quiet (fail)
   go_wp2_with fail
   go_roundw
   case rel=>exact⟨k+1,_,by omega,by go_num,rfl⟩
   case measure=>simp[intOf];omega
  ·go_wp2_with fail;go_ret;exact⟨by rfl,aab (Below.refl _ _) _⟩
theorem avx (T N S:Int) (A B:Option Addr) (n c d:Nat) (L:List V4) (w:World) (hn:Hid (L.length=n)) (hA:Hid (Vws w w.1.size A L)) (hB:Hid (Vws w w.1.size B L)) (h0:n≤1000000) :
 Calls prog 50 #[a37 T N S A n c,a37 T N S B n d] w fun e w'=>e=.returned (.bool true)∧Below w.1.size w w':=by
 have hbb:∀o1 o2,Below w.1.size w ((w.alloc o1).alloc o2):=fun o1 o2=>qb (qa _ _) (qa _ _)
 have HV:∀o1 o2,Hid (Calls prog 69 #[.slice A n c,.slice B n d] ((w.alloc o1).alloc o2) fun e w'=>e=.returned (.bool true)∧Below ((w.alloc o1).alloc o2).1.size ((w.alloc o1).alloc o2) w'):=fun o1 o2=>
  ar1 A B n c d L _ hn ((hA.out.below (hbb o1 o2) (Nat.le_refl _)).more (hbb o1 o2).size) ((hB.out.below (hbb o1 o2) (Nat.le_refl _)).more (hbb o1 o2).size) h0
 have HB:=fun o1 o2=>hid (hbb o1 o2)
 clear hA hB hbb;go_enter func50,ntmps50;go_wp2_with fail;refine(HV _ _).out.mono ?_;rintro r w1 ⟨rfl,hb1⟩;go_wp2_with fail;go_ret;exact⟨by rfl,qb (HB _ _).out hb1⟩
theorem azl (A:Option Addr) (R:List ByteArray) (c:Nat) (w:World) (hA:A=none→c=0) (hs:vy w w.1.size A R) (hn:R.length≤1000000) (hz:∀t∈R,t.size≤1000000):Calls prog 106 #[.slice A R.length c] w (aj1 (zw R) w):=by
 by_cases h:auh R.length
 ·have:zw R=(vt,3):=by unfold zw;rw[if_pos h]
  rw[this];exact amt A R.length c w h hn
 ·unfold auh at h;exact a36 A R.length c ((R.length-3) / 4) R w rfl hA hs hz (hid om) om
theorem a1p (R:List ByteArray):(zw R).1.L.length≤4:=by
 by_cases h:(zw R).2=0
 ·exact(avc h).1
 ·rw[a53 h];exact Nat.zero_le _
section
variable {P : Program} {ops : Array Oper} {rest : List Oper} {o : Oper} {a : Act} {w : World} {Q : Exit → Act → World → Prop}
end
theorem bjw (x:at7) (w:World):(binOp .eql 44 (.agg (gL x).toArray) (.agg (gL x).toArray)).run prog w=.ok (.bool true) w:=by
 unfold gL;simp[go_sem]
theorem bjx (x:at9) (w:World):(binOp .eql 48 (.agg (rL x).toArray) (.agg (rL x).toArray)).run prog w=.ok (.bool true) w:=by
 unfold rL;simp[go_sem]
theorem bjy (x:V4) (w:World):(binOp .eql 53 (.agg (j5 x).toArray) (.agg (j5 x).toArray)).run prog w=.ok (.bool true) w:=by
 unfold j5;simp[go_sem]
theorem Blk.nm {w:World} {b:Nat} {k:Int} {t:ByteArray} {G R S V U:List Value} (h:Blk w b (nmL k t G R S V U)) (hl:ab5 G R S V U):bld w b k t G R S V U:=(bd3 hl).1 h.rg
theorem a43 {m:NmD} {A B A' B':Option Addr} {n c c' p d d':Nat} {w:World}
 (HS:∀W,Below w.1.size w W→Hid (Calls prog 49 #[.agg (sL m.s (.slice A n c)).toArray,.agg (sL m.s (.slice A' n c')).toArray] W fun e w'=>e=.returned (.bool true)∧Below W.1.size W w'))
 (HV:∀W,Below w.1.size w W→Hid (Calls prog 50 #[.agg (uL m.u (.slice B p d)).toArray,.agg (uL m.u (.slice B' p d')).toArray] W fun e w'=>e=.returned (.bool true)∧Below W.1.size W w')) :
 Calls prog 28 #[.agg (nmC m (.slice A n c) (.slice B p d)).toArray,.agg (nmC m (.slice A' n c') (.slice B' p d')).toArray] w fun e w'=>e=.returned (.bool true)∧Below w.1.size w w':=by
 have EG:∀W:World,(binOp .eql 44 (.agg (gL m.g).toArray) (.agg (gL m.g).toArray)).run prog W=.ok (.bool true) W:=fun W=>bjw m.g W
 have ER:∀W:World,(binOp .eql 48 (.agg (rL m.r).toArray) (.agg (rL m.r).toArray)).run prog W=.ok (.bool true) W:=fun W=>bjx m.r W
 have EV:∀W:World,(binOp .eql 53 (.agg (j5 m.v).toArray) (.agg (j5 m.v).toArray)).run prog W=.ok (.bool true) W:=fun W=>bjy m.v W
 go_enter func28,ntmps28
 go_upto_region 1 with(first
  | (refine qr rfl _ _ rfl (nmC m (.slice A n c) (.slice B p d)).toArray rfl ?_;intro W1 hW1;have H1:Hid (Blk W1 w.1.size (nmC m (.slice A n c) (.slice B p d))):=Blk.new hW1;have HB1:=hid hW1.bel;clear hW1)
  | (refine qr rfl _ _ rfl (nmC m (.slice A' n c') (.slice B' p d')).toArray rfl ?_;intro W2 hW2;have H2:Hid (Blk W2 W1.1.size (nmC m (.slice A' n c') (.slice B' p d'))):=Blk.new hW2;have H12:=hid (H1.out.grew hW2);have HB2:=hid (qb HB1.out hW2.bel);clear hW2 H1 HB1))
 have a0:=H12.out.cell 0 rfl;have a1:=H12.out.cell 1 rfl;have c0:=H2.out.cell 0 rfl;have c1:=H2.out.cell 1 rfl
 try (apply wp_seq_k;intro K_ HK_)
 apply wp_region_lit
 repeat (fail_if_success (show Oper.wp _ ⟨some 19,_,_,_,_,_⟩ _ _ _ _)
         first|go_values|go_skip|go_guarded|go_step|go_upon)
 refine wp_load_mid _ _ rfl w.1.size 2 rfl (gL m.g) _ (H12.out.nm (ad7 m _ _)).g underlying44 rfl ad8 ?_
 repeat (fail_if_success (show Oper.wp _ ⟨some 21,_,_,_,_,_⟩ _ _ _ _)
         first|go_values|go_skip|go_guarded|go_step|go_upon)
 refine wp_load_mid _ _ rfl W1.1.size 2 rfl (gL m.g) _ (H2.out.nm (ad7 m _ _)).g underlying44 rfl ad8 ?_
 repeat (fail_if_success (show Oper.wp _ ⟨some 26,_,_,_,_,_⟩ _ _ _ _)
         first|go_values|go_skip|go_guarded|go_step|go_upon)
 refine wp_load_mid _ _ rfl w.1.size 24 rfl (rL m.r) _ (H12.out.nm (ad7 m _ _)).r underlying48 rfl aeb ?_
 repeat (fail_if_success (show Oper.wp _ ⟨some 28,_,_,_,_,_⟩ _ _ _ _)
         first|go_values|go_skip|go_guarded|go_step|go_upon)
 refine wp_load_mid _ _ rfl W1.1.size 24 rfl (rL m.r) _ (H2.out.nm (ad7 m _ _)).r underlying48 rfl aeb ?_;clear a0 a1 c0 c1
 repeat (fail_if_success (show Oper.wp _ ⟨some 33,_,_,_,_,_⟩ _ _ _ _)
         first|go_values|go_skip|go_guarded|go_step|go_upon)
 refine wp_load_mid _ _ rfl w.1.size 44 rfl (sL m.s (.slice A n c)) _ (H12.out.nm (ad7 m _ _)).s underlying51 rfl ad9 ?_
 repeat (fail_if_success (show Oper.wp _ ⟨some 35,_,_,_,_,_⟩ _ _ _ _)
         first|go_values|go_skip|go_guarded|go_step|go_upon)
 refine wp_load_mid _ _ rfl W1.1.size 44 rfl (sL m.s (.slice A' n c')) _ (H2.out.nm (ad7 m _ _)).s underlying51 rfl ad9 ?_
 repeat (fail_if_success (show Calls _ _ _ _ _)
         first|go_values|go_skip|go_guarded|go_step|go_upon)
 refine(HS _ HB2.out).out.mono ?_;rintro e W3 ⟨rfl,hb⟩;have H13:=hid (H12.out.on hb);have H3:=hid (H2.out.on hb);have HB3:=hid (qb HB2.out hb);clear hb H12 H2 HB2 HS;dsimp only
 repeat (fail_if_success (show Oper.wp _ ⟨some 40,_,_,_,_,_⟩ _ _ _ _)
         first|go_values|go_skip|go_guarded|go_step|go_upon)
 refine wp_load_mid _ _ rfl w.1.size 53 rfl (j5 m.v) _ (H13.out.nm (ad7 m _ _)).v underlying53 rfl aec ?_
 repeat (fail_if_success (show Oper.wp _ ⟨some 42,_,_,_,_,_⟩ _ _ _ _)
         first|go_values|go_skip|go_guarded|go_step|go_upon)
 refine wp_load_mid _ _ rfl W1.1.size 53 rfl (j5 m.v) _ (H3.out.nm (ad7 m _ _)).v underlying53 rfl aec ?_
 repeat (fail_if_success (show Oper.wp _ ⟨some 47,_,_,_,_,_⟩ _ _ _ _)
         first|go_values|go_skip|go_guarded|go_step|go_upon)
 refine wp_load_mid _ _ rfl w.1.size 61 rfl (uL m.u (.slice B p d)) _ (H13.out.nm (ad7 m _ _)).u underlying56 rfl aea ?_
 repeat (fail_if_success (show Oper.wp _ ⟨some 49,_,_,_,_,_⟩ _ _ _ _)
         first|go_values|go_skip|go_guarded|go_step|go_upon)
 refine wp_load_mid _ _ rfl W1.1.size 61 rfl (uL m.u (.slice B' p d')) _ (H3.out.nm (ad7 m _ _)).u underlying56 rfl aea ?_
 repeat (fail_if_success (show Calls _ _ _ _ _)
         first|go_values|go_skip|go_guarded|go_step|go_upon)
 refine(HV _ HB3.out).out.mono ?_;rintro e W4 ⟨rfl,hb⟩;have HB4:=hid (qb HB3.out hb);clear hb H13 H3 HB3 HV;go_wp2_with fail;go_ret;exact⟨rfl,HB4.out⟩
