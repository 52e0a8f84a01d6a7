/- A region within the wide fence, in a round or not, walked as anywhere. -/
import Derived.OrdersIn
import Derived.Test.YtdkhlkfleggbaaaGreatR47
namespace Go.Proofs.YtdkhlkfleggbaaaGreat
set_option maxHeartbeats 4000000
set_option maxRecDepth 8000
open Lib (hid)
open Tryz
set_option linter.unusedVariables false
open Go.RowKit
section
variable {P : Program} {ops : Array Oper} {a : Act} {w : World} {r : Option Nat} {n : Nat} {Q : Exit → Act → World → Prop} {md : Region.Mode}
end
attribute [local go_sem] Oper.semAt_some
def be1 (A:Option Addr) (c lo:Nat):Option Addr:=if c=lo then A else A.map (·.add lo)
theorem a5i (A:Option Addr) (n c lo:Nat) (h:lo≤n) (w:World):(Instr.sliceAt 22 (.slice A n c) (some (.int .i64 lo)) none none).run Tryz.prog w=.ok (.slice (be1 A c lo) (n-lo) (c-lo)) w:=by
 have hu:Tryz.prog.underlying 22=some (.slice (Tryz.prog.elem 22)):=by kernel_rfl
 have hz:∀W,(sizeOf (Tryz.prog.elem 22)).run Tryz.prog W=.ok 1 W:=fun W=>by kernel_rfl
 rw[run_sliceAt_slice _ _ _ _ _ _ hu,run_slice_l _ _ _ _ _ hu _ _ om om,hz];simp[Result.andThen,sliced,be1]
theorem a8l {Q:Nat→Prop} {w:World} {A:Option Addr} {l:List UInt8} (h:qf Q w A (bsV l)) (c lo:Nat) (hlo:lo≤l.length) (hc:l.length≤c):qf Q w (be1 A c lo) (bsV (l.drop lo)):=by
 rcases Nat.lt_or_ge lo l.length with q|q
 ·obtain⟨b,off,rfl,-,-⟩:=h lo _ (vi q);unfold be1;rw[if_neg om,← abd,Option.map_some,acc];exact h.part lo
 ·rw[List.drop_eq_nil_of_le q];exact qf.nil _ _ _
theorem a0c {w:World} (A:Option Addr) (ps:List (List UInt8)) (c:Nat) (h:agj (fun b=>b<w.1.size) w A ps) (hm:ps.length≤maxLen) (hp:∀p∈ps,p.length≤maxLen) (hf:a3e ps=false) :
 Calls Tryz.prog 7 #[.slice A ps.length c] w fun e w'=>e=.returned (.bool true)∧Below w.1.size w w':=by
 have HF:=hid (ap5 A ps c h hm hp);have HK:=fun W=>hid (amk W)
 rw[hf]at HF;clear h hp hf;unfold maxLen at hm;generalize ps.length=n at *;go_enter func7,ntmps7;go_wp2_with fail;refine HF.out.mono ?_;rintro e w' ⟨rfl,rfl⟩;go_wp2_with fail;refine(HK w).out.mono ?_;rintro e w2 ⟨rfl,hb⟩;go_wp2_with fail;go_ret;exact⟨rfl,hb⟩
structure bjm (w:World) (g b:Nat) (ps:List (List UInt8)) (k:Nat) (wr:World):Prop where
 dec:xc wr g b (afj (ps.take k).flatten) (q7 (ps.take k).flatten).2
 bel:Below w.1.size w wr
theorem a0d {P:Program} {o:Oper} {a:Act} {w:World} {t:TypeId} {x lo:Operand} (ho:o.op=.slice t x (some lo) none none) {u v r:Value} (hx:a.eval x=u) (hl:a.eval lo=v) (hr:(Instr.sliceAt t u (some v) none none).run P w=.ok r w):(execOp a.eval o).run P w=.ok (.value r) w:=by
 unfold execOp;rw[ho];simp only[hx,hl,Option.map_some,Option.map_none,Sem.run_bind,hr,Result.andThen_ok,Sem.run_pure]
structure axl (w:World) (cb rb:Nat) (A:Option Addr) (all rest:List UInt8) (L:List Value) (wr:World):Prop where
 cnt:Blk wr cb L
 rst:qf (fun _=>True) wr (some ⟨rb,0,none⟩) (bsV rest)
 jnd:qf (fun _=>True) wr A (bsV all)
 bel:Below w.1.size w wr
theorem axl.drew {w:World} {cb rb:Nat} {A:Option Addr} {all rest:List UInt8} {L:List Value} {wr:World} (h:axl w cb rb A all rest L wr):axl w cb rb A all rest L wr.drew:=⟨h.cnt.drew,h.rst,h.jnd,h.bel.drew⟩
theorem a4v {w:World} (A:Option Addr) (ps:List (List UInt8)) (c:Nat) (h:agj (fun b=>b<w.1.size) w A ps) (hm:ps.length≤maxLen) (hp:∀p∈ps,p.length≤maxLen) (hf:a3e ps=true) (hj:ps.flatten.length≤2000000) :
 Calls Tryz.prog 7 #[.slice A ps.length c] w fun e w'=>e=.returned (.bool true)∧Below w.1.size w w':=by
 have HF:=hid (ap5 A ps c h hm hp);have HK:=fun W=>hid (amk W)
 have HI:=hid h;have HJ:=hid hj;rw[hf]at HF;have h60:ps.length≤60:=by unfold a3e at hf;simp at hf;exact hf.1
 clear h hp hf hm hj;generalize hL:ps.length=n at *;have HL:=hid hL;clear hL;go_enter func7,ntmps7;go_wp2_with fail;refine HF.out.mono ?_;rintro e w' ⟨rfl,rfl⟩;go_wp2_with fail;refine(HK w).out.mono ?_;rintro e w1 ⟨rfl,hb⟩;have HB1:=hid hb;clear hb HF HK;go_wp2_with fail;refine(ap6 w1).mono ?_;rintro e w2 ⟨rfl,hd,hb,hz⟩
 have HS:Hid (bjm w (w1.1.size+1) w1.1.size ps 0 w2):=hid ⟨by
  show xc _ _ _ (afj []) (q7 []).2;exact hd,qb HB1.out hb⟩
 have HGB:Hid (w.1.size≤w1.1.size+1∧w.1.size≤w1.1.size):=hid (by have:=HB1.out.size;omega);clear hd hb hz;generalize w1.1.size+1=g at *;generalize w1.1.size=b at *;clear HB1;go_wp2_with fail
 go_loopg [4,5,6] n (fun t s4 s5 s6 wr=>∃k:Nat,k≤n∧n-k≤t∧s6=.int .i64 k∧s4=.int .i64 ((zd (q7 (ps.take k).flatten).1).length:Int)∧s5=.int .i64 (vl (zd (q7 (ps.take k).flatten).1):Int)∧Hid (bjm w g b ps k wr))
 case atStart=>exact⟨0,Nat.zero_le _,by omega,rfl,rfl,rfl,HS⟩
 case round=>
  obtain⟨k,hk,hg,rfl,rfl,rfl,HR⟩:=hrel;clear HS
  by_cases hlt:k<n
  ·have hkl:k<ps.length:=by rw[HL.out];exact hlt
   obtain⟨b',o',X,c',rfl,hq,hc,hxc,hfx⟩:=HI.out.get (List.getElem?_eq_getElem hkl);have hc':wr.cell? ⟨b',o'+k,none⟩=some (.slice X ps[k].length c'):=(HR.out.bel.cell (p:=⟨b',o'+k,none⟩) hq).trans hc;have hft:=ast (List.getElem?_eq_getElem hkl)
   have hfl:(ps.take k).flatten.length+ps[k].length≤2000000:=by
    have:=aup (ps:=ps) (k+1);rw[hft,List.length_append]at this;exact Nat.le_trans this HJ.out
   have HFD:=hid (avu X c' HR.out.dec hfx HR.out.bel ⟨HGB.out.1,HGB.out.2⟩ hfl hxc);have HIA:=hid (a34 (ps.take k).flatten ps[k]);rw[← hft]at HFD HIA;have HSL:=hid (And.intro (as1 (q7 (ps.take (k+1)).flatten).1) (And.intro (aey (ps.take (k+1)).flatten) (aup (ps:=ps) (k+1))));clear hc hft hfl hfx hxc HR;generalize zd (q7 ((q7 (ps.take k).flatten).2++ps[k])).1=Y at *;generalize zd (q7 (ps.take k).flatten).1=X0 at *
   have hY:X0.length+Y.length≤2000000:=by
    have h1:=HSL.out;have h2:=HJ.out;rw[HIA.out,List.length_append]at h1;omega
   have hgl:=apf X0;have hgy:=apf Y;generalize ps[k].length=x at *;have i1:(k:Int)<n:=by omega
   have i2:(0:Int) ≤(k:Int):=Int.natCast_nonneg _;go_wp2_with fail;refine HFD.out.mono ?_;rintro e w3 ⟨v,rfl,hd3,hi3,hb3⟩;have HS3:Hid (bjm w g b ps (k+1) w3):=hid ⟨hd3,hb3⟩
   obtain⟨A3,n3,c3,rfl,hn3⟩:∃A n c,v=.slice A n c∧n=Y.length:=by
    obtain⟨Ls,ho,-⟩:=hi3;obtain⟨A',c',e,-⟩:=xv ho;exact⟨A',_,c',e,rfl⟩
   subst hn3;have HI3:=hid hi3;clear hi3 hd3 hb3 HFD hc';have j1:(0:Int) ≤(X0.length:Int):=by omega
   have j2:(X0.length:Int) +(Y.length:Int)≤2000000:=by omega
   go_wp2_with fail
   go_loopg [5,8] Y.length (fun t s5 s8 wr2=>∃q:Nat,q≤Y.length∧Y.length-q≤t∧s8=.int .i64 q∧s5=.int .i64 ((vl X0+vl (Y.take q):Nat):Int)∧wr2=w3)
   case atStart=>exact⟨0,Nat.zero_le _,by omega,rfl,rfl,rfl⟩
   case round=>
    obtain⟨q,hq1,hq2,rfl,rfl,rfl⟩:=hrel
    by_cases hlq:q<Y.length
    ·obtain⟨b3,o3,rfl,-,-,hod⟩:=HI3.out.odd q hlq;rw[show o3 +(q*120+1)=o3+q*120+1 from rfl]at hod;have HGT:=hid (a3y hlq);have hge:vl (Y.take (q+1))≤Y.length:=Nat.le_trans (apf _) (List.length_take_le' _ _);have HGE:=hid hge;clear hge;generalize Y[q].od=od at *;generalize vl (Y.take q)=gq at *;have i3:(q:Int)<(Y.length:Int):=by omega
     have i4:(0:Int) ≤(q:Int):=Int.natCast_nonneg _;cases od with
     | true=>
      go_wp2_with fail
      go_roundg (Y.length-(q+1))
      case measure=>omega
      case rel=>exact⟨q+1,by omega,by omega,by simp,by rw[HGT.out];simp,rfl⟩
     | false=>
      have hgq:gq+1≤Y.length:=by have h1:=HGT.out;have h2:=HGE.out;simp at h1;omega
      have i5:(0:Int) ≤((vl X0+gq:Nat):Int):=Int.natCast_nonneg _;have i6:((vl X0+gq:Nat):Int)≤4000000:=by omega
      have HC:=hid (show ((vl X0+gq:Nat):Int)+1=((vl X0 +(gq+1):Nat):Int)by omega);generalize vl X0+gq=gg at *;go_wp2_with fail
      go_roundg (Y.length-(q+1))
      case measure=>omega
      case rel=>exact⟨q+1,by omega,by omega,by simp,by rw[HGT.out,HC.out];simp,rfl⟩
    ·obtain rfl:q=Y.length:=by omega
     have HGY:=hid (show vl X0+vl (Y.take Y.length)=vl (X0++Y)by rw[List.take_length,a8t]);go_wp2_with fail
     go_roundg (n-(k+1))
     case measure=>omega
     case rel=>exact⟨k+1,by omega,by omega,by simp,by rw[HIA.out,List.length_append];simp,by rw[HIA.out,HGY.out],HS3⟩
  ·obtain rfl:k=n:=by omega
   have he:(ps.take k).flatten=ps.flatten:=by rw[← HL.out,List.take_length]
   rw[he];have HD:Hid (xc wr g b (afj ps.flatten) (q7 ps.flatten).2):=hid (by have:=HR.out.dec;rwa [he]at this);have HB:=hid HR.out.bel;have HSU:=a78 ps.flatten;have HRE:=ah0 ps.flatten;have HJN:=fun W (q:Below w.1.size w W)=>hid (by have:=aru (w:=W) A ps c (HI.out.below q) (by rw[HL.out];unfold maxLen;omega) (by have:=HJ.out;omega);rw[HL.out]at this;exact this)
   have HZ:=fun W=>hid (aq5 W)
   clear he HR;generalize ps.flatten=all at *;go_wp2_with fail;refine(az9 HD.out).mono ?_;rintro e w4 ⟨rfl,hd4,hb4⟩;have HD4:=hid hd4;have HB4:=hid (qb HB.out hb4);have HCL:=hid (bcg all);clear hd4 hb4 HD HB
   go_upto_region 17 with(first
    | (refine qc rfl 78 rfl (aby z13) (HZ _).out ?_;intro W5 hW;have HC5:=hid (Blk.newL (L:=z13.map (Value.int .i64)) hW rfl);have HD5:=hid (HD4.out.on hW.bel);have HB5:=hid (qb HB4.out hW.bel);have HS5:=hid (And.intro HB4.out.size hW.sz);clear hW)
    | (refine qe rfl 78 _ _ rfl w4.1.size 0 (aby (afj all)) rfl rfl (HC5.out.there 0 (aby (afj all)).size (by unfold aby;rw[List.size_toArray,List.length_map,HCL.out];decide)) (agn HCL.out) (ao1 _) ?_;intro W6 hs;have HC6:=hid (HC5.out.all hs (by unfold aby;rw[List.toList_toArray,List.length_map,HCL.out];rfl));have HD6:=hid (HD5.out.kept2 hs (by have:=HD4.out.blk.lt;omega) (by have:=HD4.out.win.lt;omega));have HB6:=hid (HB5.out.trans (hs.below HS5.out.1));clear hs))
   clear HC5 HD5 HB5 HS5 HCL HD4 HB4 HZ;go_wp2_with fail;refine(HJN W6 HB6.out).out.mono ?_;rintro e w7 ⟨v,rfl,ho⟩;obtain⟨AJ,cJ,hv,hcJ,hfJ,hnJ⟩:=xv ho.1;subst hv;have HFJ:=hid hfJ;have HD7:=hid (HD6.out.on ho.2);have HC7:=hid (HC6.out.on ho.2);have HB7:=hid (qb HB6.out ho.2);have HCJ:=hid (And.intro hcJ hnJ);clear ho hfJ HC6 HD6 HB6 HJN hcJ hnJ;go_wp2_with fail;refine(ad9 HD7.out).mono ?_;rintro e w8 ⟨rfl,hb8,hd8,hbl8,hz8⟩;have HR8:=hid hb8;have HFJ8:=hid (HFJ.out.keep fun b q=>hbl8.block b q.2);have HC8:=hid (HC7.out.on hbl8);have HB8:=hid (qb HB7.out hbl8);clear hb8 hd8 hbl8 hz8 HFJ HD7 HC7 HB7;obtain⟨c2,c3,c4,c6,c7,c8,c9,d0,d1,d2,eC,e1,e2,e3,e4⟩:=HSU;obtain⟨-,hr1,P,hP,-⟩:=HRE;have HOK:=a6o all (by have:=HJ.out;omega);rw[eC]at HC8 HOK;have b2:0≤c2∧c2≤400000000:=HOK 2;have b3:0≤c3∧c3≤400000000:=HOK 3;have b4:0≤c4∧c4≤400000000:=HOK 4;have b6:0≤c6∧c6≤400000000:=HOK 6
   have b7:0≤c7∧c7≤400000000:=HOK 7;have b8:0≤c8∧c8≤400000000:=HOK 8;have b9:0≤c9∧c9≤400000000:=HOK 9;have f0:0≤d0∧d0≤400000000:=HOK 10;have f1:0≤d1∧d1≤400000000:=HOK 11;have f2:0≤d2∧d2≤400000000:=HOK 12
   have hit:((zd (q7 all).1).length:Int)≤4000000:=by
    have h1:=as1 (q7 all).1;have h2:=aey all;have h3:=HJ.out;omega
   have hjj:(all.length:Int)≤2000000:=by have:=HJ.out;omega
   have hPl:=congrArg List.length hP;rw[List.length_append]at hPl;have HE8:Hid (axl w w4.1.size w7.1.size AJ all (q7 all).2 _ w8):=hid ⟨HC8.out,fun j u hu=>⟨w7.1.size,0,rfl,trivial,by rw[Nat.zero_add];exact HR8.out.cell j hu⟩,HFJ8.out.less fun _ _=>trivial,HB8.out⟩;have HNJ:=hid HCJ.out.2;have hcJ:(all.length:Int) ≤(cJ:Int):=by have:=HCJ.out.1;omega
   have HA:0<(q7 all).2.length→∃b o,AJ=some ⟨b,o,none⟩:=fun e=>by
    obtain⟨b,o,q,-⟩:=HFJ8.out 0 _ (List.getElem?_eq_getElem (by rw[zz];omega));exact⟨b,o,q⟩
   have HPP:=hid hP;have HPL:=hid hPl;clear HC8 HOK HFJ8 HR8 HCJ eC HB8 hP hPl;generalize (zd (q7 all).1).length=it at *;generalize vl (zd (q7 all).1)=gi at *;have a9:=HE8.out.cnt.cell 9 (v:=.int .i64 c9) rfl;go_wp2_with fail;clear a9
   go_loopg [12,13,14,15] 4 (fun t s12 s13 s14 s15 wr=>(s15=.int .i64 1∧s12=.int .i64 0∧s13=.int .i64 0∧s14=.int .i64 c9∧3≤t∨s15=.int .i64 2∧s12=.int .i64 c2∧s13=.int .i64 (c2+c6)∧s14=.int .i64 (c9+d0)∧2≤t∨s15=.int .i64 3∧s12=.int .i64 (c2+c3)∧s13=.int .i64 (c2+c6+c3+c7)∧s14=.int .i64 (c9+d0+d1)∧1≤t∨s15=.int .i64 4∧s12=.int .i64 (gi:Int)∧s13=.int .i64 (it:Int)∧s14=.int .i64 (c9+d0+d1+d2))∧Hid (axl w w4.1.size w7.1.size AJ all (q7 all).2 [.int .i64 (all.length:Int),.int .i64 0,.int .i64 c2,.int .i64 c3,.int .i64 c4,.int .i64 0,.int .i64 c6,.int .i64 c7,.int .i64 c8,.int .i64 c9,.int .i64 d0,.int .i64 d1,.int .i64 d2] wr))
   case atStart=>exact⟨.inl ⟨rfl,rfl,rfl,rfl,by decide⟩,HE8⟩
   case round=>
    obtain⟨hrel,HE⟩:=hrel;clear HE8;have a0:=HE.out.cnt.cell 0 (v:=.int .i64 (all.length:Int)) rfl;have a1:=HE.out.cnt.cell 1 (v:=.int .i64 0) rfl;have a2:=HE.out.cnt.cell 2 (v:=.int .i64 c2) rfl;have a3:=HE.out.cnt.cell 3 (v:=.int .i64 c3) rfl;have a4:=HE.out.cnt.cell 4 (v:=.int .i64 c4) rfl;have a5:=HE.out.cnt.cell 5 (v:=.int .i64 0) rfl;have a6:=HE.out.cnt.cell 6 (v:=.int .i64 c6) rfl;have a7:=HE.out.cnt.cell 7 (v:=.int .i64 c7) rfl;have a8:=HE.out.cnt.cell 8 (v:=.int .i64 c8) rfl;have a9:=HE.out.cnt.cell 9 (v:=.int .i64 c9) rfl;have a10:=HE.out.cnt.cell 10 (v:=.int .i64 d0) rfl;have a11:=HE.out.cnt.cell 11 (v:=.int .i64 d1) rfl;have a12:=HE.out.cnt.cell 12 (v:=.int .i64 d2) rfl;rcases hrel with⟨rfl,rfl,rfl,rfl,ht⟩|⟨rfl,rfl,rfl,rfl,ht⟩|⟨rfl,rfl,rfl,rfl,ht⟩|⟨rfl,rfl,rfl,rfl⟩
    ·go_wp2_with fail
     go_region
     go_wp2_with fail
     go_roundg 2
     case measure=>omega
     case rel=>exact⟨.inr (.inl ⟨rfl,by simp,by simp,rfl,by decide⟩),HE.out.drew⟩
    ·go_wp2_with fail
     go_region
     go_wp2_with fail
     go_roundg 1
     case measure=>omega
     case rel=>exact⟨.inr (.inr (.inl ⟨rfl,rfl,rfl,rfl,by decide⟩)),HE.out.drew⟩
    ·go_wp2_with fail
     go_region
     go_wp2_with fail
     go_roundg 0
     case measure=>omega
     case rel=>exact⟨.inr (.inr (.inr ⟨rfl,by first|rfl|(congr 1;omega),by first|rfl|(congr 1;omega),rfl⟩)),HE.out.drew⟩
    ·have HC1:=fun W (q:axl w w4.1.size w7.1.size AJ all (q7 all).2 [.int .i64 (all.length:Int),.int .i64 0,.int .i64 c2,.int .i64 c3,.int .i64 c4,.int .i64 0,.int .i64 c6,.int .i64 c7,.int .i64 c8,.int .i64 c9,.int .i64 d0,.int .i64 d1,.int .i64 d2] W)=>hid (ao3 q.rst _ (q7 all).2.length rfl)
     have hplen:P.length≤all.length:=by have:=HPL.out;omega
     have HC2:=fun W (q:axl w w4.1.size w7.1.size AJ all (q7 all).2 [.int .i64 (all.length:Int),.int .i64 0,.int .i64 c2,.int .i64 c3,.int .i64 c4,.int .i64 0,.int .i64 c6,.int .i64 c7,.int .i64 c8,.int .i64 c9,.int .i64 d0,.int .i64 d1,.int .i64 d2] W)=>hid (by
      have h2:=a8l q.jnd cJ P.length hplen om
      have h3:all.drop P.length=(q7 all).2:=by
       conv=>lhs;rw[HPP.out]
       exact List.drop_left' rfl
      rw[h3]at h2;exact ao3 h2 (q7 all).2.length (cJ-P.length) rfl)
     have HSL:=fun W=>hid (by
      have:=a5i AJ all.length cJ P.length hplen W;rw[show all.length-P.length=(q7 all).2.length by have:=HPL.out;omega]at this;exact this)
     have hPl:=HPL.out;clear HPP HPL HA HNJ;generalize hsr:toS (q7 all).2=sr at *;generalize hrl:(q7 all).2=rest at *;generalize hrn:rest.length=r at *;generalize hal:all.length=al at *;generalize P.length=lo at *;have hpI:(al:Int)-(r:Int)=(lo:Int):=by omega
     have hrI:(r:Int)<1024:=by omega
     have hr2:(r:Int) ≤(al:Int):=by omega
     have hr3:(0:Int) ≤(r:Int):=by omega
     have hlo:(0:Int) ≤(lo:Int):=by omega
     have hlo2:(lo:Int)≤2000000:=by omega
     have hpW:IntKind.i64.wrap (lo:Int)=(lo:Int):=IntWalk.i64_in _ om;have hit0:(0:Int) ≤(it:Int):=by omega
     have hw0:IntKind.i64.wrap (8*(it:Int))=8*(it:Int):=IntWalk.i64_in _ om;have hw1:IntKind.i64.wrap (c9+d0+d1+d2+8*(it:Int))=c9+d0+d1+d2+8*(it:Int):=IntWalk.i64_in _ om;have hw2:IntKind.i64.wrap (c9+d0+d1+d2+8*(it:Int) +(r:Int))=c9+d0+d1+d2+8*(it:Int) +(r:Int):=IntWalk.i64_in _ om;have hw3:IntKind.i64.wrap (1024*(it:Int))=1024*(it:Int):=IntWalk.i64_in _ om;have hw4:IntKind.i64.wrap (c9+d0+d1+d2+1024*(it:Int))=c9+d0+d1+d2+1024*(it:Int):=IntWalk.i64_in _ om;have hw5:IntKind.i64.wrap (c9+d0+d1+d2+1024*(it:Int) +(r:Int))=c9+d0+d1+d2+1024*(it:Int) +(r:Int):=IntWalk.i64_in _ om;have hw9:IntKind.i64.wrap 0=0:=IntWalk.i64_in _ dc;clear hsr hrl hrn hal hPl;go_wp2_with fail
     repeat rw[List.append_eq]
     simp only[List.cons_append,List.nil_append];have hS0:=HE.out.drew;refine wp_region_held_drew (S:=axl w w4.1.size w7.1.size AJ all rest [.int .i64 (al:Int),.int .i64 0,.int .i64 c2,.int .i64 c3,.int .i64 c4,.int .i64 0,.int .i64 c6,.int .i64 c7,.int .i64 c8,.int .i64 c9,.int .i64 d0,.int .i64 d1,.int .i64 d2]) kr hS0 (fun hHeld=>?_);refine tkA 0 91 rfl ?_
     try go_frame
     refine tkQ (i:=1) (oi:=⟨some 92,_,_,_,_,_⟩) (v:=?_) rfl (Or.inl ⟨by rfl,?_⟩) ?_;rotate_left
     ·intro w' hSw;have a0:=hSw.cnt.cell 0 (v:=.int .i64 (al:Int)) rfl;go_simp
      try with_reducible rfl
     try go_frame
     refine tkA 2 93 rfl ?_
     try go_frame
     refine tkA 3 94 rfl ?_
     try go_frame
     refine tkA 4 95 rfl ?_
     try go_frame
     refine tkA 5 96 rfl ?_
     try go_frame
     refine tkA 6 97 rfl ?_
     try go_frame
     refine tkA 7 98 rfl ?_
     try go_frame
     refine tkA 8 99 rfl ?_
     try go_frame
     refine tkA 9 100 rfl ?_
     try go_frame
     refine tkA 10 101 rfl ?_
     try go_frame
     refine tkA 11 102 rfl ?_
     try go_frame
     refine tkA 12 103 rfl ?_
     try go_frame
     refine tkA 13 104 rfl ?_
     try go_frame
     refine tkA 14 105 rfl ?_
     try go_frame
     refine tkA 15 106 rfl ?_
     try go_frame
     refine tkA 16 107 rfl ?_
     try go_frame
     refine tkA 17 108 rfl ?_
     try go_frame
     refine tkA 18 109 rfl ?_
     try go_frame
     refine tkQ (i:=19) (oi:=⟨some 110,_,_,_,_,_⟩) (v:=?_) rfl (Or.inl ⟨by rfl,?_⟩) ?_;rotate_left
     ·intro w' hSw;have cv1:=(HC1 w' hSw).out;go_simp
      try with_reducible rfl
     try go_frame
     refine tkA 20 111 rfl ?_
     try go_frame
     refine tkA 21 112 rfl ?_
     try go_frame
     refine tkA 22 113 rfl ?_
     try go_frame
     refine tkA 23 114 rfl ?_
     try go_frame
     refine tkA 24 115 rfl ?_
     try go_frame
     refine tkA 25 116 rfl ?_
     try go_frame
     refine wpAnyH_take (i:=26) (oi:=⟨some 117,_,_,_,_,_⟩) (v:=.slice (be1 AJ cJ lo) r (cJ-lo)) rfl kr kr kr (fun _ _ _ h=>h) (Or.inl ⟨by rfl,fun w' _=>a0d (x:=.tmp 111) (lo:=.tmp 116) (u:=.slice AJ al cJ) (v:=.int .i64 (lo:Int)) rfl rfl rfl (HSL w').out⟩) (by assumption) ?_
     try go_frame
     refine tkQ (i:=27) (oi:=⟨some 118,_,_,_,_,_⟩) (v:=?_) rfl (Or.inl ⟨by rfl,?_⟩) ?_;rotate_left
     ·intro w' hSw;have cv2:=(HC2 w' hSw).out;go_simp
      try with_reducible rfl
     try go_frame
     refine tkA 28 119 rfl ?_
     try go_frame
     refine tkA 29 120 rfl ?_
     try go_frame
     refine tkA 30 121 rfl ?_
     try go_frame
     refine tkA 31 122 rfl ?_
     try go_frame
     refine tkA 32 123 rfl ?_
     try go_frame
     refine tkA 33 124 rfl ?_
     try go_frame
     refine tkA 34 125 rfl ?_
     try go_frame
     refine tkA 35 126 rfl ?_
     try go_frame
     refine tkA 36 127 rfl ?_
     try go_frame
     refine tkA 37 128 rfl ?_
     try go_frame
     refine tkA 38 129 rfl ?_
     try go_frame
     refine tkA 39 130 rfl ?_
     try go_frame
     refine tkA 40 131 rfl ?_
     try go_frame
     refine tkA 41 132 rfl ?_
     try go_frame
     refine tkA 42 133 rfl ?_
     try go_frame
     refine tkQ (i:=43) (oi:=⟨some 134,_,_,_,_,_⟩) (v:=?_) rfl (Or.inl ⟨by rfl,?_⟩) ?_;rotate_left
     ·intro w' hSw;have a1:=hSw.cnt.cell 1 (v:=.int .i64 0) rfl;go_simp
      try with_reducible rfl
     try go_frame
     refine tkA 44 135 rfl ?_
     try go_frame
     refine tkA 45 136 rfl ?_
     try go_frame
     refine tkQ (i:=46) (oi:=⟨some 137,_,_,_,_,_⟩) (v:=?_) rfl (Or.inl ⟨by rfl,?_⟩) ?_;rotate_left
     ·intro w' hSw;have a5:=hSw.cnt.cell 5 (v:=.int .i64 0) rfl;go_simp
      try with_reducible rfl
     try go_frame
     refine tkA 47 138 rfl ?_
     try go_frame
     refine tkA 48 139 rfl ?_
     try go_frame
     refine tkA 49 140 rfl ?_
     try go_frame
     refine tkA 50 141 rfl ?_
     try go_frame
     refine tkA 51 142 rfl ?_
     try go_frame
     refine tkA 52 143 rfl ?_
     try go_frame
     refine tkA 53 144 rfl ?_
     try go_frame
     refine tkA 54 145 rfl ?_
     try go_frame
     refine tkA 55 146 rfl ?_
     try go_frame
     refine tkA 56 147 rfl ?_
     try go_frame
     refine tkA 57 148 rfl ?_
     try go_frame
     refine tkA 58 149 rfl ?_
     try go_frame
     refine tkA 59 150 rfl ?_
     try go_frame
     refine tkA 60 151 rfl ?_
     try go_frame
     refine tkA 61 152 rfl ?_
     try go_frame
     refine tkA 62 153 rfl ?_
     try go_frame
     refine tkA 63 154 rfl ?_
     try go_frame
     refine tkA 64 155 rfl ?_
     try go_frame
     refine tkA 65 156 rfl ?_
     try go_frame
     refine tkA 66 157 rfl ?_
     try go_frame
     refine tkA 67 158 rfl ?_
     try go_frame
     refine tkA 68 159 rfl ?_
     try go_frame
     refine tkA 69 160 rfl ?_
     try go_frame
     refine tkA 70 161 rfl ?_
     try go_frame
     refine tkA 71 162 rfl ?_
     try go_frame
     refine tkA 72 163 rfl ?_
     try go_frame
     refine tkA 73 164 rfl ?_
     try go_frame
     refine tkA 74 2 rfl ?_
     try go_frame
     refine wpAnyH_done kr ?_ _
     try go_frame
     go_wp2_with fail;go_ret;exact⟨rfl,hHeld.bel⟩
theorem rsySum_any {w:World} (A:Option Addr) (ps:List (List UInt8)) (c:Nat) (h:agj (fun b=>b<w.1.size) w A ps) (hm:ps.length≤maxLen) (hp:∀p∈ps,p.length≤maxLen) (hj:ps.flatten.length≤2000000) :
 Calls Tryz.prog 7 #[.slice A ps.length c] w fun e w'=>e=.returned (.bool true)∧Below w.1.size w w':=by
 cases hf:a3e ps with
 | false=>exact a0c A ps c h hm hp hf
 | true=>exact a4v A ps c h hm hp hf hj
end Go.Proofs.YtdkhlkfleggbaaaGreat
