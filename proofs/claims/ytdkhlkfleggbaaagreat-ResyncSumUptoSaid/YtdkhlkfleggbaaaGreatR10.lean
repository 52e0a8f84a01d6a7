/- Layer 23: the closure of the program's parse. -/
import Derived.Test.YtdkhlkfleggbaaaGreatR09
import Derived.Deep.RegionHeld3
namespace Go.Proofs.YtdkhlkfleggbaaaGreat
set_option maxHeartbeats 2000000
set_option maxRecDepth 8000
open Lib (hid)
open Tryz
set_option linter.unusedVariables false
open Go.RowKit
def agl (W:World) (gs gn ga:Nat) (s:ByteArray) (nv:Int) (a:Nat):Prop:=
 W.cell? ⟨gs,0,none⟩=some (.string s)∧W.cell? ⟨gn,0,none⟩=some (.int .i64 nv)∧W.cell? ⟨ga,0,none⟩=some (.int .i64 (a:Int))∧W.frozen? ⟨gn,0,none⟩=false∧W.frozen? ⟨ga,0,none⟩=false
def jo (s:ByteArray) (a:Nat) (nv:Int) (k:Nat):Int:=nv*j9 k +(yn ((s.data.toList.drop a).take k):Int)
theorem bay (s:ByteArray) (a:Nat) (nv:Int):jo s a nv 0=nv:=by
 unfold jo;rw[ba3,List.take_zero];show nv*1+0=nv;omega
theorem bax (s:ByteArray) (a:Nat) (nv:Int) (k:Nat) (h:a+k<s.size) (hd:isD s[a+k]=true):jo s a nv (k+1)=10*jo s a nv k +((s[a+k].toNat:Int)-48):=by
 unfold jo
 have hl : k < (s.data.toList.drop a).length := by rw[List.length_drop];have:s.data.toList.length=s.size:=by simp
                                                   omega
 have he:(s.data.toList.drop a)[k]=s[a+k]:=by rw[List.getElem_drop];rfl
 have h2:=of_decide_eq_true hd;rw[List.take_succ_eq_append_getElem hl,aib,he,atu,← Int.mul_assoc];omega
def axj (s:ByteArray) (a most:Nat) (nv:Int) (gs gn ga B:Nat) (W:World) (e:Ending) (w':World):Prop:=
 ∃(K:Nat) (nv2:Int),K=min (jl (s.data.toList.drop a)) (most+1)∧e=.returned (.int .i64 (K:Int))∧agl w' gs gn ga s nv2 (a+K)∧Below B W w'∧w'.1.size=W.1.size ∧(K≤most→nv2=jo s a nv K)
def a6l (s:ByteArray) (a most:Nat) (nv:Int) (gs gn ga B:Nat) (W:World) (v:Value) (wr:World):Prop:=
 ∃(k:Nat) (nv2:Int),v=.int .i64 (k:Int)∧k≤most+1∧a+k≤s.size∧Hid (∀j,j<k→∃h:a+j<s.size,isD s[a+j]=true)∧Hid (agl wr gs gn ga s nv2 (a+k))∧Hid (Below B W wr)∧Hid (wr.1.size=W.1.size)∧Hid (k≤most→nv2=jo s a nv k)
theorem a4a {s:ByteArray} {a most:Nat} {nv:Int} {gs gn ga B:Nat} {W wr:World} {k:Nat} {nv2:Int}
 (hm:most≤12) (hd1:gs≠gn) (hd2:gs≠ga) (hd3:gn≠ga) (hB1:B≤gn) (hB2:B≤ga)
 (HB:∀k,k≤most→0≤jo s a nv k∧jo s a nv k≤9000000000000000000)
 (hkm:k≤most) (hlt:a+k<s.size) (hd:isD s[a+k]=true) (hall:∀j,j<k→∃h:a+j<s.size,isD s[a+j]=true)
 (hst:agl wr gs gn ga s nv2 (a+k)) (hb:Below B W wr) (hz:wr.1.size=W.1.size) (hex:k≤most→nv2=jo s a nv k) :
 a6l s a most nv gs gn ga B W (.int .i64 ((k:Int)+1)) ((wr.setCell ⟨gn,0,none⟩ (.int .i64 (wrap64 (wrap64 (10*nv2) +(((s[a+k]'hlt).toNat:Int)-48))))).setCell ⟨ga,0,none⟩ (.int .i64 (((a+k:Nat):Int)+1))).drew:=by
 obtain⟨c1,c2,c3,z1,z2⟩:=hst;refine⟨k+1,wrap64 (wrap64 (10*nv2) +(((s[a+k]'hlt).toNat:Int)-48)),by rw[Int.natCast_add];rfl,by omega,by omega,hid ?_,hid ⟨?_,?_,?_,?_,?_⟩,hid ?_,hid ?_,hid ?_⟩
 ·intro j hj;rcases Nat.lt_or_ge j k with h|h
  ·exact hall j h
  ·obtain rfl:j=k:=by omega
   exact⟨hlt,hd⟩
 ·show ((wr.setCell _ _).setCell _ _).cell? _=_;rw[World.cell?_setCell_other _ _ _ _ (fun e=>by injection e with e;exact hd2 e.symm),World.cell?_setCell_other _ _ _ _ (fun e=>by injection e with e;exact hd1 e.symm)];exact c1
 ·show ((wr.setCell _ _).setCell _ _).cell? _=_;rw[World.cell?_setCell_other _ _ _ _ (fun e=>by injection e with e;exact hd3 e.symm),World.cell?_setCell_same _ _ _ c2]
 ·show ((wr.setCell _ _).setCell _ _).cell? _=_;have h0:(wr.setCell ⟨gn,0,none⟩ (.int .i64 (wrap64 (wrap64 (10*nv2) +(((s[a+k]'hlt).toNat:Int)-48))))).cell? ⟨ga,0,none⟩=_:=(World.cell?_setCell_other _ _ _ _ (fun e=>by injection e with e;exact hd3 e)).trans c3;rw[World.cell?_setCell_same _ _ _ h0];rw[show ((a +(k+1):Nat):Int)=((a+k:Nat):Int)+1 from by omega]
 ·show ((wr.setCell _ _).setCell _ _).frozen? _=_
  simpa using z1
 ·show ((wr.setCell _ _).setCell _ _).frozen? _=_
  simpa using z2
 ·exact abx ((hb.setCell hB1 _).setCell hB2 _)
 ·show ((wr.setCell _ _).setCell _ _).1.size=_
  simpa using hz
 ·intro hk1;have e1:=hex om;have b1:=HB k om;have b2:=HB (k+1) hk1;have e2:=bax s a nv k hlt hd;have e3:=of_decide_eq_true hd;subst e1;rw[e2]at b2 ⊢;have q1:wrap64 (10*jo s a nv k)=10*jo s a nv k:=IntWalk.wrap64_in _ om;rw[q1,IntWalk.wrap64_in _ om]
theorem bgc:∀(l:List UInt8) (k:Nat),(∀j (h:j<l.length),j<k→isD l[j]=true)→k≤l.length→k≤jl l:=by
 intro l
 induction l with
 | nil=>intro k _ h;exact Nat.le_trans h (Nat.zero_le _)
 | cons c l ih=>
  intro k h1 h2;cases k with
  | zero=>exact Nat.zero_le _
  | succ k=>
   have h0:isD c=true:=h1 0 sm om;have h3:=ih k (fun j hj hk=>h1 (j+1) (by simpa using hj) om) (by simpa using h2);unfold jl at h3 ⊢;rw[List.takeWhile_cons_of_pos h0,List.length_cons];omega
theorem apm {s:ByteArray} {a most:Nat} {nv:Int} {gs gn ga B:Nat} {W wr:World} {k:Nat} {nv2:Int}
 (hak:a+k≤s.size) (hstop:k=most+1∨¬a+k<s.size∨∃h:a+k<s.size,isD s[a+k]=false) (hk:k≤most+1) (hall:∀j,j<k→∃h:a+j<s.size,isD s[a+j]=true)
 (hst:agl wr gs gn ga s nv2 (a+k)) (hb:Below B W wr) (hz:wr.1.size=W.1.size) (hex:k≤most→nv2=jo s a nv k) :
 axj s a most nv gs gn ga B W (.returned (.int .i64 (k:Int))) wr:=by
 refine⟨k,nv2,?_,rfl,hst,hb,hz,hex⟩;have hsz:s.data.toList.length=s.size:=by simp
 have hlen:(s.data.toList.drop a).length=s.size-a:=by rw[List.length_drop,hsz]
 have hg:∀j (h:j<(s.data.toList.drop a).length) (h2:a+j<s.size),(s.data.toList.drop a)[j]=s[a+j]:=fun j h h2=>by rw[List.getElem_drop];rfl
 have hle:k≤jl (s.data.toList.drop a):=bgc _ _ (fun j hj hk=>by
  obtain⟨h,e⟩:=hall j hk;rw[hg j hj h];exact e) om
 rcases hstop with h|h|⟨h,e⟩
 ·omega
 ·have:=anl (s.data.toList.drop a);omega
 ·have:jl (s.data.toList.drop a)=k:=bgd _ k (fun j hj hk=>by
   obtain⟨h,e⟩:=hall j hk;rw[hg j hj h];exact e) om (fun h'=>by rw[hg k h' h];exact e)
  omega
theorem adq (s:ByteArray) (a most:Nat) (nv:Int) (gs gn ga B:Nat) (W:World) (hs:s.size≤1000000) (ha:a≤s.size) (hm:most≤12)
 (hst:agl W gs gn ga s nv a) (hd1:gs≠gn) (hd2:gs≠ga) (hd3:gn≠ga) (hB1:B≤gn) (hB2:B≤ga)
 (HB:Hid (∀k,k≤most→0≤jo s a nv k∧jo s a nv k≤9000000000000000000)) :
 Calls Tryz.prog 233 #[.int .i64 (most:Int),.pointer (some ⟨ga,0,none⟩),.pointer (some ⟨gs,0,none⟩),.pointer (some ⟨gn,0,none⟩)] W (axj s a most nv gs gn ga B W):=by
 have HST:=hid hst;clear hst;go_enter func233,ntmps233;go_wp2
 go_loopw [6] (fun v wr=>a6l s a most nv gs gn ga B W v wr) (fun v _=>most+1-(intOf v).toNat)
 case atStart=>exact⟨0,nv,rfl,Nat.zero_le _,ha,fun j h=>absurd h (Nat.not_lt_zero _),HST,hid (Below.refl _ _),rfl,fun _=>(bay s a nv).symm⟩
 case round=>
  obtain⟨k,nv2,rfl,hk,hak,hall,hst,hb,hz,hex⟩:=hrel;obtain⟨c1,c2,c3,z1,z2⟩:=hst.out
  by_cases hlt:a+k<s.size
  ·have i1:((a+k:Nat):Int)<(s.size:Int):=by omega
   have i2:(0:Int) ≤((a+k:Nat):Int):=Int.natCast_nonneg _;have i3:((a+k:Nat):Int).toNat=a+k:=by omega
   by_cases hd:isD s[a+k]=true
   ·have hdd:=of_decide_eq_true hd;have h48:(48:Int) ≤((s[a+k]'hlt).toNat:Int):=by omega
    have h57:((s[a+k]'hlt).toNat:Int)≤57:=by omega
    by_cases hkm:k≤most
    ·have HN:=hid (a4a hm hd1 hd2 hd3 hB1 hB2 HB.out hkm hlt hd hall.out hst.out hb.out hz.out hex.out);clear hall hst hb hz hex;generalize hA:a+k=A at *;go_wp2
     go_region_with (fail)
     all_goals go_wp2
     all_goals go_roundw
     all_goals first|exact HN.out|(show most+1-((k:Int)+1).toNat<most+1-(k:Int).toNat;omega)
    ·have HO:=hid (apm hak (.inl om) hk hall.out hst.out hb.out hz.out hex.out);have hkm2:(most:Int)<(k:Int):=by omega
     clear hall hst hb hz hex hkm;generalize hA:a+k=A at *;go_wp2;go_ret;exact HO.out
   ·have HO:=hid (apm hak (.inr (.inr ⟨hlt,by simpa using hd⟩)) hk hall.out hst.out hb.out hz.out hex.out);have hdd:¬(48 ≤(s[a+k]'hlt).toNat ∧(s[a+k]'hlt).toNat≤57):=fun h=>hd (decide_eq_true h)
    clear hall hst hb hz hex hd
    by_cases h1:48 ≤(s[a+k]'hlt).toNat
    ·have h48:(48:Int) ≤((s[a+k]'hlt).toNat:Int):=by omega
     have h57:(57:Int)<((s[a+k]'hlt).toNat:Int):=by omega
     generalize hA:a+k=A at *;go_wp2;go_ret;exact HO.out
    ·have h48:((s[a+k]'hlt).toNat:Int)<(48:Int):=by omega
     generalize hA:a+k=A at *;go_wp2;go_ret;exact HO.out
  ·have HO:=hid (apm hak (.inr (.inl hlt)) hk hall.out hst.out hb.out hz.out hex.out);have i1:(s.size:Int) ≤((a+k:Nat):Int):=by omega
   clear hall hst hb hz hex;generalize hA:a+k=A at *;go_wp2;go_ret;exact HO.out
theorem bfc (l:List UInt8):yn l+29≤29*10^l.length:=by
 have key:∀r:List UInt8,yn r.reverse+29≤29*10^r.length:=by
  intro r
  induction r with
  | nil=>decide
  | cons c r ih=>
   have h2:=c.toNat_lt;rw[List.reverse_cons,aib,List.length_cons,Nat.pow_succ];omega
 have:=key l.reverse;rw[List.reverse_reverse,List.length_reverse]at this;exact this
theorem abo (s:ByteArray) (a:Nat) (nv:Int) (most n:Nat) (h0:0≤nv) (h1:nv<j9 n) (h2:n+most≤18) (h3:most≤12):∀k,k≤most→0≤jo s a nv k∧jo s a nv k≤9000000000000000000:=by
 intro k hk;unfold jo;have e1:=ahb k;have e2:nv*j9 k≤j9 n*j9 k:=Int.mul_le_mul_of_nonneg_right om om
 have e3:j9 n*j9 k≤1000000000000000000:=by
  rw[jx,jx,← Int.natCast_mul,← Nat.pow_add];have:(10:Nat)^(n+k)≤10^18:=Nat.pow_le_pow_right dc om;have e:(10:Nat)^18=1000000000000000000:=by decide
  omega
 have e4:0≤nv*j9 k:=Int.mul_nonneg h0 om;have e5:=bfc ((s.data.toList.drop a).take k);have e6:(10:Nat)^((s.data.toList.drop a).take k).length≤10^12:=Nat.pow_le_pow_right dc (by rw[List.length_take];omega);have e:(10:Nat)^12=1000000000000:=by decide
 omega
theorem azw {P:Program} {f:FuncId} {args:Array Value} {w:World} {n:Nat} {v:Value}
 (h:Calls P f args (w.drewN n) fun e w'=>e=.returned v∧w.drewN n=w'):Calls P f args (w.drewN n) fun e w''=>e=.returned v∧∃m,w''=w.drewN m:=
 h.mono fun _ _ ⟨he,hm⟩=>⟨he,n,hm.symm⟩
theorem qj (w:World) (n o:Nat) (h:w.1.size≤n):w.frozen? ⟨n,o,none⟩=false:=by
 unfold World.frozen?;rw[Array.getElem?_eq_none h]
theorem adr (s:ByteArray) (w:World):agl (((w.alloc (.cells #[.string s] 9)).alloc (.cells #[.int .i64 0] 2)).alloc (.cells #[.int .i64 0] 3)) w.1.size (w.1.size+1) (w.1.size+1+1) s 0 0:=by
 have n1:(w.alloc (.cells #[.string s] 9)).1.size=w.1.size+1:=by simp
 have n2:((w.alloc (.cells #[.string s] 9)).alloc (.cells #[.int .i64 0] 2)).1.size=w.1.size+1+1:=by simp
 refine⟨?_,?_,?_,?_,?_⟩
 ·rw[World.cell?_alloc_past _ _ _ om,World.cell?_alloc_past _ _ _ om,World.cell?_alloc_at _ _ _ _ rfl];rfl
 ·rw[World.cell?_alloc_past _ _ _ om,World.cell?_alloc_at _ _ _ _ n1.symm];rfl
 ·rw[World.cell?_alloc_at _ _ _ _ n2.symm];rfl
 ·rw[frozen?_alloc_cells,frozen?_alloc_cells,frozen?_alloc_cells];exact qj _ _ _ om
 ·rw[frozen?_alloc_cells,frozen?_alloc_cells,frozen?_alloc_cells];exact qj _ _ _ om
theorem a4k (s:ByteArray) (l m f:Nat) (w:World) (hs:s.size≤1000000) (hm:m≤12) (hf:f≤6) (g:jl s.data.toList<l∨m<jl s.data.toList) :
 Calls Tryz.prog 223 #[.string s,.int .i64 (l:Int),.int .i64 (m:Int),.int .i64 (f:Int)] w fun e w'=>e=.returned (.tuple #[.int .i64 0,.bool false])∧Below w.1.size w w':=by
 have HB:Hid (∀k,k≤m→0≤jo s 0 0 k∧jo s 0 0 k≤9000000000000000000):=abo s 0 0 m 0 dc dc om hm;have HX:=fun W gs gn ga B h1 h2 h3 h4 h5 h6=>adq s 0 m 0 gs gn ga B W hs (Nat.zero_le _) hm h1 h2 h3 h4 h5 h6 HB
 go_enter func223,ntmps223;go_wp2_with fail;refine(HX _ w.1.size (w.1.size+1) (w.1.size+1+1) w.1.size (adr s w) om om om om om).mono ?_;rintro e w1 ⟨K,nv2,hK,rfl,hst,hb,hz,hex⟩;have b1:=hid (((((Below.refl w.1.size w).alloc (Nat.le_refl _) _).alloc sm _).alloc (by simp;omega) _).trans hb);rw[List.drop_zero]at hK;clear hst hb hz hex HX HB
 by_cases h:(K:Int)<(l:Int)
 ·go_wp2_with fail
  go_ret2
  exact⟨rfl,b1.out⟩
 ·have h2:(m:Int)<(K:Int):=by omega
  have h1:(l:Int) ≤(K:Int):=by omega
  clear hK g h;go_wp2_with fail
  go_ret2
  exact⟨rfl,b1.out⟩
theorem a9h (s:ByteArray) (l m f:Nat) (w:World) (hs:s.size≤1000000) (hm:m≤12) (hf:f≤6) (g:¬(jl s.data.toList<l∨m<jl s.data.toList)) (g2:jl s.data.toList=s.data.toList.length) :
 Calls Tryz.prog 223 #[.string s,.int .i64 (l:Int),.int .i64 (m:Int),.int .i64 (f:Int)] w fun e w'=>e=.returned (.tuple #[.int .i64 ((yn s.data.toList:Int)*j9 f),.bool true])∧Below w.1.size w w':=by
 have HB:Hid (∀k,k≤m→0≤jo s 0 0 k∧jo s 0 0 k≤9000000000000000000):=abo s 0 0 m 0 dc dc om hm;have HX:=fun W gs gn ga B h1 h2 h3 h4 h5 h6=>adq s 0 m 0 gs gn ga B W hs (Nat.zero_le _) hm h1 h2 h3 h4 h5 h6 HB
 have hA:=abr s.data.toList;rw[g2,List.take_length]at hA;have hz:s.data.toList.length=s.size:=by simp
 have HT:=fun W=>hid (awr f W om)
 have hv:=al0 hA (n:=f) om;have hv0:(0:Int) ≤(yn s.data.toList:Int):=by omega
 have hv1:(yn s.data.toList:Int)<j9 12:=by
  have h1:=aia s.data.toList hA;have h2:(10:Nat)^s.data.toList.length≤10^12:=Nat.pow_le_pow_right dc om;rw[jx];omega
 rw[show j9 12=1000000000000 from by decide]at hv1
 have hsum:jo s 0 0 s.size=(yn s.data.toList:Int):=by
  unfold jo;rw[List.drop_zero,← hz,List.take_length];omega
 obtain⟨V,hVe⟩:∃V,(yn s.data.toList:Int)=V:=⟨_,rfl⟩;have t1:=ahb f;obtain⟨T,hTe⟩:∃T,j9 f=T:=⟨_,rfl⟩;rw[hVe]at hv0 hv1 hsum;rw[hVe,hTe]at hv;rw[hTe]at t1;simp only[hTe]at HT;rw[hVe,hTe];clear hVe hTe;go_enter func223,ntmps223;go_wp2_with fail;refine(HX _ w.1.size (w.1.size+1) (w.1.size+1+1) w.1.size (adr s w) om om om om om).mono ?_;rintro e w1 ⟨K,nv2,hK,rfl,hst,hb,hz1,hex⟩;have b1:=hid (((((Below.refl w.1.size w).alloc (Nat.le_refl _) _).alloc sm _).alloc (by simp;omega) _).trans hb);rw[List.drop_zero]at hK;obtain rfl:K=s.size:=by omega
 obtain rfl:V=nv2:=by rw[hex om,hsum]
 obtain⟨c1,c2,c3,-,-⟩:=hst;have h1:(l:Int) ≤(s.size:Int):=by omega
 have h2:(s.size:Int) ≤(m:Int):=by omega
 rw[Nat.zero_add]at c3;clear hK hex hsum HX HB hA g g2 hz hb hz1;have hw:IntKind.i64.wrap (V*T)=V*T:=IntWalk.i64_in _ om;have hw2:wrap64 (V*T)=V*T:=IntWalk.wrap64_in _ om;have hf0:(0:Int) ≤(f:Int):=by omega
 have hf6:(f:Int)≤6:=by omega
 have hw3:IntKind.i64.wrap ((f:Int)-0)=(f:Int):=by rw[IntWalk.i64_in _ om];omega
 have hw4:IntKind.i64.wrap (f:Int)=(f:Int):=by rw[IntWalk.i64_in _ om]
 go_wp2_with fail
 go_quiet ((go_at_call 232;exact azw (HT _).out))
 go_wp2_with fail
 go_ret2
 exact⟨rfl,abl b1.out _⟩
theorem azq (s:ByteArray) (a l m f:Nat) (w:World) (hs:s.size≤1000000) (hm:m≤12) (hf:f≤6) (ha:jl s.data.toList=a) (h1:(l:Int) ≤(a:Int)) (h2:(a:Int) ≤(m:Int)) (hlt:a<s.size) (hc:(((s[a]'hlt).toNat:Int) != 46)=true) :
 Calls Tryz.prog 223 #[.string s,.int .i64 (l:Int),.int .i64 (m:Int),.int .i64 (f:Int)] w fun e w'=>e=.returned (.tuple #[.int .i64 0,.bool false])∧Below w.1.size w w':=by
 have HB:Hid (∀k,k≤m→0≤jo s 0 0 k∧jo s 0 0 k≤9000000000000000000):=abo s 0 0 m 0 dc dc om hm;have HX:=fun W gs gn ga B h1 h2 h3 h4 h5 h6=>adq s 0 m 0 gs gn ga B W hs (Nat.zero_le _) hm h1 h2 h3 h4 h5 h6 HB
 go_enter func223,ntmps223;go_wp2_with fail;refine(HX _ w.1.size (w.1.size+1) (w.1.size+1+1) w.1.size (adr s w) om om om om om).mono ?_;rintro e w1 ⟨K,nv2,hK,rfl,hst,hb,hz1,hex⟩;have b1:=hid (((((Below.refl w.1.size w).alloc (Nat.le_refl _) _).alloc sm _).alloc (by simp;omega) _).trans hb);rw[List.drop_zero,ha]at hK;obtain rfl:K=a:=by omega
 obtain⟨c1,c2,c3,-,-⟩:=hst;rw[Nat.zero_add]at c3;have i1:(K:Int)<(s.size:Int):=by omega
 have i2:(0:Int) ≤(K:Int):=Int.natCast_nonneg _;have i3:(K:Int).toNat=K:=by omega
 clear hK hex HX HB ha hb hz1;go_wp2_with fail
 go_ret2
 exact⟨rfl,b1.out⟩
theorem apl {s:ByteArray} {gs gn ga:Nat} {w1:World} {nv:Int} {a:Nat} (h:agl w1 gs gn ga s nv a) (hd2:gs≠ga) (hd3:gn≠ga):agl (w1.setCell ⟨ga,0,none⟩ (.int .i64 ((a:Int)+1))) gs gn ga s nv (a+1):=by
 obtain⟨c1,c2,c3,z1,z2⟩:=h;refine⟨?_,?_,?_,?_,?_⟩
 ·rw[World.cell?_setCell_other _ _ _ _ (fun e=>by injection e with e;exact hd2 e.symm)];exact c1
 ·rw[World.cell?_setCell_other _ _ _ _ (fun e=>by injection e with e;exact hd3 e.symm)];exact c2
 ·rw[World.cell?_setCell_same _ _ _ c3];rw[show ((a+1:Nat):Int)=(a:Int)+1 from by omega]
 ·simpa using z1
 ·simpa using z2
theorem avc (s:ByteArray) (a b l m f:Nat) (w:World) (hs:s.size≤1000000) (hm:m≤12) (hf:f≤6) (ha:jl s.data.toList=a) (h1:(l:Int) ≤(a:Int)) (h2:(a:Int) ≤(m:Int)) (hlt:a<s.size) (hc:(((s[a]'hlt).toNat:Int) != 46)=false) (hbe:jl (s.data.toList.drop (a+1))=b)
 (g:b<1∨f<b∨a+1+b≠s.size) :
 Calls Tryz.prog 223 #[.string s,.int .i64 (l:Int),.int .i64 (m:Int),.int .i64 (f:Int)] w fun e w'=>e=.returned (.tuple #[.int .i64 0,.bool false])∧Below w.1.size w w':=by
 have HB:Hid (∀k,k≤m→0≤jo s 0 0 k∧jo s 0 0 k≤9000000000000000000):=abo s 0 0 m 0 dc dc om hm;have HX:=fun W gs gn ga B h1 h2 h3 h4 h5 h6=>adq s 0 m 0 gs gn ga B W hs (Nat.zero_le _) hm h1 h2 h3 h4 h5 h6 HB
 have hA:=abr s.data.toList;rw[ha]at hA
 have hV:jo s 0 0 a=(yn (s.data.toList.take a):Int):=by
  unfold jo;rw[List.drop_zero];omega
 have hV0:0≤jo s 0 0 a:=by rw[hV];omega
 have hV1:jo s 0 0 a<j9 12:=by
  have e1:=aia _ hA;have e2:(10:Nat)^(s.data.toList.take a).length≤10^12:=Nat.pow_le_pow_right dc (by rw[List.length_take];omega);rw[hV,jx];omega
 have HB2:Hid (∀k,k≤f→0≤jo s (a+1) (jo s 0 0 a) k∧jo s (a+1) (jo s 0 0 a) k≤9000000000000000000):=abo s (a+1) _ f 12 hV0 hV1 om om;have hblen:=anl (s.data.toList.drop (a+1));rw[hbe,List.length_drop,show s.data.toList.length=s.size from by simp]at hblen;obtain⟨V,hVe⟩:∃V,jo s 0 0 a=V:=⟨_,rfl⟩;rw[hVe]at HB2;have HVE:=hid hVe;clear hV hV0 hV1 hA hVe;have HX2:=fun W gs gn ga B h1 h2 h3 h4 h5 h6=>adq s (a+1) f V gs gn ga B W hs om om h1 h2 h3 h4 h5 h6 HB2
 go_enter func223,ntmps223;go_wp2_with fail;refine(HX _ w.1.size (w.1.size+1) (w.1.size+1+1) w.1.size (adr s w) om om om om om).mono ?_;rintro e w1 ⟨K,nv2,hK,rfl,hst,hb,hz1,hex⟩;have b1:=hid (((((Below.refl w.1.size w).alloc (Nat.le_refl _) _).alloc sm _).alloc (by simp;omega) _).trans hb);rw[List.drop_zero,ha]at hK;obtain rfl:K=a:=by omega
 obtain rfl:nv2=V:=(hex om).trans HVE.out;rw[Nat.zero_add]at hst;have hst2:=hid (apl hst om om);obtain⟨c1,c2,c3,-,z3⟩:=hst;have i1:(K:Int)<(s.size:Int):=by omega
 have i2:(0:Int) ≤(K:Int):=Int.natCast_nonneg _;have i3:(K:Int).toNat=K:=by omega
 clear hK hex HX HB ha hb hz1;go_wp2_with fail;refine(HX2 _ w.1.size (w.1.size+1) (w.1.size+1+1) w.1.size hst2.out om om om om om).mono ?_;rintro e w2 ⟨K2,nv3,hK2,rfl,hst3,hb2,hz2,hex2⟩;have b2:=hid ((b1.out.setCell (show w.1.size≤w.1.size+1+1 by omega) _).trans hb2);obtain⟨d1,d2,d3,-,-⟩:=hst3;rw[hbe]at hK2;clear hex2 HX2 HB2 hb2 hz2 hst2 hbe c1 c2 c3 z3
 by_cases k1:(K2:Int)<1
 ·go_wp2_with fail
  go_ret2
  exact⟨rfl,b2.out⟩
 ·by_cases k2:(f:Int)<(K2:Int)
  ·have k3:(1:Int) ≤(K2:Int):=by omega
   clear hK2 g k1;go_wp2_with fail
   go_ret2
   exact⟨rfl,b2.out⟩
  ·have k3:(1:Int) ≤(K2:Int):=by omega
   have k4:(K2:Int) ≤(f:Int):=by omega
   have k5:((K+1+K2:Nat):Int)<(s.size:Int):=by omega
   clear hK2 g k1 k2;generalize K+1+K2=Z at *;go_wp2_with fail
   go_ret2
   exact⟨rfl,b2.out⟩
theorem a4j (s:ByteArray) (a b l m f:Nat) (w:World) (hs:s.size≤1000000) (hm:m≤12) (hf:f≤6) (ha:jl s.data.toList=a) (h1:(l:Int) ≤(a:Int)) (h2:(a:Int) ≤(m:Int)) (hlt:a<s.size) (hc:(((s[a]'hlt).toNat:Int) != 46)=false) (hbe:jl (s.data.toList.drop (a+1))=b)
 (g1:(1:Int) ≤(b:Int)) (g2:b≤f) (g3:a+1+b=s.size) :
 Calls Tryz.prog 223 #[.string s,.int .i64 (l:Int),.int .i64 (m:Int),.int .i64 (f:Int)] w fun e w'=>e=.returned (.tuple #[.int .i64 ((yn (s.data.toList.take a):Int)*j9 f +(yn (s.data.toList.drop (a+1)):Int)*j9 (f-b)),.bool true])∧Below w.1.size w w':=by
 have HB:Hid (∀k,k≤m→0≤jo s 0 0 k∧jo s 0 0 k≤9000000000000000000):=abo s 0 0 m 0 dc dc om hm;have HX:=fun W gs gn ga B h1 h2 h3 h4 h5 h6=>adq s 0 m 0 gs gn ga B W hs (Nat.zero_le _) hm h1 h2 h3 h4 h5 h6 HB
 have HT:=fun W=>hid (awr (f-b) W om)
 have hA:=abr s.data.toList;rw[ha]at hA
 have hV:jo s 0 0 a=(yn (s.data.toList.take a):Int):=by
  unfold jo;rw[List.drop_zero];omega
 have hV0:0≤jo s 0 0 a:=by rw[hV];omega
 have hV1:jo s 0 0 a<j9 12:=by
  have e1:=aia _ hA;have e2:(10:Nat)^(s.data.toList.take a).length≤10^12:=Nat.pow_le_pow_right dc (by rw[List.length_take];omega);rw[hV,jx];omega
 have HB2:Hid (∀k,k≤f→0≤jo s (a+1) (jo s 0 0 a) k∧jo s (a+1) (jo s 0 0 a) k≤9000000000000000000):=abo s (a+1) _ f 12 hV0 hV1 om om;have hB:=abr (s.data.toList.drop (a+1));have hlen:(s.data.toList.drop (a+1)).length=b:=by rw[List.length_drop,show s.data.toList.length=s.size from by simp];omega
 rw[hbe,← hlen,List.take_length]at hB
 have hsum:jo s (a+1) (jo s 0 0 a) b*j9 (f-b)=(yn (s.data.toList.take a):Int)*j9 f +(yn (s.data.toList.drop (a+1)):Int)*j9 (f-b):=by
  rw[show jo s (a+1) (jo s 0 0 a) b=jo s 0 0 a*j9 b +(yn (s.data.toList.drop (a+1)):Int)from by
   unfold jo;rw[show (s.data.toList.drop (a+1)).take b=s.data.toList.drop (a+1)from by rw[← hlen,List.take_length]],hV,Int.add_mul,Int.mul_assoc]
  rw[show j9 b*j9 (f-b)=j9 f from by
   rw[jx,jx,jx,← Int.natCast_mul,← Nat.pow_add,show b +(f-b)=f from by omega]]
 have v1:=al0 hA (n:=f) (by rw[List.length_take];omega);have v2:=al0 hB (n:=f-b) om;have hR:0≤jo s (a+1) (jo s 0 0 a) b*j9 (f-b)∧jo s (a+1) (jo s 0 0 a) b*j9 (f-b)≤2000000000000000000:=by rw[hsum];omega
 rw[← hsum];have hS0:=(HB2.out b g2);obtain⟨S,hSe⟩:∃S,jo s (a+1) (jo s 0 0 a) b=S:=⟨_,rfl⟩;rw[hSe]at hR hS0 ⊢;have HSE:=hid hSe;obtain⟨V,hVe⟩:∃V,jo s 0 0 a=V:=⟨_,rfl⟩;rw[hVe]at HB2 HSE;have HVE:=hid hVe;obtain⟨T,hTe⟩:∃T,j9 (f-b)=T:=⟨_,rfl⟩;have t1:=ahb (f-b);simp only[hTe,show ((f-b:Nat):Int)=(f:Int)-(b:Int)from by omega]at HT;rw[hTe]at hR t1 ⊢;clear hV hV0 hV1 hA hVe hSe hTe v1 v2 hsum hB hlen;have HX2:=fun W gs gn ga B h1 h2 h3 h4 h5 h6=>adq s (a+1) f V gs gn ga B W hs om om h1 h2 h3 h4 h5 h6 HB2
 go_enter func223,ntmps223;go_wp2_with fail;refine(HX _ w.1.size (w.1.size+1) (w.1.size+1+1) w.1.size (adr s w) om om om om om).mono ?_;rintro e w1 ⟨K,nv2,hK,rfl,hst,hb,hz1,hex⟩;have b1:=hid (((((Below.refl w.1.size w).alloc (Nat.le_refl _) _).alloc sm _).alloc (by simp;omega) _).trans hb);rw[List.drop_zero,ha]at hK;obtain rfl:a=K:=by omega
 obtain rfl:V=nv2:=((hex om).trans HVE.out).symm;rw[Nat.zero_add]at hst;have hst2:=hid (apl hst om om);obtain⟨c1,c2,c3,-,z3⟩:=hst;have i1:(a:Int)<(s.size:Int):=by omega
 have i2:(0:Int) ≤(a:Int):=Int.natCast_nonneg _;have i3:(a:Int).toNat=a:=by omega
 clear hK hex HX HB ha hb hz1;go_wp2_with fail;refine(HX2 _ w.1.size (w.1.size+1) (w.1.size+1+1) w.1.size hst2.out om om om om om).mono ?_;rintro e w2 ⟨K2,nv3,hK2,rfl,hst3,hb2,hz2,hex2⟩;have b2:=hid ((b1.out.setCell (show w.1.size≤w.1.size+1+1 by omega) _).trans hb2);rw[hbe]at hK2;obtain rfl:b=K2:=by omega
 obtain rfl:S=nv3:=((hex2 om).trans HSE.out).symm;obtain⟨d1,d2,d3,-,-⟩:=hst3;have k4:(b:Int) ≤(f:Int):=by omega
 rw[g3]at d3;clear hex2 HX2 HB2 hb2 hz2 hst2 hbe c1 c2 c3 z3 hK2 HSE HVE;have hf6:(f:Int)≤6:=by omega
 have hw:IntKind.i64.wrap (S*T)=S*T:=IntWalk.i64_in _ om;have hw2:wrap64 (S*T)=S*T:=IntWalk.wrap64_in _ om;have hw3:IntKind.i64.wrap ((f:Int)-(b:Int))=(f:Int)-(b:Int):=IntWalk.i64_in _ om;go_wp2_with fail
 go_quiet ((go_at_call 232;exact azw (HT _).out))
 go_wp2_with fail
 go_ret2
 exact⟨rfl,abl b2.out _⟩
theorem alm (s:ByteArray) (l m f:Nat) (w:World) (hs:s.size≤1000000) (hm:m≤12) (hf:f≤6) :
 Calls Tryz.prog 223 #[.string s,.int .i64 (l:Int),.int .i64 (m:Int),.int .i64 (f:Int)] w fun e w'=>e=.returned (.tuple #[.int .i64 (((yh s.data.toList l m f).getD 0:Nat):Int),.bool (yh s.data.toList l m f).isSome])∧Below w.1.size w w':=by
 have hz:s.data.toList.length=s.size:=by simp
 unfold yh
 by_cases g1:jl s.data.toList<l∨m<jl s.data.toList
 ·rw[if_pos g1];exact a4k s l m f w hs hm hf g1
 rw[if_neg g1]
 by_cases g2:jl s.data.toList=s.data.toList.length
 ·rw[if_pos g2];have h:=a9h s l m f w hs hm hf g1 g2;rw[jx,← Int.natCast_mul]at h;exact h
 rw[if_neg g2];have hle:=anl s.data.toList;obtain⟨a,ha⟩:∃a,jl s.data.toList=a:=⟨_,rfl⟩;rw[ha]at g1 g2 hle ⊢;have hlt:a<s.size:=by omega
 obtain⟨b,hbe⟩:∃b,jl (s.data.toList.drop (a+1))=b:=⟨_,rfl⟩;rw[hbe]
 have h46:s.data.toList[a]?=some 46 ↔((s[a]'hlt).toNat:Int)=46:=by
  rw[List.getElem?_eq_getElem om];constructor
  ·intro k;injection k with k
   have k2:s[a]=46:=k;rw[k2];rfl
  ·intro k;have k2:s[a]=46:=UInt8.toNat_inj.1 (by have e:(46:UInt8).toNat=46:=rfl;omega);exact congrArg some k2
 by_cases g3:s.data.toList[a]?≠some 46∨b<1∨f<b∨a+1+b≠s.data.toList.length
 ·rw[if_pos g3]
  by_cases k46:((s[a]'hlt).toNat:Int)=46
  ·refine avc s a b l m f w hs hm hf ha om om hlt (by rw[bne_eq_false_iff_eq];exact k46) hbe ?_;rcases g3 with g|g|g|g
   ·exact absurd (h46.2 k46) g
   ·exact .inl g
   ·exact .inr (.inl g)
   ·exact .inr (.inr om)
  ·exact azq s a l m f w hs hm hf ha om om hlt (by rw[bne_iff_ne];exact k46)
 ·rw[if_neg g3];have g4:s.data.toList[a]?=some 46:=Classical.not_not.1 fun k=>g3 (.inl k)
  have h:=a4j s a b l m f w hs hm hf ha om om hlt (by rw[bne_eq_false_iff_eq];exact h46.1 g4) hbe om om om;rw[jx,jx,← Int.natCast_mul,← Int.natCast_mul,← Int.natCast_add]at h;exact h
theorem awy {w w':World} {n:Nat} (h:Below (w.drewN n).1.size (w.drewN n) w'):Below w.1.size w w':=⟨h.os,h.tape,h.output,h.size,h.block⟩
theorem zi (w:World) (g:Nat) (v0 v1 o0 o1:Value) (h0:w.cell? ⟨g,0,none⟩=some o0) (h1:w.cell? ⟨g,1,none⟩=some o1) :
 ((w.setCell ⟨g,0,none⟩ v0).setCell ⟨g,1,none⟩ v1).cell? ⟨g,0,none⟩=some v0 ∧((w.setCell ⟨g,0,none⟩ v0).setCell ⟨g,1,none⟩ v1).cell? ⟨g,1,none⟩=some v1:=by
 have n01:(⟨g,1,none⟩:Addr) ≠⟨g,0,none⟩:=by simp
 refine⟨?_,?_⟩
 ·rw[World.cell?_setCell_other _ _ _ _ n01];exact World.cell?_setCell_same _ _ _ h0
 ·exact World.cell?_setCell_same _ _ _ ((World.cell?_setCell_other _ _ _ _ (fun e=>n01 e.symm)).trans h1)
theorem bb1 (s:ByteArray) (W M F L H:Int) (w:World) (hs:s.size≤1000000) (HR:∀W',Hid (Calls Tryz.prog 222 #[jv W M F L H] W' fun e w'=>e=.returned (.bool false)∧Below W'.1.size W' w')) :
 Calls Tryz.prog 206 #[.string s,jv W M F L H] w fun e w'=>e=.returned (.tuple #[ji false 0,.int .i64 1])∧Below w.1.size w w':=by
 go_enter func206,ntmps206;go_wp2_with fail;refine((HR _).out).mono ?_;rintro e w1 ⟨rfl,hb1⟩;obtain⟨c1,f1⟩:=qx hb1;have hz:=hb1.size;simp at hz;have hz1:w.1.size<w1.1.size:=by omega
 have hz4:w.1.size+1<w1.1.size:=by omega
 have b1:=hid (qb (qb (qa w _) (qa _ _)) hb1);have q0:w1.cell? ⟨w.1.size+1,0,none⟩=some (.bool false):=(c1 (w.1.size+1) 0 sm).trans (by simp[World.cell?_alloc_at]);have q1:w1.cell? ⟨w.1.size+1,1,none⟩=some (.int .i64 0):=(c1 (w.1.size+1) 1 sm).trans (by simp[World.cell?_alloc_at]);go_wp2_with fail;obtain⟨p0,p1⟩:=zi w1 (w.1.size+1) (.bool false) (.int .i64 0) _ _ q0 q1;refine bodyPost_ret (v:=.tuple #[ji false 0,.int .i64 1]) (by simp[results,results206,go_sem,p0,p1]) rfl ⟨rfl,?_⟩;exact(Below.setCell (Below.setCell b1.out (p:=⟨w.1.size+1,0,none⟩) (by show w.1.size≤w.1.size+1;omega) _) (p:=⟨w.1.size+1,1,none⟩) (by show w.1.size≤w.1.size+1;omega) _)
theorem a2m (s:ByteArray) (W M F L H:Int) (w:World) (hs:s.size≤1000000) (HR:∀W',Hid (Calls Tryz.prog 222 #[jv W M F L H] W' fun e w'=>e=.returned (.bool true)∧Below W'.1.size W' w')) (h0:s.size=0) :
 Calls Tryz.prog 206 #[.string s,jv W M F L H] w fun e w'=>e=.returned (.tuple #[ji false 0,.int .i64 0])∧Below w.1.size w w':=by
 obtain rfl:s=⟨#[]⟩:=ByteArray.ext (Array.eq_empty_of_size_eq_zero h0);go_enter func206,ntmps206;go_wp2_with fail;refine((HR _).out).mono ?_;rintro e w1 ⟨rfl,hb1⟩;obtain⟨c1,f1⟩:=qx hb1;have hz:=hb1.size;simp at hz;have hz1:w.1.size<w1.1.size:=by omega
 have hz4:w.1.size+1<w1.1.size:=by omega
 have b1:=hid (qb (qb (qa w _) (qa _ _)) hb1);have q0:w1.cell? ⟨w.1.size+1,0,none⟩=some (.bool false):=(c1 (w.1.size+1) 0 sm).trans (by simp[World.cell?_alloc_at]);have q1:w1.cell? ⟨w.1.size+1,1,none⟩=some (.int .i64 0):=(c1 (w.1.size+1) 1 sm).trans (by simp[World.cell?_alloc_at]);go_wp2_with fail;obtain⟨p0,p1⟩:=zi w1 (w.1.size+1) (.bool false) (.int .i64 0) _ _ q0 q1;refine bodyPost_ret (v:=.tuple #[ji false 0,.int .i64 0]) (by simp[results,results206,go_sem,p0,p1]) rfl ⟨rfl,?_⟩;exact(Below.setCell (Below.setCell b1.out (p:=⟨w.1.size+1,0,none⟩) (by show w.1.size≤w.1.size+1;omega) _) (p:=⟨w.1.size+1,1,none⟩) (by show w.1.size≤w.1.size+1;omega) _)
theorem ard (s:ByteArray) (W M F L H:Int) (n:Int) (w:World) (hs:s.size≤1000000) (h0:0<s.size) (hc:(((s[0]'h0).toNat:Int)==45)=false) (HR:∀W',Hid (Calls Tryz.prog 222 #[jv W M F L H] W' fun e w'=>e=.returned (.bool true)∧Below W'.1.size W' w')) (HP:∀W',Hid (Calls Tryz.prog 223 #[.string s,.int .i64 1,.int .i64 M,.int .i64 F] W' fun e w'=>e=.returned (.tuple #[.int .i64 n,.bool false])∧Below W'.1.size W' w')) :
 Calls Tryz.prog 206 #[.string s,jv W M F L H] w fun e w'=>e=.returned (.tuple #[ji false 0,.int .i64 3])∧Below w.1.size w w':=by
 have i1:(0:Int)<(s.size:Int):=by omega
 have i2:(1:Int) ≤(s.size:Int):=by omega
 obtain⟨hne1,hne2⟩:=q8 h0;go_enter func206,ntmps206;go_wp2_with fail;refine((HR _).out).mono ?_;rintro e w1 ⟨rfl,hb1⟩;obtain⟨c1,f1⟩:=qx hb1;have hz:=hb1.size;simp at hz;have hz1:w.1.size<w1.1.size:=by omega
 have hz4:w.1.size+1<w1.1.size:=by omega
 have b1:=hid (qb (qb (qa w _) (qa _ _)) hb1);have q0:w1.cell? ⟨w.1.size+1,0,none⟩=some (.bool false):=(c1 (w.1.size+1) 0 sm).trans (by simp[World.cell?_alloc_at]);have q1:w1.cell? ⟨w.1.size+1,1,none⟩=some (.int .i64 0):=(c1 (w.1.size+1) 1 sm).trans (by simp[World.cell?_alloc_at]);go_wp2_with fail;refine((HP _).out).mono ?_;rintro e w2 ⟨rfl,hb2⟩;obtain⟨c2,f2⟩:=qx hb2;have hz5:=hb2.size;have hz6:w.1.size<w2.1.size:=by omega
 have hz7:w.1.size+1<w2.1.size:=by omega
 have b2:=hid (qb b1.out hb2);replace q0:=(c2 _ 0 hz4).trans q0;replace q1:=(c2 _ 1 hz4).trans q1;go_wp2_with fail;obtain⟨p0,p1⟩:=zi w2 (w.1.size+1) (.bool false) (.int .i64 0) _ _ q0 q1;refine bodyPost_ret (v:=.tuple #[ji false 0,.int .i64 3]) (by simp[results,results206,go_sem,p0,p1]) rfl ⟨rfl,?_⟩;exact(Below.setCell (Below.setCell b2.out (p:=⟨w.1.size+1,0,none⟩) (by show w.1.size≤w.1.size+1;omega) _) (p:=⟨w.1.size+1,1,none⟩) (by show w.1.size≤w.1.size+1;omega) _)
theorem an6 (s:ByteArray) (W M F L H:Int) (n:Int) (w:World) (hs:s.size≤1000000) (h0:0<s.size) (hc:(((s[0]'h0).toNat:Int)==45)=false) (HR:∀W',Hid (Calls Tryz.prog 222 #[jv W M F L H] W' fun e w'=>e=.returned (.bool true)∧Below W'.1.size W' w')) (HP:∀W',Hid (Calls Tryz.prog 223 #[.string s,.int .i64 1,.int .i64 M,.int .i64 F] W' fun e w'=>e=.returned (.tuple #[.int .i64 n,.bool true])∧Below W'.1.size W' w')) (hn0:0≤n) (hn:n≤2000000000000000000) (HF:∀W',Hid (Calls Tryz.prog 224 #[ji true n,.int .i64 L,.int .i64 H] W' fun e w'=>e=.returned (.bool false)∧Below W'.1.size W' w')) :
 Calls Tryz.prog 206 #[.string s,jv W M F L H] w fun e w'=>e=.returned (.tuple #[ji false 0,.int .i64 5])∧Below w.1.size w w':=by
 have i1:(0:Int)<(s.size:Int):=by omega
 have i2:(1:Int) ≤(s.size:Int):=by omega
 obtain⟨hne1,hne2⟩:=q8 h0;have e1:(1:Int)*n=n:=Int.one_mul n;have e2:(-1:Int)*n=-n:=by rw[Int.neg_mul,Int.one_mul]
 go_enter func206,ntmps206;go_wp2_with fail;refine((HR _).out).mono ?_;rintro e w1 ⟨rfl,hb1⟩;obtain⟨c1,f1⟩:=qx hb1;have hz:=hb1.size;simp at hz;have hz1:w.1.size<w1.1.size:=by omega
 have hz4:w.1.size+1<w1.1.size:=by omega
 have b1:=hid (qb (qb (qa w _) (qa _ _)) hb1);have q0:w1.cell? ⟨w.1.size+1,0,none⟩=some (.bool false):=(c1 (w.1.size+1) 0 sm).trans (by simp[World.cell?_alloc_at]);have q1:w1.cell? ⟨w.1.size+1,1,none⟩=some (.int .i64 0):=(c1 (w.1.size+1) 1 sm).trans (by simp[World.cell?_alloc_at]);go_wp2_with fail;refine((HP _).out).mono ?_;rintro e w2 ⟨rfl,hb2⟩;obtain⟨c2,f2⟩:=qx hb2;have hz5:=hb2.size;have hz6:w.1.size<w2.1.size:=by omega
 have hz7:w.1.size+1<w2.1.size:=by omega
 have b2:=hid (qb b1.out hb2);replace q0:=(c2 _ 0 hz4).trans q0;replace q1:=(c2 _ 1 hz4).trans q1;go_wp2_with fail;refine((HF _).out).mono ?_;rintro e w3 ⟨rfl,hb3⟩;obtain⟨c3,f3⟩:=qx hb3;have hz8:=hb3.size;simp at hz8;have hz9:w2.1.size<w3.1.size:=by omega
 have hz10:w.1.size+1<w3.1.size:=by omega
 have b3:=hid (qb (qb b2.out (qa _ _)) hb3);replace q0:=(c3 (w.1.size+1) 0 (by simp;omega)).trans ((World.cell?_alloc_past _ _ _ om).trans q0);replace q1:=(c3 (w.1.size+1) 1 (by simp;omega)).trans ((World.cell?_alloc_past _ _ _ om).trans q1);go_wp2_with fail;obtain⟨p0,p1⟩:=zi w3 (w.1.size+1) (.bool false) (.int .i64 0) _ _ q0 q1;refine bodyPost_ret (v:=.tuple #[ji false 0,.int .i64 5]) (by simp[results,results206,go_sem,p0,p1]) rfl ⟨rfl,?_⟩;exact(Below.setCell (Below.setCell b3.out (p:=⟨w.1.size+1,0,none⟩) (by show w.1.size≤w.1.size+1;omega) _) (p:=⟨w.1.size+1,1,none⟩) (by show w.1.size≤w.1.size+1;omega) _)
theorem axo (s:ByteArray) (W M F L H:Int) (n:Int) (w:World) (hs:s.size≤1000000) (h0:0<s.size) (hc:(((s[0]'h0).toNat:Int)==45)=false) (HR:∀W',Hid (Calls Tryz.prog 222 #[jv W M F L H] W' fun e w'=>e=.returned (.bool true)∧Below W'.1.size W' w')) (HP:∀W',Hid (Calls Tryz.prog 223 #[.string s,.int .i64 1,.int .i64 M,.int .i64 F] W' fun e w'=>e=.returned (.tuple #[.int .i64 n,.bool true])∧Below W'.1.size W' w')) (hn0:0≤n) (hn:n≤2000000000000000000) (HF:∀W',Hid (Calls Tryz.prog 224 #[ji true n,.int .i64 L,.int .i64 H] W' fun e w'=>e=.returned (.bool true)∧Below W'.1.size W' w')) :
 Calls Tryz.prog 206 #[.string s,jv W M F L H] w fun e w'=>e=.returned (.tuple #[ji true n,.int .i64 0])∧Below w.1.size w w':=by
 have i1:(0:Int)<(s.size:Int):=by omega
 have i2:(1:Int) ≤(s.size:Int):=by omega
 obtain⟨hne1,hne2⟩:=q8 h0;have e1:(1:Int)*n=n:=Int.one_mul n;have e2:(-1:Int)*n=-n:=by rw[Int.neg_mul,Int.one_mul]
 go_enter func206,ntmps206;go_wp2_with fail;refine((HR _).out).mono ?_;rintro e w1 ⟨rfl,hb1⟩;obtain⟨c1,f1⟩:=qx hb1;have hz:=hb1.size;simp at hz;have hz1:w.1.size<w1.1.size:=by omega
 have hz4:w.1.size+1<w1.1.size:=by omega
 have b1:=hid (qb (qb (qa w _) (qa _ _)) hb1);have q0:w1.cell? ⟨w.1.size+1,0,none⟩=some (.bool false):=(c1 (w.1.size+1) 0 sm).trans (by simp[World.cell?_alloc_at]);have q1:w1.cell? ⟨w.1.size+1,1,none⟩=some (.int .i64 0):=(c1 (w.1.size+1) 1 sm).trans (by simp[World.cell?_alloc_at]);go_wp2_with fail;refine((HP _).out).mono ?_;rintro e w2 ⟨rfl,hb2⟩;obtain⟨c2,f2⟩:=qx hb2;have hz5:=hb2.size;have hz6:w.1.size<w2.1.size:=by omega
 have hz7:w.1.size+1<w2.1.size:=by omega
 have b2:=hid (qb b1.out hb2);replace q0:=(c2 _ 0 hz4).trans q0;replace q1:=(c2 _ 1 hz4).trans q1;go_wp2_with fail;refine((HF _).out).mono ?_;rintro e w3 ⟨rfl,hb3⟩;obtain⟨c3,f3⟩:=qx hb3;have hz8:=hb3.size;simp at hz8;have hz9:w2.1.size<w3.1.size:=by omega
 have hz10:w.1.size+1<w3.1.size:=by omega
 have b3:=hid (qb (qb b2.out (qa _ _)) hb3);replace q0:=(c3 (w.1.size+1) 0 (by simp;omega)).trans ((World.cell?_alloc_past _ _ _ om).trans q0);replace q1:=(c3 (w.1.size+1) 1 (by simp;omega)).trans ((World.cell?_alloc_past _ _ _ om).trans q1);go_wp2_with fail;obtain⟨p0,p1⟩:=zi w3 (w.1.size+1) (.bool true) (.int .i64 n) _ _ q0 q1;refine bodyPost_ret (v:=.tuple #[ji true n,.int .i64 0]) (by simp[results,results206,go_sem,p0,p1]) rfl ⟨rfl,?_⟩;exact(Below.setCell (Below.setCell b3.out (p:=⟨w.1.size+1,0,none⟩) (by show w.1.size≤w.1.size+1;omega) _) (p:=⟨w.1.size+1,1,none⟩) (by show w.1.size≤w.1.size+1;omega) _)
theorem arc (s:ByteArray) (W M F L H:Int) (n:Int) (w:World) (hs:s.size≤1000000) (h0:0<s.size) (hc:(((s[0]'h0).toNat:Int)==45)=true) (HR:∀W',Hid (Calls Tryz.prog 222 #[jv W M F L H] W' fun e w'=>e=.returned (.bool true)∧Below W'.1.size W' w')) (HP:∀W',Hid (Calls Tryz.prog 223 #[.string (s.extract 1 s.size),.int .i64 1,.int .i64 M,.int .i64 F] W' fun e w'=>e=.returned (.tuple #[.int .i64 n,.bool false])∧Below W'.1.size W' w')) :
 Calls Tryz.prog 206 #[.string s,jv W M F L H] w fun e w'=>e=.returned (.tuple #[ji false 0,.int .i64 3])∧Below w.1.size w w':=by
 have i1:(0:Int)<(s.size:Int):=by omega
 have i2:(1:Int) ≤(s.size:Int):=by omega
 obtain⟨hne1,hne2⟩:=q8 h0;go_enter func206,ntmps206;go_wp2_with fail;refine((HR _).out).mono ?_;rintro e w1 ⟨rfl,hb1⟩;obtain⟨c1,f1⟩:=qx hb1;have hz:=hb1.size;simp at hz;have hz1:w.1.size<w1.1.size:=by omega
 have hz4:w.1.size+1<w1.1.size:=by omega
 have b1:=hid (qb (qb (qa w _) (qa _ _)) hb1);have q0:w1.cell? ⟨w.1.size+1,0,none⟩=some (.bool false):=(c1 (w.1.size+1) 0 sm).trans (by simp[World.cell?_alloc_at]);have q1:w1.cell? ⟨w.1.size+1,1,none⟩=some (.int .i64 0):=(c1 (w.1.size+1) 1 sm).trans (by simp[World.cell?_alloc_at]);go_wp2_with fail
 go_quiet (fail)
 go_wp2_with fail;refine(HP _).out.mono ?_;rintro e w2 ⟨rfl,hb2⟩;replace hb2:=awy hb2;obtain⟨c2,f2⟩:=qx hb2;have hz5:=hb2.size;have hz6:w.1.size<w2.1.size:=by omega
 have hz7:w.1.size+1<w2.1.size:=by omega
 have b2:=hid (qb b1.out hb2);replace q0:=(c2 _ 0 hz4).trans q0;replace q1:=(c2 _ 1 hz4).trans q1;go_wp2_with fail;obtain⟨p0,p1⟩:=zi w2 (w.1.size+1) (.bool false) (.int .i64 0) _ _ q0 q1;refine bodyPost_ret (v:=.tuple #[ji false 0,.int .i64 3]) (by simp[results,results206,go_sem,p0,p1]) rfl ⟨rfl,?_⟩;exact(Below.setCell (Below.setCell b2.out (p:=⟨w.1.size+1,0,none⟩) (by show w.1.size≤w.1.size+1;omega) _) (p:=⟨w.1.size+1,1,none⟩) (by show w.1.size≤w.1.size+1;omega) _)
theorem an5 (s:ByteArray) (W M F L H:Int) (n:Int) (w:World) (hs:s.size≤1000000) (h0:0<s.size) (hc:(((s[0]'h0).toNat:Int)==45)=true) (HR:∀W',Hid (Calls Tryz.prog 222 #[jv W M F L H] W' fun e w'=>e=.returned (.bool true)∧Below W'.1.size W' w')) (HP:∀W',Hid (Calls Tryz.prog 223 #[.string (s.extract 1 s.size),.int .i64 1,.int .i64 M,.int .i64 F] W' fun e w'=>e=.returned (.tuple #[.int .i64 n,.bool true])∧Below W'.1.size W' w')) (hn0:0≤n) (hn:n≤2000000000000000000) (HF:∀W',Hid (Calls Tryz.prog 224 #[ji true (-n),.int .i64 L,.int .i64 H] W' fun e w'=>e=.returned (.bool false)∧Below W'.1.size W' w')) :
 Calls Tryz.prog 206 #[.string s,jv W M F L H] w fun e w'=>e=.returned (.tuple #[ji false 0,.int .i64 5])∧Below w.1.size w w':=by
 have i1:(0:Int)<(s.size:Int):=by omega
 have i2:(1:Int) ≤(s.size:Int):=by omega
 obtain⟨hne1,hne2⟩:=q8 h0;have e1:(1:Int)*n=n:=Int.one_mul n;have e2:(-1:Int)*n=-n:=by rw[Int.neg_mul,Int.one_mul]
 go_enter func206,ntmps206;go_wp2_with fail;refine((HR _).out).mono ?_;rintro e w1 ⟨rfl,hb1⟩;obtain⟨c1,f1⟩:=qx hb1;have hz:=hb1.size;simp at hz;have hz1:w.1.size<w1.1.size:=by omega
 have hz4:w.1.size+1<w1.1.size:=by omega
 have b1:=hid (qb (qb (qa w _) (qa _ _)) hb1);have q0:w1.cell? ⟨w.1.size+1,0,none⟩=some (.bool false):=(c1 (w.1.size+1) 0 sm).trans (by simp[World.cell?_alloc_at]);have q1:w1.cell? ⟨w.1.size+1,1,none⟩=some (.int .i64 0):=(c1 (w.1.size+1) 1 sm).trans (by simp[World.cell?_alloc_at]);go_wp2_with fail
 go_quiet (fail)
 go_wp2_with fail;refine(HP _).out.mono ?_;rintro e w2 ⟨rfl,hb2⟩;replace hb2:=awy hb2;obtain⟨c2,f2⟩:=qx hb2;have hz5:=hb2.size;have hz6:w.1.size<w2.1.size:=by omega
 have hz7:w.1.size+1<w2.1.size:=by omega
 have b2:=hid (qb b1.out hb2);replace q0:=(c2 _ 0 hz4).trans q0;replace q1:=(c2 _ 1 hz4).trans q1;go_wp2_with fail;refine((HF _).out).mono ?_;rintro e w3 ⟨rfl,hb3⟩;obtain⟨c3,f3⟩:=qx hb3;have hz8:=hb3.size;simp at hz8;have hz9:w2.1.size<w3.1.size:=by omega
 have hz10:w.1.size+1<w3.1.size:=by omega
 have b3:=hid (qb (qb b2.out (qa _ _)) hb3);replace q0:=(c3 (w.1.size+1) 0 (by simp;omega)).trans ((World.cell?_alloc_past _ _ _ om).trans q0);replace q1:=(c3 (w.1.size+1) 1 (by simp;omega)).trans ((World.cell?_alloc_past _ _ _ om).trans q1);go_wp2_with fail;obtain⟨p0,p1⟩:=zi w3 (w.1.size+1) (.bool false) (.int .i64 0) _ _ q0 q1;refine bodyPost_ret (v:=.tuple #[ji false 0,.int .i64 5]) (by simp[results,results206,go_sem,p0,p1]) rfl ⟨rfl,?_⟩;exact(Below.setCell (Below.setCell b3.out (p:=⟨w.1.size+1,0,none⟩) (by show w.1.size≤w.1.size+1;omega) _) (p:=⟨w.1.size+1,1,none⟩) (by show w.1.size≤w.1.size+1;omega) _)
theorem axn (s:ByteArray) (W M F L H:Int) (n:Int) (w:World) (hs:s.size≤1000000) (h0:0<s.size) (hc:(((s[0]'h0).toNat:Int)==45)=true) (HR:∀W',Hid (Calls Tryz.prog 222 #[jv W M F L H] W' fun e w'=>e=.returned (.bool true)∧Below W'.1.size W' w')) (HP:∀W',Hid (Calls Tryz.prog 223 #[.string (s.extract 1 s.size),.int .i64 1,.int .i64 M,.int .i64 F] W' fun e w'=>e=.returned (.tuple #[.int .i64 n,.bool true])∧Below W'.1.size W' w')) (hn0:0≤n) (hn:n≤2000000000000000000) (HF:∀W',Hid (Calls Tryz.prog 224 #[ji true (-n),.int .i64 L,.int .i64 H] W' fun e w'=>e=.returned (.bool true)∧Below W'.1.size W' w')) :
 Calls Tryz.prog 206 #[.string s,jv W M F L H] w fun e w'=>e=.returned (.tuple #[ji true (-n),.int .i64 0])∧Below w.1.size w w':=by
 have i1:(0:Int)<(s.size:Int):=by omega
 have i2:(1:Int) ≤(s.size:Int):=by omega
 obtain⟨hne1,hne2⟩:=q8 h0;have e1:(1:Int)*n=n:=Int.one_mul n;have e2:(-1:Int)*n=-n:=by rw[Int.neg_mul,Int.one_mul]
 go_enter func206,ntmps206;go_wp2_with fail;refine((HR _).out).mono ?_;rintro e w1 ⟨rfl,hb1⟩;obtain⟨c1,f1⟩:=qx hb1;have hz:=hb1.size;simp at hz;have hz1:w.1.size<w1.1.size:=by omega
 have hz4:w.1.size+1<w1.1.size:=by omega
 have b1:=hid (qb (qb (qa w _) (qa _ _)) hb1);have q0:w1.cell? ⟨w.1.size+1,0,none⟩=some (.bool false):=(c1 (w.1.size+1) 0 sm).trans (by simp[World.cell?_alloc_at]);have q1:w1.cell? ⟨w.1.size+1,1,none⟩=some (.int .i64 0):=(c1 (w.1.size+1) 1 sm).trans (by simp[World.cell?_alloc_at]);go_wp2_with fail
 go_quiet (fail)
 go_wp2_with fail;refine(HP _).out.mono ?_;rintro e w2 ⟨rfl,hb2⟩;replace hb2:=awy hb2;obtain⟨c2,f2⟩:=qx hb2;have hz5:=hb2.size;have hz6:w.1.size<w2.1.size:=by omega
 have hz7:w.1.size+1<w2.1.size:=by omega
 have b2:=hid (qb b1.out hb2);replace q0:=(c2 _ 0 hz4).trans q0;replace q1:=(c2 _ 1 hz4).trans q1;go_wp2_with fail;refine((HF _).out).mono ?_;rintro e w3 ⟨rfl,hb3⟩;obtain⟨c3,f3⟩:=qx hb3;have hz8:=hb3.size;simp at hz8;have hz9:w2.1.size<w3.1.size:=by omega
 have hz10:w.1.size+1<w3.1.size:=by omega
 have b3:=hid (qb (qb b2.out (qa _ _)) hb3);replace q0:=(c3 (w.1.size+1) 0 (by simp;omega)).trans ((World.cell?_alloc_past _ _ _ om).trans q0);replace q1:=(c3 (w.1.size+1) 1 (by simp;omega)).trans ((World.cell?_alloc_past _ _ _ om).trans q1);go_wp2_with fail;obtain⟨p0,p1⟩:=zi w3 (w.1.size+1) (.bool true) (.int .i64 (-n)) _ _ q0 q1;refine bodyPost_ret (v:=.tuple #[ji true (-n),.int .i64 0]) (by simp[results,results206,go_sem,p0,p1]) rfl ⟨rfl,?_⟩;exact(Below.setCell (Below.setCell b3.out (p:=⟨w.1.size+1,0,none⟩) (by show w.1.size≤w.1.size+1;omega) _) (p:=⟨w.1.size+1,1,none⟩) (by show w.1.size≤w.1.size+1;omega) _)
def aif (l:List UInt8):Bool:=l.head?==some 45
def aeq (l:List UInt8):List UInt8:=if aif l then l.drop 1 else l
def jt (l:List UInt8) (W M F L H:Int):Bool×Int×Int:=
 if abb W M F L H=false then(false,0,1)
 else if l=[]then(false,0,0)
 else match yh (aeq l) 1 M.toNat F.toNat with
 | none=>(false,0,3)
 | some n=>if aar true (if aif l then -(n:Int)else(n:Int)) L H then(true,(if aif l then -(n:Int)else(n:Int)),0)else(false,0,5)
theorem alk {l:List UInt8} {a m f n:Nat} (h:yh l a m f=some n) (hm:m+f≤18):n≤2000000000000000000:=by
 unfold yh at h;have hA:=abr l
 split at h
 ·cases h
 rename_i g1
 split at h
 ·rename_i g2;injection h with h
  rw[g2,List.take_length]at hA;have v:=al0 hA (n:=f) om;rw[jx,← Int.natCast_mul]at v;omega
 split at h
 ·cases h
 rename_i g3;injection h with h
 have hB:=abr (l.drop (jl l+1));have e1:jl (l.drop (jl l+1))=(l.drop (jl l+1)).length:=by rw[List.length_drop];omega
 rw[e1,List.take_length]at hB;have v1:=al0 hA (n:=f) (by rw[List.length_take];omega);have v2:=al0 hB (n:=f-jl (l.drop (jl l+1))) om;rw[jx,← Int.natCast_mul]at v1 v2;omega
theorem aqi {s:ByteArray} (h:s.data.toList≠[]):0<s.size:=by
 rcases Nat.eq_zero_or_pos s.size with h0|h0
 ·exact absurd (List.eq_nil_of_length_eq_zero (by simpa using h0)) h
 ·exact h0
theorem adv {s:ByteArray} (h:s.data.toList=[]):s.size=0:=by
 have:s.data.toList.length=0:=by rw[h];rfl
 simpa using this
theorem a87 {s:ByteArray} (h0:0<s.size) (h:aif s.data.toList=true):(((s[0]'h0).toNat:Int)==45)=true:=by
 unfold aif at h;have e:s.data.toList.head?=some s[0]:=by rw[List.head?_eq_getElem?,List.getElem?_eq_getElem (by simpa using h0)];rfl
 rw[e]at h;have h2:s[0]=45:=by simpa using h
 rw[h2];rfl
theorem a39 {s:ByteArray} (h0:0<s.size) (h:aif s.data.toList=false):(((s[0]'h0).toNat:Int)==45)=false:=by
 unfold aif at h;have e:s.data.toList.head?=some s[0]:=by rw[List.head?_eq_getElem?,List.getElem?_eq_getElem (by simpa using h0)];rfl
 rw[e]at h;have h2:s[0]≠45:=by simpa using h
 rw[beq_eq_false_iff_ne];intro k;exact h2 (UInt8.toNat_inj.1 (by have e:(45:UInt8).toNat=45:=rfl;omega))
theorem a2l (s:ByteArray) (W M F L H:Int) (w:World) (hs:s.size≤1000000) :
 Calls Tryz.prog 206 #[.string s,jv W M F L H] w fun e w'=>e=.returned (.tuple #[ji (jt s.data.toList W M F L H).1 (jt s.data.toList W M F L H).2.1,.int .i64 (jt s.data.toList W M F L H).2.2])∧Below w.1.size w w':=by
 unfold jt;have HR:=fun W'=>hid (a7i W M F L H W')
 by_cases hr:abb W M F L H=false
 ·rw[if_pos hr];rw[hr]at HR;exact bb1 s W M F L H w hs HR
 rw[if_neg hr];have hr':abb W M F L H=true:=by simpa using hr
 rw[hr']at HR;have hb:=of_decide_eq_true hr'
 by_cases h0:s.data.toList=[]
 ·rw[if_pos h0];exact a2m s W M F L H w hs HR (adv h0)
 rw[if_neg h0];have hp:=aqi h0;obtain⟨m,rfl⟩:=Int.eq_ofNat_of_zero_le (show 0≤M by omega);obtain⟨f,rfl⟩:=Int.eq_ofNat_of_zero_le (show 0≤F by omega);rw[Int.toNat_natCast,Int.toNat_natCast];cases hn:aif s.data.toList with
 | false=>
  have hc:=a39 hp hn;have hbody:aeq s.data.toList=s.data.toList:=by unfold aeq;rw[hn];rfl
  have HP:=fun W'=>hid (alm s 1 m f W' hs om om)
  rw[hbody];cases hq:yh s.data.toList 1 m f with
  | none=>
   simp only[hq]at HP;exact ard s W m f L H 0 w hs hp hc HR HP
  | some n=>
   simp only[hq]at HP;have hle:=alk hq om;have HF:=fun W'=>hid (ayj true (n:Int) L H W')
   cases hf:aar true (n:Int) L H with
   | false=>rw[hf]at HF;simp only[Bool.false_eq_true,if_false,hf];exact an6 s W m f L H n w hs hp hc HR HP om om HF
   | true=>rw[hf]at HF;simp only[Bool.false_eq_true,if_false,hf,if_true];exact axo s W m f L H n w hs hp hc HR HP om om HF
 | true=>
  have hc:=a87 hp hn;have hbody:aeq s.data.toList=(s.extract 1 s.size).data.toList:=by unfold aeq;rw[hn,if_pos rfl,Lib.extract_from]
  have HP:=fun W'=>hid (alm (s.extract 1 s.size) 1 m f W' (by rw[ByteArray.size_extract];omega) om om)
  rw[hbody];cases hq:yh (s.extract 1 s.size).data.toList 1 m f with
  | none=>
   simp only[hq]at HP;exact arc s W m f L H 0 w hs hp hc HR HP
  | some n=>
   simp only[hq]at HP;have hle:=alk hq om;have HF:=fun W'=>hid (ayj true (-(n:Int)) L H W')
   cases hf:aar true (-(n:Int)) L H with
   | false=>rw[hf]at HF;simp only[Bool.false_eq_true,if_false,hf,if_true];exact an5 s W m f L H n w hs hp hc HR HP om om HF
   | true=>rw[hf]at HF;simp only[hf,if_true];exact axn s W m f L H n w hs hp hc HR HP om om HF
theorem apa {v L H:Int} (h:aar true v L H=true):L≤v∧v≤H:=by
 unfold aar at h;rw[if_pos rfl]at h;exact of_decide_eq_true h
end Go.Proofs.YtdkhlkfleggbaaaGreat
