/- Parts. -/
import Derived.OrdersIn
import Derived.Test.YtdkhlkfleggbaaaGreatV28
namespace Go.Proofs.YtdkhlkfleggbaaaGreat
set_option maxHeartbeats 4000000
set_option maxRecDepth 8000
open Tryz
set_option linter.unusedVariables false
open Go.RowKit
section
variable {P : Program} {ops : Array Oper} {a : Act} {w : World} {r : Option Nat} {n : Nat} {Q : Exit -> Act -> World -> Prop} {md : Region.Mode}
abbrev fen (r:Option Nat):Fence:={Fence.wide with round:=r}
theorem awo {o:Oper} {K K':Act->World->Prop} (hd:∀c,o.op≠.defer c) (hk:∀a w,K a w->K' a w) (h:o.wp P a w K Q):o.wpIn (fen r) n P a w K' Q:=by
 refine⟨λf _=>trivial,?_⟩
 have e:o.semAt r a.eval=execOp a.eval o:=by
  cases r with
  | none=>exact Oper.semAt_none ..
  | some l=>exact Oper.semAt_some l _ _ hd
 show o.uponIn (fen r) n P a K' Q ((o.semAt r a.eval).run P w);rw[e];unfold Oper.wp at h;revert h;generalize (execOp a.eval o).run P w=x;intro h;cases x with
 | ok y w'=>
  cases y with
  | value v=>exact hk _ _ h
  | skip=>exact hk _ _ h
  | defer d=>exact hk _ _ h
  | enter f args=>
   rw[Oper.uponIn_enter];rw[Oper.upon_enter]at h;exact o3 (λq=>by cases q) ((callsIn_wide (n:=n-1)).2 (Calls.mono h λe w'' he=>by cases e<;>first|exact hk _ _ he|exact he))
  | row row args=>
   rw[Oper.uponIn_row];rw[Oper.upon_row]at h;exact o3 (λq=>by cases q) λc cs _=>let ⟨v,w'',q,s⟩:=h c cs;⟨v,w'',hk _ _ q,stepsIn_wide.2 s⟩
  | _=>exact h.elim
 | halt y w'=>cases y<;>exact h
theorem a89 (hlo:¬LetsOut Q):∀(rest:List Oper),(∀o∈rest,∀c,o.op≠.defer c)->∀a w,wpList P ops Q rest a w->wpListIn (fen r) n P ops Q rest a w
 | [],_,_,_,h=>h
 | o::rest,hd,a,w,h=>by
  have ih:=a89 hlo rest λo ho=>hd o (b13 _ ho)
  unfold wpList at h;unfold wpListIn
  split at h
  ·rename_i hw;rw[if_pos hw];exact awo (hd o b1x) ih (h.resolve_right λq=>hlo q.2)
  ·rename_i hw;rw[if_neg hw];exact⟨λf _=>trivial,ih _ _ h⟩
theorem beo (hlo:¬LetsOut Q) (hd:∀o∈ops.toList,∀c,o.op≠.defer c):∀(fuel:Nat) listed a w,wpAny P md ops Q fuel listed a w->wpAnyIn (fen r) n P md ops Q fuel listed a w
 | 0,_,_,_,h=>h
 | fuel+1,listed,a,w,h=>by
  refine⟨h.1,λi hi=>?_⟩;have h2:=h.2 i hi;have ih:=beo hlo hd fuel (listed.setIfInBounds i true);unfold wpOp at h2;unfold wpOpIn;cases ho:ops[i]? with
  | none=>rw[ho]at h2;exact ih _ _ h2
  | some o=>
   rw[ho]at h2;dsimp only at h2 ⊢
   split at h2
   ·rename_i hw;rw[if_pos hw];exact awo (hd o (List.mem_of_getElem? (by rw[Array.getElem?_toList];exact ho))) ih (h2.resolve_right λq=>hlo q.2)
   ·rename_i hw;rw[if_neg hw];exact⟨λf _=>trivial,ih _ _ h2⟩
theorem adq {id:Nat} {l:List Oper} (hlo:¬LetsOut Q) (hd:∀o∈l,∀c,o.op≠.defer c) (h:wpList P l.toArray Q l a w):(Code.region id l.toArray false).wpIn (fen r) n P Q a w:=
 wpIn_region_lit (a89 hlo l hd a w h)
theorem al0 {id:Nat} {S:World->Prop} (hlo:¬LetsOut Q) (hd:∀o∈ops.toList,∀c,o.op≠.defer c) (hm:P.follows .mixedOrders=true) (hS:S w.drew) (h:S w.drew->wpAnyH P .any ops Q S ops.size (Array.replicate ops.size false) a w.drew):(Code.region id ops true).wpIn (fen r) n P Q a w:=
 wpIn_region_any hm (beo hlo hd _ _ _ _ (wpAny_of_held _ _ _ _ (h hS)))
theorem ajr {rest:List Oper} {o:Oper} {W:World} (hgd:o.guard=none) (hd:∀c,o.op≠.defer c) {v:Value} (hex:(execOp a.eval o).run P w=.ok (.value v) W) (h:wpListIn (fen r) n P ops Q rest (a.put o.dst v) W):wpListIn (fen r) n P ops Q (o::rest) a w:=
 wpListIn_plain hgd λK hK=>awo (K:=K) hd (λ_ _ q=>q) (by unfold Oper.wp;rw[hex];exact hK _ _ h)
theorem al1 {rest:List Oper} {o:Oper} (hgd:o.guard=none) (ty:TypeId) (x:Operand) (ho:o.op=.load ty x) (b f:Nat) (hx:a.eval x=.pointer (some ⟨b,f,none⟩)) (cs:List Value) (d:TypeDesc) (hc:w.rangeAt b f cs)
 (hu:P.underlying ty=some d) (hd:d.isRow=true) (hi:(P.info? ty).map (·.size)=some cs.length) (h:wpListIn (fen r) n P ops Q rest (a.put o.dst (.agg cs.toArray)) w):wpListIn (fen r) n P ops Q (o::rest) a w:=
 ajr hgd (λc=>by rw[ho];exact λq=>by cases q) (by unfold execOp;simp only[ho,hx,Instr.loadAt,Instr.sureAddr,b1k,b21,b1f,t9 w b f ty cs d hc hu hd hi]) h
theorem aol {rest:List Oper} {o:Oper} (hgd:o.guard=none) (t:TypeId) (i j:Nat) (x y:Operand) (ho:o.op=.build t #[(i,x),(j,y)]) {u u' v:Value} (hx:a.eval x=u) (hy:a.eval y=u') (hr:(Instr.build t #[(i,u),(j,u')]).run P w=.ok v w)
 (h:wpListIn (fen r) n P ops Q rest (a.put o.dst v) w):wpListIn (fen r) n P ops Q (o::rest) a w:=
 ajr hgd (λc=>by rw[ho];exact λq=>by cases q) (by unfold execOp;rw[ho];simp[hx,hy,hr]) h
end
attribute [local go_sem] Oper.semAt_some
def bhm (A:Option Addr) (c lo:Nat):Option Addr:=if c=lo then A else A.map (·.add lo)
theorem a7q (A:Option Addr) (n c lo:Nat) (h:lo<=n) (w:World):(Instr.sliceAt 22 (.slice A n c) (some (.int .i64 lo)) none none).run prog w=.ok (.slice (bhm A c lo) (n-lo) (c-lo)) w:=by
 have hu:prog.underlying 22=some (.slice (prog.elem 22)):=by kernel_rfl
 have hz:∀W,(sizeOf (prog.elem 22)).run prog W=.ok 1 W:=λW=>by kernel_rfl
 rw[run_sliceAt_slice _ _ _ _ _ _ hu,run_slice_l _ _ _ _ _ hu _ _ om om,hz];simp[Result.andThen,sliced,bhm]
theorem baz {Q:Nat->Prop} {w:World} {A:Option Addr} {l:List UInt8} (h:qf Q w A (bsV l)) (c lo:Nat) (hlo:lo<=l.length) (hc:l.length<=c):qf Q w (bhm A c lo) (bsV (l.drop lo)):=by
 rcases b08 lo l.length with q|q
 ·obtain⟨b,off,rfl,-,-⟩:=h lo _ (v9 q);unfold bhm;rw[if_neg om,<- abs,b26,ads];exact h.part lo
 ·rw[b3p q];exact qf.nil _ _ _
theorem akj {P:Program} {ops:Array Oper} {rest:List Oper} {o:Oper} {a:Act} {w:World} {Q:Exit->Act->World->Prop} (hgd:o.guard=none) (t:TypeId) (x lo:Operand) (ho:o.op=.slice t x (some lo) none none) {u v r:Value} (hx:a.eval x=u) (hl:a.eval lo=v) (hr:(Instr.sliceAt t u (some v) none none).run P w=.ok r w)
 (h:wpList P ops Q rest (a.put o.dst r) w):wpList P ops Q (o::rest) a w:=
 aba hgd (by unfold execOp;rw[ho];simp only[hx,hl,b26,Option.map_none,b1k,hr,b1f,b21]) h
def stA (v:VeD) (C:List Value) (at_:Nat):Array Value:=(veL v.d v.p v.n v.e C++[Value.int .i64 (at_:Int)]).toArray
def a3w:Array Value:=(veL 0 0 0 0 ac7++[Value.int .i64 0]).toArray
theorem acw:a3w.size=125:=by
 unfold a3w;rw[o6,e9,bnn];rfl
theorem ao3 (w:World):(zeroValue 106).run prog w=.ok (.agg a3w) w:=by kernel_rfl
def bos:Array (Nat×Nat):=#[(0,124),(124,1)]
theorem beu {v:VeD} {C:List Value} (hl:C.length=120) (k:Nat) (w:World):(Instr.build 106 #[(0,.agg (veL v.d v.p v.n v.e C).toArray),(1,.int .i64 (k:Int))]).run prog w=.ok (.agg (stA v C k)) w:=by
 refine acr (z:=a3w) (pl:=bos) underlying106 (ao3 w) kr ?_;have h4:=ae4 (d:=v.d) (p:=v.p) (n:=v.n) (e:=v.e) hl
 have e1:xv (veL 0 0 0 0 ac7++[Value.int .i64 0]) 0 (veL v.d v.p v.n v.e C)=veL v.d v.p v.n v.e C++[Value.int .i64 0]:=by
  have:=acu [] (veL 0 0 0 0 ac7) [Value.int .i64 0] (veL v.d v.p v.n v.e C) (by rw[h4];rfl);exact this
 have e2:xv (veL v.d v.p v.n v.e C++[Value.int .i64 0]) 124 [Value.int .i64 (k:Int)]=veL v.d v.p v.n v.e C++[Value.int .i64 (k:Int)]:=by
  have:=acu (veL v.d v.p v.n v.e C) [Value.int .i64 0] [] [Value.int .i64 (k:Int)] rfl;rw[h4]at this;exact this
 show Instr.fill _ a3w ((0,.agg (veL v.d v.p v.n v.e C).toArray)::(1,.int .i64 (k:Int))::[])=_;rw[yu (off:=0) (L:=veL v.d v.p v.n v.e C) rfl (by rw[h4];rfl) (by rw[h4,acw];decide)];show Instr.fill _ (xv (veL 0 0 0 0 ac7++[Value.int .i64 0]) 0 (veL v.d v.p v.n v.e C)).toArray _=_;rw[e1,yu (off:=124) (L:=[.int .i64 (k:Int)]) rfl rfl (by rw[o6,e9,h4];exact a8 _)];show some (xv (veL v.d v.p v.n v.e C++[Value.int .i64 0]) 124 [Value.int .i64 (k:Int)]).toArray=_;rw[e2];rfl
structure ada (b:List UInt8) (pre:List VeD) (at_:Nat) (r:List UInt8):Prop where
 cut:b.drop at_=r
 len:at_+r.length=b.length
 sc:qp b=(pre ++(qp r).1,(qp r).2)
theorem ada.start (b:List UInt8):ada b [] 0 b:=⟨rfl,by simp,rfl⟩
theorem ada.next {b:List UInt8} {pre:List VeD} {at_:Nat} {r:List UInt8} (h:ada b pre at_ r) (hr:(zg r).d≠0):ada b (pre++[zg r]) (at_+yo (zg r)) (r.drop (yo (zg r))):=by
 have h1:=aln hr;have h2:=h.len;refine⟨by rw[<- h.cut,b10],by rw[n5];omega,auo h.sc hr⟩
theorem ada.stop {b:List UInt8} {pre:List VeD} {at_:Nat} {r:List UInt8} (h:ada b pre at_ r) (hr:(zg r).d=0):(qp b).1=pre /\(qp b).2=r:=by
 rw[h.sc,ab8 hr,b0p];exact⟨rfl,rfl⟩
set_option maxRecDepth 100000 in
theorem bc8 (m l bx:Nat) (N:Nat->Prop) (A:Option Addr) (c:Nat) (b:List UInt8) (w:World) (hbx:w.cell? ⟨bx,0,none⟩=some (.slice A b.length c)) (hN:N bx) (hNl:∀k,N k->k<w.1.size) (hf:qf N w A (bsV b)) (hb:b.length<=1100000) (hc:b.length<=c) (J:List VeD->Nat->World->Prop)
 (hJ:∀pre a V,J pre a V ->(∀k,N k->V.heap[k]?=w.heap[k]?)/\w.1.size<=V.1.size)
 (hY:∀pre a at_ r C V0 V,J pre a V0->ada b pre at_ r->Below V0.1.size V0 V->ItM (Bk V0.1.size V) V C (zg r).x->YieldAt Fence.wide (m-1) prog l #[.agg (stA (zg r) C at_)] V λe V'=>e=.returned (.bool true)/\J (pre++[zg r]) at_ V'/\∀k,V0.1.size<=k->k<V.1.size->V'.heap[k]?=V.heap[k]?)
 (h0:J [] 0 w) :
 CallsIn Fence.wide m prog 70 #[.func (.yield l) #[] #[],.pointer (some ⟨bx,0,none⟩)] w λe W'=>(∃v,e=.returned v)/\J ((qp b).1++[zg (qp b).2]) (b.length-(qp b).2.length) W':=by
 have HJ:=q_ hJ;have HY:=q_ hY;have HN:=q_ (o3 hN hNl);have HBX:=q_ (o3 hbx hf);have H0:Q_ (J [] 0 w/\ada b [] 0 b):=q_ ⟨h0,ada.start b⟩;have HZ:=λW=>q_ (ag3 W)
 clear hJ hY hN hNl hbx hf h0;refine callsIn_of_wp func70 rfl trivial ?_ rfl;have HLO:Q_ (¬LetsOut (bodyPost prog Tryz.f70 λe W'=>(∃v,e=Ending.returned v)/\J ((qp b).1++[zg (qp b).2]) (b.length-(qp b).2.length) W')):=q_ (by rintro⟨_,_,⟨v,q⟩,-⟩;cases q);simp only[ntmps70,o6,n6,b0z,Nat.reduceAdd,Nat.reduceSub,b1n,b1o,b12,b1s,b0y,b0u]
 gi_wp2
 gi_loopw [3] (λs3 wr=>∃pre a at_ r,s3=.int .i64 ((at_:Nat):Int)/\Q_ (J pre a wr/\ada b pre at_ r)) (λs _=>b.length+1-(intOf s).toNat)
 case atStart=>exact⟨[],0,0,b,rfl,H0⟩
 case round=>
  obtain⟨pre,a,at_,r,rfl,HR⟩:=hrel;clear H0;obtain⟨hk,hz⟩:=HJ.o _ _ _ HR.o.1;have hbx:wr.cell? ⟨bx,0,none⟩=some (.slice A b.length c):=(t7 (a:=⟨bx,0,none⟩) (hk bx HN.o.1)).trans HBX.o.1;have hla:=HR.o.2.len;have HSL:=q_ (a7q A b.length c at_ om wr);have hfl:=baz (HBX.o.2.keep hk) c at_ om hc;rw[HR.o.2.cut]at hfl;have hat:=aug (bhm A c at_) (c-at_) r (hfl.less (R:=λ_=>True) λ_ _=>trivial) om om;have hrl:r.length=b.length-at_:=by omega
  rw[hrl]at hat;unfold avf at hat;have HAT:=q_ hat;clear hat hfl hk hz;obtain⟨v,hv⟩:∃v,zg r=v:=⟨_,rfl⟩;have HV:=q_ hv;rw[hv]at HAT;have hcl:at_<=b.length:=by omega
  clear hv hla hrl;apply wpIn_block;apply wpIn_seq_k;intro K1 HK1;refine adq (r:=none) (λq=>HLO.o q) sm ?_
  go_wp2_with (first
   | refine akj rfl 22 _ _ rfl rfl rfl HSL.o ?_)
  refine HAT.o.mono ?_;rintro e w3 ⟨C,rfl,hit,hb3⟩;have HVL:=q_ (ae4 (d:=v.d) (p:=v.p) (n:=v.n) (e:=v.e) hit.len);have HVO:=q_ (alw (d:=v.d) (p:=v.p) (n:=v.n) (e:=v.e) hit.ones);have HVS:=q_ (alx HVL.o);have HIT:=q_ (o3 hit hb3);clear hit hb3 HAT HSL
  go_wp2_with (first
   | (refine qc rfl 66 rfl (veA 0 0 0 0) (HZ _).o ?_;intro W4 hW;have HV4:=q_ (Blk.newL (L:=veL 0 0 0 0 ac7) hW rfl);have HB4:=q_ (o3 hW.bel hW.sz);clear hW)
   | (refine qe rfl 66 _ _ rfl w3.1.size 0 (veL v.d v.p v.n v.e C).toArray rfl rfl (yr HV4.o HVL.o) HVS.o HVO.o ?_;intro W5 hs;have HV5:=q_ (ace HV4.o HVL.o hs);have HB5:Q_ (Below w3.1.size w3 W5/\W5.1.size=w3.1.size+1):=q_ ⟨HB4.o.1.trans (hs.below (a8 _)),hs.sz.trans HB4.o.2⟩;clear hs))
  have hb5:Below wr.1.size wr W5:=HIT.o.2.trans (HB5.o.1.mono HIT.o.2.size)
  have hi5:ItM (Bk wr.1.size W5) W5 C (zg r).x:=by
   rw[HV.o];exact(HIT.o.1.keep λk q=>HB5.o.1.block k q.2).less λk q=>⟨q.1,by have:=q.2;have:=HB5.o.2;omega⟩
  obtain⟨fn,tmps,assign,body,hy,hR⟩:=HY.o pre a at_ r C wr W5 HR.o.1 HR.o.2 hb5 hi5;rw[HV.o]at hy hR;have HRR:=q_ hR;have HBS:=q_ (beu (v:=v) HIT.o.1.len at_ W5);have hvz:wr.1.size<=w3.1.size:=HIT.o.2.size;have hvb:w3.1.size<W5.1.size:=by have:=HB5.o.2;omega
  clear hR hb5 hi5 HV4 HB4 HVO HVS;generalize w3.1.size=vb at *
  gi_wp2_with (first
   | refine al1 (r:=none) rfl 66 _ rfl vb 0 rfl (veL v.d v.p v.n v.e C) _ HV5.o.rg underlying66 rfl (by rw[HVL.o];kernel_rfl) ?_
   | refine aol (r:=none) (u:=.agg (veL v.d v.p v.n v.e C).toArray) (u':=.int .i64 (at_:Int)) rfl 106 0 1 _ _ rfl rfl rfl HBS.o ?_)
  refine o3 (λq=>by cases q) (RoundIn.mono HRR.o ?_);rintro e W6 ⟨rfl,hJ6,hk6⟩;have hbk:=hk6 vb hvz hvb;have hvd:W6.cell? ⟨vb,0,none⟩=some (.int .i64 v.d):=(t7 (a:=⟨vb,0,none⟩) hbk).trans (aru HV5.o).1;have hvn:W6.cell? ⟨vb,2,none⟩=some (.int .i64 (v.n:Int)):=(t7 (a:=⟨vb,2,none⟩) hbk).trans (aru HV5.o).2.2.1;have HJ6:=q_ hJ6;have HVK:=q_ (λq=>aly r q);have HVT:=q_ (ai2 r);rw[HV.o]at HVK HVT;clear hbk hk6 hJ6 HRR HBS HV5 HB5 HIT HVL hy hvz hvb hbx
  by_cases hd:v.d=0
  ·rw[hd]at hvd
   gi_wp2
   refine b9 (results_none rfl _ _ _) rfl ?_;have hs:=HR.o.2.stop (by rw[HV.o];exact hd);have hl:=HR.o.2.len;refine⟨⟨_,rfl⟩,?_⟩;rw[hs.1,hs.2,HV.o,show b.length-r.length=at_ by omega];exact HJ6.o
  ·have hde:(v.d==0)=false:=by rw[l7];exact hd
   have hnx:=HR.o.2.next (by rw[HV.o];exact hd)
   rw[HV.o]at hnx;have HNX:=q_ hnx;have hln:=hnx.len;have hok:=(HVK.o hd).2;have hmx:yo v=max v.n 1:=rfl;have HMX:=q_ hmx;clear hnx HVK HVT;rcases hok with⟨h1,h2⟩|⟨h1,h2,h3,-⟩
   ·rw[h2]at hvn hmx;rw[h1]at hvd;have hst:yo v=1:=hmx;rw[hst]at HNX hln;clear hmx hde hd HMX
    gi_wp2
    go_roundw
    case rel=>exact⟨_,_,at_+1,_,by simp;omega,HJ6.o,HNX.o⟩
    case measure=>simp[intOf];omega
   ·have hst:yo v=v.n:=by omega
    rw[hst]at HNX hln;rw[h1]at hvd;have hn1:(1:Int) <=(v.n:Int):=by omega
    have hn2:(v.n:Int)<=1024:=by omega
    clear hmx hde hd HMX hst;generalize v.n=vn at *
    gi_wp2
    go_roundw
    case rel=>exact⟨_,_,at_+vn,_,by simp;omega,HJ6.o,HNX.o⟩
    case measure=>simp[intOf];omega
def bhk (w V0 W2:World) (d:Nat) (I:List VeD->Nat->World->Prop) (pre:List VeD) (a:Nat):Exit->Act->World->Prop
 | .normal,_,W3=>I pre a W3/\∀k,(k=w.1.size\/k=w.1.size+1\/V0.1.size<=k/\k<d)->W3.heap[k]?=W2.heap[k]?
 | _,_,_=>False
theorem alm {v:VeD} {C:List Value} (hl:C.length=120) (k:Nat):(stA v C k).size=125:=by
 unfold stA;rw[o6,e9,ae4 hl];rfl
theorem bhi {v:VeD} {C:List Value} (h:∀u∈C,u.oneCell'=true) (k:Nat):(stA v C k).all (·.oneCell')=true:=kf λu hu=>by
 unfold stA at hu;rw[b1d,b1z]at hu;rcases hu with hu|hu
 ·simp only[veL,b03]at hu;rcases hu with rfl|rfl|rfl|rfl|hu
  ·rfl
  ·rfl
  ·rfl
  ·rfl
  ·exact h u hu
 ·rw[b2v.1 hu];rfl
theorem adf {m:Nat} {g:Operand} {ps:Array Tmp} {assign body:Code} {Q:Exit->Act->World->Prop} {a:Act} {w:World} {bx:Nat} (hg:a.eval g=.func (.func 70) #[] #[.pointer (some ⟨bx,0,none⟩)])
 {N:Nat->Prop} {A:Option Addr} {c:Nat} {b:List UInt8} (hbx:w.cell? ⟨bx,0,none⟩=some (.slice A b.length c)) (hN:N bx) (hNl:∀k,N k->k<w.1.size) (hf:qf N w A (bsV b)) (hb:b.length<=1100000) (hc:b.length<=c) (hps:ps.size=1)
 (I:List VeD->Nat->World->Prop) (hIk:∀pre a V,I pre a V ->(∀k,N k->V.heap[k]?=w.heap[k]?)/\w.1.size<=V.1.size) (hI:∀pre a V V',I pre a V->qi (λk=>k<V.1.size/\k≠w.1.size/\k≠w.1.size+1) V V'->I pre a V') (h0:I [] 0 w)
 (A1:Array Value->Value->Nat->Array Value)
 (hassign:∀(l:Nat) (x:Array Value) (V:World) (K:Act->World->Prop),x.size=125->x.all (·.oneCell')=true ->(∀W',Blk W' V.1.size x.toList->Below V.1.size V W'->W'.1.size=V.1.size+1->K {tmps:=A1 a.tmps (.agg x) V.1.size,defers:=[]} W') ->
  assign.wpIn (Fence.wide.inRound l) (m-1-1) prog (Exit.then K (λ_ _ _=>False)) {tmps:=(ps.zip #[.agg x]).foldl (λt (p,v)=>t.setIfInBounds p v) a.tmps,defers:=[]} V)
 (hbody:∀(l:Nat) (pre:List VeD) (a0 at_:Nat) (r:List UInt8) (C:List Value) (V0 W2:World) (d:Nat),l=w.1.size+1->w.1.size+2<=V0.1.size->I pre a0 V0->ada b pre at_ r->qi (λk=>k<V0.1.size/\k≠w.1.size/\k≠w.1.size+1) V0 W2->ItM (λk=>V0.1.size<=k/\k<d) W2 C (zg r).x->Blk W2 d (stA (zg r) C at_).toList->V0.1.size<=d->W2.1.size=d+1 ->
  body.wpIn (Fence.wide.inRound l) (m-1-1) prog (bhk w V0 W2 d I (pre++[zg r]) at_) {tmps:=A1 a.tmps (.agg (stA (zg r) C at_)) d,defers:=[]} W2)
 (hdone:∀(D:Nat) (W:World),D=w.1.size->I ((qp b).1++[zg (qp b).2]) (b.length-(qp b).2.length) W->W.heap[D]?=some (.deferred (some []))->Q .normal {a with defers:={target:=.collected D,args:=#[]}::a.defers} W) :
 (Code.rangeFunc g ps assign body).wpIn Fence.wide m prog Q a w:=by
 refine wpIn_rangeFunc ?_;intro fn hfn;show ∃_,_;let rec_:LoopState->Option Code->Loop:=λst pe=>{state:=st,pending:=pe,fn,tmps:=a.tmps,params:=ps,assign,body,defers:=w.1.size}
 obtain⟨R,hR⟩:∃R:LoopState->Option Code->Loop,R=rec_:=⟨_,rfl⟩;have rS:∀st pe,(R st pe).state=st:=λst pe=>by rw[hR]
 obtain⟨W1,hW1⟩:∃W1,(w.alloc (.deferred (some []))).alloc (.loop (R .ready none))=W1:=⟨_,rfl⟩;have bel:Below w.1.size w W1:=by rw[<- hW1];exact((n9 _ w).alloc (a8 _) _).alloc sm _
 have atL:W1.heap[w.1.size+1]?=some (.loop (R .ready none)):=by
  have:=World.alloc_heap_new (w.alloc (.deferred (some []))) (.loop (R .ready none));rw[World.size_alloc]at this;rw[<- hW1];exact this
 have atD:W1.heap[w.1.size]?=some (.deferred (some [])):=by
  rw[<- hW1];exact(Below.heap_alloc _ _ _ sm).trans (World.alloc_heap_new w _)
 have i1:I [] 0 W1:=hI _ _ _ _ h0 (qi.of_below bel λj q=>q.1)
 have put:∀(V:World) (l:Nat) (o:Obj),l=w.1.size\/l=w.1.size+1->qi (λk=>k<V.1.size/\k≠w.1.size/\k≠w.1.size+1) V (V.putObj l o):=λV l o hl=>
  ⟨rfl,rfl,rfl,by simp,λk q=>World.putObj_heap_other om⟩
 refine⟨w.1.size+1,[{target:=.collected w.1.size,args:=#[]}],W1,{target:=.fn (.func 70) #[.pointer (some ⟨bx,0,none⟩)],args:=#[.func (.yield (w.1.size+1)) #[] #[]]},W1,70,
  #[.func (.yield (w.1.size+1)) #[] #[]]++#[.pointer (some ⟨bx,0,none⟩)],W1,?_,?_,?_,?_,(λh=>by cases h),?_⟩
 ·rw[<- hW1,hR];exact run_enterLoop_outer _ _ _ _ _
 ·simp only[resolve,hg];simp[go_sem]
 ·intro f' hf';trivial
 ·simp[invoke,go_sem]
 ·refine(bc8 (m-1) (w.1.size+1) bx N A c b W1 ((bel.cell (p:=⟨bx,0,none⟩) (hNl _ hN)).trans hbx) hN (λk q=>i9 (hNl k q) bel.size) (hf.below bel hNl) hb hc
   (λpre a V=>I pre a V/\V.heap[w.1.size+1]?=some (.loop (R .ready none))/\V.heap[w.1.size]?=some (.deferred (some [])))
   (λpre a V q=>⟨λk hk=>((hIk _ _ _ q.1).1 k hk).trans (bel.block k (hNl k hk)).symm,?_⟩) ?_ ⟨i1,atL,atD⟩).mono ?_
  ·have h1:=(o8.1 q.2.1).1;have h2:W1.1.size=w.1.size+2:=by rw[<- hW1];simp
   omega
  ·rintro pre a0 at_ r C V0 V ⟨hi,hl,hd⟩ hst hbl hit;have hlt:w.1.size+1<V0.1.size:=(o8.1 hl).1;have hlV:V.heap[w.1.size+1]?=some (.loop (R .ready none)):=(hbl.block _ hlt).trans hl;have hdV:V.heap[w.1.size]?=some (.deferred (some [])):=(hbl.block _ om).trans hd;have hy:=run_yield (P:=prog) (args:=#[.agg (stA (zg r) C at_)]) hlV (by rw[hR];exact hps.symm);rw[hR]at hy;refine⟨fn,_,assign,body,hy,roundIn_of_wpIn hfn (hassign _ (stA (zg r) C at_) V _ (alm hit.len at_) (bhi hit.ones at_) λW' hblk hbW hzW=>?_)⟩;have hlW:W'.heap[w.1.size+1]?=some (.loop (R .ready none)):=(hbW.block _ (i9 hlt hbl.size)).trans hlV;have hdW:W'.heap[w.1.size]?=some (.deferred (some [])):=(hbW.block _ (by have:=hbl.size;omega)).trans hdV;refine⟨_,run_beginRound hlW (rS _ _),?_⟩;obtain⟨V2,hV2⟩:∃V2,W'.putObj (w.1.size+1) (.loop {R .ready none with state:=.busy})=V2:=⟨_,rfl⟩
   have l2:V2.heap[w.1.size+1]?=some (.loop {R .ready none with state:=.busy}):=by rw[<- hV2];exact World.putObj_heap_same (by have:=hbl.size;omega)
   have d2:V2.heap[w.1.size]?=some (.deferred (some [])):=by rw[<- hV2];exact(World.putObj_heap_other om).trans hdW
   have k2:∀k,k≠w.1.size+1->V2.heap[k]?=W'.heap[k]?:=λk hk=>by rw[<- hV2];exact World.putObj_heap_other hk
   have z2:V2.1.size=V.1.size+1:=by rw[<- hV2,<- hzW];simp
   have b02:qi (λk=>k<V0.1.size/\k≠w.1.size/\k≠w.1.size+1) V0 V2:=by
    have h1:qi (λk=>k<V0.1.size/\k≠w.1.size/\k≠w.1.size+1) V0 W':=qi.of_below (hbl.trans (hbW.mono hbl.size)) λj q=>q.1
    refine h1.trans ?_;rw[<- hV2];exact(put W' (w.1.size+1) (.loop {R .ready none with state:=.busy}) (.inr rfl)).less λj q=>⟨i9 q.1 (by have:=hbl.size;omega),q.2⟩
   have it2:ItM (λk=>V0.1.size<=k/\k<V.1.size) V2 C (zg r).x:=(hit.keep λk q=>(k2 k (by have:=q.1;omega)).trans (hbW.block k q.2)).less λk q=>q
   have bk2:Blk V2 V.1.size (stA (zg r) C at_).toList:=hblk.kept (k2 _ (by have:=hbl.size;omega)) om;rw[hV2];refine wpIn_mono (hbody _ pre a0 at_ r C V0 V2 V.1.size rfl hlt hi hst b02 it2 bk2 hbl.size z2) ?_;rintro e a3 V3 hp;cases e with
   | normal=>
    obtain⟨hi3,hk3⟩:=hp;have l3:=(hk3 _ (.inr (.inl rfl))).trans l2;have d3:=(hk3 _ (.inl rfl)).trans d2;have hr:=run_endRound (P:=prog) none l3;rw[hR]at hr;refine⟨_,_,hr,rfl,⟨hI _ _ _ _ hi3 (put V3 (w.1.size+1) _ (.inr rfl)),?_,?_⟩,?_⟩
    ·rw[hR];exact World.putObj_heap_same (o8.1 l3).1
    ·exact(World.putObj_heap_other om).trans d3
    ·intro k q1 q2;exact(World.putObj_heap_other om).trans ((hk3 k (.inr (.inr ⟨q1,q2⟩))).trans ((k2 k om).trans (hbW.block k q2)))
   | ret=>exact hp.elim
   | exit id=>exact hp.elim
   | goto t=>exact hp.elim
   | panic ch=>exact hp.elim
   | outgrown=>exact hp.elim
  ·rintro e V ⟨⟨v,rfl⟩,hi,hl,hd⟩;have he:=run_endLoop (P:=prog) hl (by rw[hR];simp[rec_]);rw[hR]at he;exact⟨none,_,he,hdone _ _ rfl (hI _ _ _ _ hi (put V (w.1.size+1) _ (.inr rfl))) ((World.putObj_heap_other om).trans hd)⟩
theorem a60 {fn:Func} {p:Tmp} {ty:TypeId} (h:fn.results=#[.cell p ty]) (tmps:Array Value) (P:Program) (w:World):(results fn tmps).run P w=((asAddr (tmps.getD p undef)).run P w).andThen λa w₁=>(loadVar ty a).run P w₁:=by
 simp only[results,h];simp[Result.andThen]
def afh (W:World) (cb:Nat) (T:List Int):Prop:=Blk W cb (T.map (Value.int .i64))/\T.length=13
theorem afh.cell {W:World} {cb:Nat} {T:List Int} (h:afh W cb T) (k:Nat) (hk:k<13):W.cell? ⟨cb,k,none⟩=some (.int .i64 (T.getD k 0)):=h.1.cell k (by
 have:=h.2;rw[b0l,l9,d7 om];rfl)
theorem afh.set {W:World} {cb:Nat} {T:List Int} (h:afh W cb T) (k:Nat) (v:Int) (hk:k<13):afh (W.setCell ⟨cb,k,none⟩ (.int .i64 v)) cb (T.set k v)/\qi (λj=>j≠cb) W (W.setCell ⟨cb,k,none⟩ (.int .i64 v)):=by
 have:=h.1.set (o:=k) (by rw[b0o];have:=h.2;omega) (.int .i64 v);refine⟨⟨by rw[List.map_set];exact this.1,by rw[b3t];exact h.2⟩,?_⟩;exact⟨this.2.os,this.2.tape,this.2.output,b1e this.2.sz.symm,λj q=>this.2.far j q⟩
theorem afh.kept {W W':World} {cb:Nat} {T:List Int} (h:afh W cb T) (hk:W'.heap[cb]?=W.heap[cb]?) (hz:W.1.size<=W'.1.size):afh W' cb T:=⟨h.1.kept hk hz,h.2⟩
theorem a7v {v:VeD} {C:List Value} (hl:C.length=120) (k:Nat):(stA v C k).toList[124]?=some (.int .i64 (k:Int)):=by
 unfold stA;rw[b1d,b0a (by rw[ae4 hl];exact a8 _),ae4 hl];rfl
theorem bhh {W:World} {d:Nat} {v:VeD} {C:List Value} {k:Nat} (h:Blk W d (stA v C k).toList):W.rangeAt d 4 C:=by
 have:Blk W d ([.int .i64 v.d,.int .i64 v.p,.int .i64 (v.n:Int),.int .i64 v.e]++C++[.int .i64 (k:Int)]):=h;exact this.sub
theorem a6g {Q:Nat->Prop} {W:World} {cb:Nat} {T:List Int} {C:List Value} {v:VeD} {at_:Nat} (hT:afh W cb T) (hI:ItM Q W C v.x) (hp:v.p=1\/v.p=2\/v.p=3) (hd:v.d=2) (hC:v5 T 1000000000) :
 Calls prog 33 #[.agg (stA v C at_),.pointer (some ⟨cb,0,none⟩)] W λe w'=>e=.returned (.agg C.toArray)/\afh w' cb (aco T v)/\qi (λj=>j<W.1.size/\j≠cb) W w':=by
 obtain⟨R,hR⟩:=at4 hI;have HIL:=q_ hI.len;have HIO:=q_ hI.ones;have HT:=q_ hT;have HZ:=λW=>q_ (adr W)
 obtain⟨vd,vp,vn,ve,vx⟩:=v;obtain⟨pr,od,U0,N0,T0⟩:=vx;dsimp only at *;subst hd;have HSZ:=q_ (alm (v:=⟨2,vp,vn,ve,⟨pr,od,U0,N0,T0⟩⟩) hI.len at_);obtain⟨k,hk⟩:∃k,(if od=true then 5+vp.toNat else 1+vp.toNat)=k:=⟨_,rfl⟩
 have hcv:aco T ⟨2,vp,vn,ve,⟨pr,od,U0,N0,T0⟩⟩=q7 T k 1:=by
  unfold aco ash;rw[if_neg (show ¬(2:Int)=1 by decide)];rw[hk]
 rw[hcv];have hk13:k<13:=by rw[<- hk];split<;>omega
 obtain⟨n,hn⟩:∃n,T.getD k 0=n:=⟨_,rfl⟩;have hn0:=(hC k).1;have hn1:=(hC k).2;rw[hn]at hn0 hn1
 have HCK:∀W1,Below W.1.size W W1->Q_ (W1.cell? ⟨cb,k,none⟩=some (.int .i64 n)/\W1.frozen? ⟨cb,k,none⟩=false):=λW1 hb=>q_ (by
  have h1:=HT.o.1.on hb;have h2:afh W1 cb T:=⟨h1,HT.o.2⟩;have:=h2.cell k hk13;rw[hn]at this;exact⟨this,h1.fz _⟩)
 have HFIN:∀W1,Below W.1.size W W1->Q_ (afh (W1.setCell ⟨cb,k,none⟩ (.int .i64 (n+1))) cb (q7 T k 1)/\qi (λj=>j<W.1.size/\j≠cb) W (W1.setCell ⟨cb,k,none⟩ (.int .i64 (n+1)))/\∀j,j≠cb ->(W1.setCell ⟨cb,k,none⟩ (.int .i64 (n+1))).heap[j]?=W1.heap[j]?):=λW1 hb=>q_ (by
  have h2:afh W1 cb T:=⟨HT.o.1.on hb,HT.o.2⟩;have hd:=h2.set k (n+1) hk13;refine⟨by rw[<- hn]at hd ⊢;exact hd.1,(qi.of_below hb λj q=>q.1).trans (hd.2.less λj q=>q.2),λj q=>hd.2.block j q⟩)
 have HCB:Q_ (cb<W.1.size):=q_ hT.1.lt;have HRI:=q_ hR;clear hC hk13 hn hI hT hR hcv;cases od<;>rcases hp with rfl|rfl|rfl
 all_goals
  have hk':=hk.symm;simp only[b2w,b4v,b5p,Int.reduceToNat,Nat.reduceAdd]at hk';subst hk';clear hk;go_enter func33,ntmps33
  go_upto_region 1 with(first
   | (refine qr rfl _ _ rfl (stA _ C at_) rfl ?_;intro W1 hW;have K1:=q_ (Blk.newL hW rfl);have HB1:=q_ (o3 hW.bel hW.sz);clear hW)
   | (refine qc rfl 64 rfl al3 (HZ _).o ?_;intro W2 hW;have K2:=q_ (K1.o.grew hW);have R2:=q_ (Blk.newL (L:=ac7) hW rfl);have HB2:Q_ (Below W.1.size W W2/\W1.1.size=W.1.size+1/\W2.1.size=W.1.size+2):=q_ ⟨qb HB1.o.1 hW.bel,HB1.o.2,by have:=hW.sz;have:=HB1.o.2;omega⟩;clear hW))
  have hk2:=K2.o;rw[HRI.o]at hk2;have i1:=hk2.cell 1 rfl;have i5:=hk2.cell 5 rfl;obtain⟨ck,zk⟩:=(HCK W2 HB2.o.1).o;have HF1:=HFIN W2 HB2.o.1;clear hk2 HCK HFIN K1 HB1;go_upto_region 4 with fail;have hz1:W.1.size≠cb/\W1.1.size≠cb/\W1.1.size≠W.1.size:=by have:=HCB.o;have:=HB2.o.2;omega
  have K3:=q_ (bhh (K2.o.kept (HF1.o.2.2 _ hz1.1) sm));have R3:=q_ (R2.o.kept (HF1.o.2.2 _ hz1.2.1) sm);clear i1 i5 ck zk K2 R2;generalize W2.setCell ⟨cb,_,none⟩ (.int .i64 (n+1))=W3 at *
  go_wp2_with (first
   | refine b0q rfl 64 _ rfl W.1.size 4 rfl C _ K3.o underlying64 rfl (by rw[HIL.o];kernel_rfl) ?_
   | (refine qe rfl 64 _ _ rfl W1.1.size 0 C.toArray rfl rfl (yr R3.o HIL.o) (by rw[o6,HIL.o];kernel_rfl) (kf λu hu=>HIO.o u (by simpa using hu)) ?_;intro W4 hs;have R4:=q_ (ace R3.o HIL.o hs);have HF4:Q_ (afh W4 cb _/\qi (λj=>j<W.1.size/\j≠cb) W W4):=q_ ⟨HF1.o.1.kept (hs.far _ (λq=>hz1.2.1 q.symm)) (b1e hs.sz.symm),HF1.o.2.1.stored hs (λq=>by have:=HB2.o.2;omega)⟩;clear hs HF1 R3))
  try go_frame
  have HLD:=q_ (t9 (P:=prog) W4 W1.1.size 0 64 C _ R4.o.rg underlying64 rfl (by rw[HIL.o];kernel_rfl));refine b9 (v:=.agg C.toArray) (by rw[a60 rfl];simp[asAddr,Result.andThen,HLD.o]) rfl ?_;exact⟨rfl,HF4.o⟩
open Go.RowKit Go.Shelf
attribute [local go_sem] Oper.semAt_some
theorem af3 {P:Program} {o:Oper} {a:Act} {w W:World} {Q:Exit->Act->World->Prop} {K:Act->World->Prop} {v:Value} (hex:(execOp a.eval o).run P w=.ok (.value v) W) (h:K (a.put o.dst v) W):o.wp P a w K Q:=by
 unfold Oper.wp;rw[hex];exact h
theorem aue {w:World} {B B':Nat} {e:TypeId} {size:Nat} {v:Value} {n:Nat} {xs:List Value} (h:w.ownsRow B e size v n xs) (hB:B'<=B):w.ownsRow B' e size v n xs:=by
 refine⟨h.1,?_⟩;rcases h.2 with q|⟨g,cap,cur,h1,h2,h3,h4⟩
 ·exact .inl q
 ·exact .inr ⟨g,cap,cur,h1,p9 hB h2,h3,h4⟩
theorem xt.lower {B B':Nat} {v:Value} {X:List ItD} {w:World} (h:xt B v X w) (hB:B'<=B):xt B' v X w:=by
 obtain⟨Ls,h1,h2⟩:=h;exact⟨Ls,aue h1 hB,h2.less λk q=>⟨p9 hB q.1,q.2⟩⟩
def abc (T:List Int) (V:List VeD):List Int:=(V.filter λv=>decide (v.d=2)).foldl aco T
theorem ap7 (T:List Int) (V:List VeD) (v:VeD):abc T (V++[v])=if v.d=2 then aco (abc T V) v else abc T V:=by
 unfold abc;rw[List.filter_append,b3v]
 by_cases h:v.d=2<;>simp[h]
theorem aoq {N:Int}:∀(V:List VeD) {T:List Int},v5 T N->v5 (abc T V) (N+V.length)
 | [],T,h=>by simpa [abc]using h
 | v::V,T,h=>by
  by_cases hd:v.d=2
  ·have:=aoq (N:=N+1) V (T:=aco T v) (al8 h _);have e:abc T (v::V)=abc (aco T v) V:=by simp[abc,hd]
   rw[e];rw[n6,show N +((V.length+1:Nat):Int)=N+1 +(V.length:Int)from by omega];exact this
  ·have:=aoq V h;have e:abc T (v::V)=abc T V:=by simp[abc,hd]
   rw[e];exact λk=>⟨(this k).1,by have:=(this k).2;rw[n6];omega⟩
structure a9q (Wg:World) (cb ob eb:Nat) (T:List Int) (pre:List VeD) (a:Nat) (W:World):Prop where
 its:∃u,Blk W ob [u]/\xt (Wg.1.size+2) u (q6 pre) W
 en:Blk W eb [.int .i64 (a:Int)]
 cnt:afh W cb (abc T pre)
 kept:qi (λj=>j<Wg.1.size/\j≠cb/\j≠ob/\j≠eb) Wg W
theorem a9q.same {Wg:World} {cb ob eb:Nat} {T:List Int} {pre:List VeD} {a:Nat} {W W':World} (h:a9q Wg cb ob eb T pre a W) (hc:cb<Wg.1.size) (ho:ob<Wg.1.size) (he:eb<Wg.1.size) (hk:qi (λk=>k<W.1.size/\k≠Wg.1.size/\k≠Wg.1.size+1) W W'):a9q Wg cb ob eb T pre a W':=by
 have hz:=h.kept.size;obtain⟨u,h1,h2⟩:=h.its;have kb:∀k,k<Wg.1.size->W'.heap[k]?=W.heap[k]?:=λk q=>hk.block k om
 exact⟨⟨u,h1.kept (kb _ ho) hk.size,h2.kept (λk q1 q2=>hk.block k om) hk.size⟩,h.en.kept (kb _ he) hk.size,h.cnt.kept (kb _ hc) hk.size,h.kept.trans (hk.less λj q=>by omega)⟩
theorem amz (A:Option Addr) (n c:Nat) (w:World):Calls prog 54 #[.slice A n c] w λe w'=>e=.returned (.func (.func 70) #[] #[.pointer (some ⟨w.1.size,0,none⟩)])/\w'=w.alloc (.cells #[.slice A n c] 22):=by
 go_enter func54,ntmps54;go_wp2;go_ret;exact⟨rfl,rfl⟩
structure ayx (w W:World) (n:Nat) (d o u e:Value):Prop where
 d0:Blk W n [d]
 o1:Blk W (n+1) [o]
 o2:Blk W (n+1+1) [u]
 e3:Blk W (n+1+1+1) [e]
 bel:Below w.1.size w W
 at_:n=w.1.size
theorem ayx.mk4 (w:World) (d o u e:Value) (t1 t2 t3 t4:TypeId):ayx w ((((w.alloc (.cells #[d] t1)).alloc (.cells #[o] t2)).alloc (.cells #[u] t3)).alloc (.cells #[e] t4)) w.1.size d o u e:=by
 have g1:=qg w #[d] t1;have g2:=qg (w.alloc (.cells #[d] t1)) #[o] t2;have g3:=qg ((w.alloc (.cells #[d] t1)).alloc (.cells #[o] t2)) #[u] t3;have g4:=qg (((w.alloc (.cells #[d] t1)).alloc (.cells #[o] t2)).alloc (.cells #[u] t3)) #[e] t4;have z1:(w.alloc (.cells #[d] t1)).1.size=w.1.size+1:=by simp
 have z2:((w.alloc (.cells #[d] t1)).alloc (.cells #[o] t2)).1.size=w.1.size+1+1:=by simp
 have z3:(((w.alloc (.cells #[d] t1)).alloc (.cells #[o] t2)).alloc (.cells #[u] t3)).1.size=w.1.size+1+1+1:=by simp
 refine⟨((((Blk.newL g1 rfl).grew g2).grew g3).grew g4),?_,?_,?_,qb (qb (qb g1.bel g2.bel) g3.bel) g4.bel,rfl⟩
 ·have:=Blk.newL g2 rfl;rw[z1]at this;exact(this.grew g3).grew g4
 ·have:=Blk.newL g3 rfl;rw[z2]at this;exact this.grew g4
 ·have:=Blk.newL g4 rfl;rw[z3]at this;exact this
theorem ayx.grew {w W W':World} {n:Nat} {d o u e:Value} {C:Array Value} (h:ayx w W n d o u e) (hg:ayy W W' C):ayx w W' n d o u e:=⟨h.d0.grew hg,h.o1.grew hg,h.o2.grew hg,h.e3.grew hg,qb h.bel hg.bel,h.at_⟩
theorem a5y (V:List VeD):(q6 V).length<=V.length:=by
 unfold q6;rw[b0o];exact b2u _ _
theorem adu {P:Program} {o:Oper} {a:Act} {w W:World} {t:TypeId} {x:Operand} (ho:o.op=.buildSlice t 1 #[(0,x)]) {u v:Value} (hx:a.eval x=u) (hr:(Instr.buildSlice t 1 #[(0,u)]).run P w=.ok v W):(execOp a.eval o).run P w=.ok (.value v) W:=by
 unfold execOp;rw[ho];simp[hx,hr]
def ag4 (n d:Nat) (W W':World):Prop:=W'.heap[n+1]?=W.heap[n+1]?/\W'.heap[d]?=W.heap[d]?
theorem ba5 {Wg V0 W2 w4:World} {cb n d:Nat} {T:List Int} {pre:List VeD} {a0 at_:Nat} {u:Value} {v:VeD} {C:List Value} (hz:Wg.1.size=n+5) (hcb:cb<n) (hi:a9q Wg cb (n+1+1) (n+1+1+1) T pre a0 W2) (hu:Blk W2 (n+1+1) [u]) (hrow:xt (Wg.1.size+2) u (q6 pre) W2)
 (hown:∀k,u.ownBlock=some k->Wg.1.size+2<=k/\k<V0.1.size) (hz0:Wg.1.size+2<=V0.1.size) (hd:V0.1.size<=d) (hz2:W2.1.size=d+1) (hit:ItM (λk=>V0.1.size<=k/\k<d) W2 C v.x) (h2:v.d=2) (hn:(q6 pre).length+1<=20000000)
 (hc4:afh w4 cb (aco (abc T pre) v)) (hk4:qi (λj=>j<(W2.setCell ⟨n+1+1+1,0,none⟩ (.int .i64 (at_:Int))).drew.1.size/\j≠cb) (W2.setCell ⟨n+1+1+1,0,none⟩ (.int .i64 (at_:Int))).drew w4) :
 ∃A8 n8 c8 W8,(Builtin.append_ #[75,75] 75 #[u,.slice (some ⟨w4.1.size,0,none⟩) 1 1]).run prog (w4.alloc (.cells C.toArray 64))=.ok (.slice A8 n8 c8) W8 /\
  Blk w4 (n+1+1) [u]/\Blk (w4.alloc (.cells C.toArray 64)) (n+1+1) [u]/\Blk W8 (n+1+1) [u] /\
  (a9q Wg cb (n+1+1) (n+1+1+1) T (pre++[v]) at_ (W8.setCell ⟨n+1+1,0,none⟩ (.slice A8 n8 c8))/\∀k,(k=Wg.1.size\/k=Wg.1.size+1\/V0.1.size<=k/\k<d) ->(W8.setCell ⟨n+1+1,0,none⟩ (.slice A8 n8 c8)).heap[k]?=W2.heap[k]?) /\
  ag4 n d W2 w4/\ag4 n d W2 (w4.alloc (.cells C.toArray 64))/\ag4 n d W2 W8/\ag4 n d W2 (W8.setCell ⟨n+1+1,0,none⟩ (.slice A8 n8 c8)):=by
 obtain⟨he3,hs3⟩:=hi.en.set (o:=0) sm (.int .i64 (at_:Int));generalize hW3:W2.setCell ⟨n+1+1+1,0,none⟩ (.int .i64 (at_:Int))=W3 at *;have k4:∀k,k<d+1->k≠cb->k≠n+1+1+1->w4.heap[k]?=W2.heap[k]?:=λk q1 q2 q3=>(hk4.block k ⟨by show k<W3.1.size;rw[hs3.sz];omega,q2⟩).trans (hs3.far k q3)
 have hz4:d+1<=w4.1.size:=by have:=hk4.size;have h':W3.drew.1.size=W3.1.size:=rfl;rw[h',hs3.sz]at this;omega
 have he4:Blk w4 (n+1+1+1) [.int .i64 (at_:Int)]:=he3.kept (hk4.block _ ⟨by show _<W3.1.size;rw[hs3.sz];omega,by omega⟩) hk4.size;have hu4:Blk w4 (n+1+1) [u]:=hu.kept (k4 _ om om om) om;have hr4:xt (Wg.1.size+2) u (q6 pre) w4:=hrow.kept (λk q1 q2=>k4 k om om om) om;have hi4:ItM (λk=>V0.1.size<=k/\k<d) w4 C v.x:=hit.keep λk q=>k4 k om om om
 have hba:=qa w4 (.cells C.toArray 64);have hz5:(w4.alloc (.cells C.toArray 64)).1.size=w4.1.size+1:=by simp
 have hblk:Blk (w4.alloc (.cells C.toArray 64)) w4.1.size C:=Blk.newL (qg w4 _ _) b1d
 have hfl:qf (λ_=>True) (w4.alloc (.cells C.toArray 64)) (some ⟨w4.1.size,0,none⟩) [C].flatten:=by
  rw[show [C].flatten=C from by simp];exact hblk.flat trivial
 have hits:acd (λk=>Wg.1.size+2<=k/\k<(w4.alloc (.cells C.toArray 64)).1.size/\some k≠u.ownBlock) (w4.alloc (.cells C.toArray 64)) [C] [v.x]:=acd.one ((hi4.keep λk q=>hba.block k om).less λk q=>⟨by omega,by omega,λr=>by have:=(hown k r.symm).2;omega⟩);obtain⟨v8,W8,hrun,hr8,hb8,hx8,-⟩:=(hr4.kept (λk _ r=>hba.block k r) hba.size).app om (some ⟨w4.1.size,0,none⟩) 1 [C] hfl hits (by simp;omega);obtain⟨A8,c8,rfl,-⟩:=hr8.slice;have ou:∀k,k<Wg.1.size+2\/V0.1.size<=k->some k≠u.ownBlock:=λk q r=>by have:=hown k r.symm;omega
 have k8:∀k,k<d+1 ->(k<Wg.1.size+2\/V0.1.size<=k)->W8.heap[k]?=w4.heap[k]?:=λk q1 q2=>(hx8 k om (ou k q2)).trans (hba.block k om)
 have hz8:=hb8.size;have hu8:Blk W8 (n+1+1) [u]:=hu4.kept (k8 _ om om) om;obtain⟨hu9,hs9⟩:=hu8.set (o:=0) sm (.slice A8 ((q6 pre)++[v.x]).length c8);refine⟨A8,_,c8,W8,hrun,hu4,hu4.on hba,hu8,⟨⟨⟨_,hu9,?_⟩,?_,?_,?_⟩,?_⟩,?_,?_,?_,?_⟩
 ·rw[ad8,if_pos h2];exact hr8.kept (λk q1 q2=>hs9.far k om) (b1e hs9.sz.symm)
 ·exact he4.kept ((hs9.far _ om).trans (k8 _ om om)) (by have:=hs9.sz;omega)
 ·rw[ap7,if_pos h2];exact hc4.kept ((hs9.far _ om).trans (k8 _ om om)) (by have:=hs9.sz;omega)
 ·have h1:qi (λj=>j<Wg.1.size/\j≠cb/\j≠n+1+1/\j≠n+1+1+1) W2 W3:=⟨hs3.os,hs3.tape,hs3.output,b1e hs3.sz.symm,λk q=>hs3.far k q.2.2.2⟩;have h2:qi (λj=>j<Wg.1.size/\j≠cb/\j≠n+1+1/\j≠n+1+1+1) W3 w4:=(⟨hk4.os,hk4.tape,hk4.output,hk4.size,hk4.block⟩:qi (λj=>j<W3.drew.1.size/\j≠cb) W3 w4).less λj q=>⟨by show j<W3.1.size;rw[hs3.sz];omega,q.2.1⟩
  have h3:qi (λj=>j<Wg.1.size/\j≠cb/\j≠n+1+1/\j≠n+1+1+1) w4 W8:=(qi.of_below hba λj q=>by omega).trans (qi.of_below hb8 λj q=>by omega);exact(((hi.kept.trans h1).trans h2).trans h3).trans ⟨hs9.os,hs9.tape,hs9.output,b1e hs9.sz.symm,λk q=>hs9.far k q.2.2.1⟩
 ·intro k q;exact(hs9.far k om).trans ((k8 k om om).trans (k4 k om om om))
 ·exact⟨k4 _ om om om,k4 _ om om om⟩
 ·exact⟨(hba.block _ om).trans (k4 _ om om om),(hba.block _ om).trans (k4 _ om om om)⟩
 ·exact⟨(k8 _ om om).trans (k4 _ om om om),(k8 _ om om).trans (k4 _ om om om)⟩
 ·exact⟨(hs9.far _ om).trans ((k8 _ om om).trans (k4 _ om om om)),(hs9.far _ om).trans ((k8 _ om om).trans (k4 _ om om om))⟩
set_option maxRecDepth 100000 in
theorem a0g {w:World} {cb:Nat} {T:List Int} {A:Option Addr} {c:Nat} {b:List UInt8} (hT:afh w cb T) (hTk:v5 T 900000000) (hf:qf (λk=>k<w.1.size/\k≠cb) w A (bsV b)) (hb:b.length<=1100000) (hc:b.length<=c) :
 Calls prog 32 #[.slice A b.length c,.int .i64 2,.func (.func 33) #[] #[.pointer (some ⟨cb,0,none⟩)]] w λe w'=>∃v,e=.returned (.tuple #[v,.int .i64 ((b.length-(qp b).2.length:Nat):Int)])/\xt w.1.size v (q6 (qp b).1) w'/\afh w' cb (abc T (qp b).1)/\qi (λj=>j<w.1.size/\j≠cb) w w':=by
 have HT:=q_ (o3 hT hTk);have HF:=q_ hf;have HBC:=q_ (o3 hb hc);have HZS:=λW=>q_ (ao3 W)
 clear hT hTk hf;refine jw func32 rfl ?_;simp only[ntmps32,o6,n6,b0z,Nat.reduceAdd,Nat.reduceSub,b1n,b1o,b12,b1s,b0y,b0u];go_upto_region 3 with fail;have HG4:=q_ (ayx.mk4 w (.int .i64 2) (.func (.func 33) #[] #[.pointer (some ⟨cb,0,none⟩)]) (.slice none 0 0) (.int .i64 0) 3 107 75 3);have hz4:((((w.alloc (.cells #[.int .i64 2] 3)).alloc (.cells #[.func (.func 33) #[] #[.pointer (some ⟨cb,0,none⟩)]] 107)).alloc (.cells #[.slice none 0 0] 75)).alloc (.cells #[.int .i64 0] 3)).1.size=w.1.size+4:=by simp
 generalize ((((w.alloc (.cells #[.int .i64 2] 3)).alloc (.cells #[.func (.func 33) #[] #[.pointer (some ⟨cb,0,none⟩)]] 107)).alloc (.cells #[.slice none 0 0] 75)).alloc (.cells #[.int .i64 0] 3))=W4 at *;generalize hn:w.1.size=n at *;have HN:=q_ hn;clear hn;go_wp2_with fail;refine(amz A b.length c W4).mono ?_;rintro e Wg ⟨rfl,hWg⟩;have hg5:=qg W4 #[.slice A b.length c] 22;rw[<- hWg]at hg5;have HG5:=q_ (HG4.o.grew hg5);have HBX:=q_ (Blk.newL hg5 rfl);have hz5:Wg.1.size=n+5:=by have:=hg5.sz;omega
 have HZ5:=q_ hz5;rw[hz4]at HBX ⊢;clear HG4 hWg hg5 hz4 hz5;go_wp2_with fail;have hcb:cb<n:=by have:=HT.o.1.1.lt;have:=HN.o;omega
 have HCB:=q_ hcb;clear hcb;refine(b46 (n:=8)).1 ?_
 refine adf (m:=8) (bx:=n+4) rfl (N:=λk=>k<Wg.1.size/\k≠cb/\k≠n+1+1/\k≠n+1+1+1) (A:=A) (c:=c) (b:=b) (HBX.o.cell 0 rfl) ⟨HBX.o.lt,by have:=HCB.o;omega,by omega,by omega⟩ (λk q=>q.1)
  ((HF.o.keep λk q=>HG5.o.bel.block k (by rw[HN.o];exact q.1)).less λk q=>⟨by have:=HZ5.o;omega,q.2,by omega,by omega⟩) HBC.o.1 HBC.o.2 rfl (a9q Wg cb (n+1+1) (n+1+1+1) T) (λpre a V h=>⟨λk q=>h.kept.block k q,h.kept.size⟩)
  (λpre a V V' h hk=>h.same (by have:=HCB.o;have:=HZ5.o;omega) (by have:=HZ5.o;omega) (by have:=HZ5.o;omega) hk)
  ⟨⟨_,HG5.o.o2,xt.nil _ _⟩,HG5.o.e3,⟨HT.o.1.1.below HG5.o.bel (by rw[HN.o];exact HCB.o),HT.o.1.2⟩,qi.refl _ _⟩
  (λT0 u d=>(T0.setIfInBounds 13 u).setIfInBounds 10 (.pointer (some ⟨d,0,none⟩))) ?assign ?body ?done
 case assign=>
  intro l x V K hs1 hs2 hK;have HK:=q_ hK;clear hK;refine adq (r:=some l) (λ⟨_,_,h⟩=>h) sm ?_;simp only[b5b,b4z,b40,b41,b2l,List.foldl_nil,b1c,b18,b15];go_wp2_with ((refine qc rfl 106 rfl a3w (HZS _).o ?_;intro V1 hW;have HV1:=q_ (Blk.new hW);have HB1:=q_ (o3 hW.bel hW.sz);clear hW;refine qe rfl 106 _ _ rfl V.1.size 0 x rfl rfl (HV1.o.there 0 x.size (by rw[hs1,b0h,acw];decide)) (by rw[hs1];kernel_rfl) hs2 ?_;intro V2 hs;have HV2:=q_ (HV1.o.all hs (by rw[b0h,b0h,hs1,acw]));have HB2:Q_ (Below V.1.size V V2/\V2.1.size=V.1.size+1):=q_ ⟨HB1.o.1.trans (hs.below (a8 _)),hs.sz.trans HB1.o.2⟩))
  try go_frame
  exact HK.o V2 HV2.o HB2.o.1 HB2.o.2
 case body=>
  rintro l pre a0 at_ r C V0 W2 d rfl hzz hi hst hk hit hblk hd hz;simp only[b1c,b15,b18];have hZ:=HZ5.o;have hCB:=HCB.o;have hz0:=hi.kept.size;have hi2:=hi.same om om om hk;obtain⟨u,hu,hits⟩:=hi.its;have hu2:Blk W2 (n+1+1) [u]:=hu.kept (hk.block _ om) hk.size;have hits2:xt (Wg.1.size+2) u (q6 pre) W2:=hits.kept (λk q1 q2=>hk.block k om) hk.size;have HOW:Q_ (∀k,u.ownBlock=some k->Wg.1.size+2<=k/\k<V0.1.size):=q_ λk q=>hits.own q
  have HST:=q_ hst;have HI2:=q_ hi2;have HIT:=q_ hit;have HBK:=q_ hblk;have HRW:=q_ hits2;have HU2:=q_ hu2;have HSZ:Q_ (True/\V0.1.size<=d/\W2.1.size=d+1/\Wg.1.size+2<=V0.1.size):=q_ ⟨trivial,hd,hz,hzz⟩;have HVK:=q_ (λq=>aly r q);have HLV:Q_ (pre.length<=b.length):=q_ (by have h1:=congrArg (λp=>p.1.length) hst.sc;have h2:=aa8 b;simp only[e9]at h1;omega);have c124:=hblk.cell 124 (a7v hit.len at_);have c0:W2.cell? ⟨d,0,none⟩=some (.int .i64 (zg r).d):=hblk.cell 0 rfl;have ec:=hi2.en.cell 0 rfl;have ef:=hi2.en.fz 0;have dc:W2.cell? ⟨n,0,none⟩=some (.int .i64 2):=(t7 (a:=⟨n,0,none⟩) (hi2.kept.block n om)).trans (HG5.o.d0.cell 0 rfl);have oc:W2.cell? ⟨n+1,0,none⟩=some (.func (.func 33) #[] #[.pointer (some ⟨cb,0,none⟩)]):=(t7 (a:=⟨n+1,0,none⟩) (hi2.kept.block (n+1) om)).trans (HG5.o.o1.cell 0 rfl)
  have hne:d≠n+1+1+1:=by omega
  clear hi hst hk hit hblk hz0 hi2 hu hits hu2 hits2 hZ hCB;generalize zg r=v at *
  by_cases h2:v.d=2
  ·rw[h2]at c0
   gi_wp2_with fail
   have HIL:=q_ HIT.o.len;have HVS:=q_ (alm (v:=v) HIL.o at_);have HTL:=q_ (λw4 hc4 hk4=>ba5 (w4:=w4) (at_:=at_) HZ5.o HCB.o HI2.o HU2.o HRW.o HOW.o HSZ.o.2.2.2 HSZ.o.2.1 HSZ.o.2.2.1 HIT.o h2 (by have h1:=a5y pre;have:=HLV.o;omega) hc4 hk4);obtain⟨he3,hs3⟩:=HI2.o.en.set (o:=0) sm (.int .i64 (at_:Int));have HP1:=q_ (a6g (W:=(W2.setCell ⟨n+1+1+1,0,none⟩ (.int .i64 (at_:Int))).drew) (cb:=cb) (T:=abc T pre) (C:=C) (v:=v) (at_:=at_) ⟨(HI2.o.cnt.1.kept (hs3.far cb (by have:=HCB.o;omega)) (b1e hs3.sz.symm)).drew,HI2.o.cnt.2⟩ (HIT.o.keep λk q=>hs3.far k (by have:=HSZ.o;have:=HZ5.o;omega)) (by have:=HVK.o om;have h1:=this.1;have h3:=this.2;omega) h2 (λk=>by have:=aoq pre HT.o.2 k;have:=HLV.o;have:=HBC.o.1;omega));have uX:(W2.setCell ⟨n+1+1+1,0,none⟩ (.int .i64 (at_:Int))).drew.cell? ⟨n+1+1,0,none⟩=some u:=(t7 (a:=⟨n+1+1,0,none⟩) (hs3.far (n+1+1) om)).trans (HU2.o.cell 0 rfl)
   have HS0:Q_ (ag4 n d W2 (W2.setCell ⟨n+1+1+1,0,none⟩ (.int .i64 (at_:Int))).drew):=q_ ⟨hs3.far (n+1) om,hs3.far d hne⟩;have HOC:=q_ oc;clear he3 hs3 c124 c0 ec ef dc oc HI2 HRW HU2 HST;generalize (W2.setCell ⟨n+1+1+1,0,none⟩ (.int .i64 (at_:Int)))=W3 at *;refine al0 (r:=some (Wg.1.size+1)) (S:=ag4 n d W2) (λ⟨_,_,h⟩=>h) sm kr HS0.o (λhHeld=>?_);refine tkQ (i:=1) (oi:=⟨some 22,_,_,_,_,_⟩) (v:=?_) rfl (Or.inl ⟨by rfl,?_⟩) ?_;rotate_left
   ·intro w' hSw;have oc:=(t7 (a:=⟨n+1,0,none⟩) hSw.1).trans HOC.o;go_simp
    try with_reducible rfl
   try go_frame
   refine tkQ (i:=2) (oi:=⟨some 23,_,_,_,_,_⟩) (v:=_) rfl (o4 (by rfl) 106 _ rfl d 0 rfl (stA v C at_).toList _ (λw' hSw=>aa6 HBK.o.rg hSw.2) underlying106 rfl (by rw[b0h,HVS.o];kernel_rfl)) ?_;go_frame;refine b1a (rs:=[0,3]) kr sm ?_;refine b0i (o:=⟨some 21,_,_,_,_,_⟩) rfl (λK0 hK0=>?_) (b0i (o:=⟨some 24,_,_,_,_,_⟩) rfl (λK3 hK3=>?_) b01)
   ·rw[if_pos (by rfl)];go_step
    try go_frame
    refine hK0.out _ _ (HS0.o) (λ_=>?_);clear hK0 K0
    try go_frame
    refine rdB 3 24 rfl λK3a hK3a=>?_
    go_step;refine HP1.o.mono ?_;rintro e w4 ⟨rfl,hc4,hk4⟩;obtain⟨A8,n8,c8,W8,hrun,hb4,hb5,hb8,hfin,hs4,hs5,hs8,hs9⟩:=HTL.o w4 hc4 hk4;have HRUN:=q_ hrun;have HFIN:=q_ hfin;have HS4:=q_ hs4;have HS5:=q_ hs5;have HS8:=q_ hs8;have HS9:=q_ hs9;have u4:=hb4.cell 0 rfl;have u5:=hb5.cell 0 rfl;have u8:=hb8.cell 0 rfl;have f8:=hb8.fz 0;have HSL:=q_ (ajw HIL.o w4);clear hc4 hk4 hrun hfin hs4 hs5 hs8 hs9 hb4 hb5 hb8
    try go_frame
    refine hK3a.out _ _ (HS4.o) (λ_=>?_);clear hK3a K3a
    try go_frame
    refine rdB 4 25 rfl λK4ac hK4ac=>?_
    refine af3 (v:=.slice (some ⟨w4.1.size,0,none⟩) 1 1) (W:=w4.alloc (.cells C.toArray 64)) (adu (u:=.agg C.toArray) rfl rfl HSL.o) ?_
    try go_frame
    refine hK4ac.out _ _ (HS5.o) (λ_=>?_);clear hK4ac K4ac
    try go_frame
    refine rdB 5 26 rfl λK5acc hK5acc=>?_
    refine j7 _ _ 75 rfl _ _ _ rfl rfl HRUN.o ?_
    try go_frame
    refine hK5acc.out _ _ (HS8.o) (λ_=>?_);clear hK5acc K5acc
    try go_frame
    refine b1a (rs:=[6]) kr sm ?_;refine b0i (o:=⟨none,_,_,_,_,_⟩) rfl (λK6accc hK6accc=>?_) b01;rw[if_pos (by rfl)];go_step
    try go_frame
    refine hK6accc.out _ _ (HS9.o) (λ_=>?_);clear hK6accc K6accc
    try go_frame
    refine b0m kr ?_ _
    try go_frame
    go_wp2_with fail;exact HFIN.o
   ·rw[if_pos (by rfl)];go_step;refine HP1.o.mono ?_;rintro e w4 ⟨rfl,hc4,hk4⟩;obtain⟨A8,n8,c8,W8,hrun,hb4,hb5,hb8,hfin,hs4,hs5,hs8,hs9⟩:=HTL.o w4 hc4 hk4;have HRUN:=q_ hrun;have HFIN:=q_ hfin;have HS4:=q_ hs4;have HS5:=q_ hs5;have HS8:=q_ hs8;have HS9:=q_ hs9;have u4:=hb4.cell 0 rfl;have u5:=hb5.cell 0 rfl;have u8:=hb8.cell 0 rfl;have f8:=hb8.fz 0;have HSL:=q_ (ajw HIL.o w4);clear hc4 hk4 hrun hfin hs4 hs5 hs8 hs9 hb4 hb5 hb8
    try go_frame
    refine hK3.out _ _ (HS4.o) (λ_=>?_);clear hK3 K3
    try go_frame
    refine b1a (rs:=[0,4]) kr sm ?_;refine b0i (o:=⟨some 21,_,_,_,_,_⟩) rfl (λK0b hK0b=>?_) (b0i (o:=⟨some 25,_,_,_,_,_⟩) rfl (λK4b hK4b=>?_) b01)
    ·rw[if_pos (by rfl)];go_step
     try go_frame
     refine hK0b.out _ _ (HS4.o) (λ_=>?_);clear hK0b K0b
     try go_frame
     refine rdB 4 25 rfl λK4ba hK4ba=>?_
     refine af3 (v:=.slice (some ⟨w4.1.size,0,none⟩) 1 1) (W:=w4.alloc (.cells C.toArray 64)) (adu (u:=.agg C.toArray) rfl rfl HSL.o) ?_
     try go_frame
     refine hK4ba.out _ _ (HS5.o) (λ_=>?_);clear hK4ba K4ba
     try go_frame
     refine rdB 5 26 rfl λK5bac hK5bac=>?_
     refine j7 _ _ 75 rfl _ _ _ rfl rfl HRUN.o ?_
     try go_frame
     refine hK5bac.out _ _ (HS8.o) (λ_=>?_);clear hK5bac K5bac
     try go_frame
     refine b1a (rs:=[6]) kr sm ?_;refine b0i (o:=⟨none,_,_,_,_,_⟩) rfl (λK6bacc hK6bacc=>?_) b01;rw[if_pos (by rfl)];go_step
     try go_frame
     refine hK6bacc.out _ _ (HS9.o) (λ_=>?_);clear hK6bacc K6bacc
     try go_frame
     refine b0m kr ?_ _
     try go_frame
     go_wp2_with fail;exact HFIN.o
    ·rw[if_pos (by rfl)];refine af3 (v:=.slice (some ⟨w4.1.size,0,none⟩) 1 1) (W:=w4.alloc (.cells C.toArray 64)) (adu (u:=.agg C.toArray) rfl rfl HSL.o) ?_
     try go_frame
     refine hK4b.out _ _ (HS5.o) (λ_=>?_);clear hK4b K4b
     try go_frame
     refine rdB 0 21 rfl λK0bb hK0bb=>?_
     go_step
     try go_frame
     refine hK0bb.out _ _ (HS5.o) (λ_=>?_);clear hK0bb K0bb
     try go_frame
     refine rdB 5 26 rfl λK5bbc hK5bbc=>?_
     refine j7 _ _ 75 rfl _ _ _ rfl rfl HRUN.o ?_
     try go_frame
     refine hK5bbc.out _ _ (HS8.o) (λ_=>?_);clear hK5bbc K5bbc
     try go_frame
     refine b1a (rs:=[6]) kr sm ?_;refine b0i (o:=⟨none,_,_,_,_,_⟩) rfl (λK6bbcc hK6bbcc=>?_) b01;rw[if_pos (by rfl)];go_step
     try go_frame
     refine hK6bbcc.out _ _ (HS9.o) (λ_=>?_);clear hK6bbcc K6bbcc
     try go_frame
     refine b0m kr ?_ _
     try go_frame
     go_wp2_with fail;exact HFIN.o
  ·have h2':(v.d==2)=false:=by rw[l7];exact h2
   gi_wp2_with fail
   obtain⟨he3,hs3⟩:=HI2.o.en.set (o:=0) sm (.int .i64 (at_:Int));refine⟨⟨⟨u,HU2.o.kept (hs3.far (n+1+1) om) (b1e hs3.sz.symm),?_⟩,he3,?_,?_⟩,λk q=>hs3.far k ?_⟩
   ·rw[ad8,if_neg h2];exact HRW.o.kept (λk q1 q2=>hs3.far k (by have:=HZ5.o;omega)) (b1e hs3.sz.symm)
   ·rw[ap7,if_neg h2];exact HI2.o.cnt.kept (hs3.far cb (by have:=HCB.o;omega)) (b1e hs3.sz.symm)
   ·exact HI2.o.kept.trans ⟨hs3.os,hs3.tape,hs3.output,b1e hs3.sz.symm,λk q=>hs3.far k q.2.2.2⟩
   ·have:=HZ5.o;have:=HSZ.o;omega
 case done=>
  rintro D W rfl hi hK;have hr0:=(adz b).1;have e1:q6 ((qp b).1++[zg (qp b).2])=q6 (qp b).1:=by rw[ad8,if_neg om]
  have e2:abc T ((qp b).1++[zg (qp b).2])=abc T (qp b).1:=by rw[ap7,if_neg om]
  obtain⟨u,hu,hits⟩:=hi.its;obtain⟨A8,c8,rfl,-⟩:=hits.slice;have hcnt:=hi.cnt;rw[e1]at hits hu;rw[e2]at hcnt;have uc:=hu.cell 0 rfl;have ec:=hi.en.cell 0 rfl;have HK:=q_ hK;have HC:=q_ hcnt;have HR:=q_ hits;have HKP:=q_ hi.kept;clear hi hK hu hits hcnt hr0 e1 e2 HZS;generalize hen:b.length-(qp b).2.length=en at *;have HEN:=q_ hen;clear hen;go_wp2_with fail
  go_region
  clear uc ec;go_wp2_with fail;have hkd:W.drew.heap[Wg.1.size]?=some (.deferred (some [])):=HK.o;refine⟨by simp,.inl ⟨_,_,rfl,run_takeDeferred hkd,?_⟩⟩;have hlt:=(o8.1 hkd).1;have hput:∀k,k≠Wg.1.size ->(W.drew.putObj Wg.1.size (.deferred none)).heap[k]?=W.heap[k]?:=λk q=>World.putObj_heap_other q
  have hpz:W.1.size <=(W.drew.putObj Wg.1.size (.deferred none)).1.size:=by simp[World.putObj]
  have hZ:=HZ5.o;have hN:=HN.o;refine⟨_,results_tmp2 rfl _ _ _,_,by rw[HEN.o];rfl,(HR.o.kept (λk q _=>hput k om) hpz).lower om,HC.o.kept (hput cb (by have:=HCB.o;omega)) hpz,?_⟩;have h1:qi (λj=>j<w.1.size/\j≠cb) w Wg:=qi.of_below HG5.o.bel λj q=>q.1
  exact(h1.trans (HKP.o.less λj q=>⟨by omega,q.2,by omega,by omega⟩)).trans ⟨rfl,rfl,rfl,hpz,λk q=>hput k om⟩
open Go.RowKit Go.Shelf
attribute [local go_sem] Oper.semAt_some
def vk (V:List VeD):List Int:=(V.filter λv=>decide (v.d=1)).map (·.p)
theorem amg (V:List VeD) (v:VeD):vk (V++[v])=if v.d=1 then vk V++[v.p]else vk V:=by
 unfold vk
 by_cases h:v.d=1<;>simp[h]
theorem az0 (V:List VeD):(vk V).length<=V.length:=by
 unfold vk;rw[b0o];exact b2u _ _
theorem qi.belowM {S:Nat->Prop} {B:Nat} {w w':World} (h:qi S w w') (hS:∀j,j<B->S j) (hB:B<=w.1.size):Below B w w':=⟨h.os,h.tape,h.output,h.size,λk q=>h.block k (hS k q)⟩
structure a9r (Wg:World) (ob eb:Nat) (pre:List VeD) (a:Nat) (W:World):Prop where
 its:∃u,Blk W ob [u]/\W.ownsRow (Wg.1.size+2) 3 1 u (vk pre).length ((vk pre).map (Value.int .i64))
 en:Blk W eb [.int .i64 (a:Int)]
 kept:qi (λj=>j<Wg.1.size/\j≠ob/\j≠eb) Wg W
theorem a9r.same {Wg:World} {ob eb:Nat} {pre:List VeD} {a:Nat} {W W':World} (h:a9r Wg ob eb pre a W) (ho:ob<Wg.1.size) (he:eb<Wg.1.size) (hk:qi (λk=>k<W.1.size/\k≠Wg.1.size/\k≠Wg.1.size+1) W W'):a9r Wg ob eb pre a W':=by
 have hz:=h.kept.size;obtain⟨u,h1,h2⟩:=h.its;have kb:∀k,k<Wg.1.size->W'.heap[k]?=W.heap[k]?:=λk q=>hk.block k om
 exact⟨⟨u,h1.kept (kb _ ho) hk.size,ac5 h2 (λk q1 q2=>hk.block k om)⟩,h.en.kept (kb _ he) hk.size,h.kept.trans (hk.less λj q=>by omega)⟩
theorem a6h (W:World) {C:List Value} {v:VeD} {at_:Nat} (hl:C.length=120) (ho:∀u∈C,u.oneCell'=true):Calls prog 35 #[.agg (stA v C at_)] W λe w'=>e=.returned (.int .i64 v.p)/\Below W.1.size W w':=by
 have HC:∀W1,Blk W1 W.1.size (stA v C at_).toList->Q_ (W1.cell? ⟨W.1.size,1,none⟩=some (.int .i64 v.p)):=λW1 h=>q_ (h.cell 1 rfl)
 go_enter func35,ntmps35;go_upto_region 1 with(refine qr rfl _ _ rfl (stA v C at_) rfl ?_;intro W1 hW;have h1:=(HC W1 (Blk.newL hW rfl)).o;have HB1:=q_ hW.bel;clear hW)
 go_wp2_with fail;go_ret;exact⟨rfl,HB1.o⟩
theorem atp (p:Int) (w:World):(Instr.buildSlice 108 1 #[(0,.int .i64 p)]).run prog w=.ok (.slice (some ⟨w.1.size,0,none⟩) 1 1) (w.alloc (.cells #[.int .i64 p] 3)):=by kernel_rfl
theorem bbj:(prog.info? 3).map (λi=>(i.zero,i.size,i.bytes))=some (some (.int .i64 0),1,8):=by kernel_rfl
theorem bfj:∃i z,prog.info? 3=some i/\i.zero=some z/\i.size=1/\i.bytes=8/\z.cells.size=1:=by
 have h:=bbj;cases hi:prog.info? 3 with
 | none=>rw[hi]at h;cases h
 | some i=>
  rw[hi,b26,b2e,b35,b35]at h;exact⟨i,_,rfl,h.1,h.2.1,h.2.2,rfl⟩
theorem ba6 {Wg V0 W2 w4:World} {n d:Nat} {pre:List VeD} {a0 at_:Nat} {u:Value} {v:VeD} (hz:Wg.1.size=n+5) (hi:a9r Wg (n+1+1) (n+1+1+1) pre a0 W2) (hu:Blk W2 (n+1+1) [u]) (hrow:W2.ownsRow (Wg.1.size+2) 3 1 u (vk pre).length ((vk pre).map (Value.int .i64)))
 (hown:∀k,u.ownBlock=some k->Wg.1.size+2<=k/\k<V0.1.size) (hz0:Wg.1.size+2<=V0.1.size) (hd:V0.1.size<=d) (hz2:W2.1.size=d+1) (h2:v.d=1) (hn:(vk pre).length+1<=20000000)
 (hb4:Below (W2.setCell ⟨n+1+1+1,0,none⟩ (.int .i64 (at_:Int))).drew.1.size (W2.setCell ⟨n+1+1+1,0,none⟩ (.int .i64 (at_:Int))).drew w4) :
 ∃A8 n8 c8 W8,(Builtin.append_ #[108,108] 108 #[u,.slice (some ⟨w4.1.size,0,none⟩) 1 1]).run prog (w4.alloc (.cells #[.int .i64 v.p] 3))=.ok (.slice A8 n8 c8) W8 /\
  Blk w4 (n+1+1) [u]/\Blk (w4.alloc (.cells #[.int .i64 v.p] 3)) (n+1+1) [u]/\Blk W8 (n+1+1) [u] /\
  (a9r Wg (n+1+1) (n+1+1+1) (pre++[v]) at_ (W8.setCell ⟨n+1+1,0,none⟩ (.slice A8 n8 c8))/\∀k,(k=Wg.1.size\/k=Wg.1.size+1\/V0.1.size<=k/\k<d) ->(W8.setCell ⟨n+1+1,0,none⟩ (.slice A8 n8 c8)).heap[k]?=W2.heap[k]?) /\
  ag4 n d W2 w4/\ag4 n d W2 (w4.alloc (.cells #[.int .i64 v.p] 3))/\ag4 n d W2 W8/\ag4 n d W2 (W8.setCell ⟨n+1+1,0,none⟩ (.slice A8 n8 c8)):=by
 obtain⟨he3,hs3⟩:=hi.en.set (o:=0) sm (.int .i64 (at_:Int));generalize hW3:W2.setCell ⟨n+1+1+1,0,none⟩ (.int .i64 (at_:Int))=W3 at *;have hz3:W3.drew.1.size=d+1:=by show W3.1.size=_;rw[hs3.sz];exact hz2
 have k4:∀k,k<d+1->k≠n+1+1+1->w4.heap[k]?=W2.heap[k]?:=λk q1 q3=>(hb4.block k om).trans (hs3.far k q3)
 have hz4:d+1<=w4.1.size:=by have:=hb4.size;omega
 have he4:Blk w4 (n+1+1+1) [.int .i64 (at_:Int)]:=he3.kept (hb4.block _ om) hb4.size;have hu4:Blk w4 (n+1+1) [u]:=hu.kept (k4 _ om om) om;have hr4:=ac5 (w':=w4) hrow (λk q1 q2=>k4 k om om);have hba:=qa w4 (.cells #[.int .i64 v.p] 3);have hz5:(w4.alloc (.cells #[.int .i64 v.p] 3)).1.size=w4.1.size+1:=by simp
 have hblk:Blk (w4.alloc (.cells #[.int .i64 v.p] 3)) w4.1.size [.int .i64 v.p]:=Blk.newL (qg w4 _ _) rfl;obtain⟨i0,z0,i1,i2,i3,i4,i5⟩:=bfj;obtain⟨v8,W8,hrun,hr8,hb8,-⟩:=j6 (P:=prog) (w4.alloc (.cells #[.int .i64 v.p] 3)) 108 108 3 i0 z0 1 8 underlying108 i1 i2 i3 i4 i5 dc (Wg.1.size+2) u (vk pre).length _ (ac5 hr4 λk _ r=>hba.block k r) (some ⟨w4.1.size,0,none⟩) 1 1 [.int .i64 v.p] rfl (hblk.flat (Q:=λ_=>True) trivial) (λx hx=>by rw[b2v.1 hx];rfl) (by unfold maxLen;omega) om om;obtain⟨A8,c8,rfl,-⟩:=zt hr8;have ou:∀k,k<Wg.1.size+2\/V0.1.size<=k->some k≠u.ownBlock:=λk q r=>by have:=hown k r.symm;omega
 have k8:∀k,k<d+1 ->(k<Wg.1.size+2\/V0.1.size<=k)->W8.heap[k]?=w4.heap[k]?:=λk q1 q2=>(hb8.block k om (ou k q2)).trans (hba.block k om)
 have hz8:=hb8.size;have hu8:Blk W8 (n+1+1) [u]:=hu4.kept (k8 _ om om) om;obtain⟨hu9,hs9⟩:=hu8.set (o:=0) sm (.slice A8 ((vk pre).length+1) c8);refine⟨A8,_,c8,W8,hrun,hu4,hu4.on hba,hu8,⟨⟨⟨_,hu9,?_⟩,?_,?_⟩,?_⟩,?_,?_,?_,?_⟩
 ·rw[amg,if_pos h2,b17,e9];exact ac5 hr8 (λk q1 q2=>hs9.far k om)
 ·exact he4.kept ((hs9.far _ om).trans (k8 _ om om)) (by have:=hs9.sz;omega)
 ·have h1:qi (λj=>j<Wg.1.size/\j≠n+1+1/\j≠n+1+1+1) W2 W3:=⟨hs3.os,hs3.tape,hs3.output,b1e hs3.sz.symm,λk q=>hs3.far k q.2.2⟩;have h2:qi (λj=>j<Wg.1.size/\j≠n+1+1/\j≠n+1+1+1) W3 w4:=⟨hb4.os,hb4.tape,hb4.output,hb4.size,λk q=>hb4.block k om⟩;have h3:qi (λj=>j<Wg.1.size/\j≠n+1+1/\j≠n+1+1+1) w4 W8:=(qi.of_below hba λj q=>by omega).trans ⟨hb8.os,hb8.tape,hb8.output,hb8.size,λk q=>hb8.block k om (ou k om)⟩;exact(((hi.kept.trans h1).trans h2).trans h3).trans ⟨hs9.os,hs9.tape,hs9.output,b1e hs9.sz.symm,λk q=>hs9.far k q.2.1⟩
 ·intro k q;exact(hs9.far k om).trans ((k8 k om om).trans (k4 k om om))
 ·exact⟨k4 _ om om,k4 _ om om⟩
 ·exact⟨(hba.block _ om).trans (k4 _ om om),(hba.block _ om).trans (k4 _ om om)⟩
 ·exact⟨(k8 _ om om).trans (k4 _ om om),(k8 _ om om).trans (k4 _ om om)⟩
 ·exact⟨(hs9.far _ om).trans ((k8 _ om om).trans (k4 _ om om)),(hs9.far _ om).trans ((k8 _ om om).trans (k4 _ om om))⟩
set_option maxRecDepth 100000 in
theorem a0h {w:World} {A:Option Addr} {c:Nat} {b:List UInt8} (hf:qf (λk=>k<w.1.size) w A (bsV b)) (hb:b.length<=1100000) (hc:b.length<=c) :
 Calls prog 34 #[.slice A b.length c,.int .i64 1,.func (.func 35) #[] #[]] w λe w'=>∃v,e=.returned (.tuple #[v,.int .i64 ((b.length-(qp b).2.length:Nat):Int)])/\w'.ownsRow w.1.size 3 1 v (vk (qp b).1).length ((vk (qp b).1).map (Value.int .i64))/\Below w.1.size w w':=by
 have HF:=q_ hf;have HBC:=q_ (o3 hb hc);have HZS:=λW=>q_ (ao3 W)
 clear hf;refine jw func34 rfl ?_;simp only[ntmps34,o6,n6,b0z,Nat.reduceAdd,Nat.reduceSub,b1n,b1o,b12,b1s,b0y,b0u];go_upto_region 3 with fail;have HG4:=q_ (ayx.mk4 w (.int .i64 1) (.func (.func 35) #[] #[]) (.slice none 0 0) (.int .i64 0) 3 111 108 3);have hz4:((((w.alloc (.cells #[.int .i64 1] 3)).alloc (.cells #[.func (.func 35) #[] #[]] 111)).alloc (.cells #[.slice none 0 0] 108)).alloc (.cells #[.int .i64 0] 3)).1.size=w.1.size+4:=by simp
 generalize ((((w.alloc (.cells #[.int .i64 1] 3)).alloc (.cells #[.func (.func 35) #[] #[]] 111)).alloc (.cells #[.slice none 0 0] 108)).alloc (.cells #[.int .i64 0] 3))=W4 at *;generalize hn:w.1.size=n at *;have HN:=q_ hn;clear hn;go_wp2_with fail;refine(amz A b.length c W4).mono ?_;rintro e Wg ⟨rfl,hWg⟩;have hg5:=qg W4 #[.slice A b.length c] 22;rw[<- hWg]at hg5;have HG5:=q_ (HG4.o.grew hg5);have HBX:=q_ (Blk.newL hg5 rfl);have hz5:Wg.1.size=n+5:=by have:=hg5.sz;omega
 have HZ5:=q_ hz5;rw[hz4]at HBX ⊢;clear HG4 hWg hg5 hz4 hz5;go_wp2_with fail;refine(b46 (n:=8)).1 ?_
 refine adf (m:=8) (bx:=n+4) rfl (N:=λk=>k<Wg.1.size/\k≠n+1+1/\k≠n+1+1+1) (A:=A) (c:=c) (b:=b) (HBX.o.cell 0 rfl) ⟨HBX.o.lt,by omega,by omega⟩ (λk q=>q.1)
  ((HF.o.keep λk q=>HG5.o.bel.block k (by rw[HN.o];exact q)).less λk q=>⟨by have:=HZ5.o;omega,by omega,by omega⟩) HBC.o.1 HBC.o.2 rfl (a9r Wg (n+1+1) (n+1+1+1)) (λpre a V h=>⟨λk q=>h.kept.block k q,h.kept.size⟩)
  (λpre a V V' h hk=>h.same (by have:=HZ5.o;omega) (by have:=HZ5.o;omega) hk)
  ⟨⟨_,HG5.o.o2,b2p _ _ _ _⟩,HG5.o.e3,qi.refl _ _⟩
  (λT0 u d=>(T0.setIfInBounds 13 u).setIfInBounds 10 (.pointer (some ⟨d,0,none⟩))) ?assign ?body ?done
 case assign=>
  intro l x V K hs1 hs2 hK;have HK:=q_ hK;clear hK;refine adq (r:=some l) (λ⟨_,_,h⟩=>h) sm ?_;simp only[b5b,b4z,b40,b41,b2l,List.foldl_nil,b1c,b18,b15];go_wp2_with ((refine qc rfl 106 rfl a3w (HZS _).o ?_;intro V1 hW;have HV1:=q_ (Blk.new hW);have HB1:=q_ (o3 hW.bel hW.sz);clear hW;refine qe rfl 106 _ _ rfl V.1.size 0 x rfl rfl (HV1.o.there 0 x.size (by rw[hs1,b0h,acw];decide)) (by rw[hs1];kernel_rfl) hs2 ?_;intro V2 hs;have HV2:=q_ (HV1.o.all hs (by rw[b0h,b0h,hs1,acw]));have HB2:Q_ (Below V.1.size V V2/\V2.1.size=V.1.size+1):=q_ ⟨HB1.o.1.trans (hs.below (a8 _)),hs.sz.trans HB1.o.2⟩))
  try go_frame
  exact HK.o V2 HV2.o HB2.o.1 HB2.o.2
 case body=>
  rintro l pre a0 at_ r C V0 W2 d rfl hzz hi hst hk hit hblk hd hz;simp only[b1c,b15,b18];have hZ:=HZ5.o;have hz0:=hi.kept.size;have hi2:=hi.same om om hk;obtain⟨u,hu,hits⟩:=hi.its;have hu2:Blk W2 (n+1+1) [u]:=hu.kept (hk.block _ om) hk.size;have hits2:W2.ownsRow (Wg.1.size+2) 3 1 u (vk pre).length ((vk pre).map (Value.int .i64)):=ac5 hits (λk q1 q2=>hk.block k om);have HOW:Q_ (∀k,u.ownBlock=some k->Wg.1.size+2<=k/\k<V0.1.size):=q_ λk q=>a6e hits q
  have HST:=q_ hst;have HI2:=q_ hi2;have HIT:=q_ hit;have HBK:=q_ hblk;have HRW:=q_ hits2;have HU2:=q_ hu2;have HSZ:Q_ (True/\V0.1.size<=d/\W2.1.size=d+1/\Wg.1.size+2<=V0.1.size):=q_ ⟨trivial,hd,hz,hzz⟩;have HVK:=q_ (λq=>aly r q);have HLV:Q_ (pre.length<=b.length):=q_ (by have h1:=congrArg (λp=>p.1.length) hst.sc;have h2:=aa8 b;simp only[e9]at h1;omega);have c124:=hblk.cell 124 (a7v hit.len at_);have c0:W2.cell? ⟨d,0,none⟩=some (.int .i64 (zg r).d):=hblk.cell 0 rfl;have ec:=hi2.en.cell 0 rfl;have ef:=hi2.en.fz 0;have dc:W2.cell? ⟨n,0,none⟩=some (.int .i64 1):=(t7 (a:=⟨n,0,none⟩) (hi2.kept.block n om)).trans (HG5.o.d0.cell 0 rfl);have oc:W2.cell? ⟨n+1,0,none⟩=some (.func (.func 35) #[] #[]):=(t7 (a:=⟨n+1,0,none⟩) (hi2.kept.block (n+1) om)).trans (HG5.o.o1.cell 0 rfl);have hne:d≠n+1+1+1:=by omega
  clear hi hst hk hit hblk hz0 hi2 hu hits hu2 hits2 hZ;generalize zg r=v at *
  by_cases h2:v.d=1
  ·rw[h2]at c0
   gi_wp2_with fail
   have HIL:=q_ HIT.o.len;have HVS:=q_ (alm (v:=v) HIL.o at_);have HTL:=q_ (λw4 hb4=>ba6 (w4:=w4) (at_:=at_) HZ5.o HI2.o HU2.o HRW.o HOW.o HSZ.o.2.2.2 HSZ.o.2.1 HSZ.o.2.2.1 h2 (by have h1:=az0 pre;have:=HLV.o;omega) hb4);obtain⟨he3,hs3⟩:=HI2.o.en.set (o:=0) sm (.int .i64 (at_:Int));have HP1:=q_ (a6h (W2.setCell ⟨n+1+1+1,0,none⟩ (.int .i64 (at_:Int))).drew (v:=v) (at_:=at_) HIL.o HIT.o.ones);have uX:(W2.setCell ⟨n+1+1+1,0,none⟩ (.int .i64 (at_:Int))).drew.cell? ⟨n+1+1,0,none⟩=some u:=(t7 (a:=⟨n+1+1,0,none⟩) (hs3.far (n+1+1) om)).trans (HU2.o.cell 0 rfl);have HS0:Q_ (ag4 n d W2 (W2.setCell ⟨n+1+1+1,0,none⟩ (.int .i64 (at_:Int))).drew):=q_ ⟨hs3.far (n+1) om,hs3.far d hne⟩;have HOC:=q_ oc;clear he3 hs3 c124 c0 ec ef dc oc HI2 HRW HU2 HST;generalize (W2.setCell ⟨n+1+1+1,0,none⟩ (.int .i64 (at_:Int)))=W3 at *
   refine al0 (r:=some (Wg.1.size+1)) (S:=ag4 n d W2) (λ⟨_,_,h⟩=>h) sm kr HS0.o (λhHeld=>?_);refine tkQ (i:=1) (oi:=⟨some 22,_,_,_,_,_⟩) (v:=?_) rfl (Or.inl ⟨by rfl,?_⟩) ?_;rotate_left
   ·intro w' hSw;have oc:=(t7 (a:=⟨n+1,0,none⟩) hSw.1).trans HOC.o;go_simp
    try with_reducible rfl
   try go_frame
   refine tkQ (i:=2) (oi:=⟨some 23,_,_,_,_,_⟩) (v:=_) rfl (o4 (by rfl) 106 _ rfl d 0 rfl (stA v C at_).toList _ (λw' hSw=>aa6 HBK.o.rg hSw.2) underlying106 rfl (by rw[b0h,HVS.o];kernel_rfl)) ?_;go_frame;refine b1a (rs:=[0,3]) kr sm ?_;refine b0i (o:=⟨some 21,_,_,_,_,_⟩) rfl (λK0 hK0=>?_) (b0i (o:=⟨some 24,_,_,_,_,_⟩) rfl (λK3 hK3=>?_) b01)
   ·rw[if_pos (by rfl)];go_step
    try go_frame
    refine hK0.out _ _ (HS0.o) (λ_=>?_);clear hK0 K0
    try go_frame
    refine rdB 3 24 rfl λK3a hK3a=>?_
    go_step;refine HP1.o.mono ?_;rintro e w4 ⟨rfl,hb4⟩;obtain⟨A8,n8,c8,W8,hrun,hb4,hb5,hb8,hfin,hs4,hs5,hs8,hs9⟩:=HTL.o w4 hb4;have HRUN:=q_ hrun;have HFIN:=q_ hfin;have HS4:=q_ hs4;have HS5:=q_ hs5;have HS8:=q_ hs8;have HS9:=q_ hs9;have u4:=hb4.cell 0 rfl;have u5:=hb5.cell 0 rfl;have u8:=hb8.cell 0 rfl;have f8:=hb8.fz 0;have HSL:=q_ (atp v.p w4);clear hrun hfin hs4 hs5 hs8 hs9 hb4 hb5 hb8
    try go_frame
    refine hK3a.out _ _ (HS4.o) (λ_=>?_);clear hK3a K3a
    try go_frame
    refine rdB 4 25 rfl λK4ac hK4ac=>?_
    refine af3 (v:=.slice (some ⟨w4.1.size,0,none⟩) 1 1) (W:=w4.alloc (.cells #[.int .i64 v.p] 3)) (adu (u:=.int .i64 v.p) rfl rfl HSL.o) ?_
    try go_frame
    refine hK4ac.out _ _ (HS5.o) (λ_=>?_);clear hK4ac K4ac
    try go_frame
    refine rdB 5 26 rfl λK5acc hK5acc=>?_
    refine j7 _ _ 108 rfl _ _ _ rfl rfl HRUN.o ?_
    try go_frame
    refine hK5acc.out _ _ (HS8.o) (λ_=>?_);clear hK5acc K5acc
    try go_frame
    refine b1a (rs:=[6]) kr sm ?_;refine b0i (o:=⟨none,_,_,_,_,_⟩) rfl (λK6accc hK6accc=>?_) b01;rw[if_pos (by rfl)];go_step
    try go_frame
    refine hK6accc.out _ _ (HS9.o) (λ_=>?_);clear hK6accc K6accc
    try go_frame
    refine b0m kr ?_ _
    try go_frame
    go_wp2_with fail;exact HFIN.o
   ·rw[if_pos (by rfl)];go_step;refine HP1.o.mono ?_;rintro e w4 ⟨rfl,hb4⟩;obtain⟨A8,n8,c8,W8,hrun,hb4,hb5,hb8,hfin,hs4,hs5,hs8,hs9⟩:=HTL.o w4 hb4;have HRUN:=q_ hrun;have HFIN:=q_ hfin;have HS4:=q_ hs4;have HS5:=q_ hs5;have HS8:=q_ hs8;have HS9:=q_ hs9;have u4:=hb4.cell 0 rfl;have u5:=hb5.cell 0 rfl;have u8:=hb8.cell 0 rfl;have f8:=hb8.fz 0;have HSL:=q_ (atp v.p w4);clear hrun hfin hs4 hs5 hs8 hs9 hb4 hb5 hb8
    try go_frame
    refine hK3.out _ _ (HS4.o) (λ_=>?_);clear hK3 K3
    try go_frame
    refine b1a (rs:=[0,4]) kr sm ?_;refine b0i (o:=⟨some 21,_,_,_,_,_⟩) rfl (λK0b hK0b=>?_) (b0i (o:=⟨some 25,_,_,_,_,_⟩) rfl (λK4b hK4b=>?_) b01)
    ·rw[if_pos (by rfl)];go_step
     try go_frame
     refine hK0b.out _ _ (HS4.o) (λ_=>?_);clear hK0b K0b
     try go_frame
     refine rdB 4 25 rfl λK4ba hK4ba=>?_
     refine af3 (v:=.slice (some ⟨w4.1.size,0,none⟩) 1 1) (W:=w4.alloc (.cells #[.int .i64 v.p] 3)) (adu (u:=.int .i64 v.p) rfl rfl HSL.o) ?_
     try go_frame
     refine hK4ba.out _ _ (HS5.o) (λ_=>?_);clear hK4ba K4ba
     try go_frame
     refine rdB 5 26 rfl λK5bac hK5bac=>?_
     refine j7 _ _ 108 rfl _ _ _ rfl rfl HRUN.o ?_
     try go_frame
     refine hK5bac.out _ _ (HS8.o) (λ_=>?_);clear hK5bac K5bac
     try go_frame
     refine b1a (rs:=[6]) kr sm ?_;refine b0i (o:=⟨none,_,_,_,_,_⟩) rfl (λK6bacc hK6bacc=>?_) b01;rw[if_pos (by rfl)];go_step
     try go_frame
     refine hK6bacc.out _ _ (HS9.o) (λ_=>?_);clear hK6bacc K6bacc
     try go_frame
     refine b0m kr ?_ _
     try go_frame
     go_wp2_with fail;exact HFIN.o
    ·rw[if_pos (by rfl)];refine af3 (v:=.slice (some ⟨w4.1.size,0,none⟩) 1 1) (W:=w4.alloc (.cells #[.int .i64 v.p] 3)) (adu (u:=.int .i64 v.p) rfl rfl HSL.o) ?_
     try go_frame
     refine hK4b.out _ _ (HS5.o) (λ_=>?_);clear hK4b K4b
     try go_frame
     refine rdB 0 21 rfl λK0bb hK0bb=>?_
     go_step
     try go_frame
     refine hK0bb.out _ _ (HS5.o) (λ_=>?_);clear hK0bb K0bb
     try go_frame
     refine rdB 5 26 rfl λK5bbc hK5bbc=>?_
     refine j7 _ _ 108 rfl _ _ _ rfl rfl HRUN.o ?_
     try go_frame
     refine hK5bbc.out _ _ (HS8.o) (λ_=>?_);clear hK5bbc K5bbc
     try go_frame
     refine b1a (rs:=[6]) kr sm ?_;refine b0i (o:=⟨none,_,_,_,_,_⟩) rfl (λK6bbcc hK6bbcc=>?_) b01;rw[if_pos (by rfl)];go_step
     try go_frame
     refine hK6bbcc.out _ _ (HS9.o) (λ_=>?_);clear hK6bbcc K6bbcc
     try go_frame
     refine b0m kr ?_ _
     try go_frame
     go_wp2_with fail;exact HFIN.o
  ·have h2':(v.d==1)=false:=by rw[l7];exact h2
   gi_wp2_with fail
   obtain⟨he3,hs3⟩:=HI2.o.en.set (o:=0) sm (.int .i64 (at_:Int));refine⟨⟨⟨u,HU2.o.kept (hs3.far (n+1+1) om) (b1e hs3.sz.symm),?_⟩,he3,?_⟩,λk q=>hs3.far k ?_⟩
   ·rw[amg,if_neg h2];exact ac5 HRW.o (λk q1 q2=>hs3.far k (by have:=HZ5.o;omega))
   ·exact HI2.o.kept.trans ⟨hs3.os,hs3.tape,hs3.output,b1e hs3.sz.symm,λk q=>hs3.far k q.2.2⟩
   ·have:=HZ5.o;have:=HSZ.o;omega
 case done=>
  rintro D W rfl hi hK;have hr0:=(adz b).1;have e1:vk ((qp b).1++[zg (qp b).2])=vk (qp b).1:=by rw[amg,if_neg om]
  obtain⟨u,hu,hits⟩:=hi.its;rw[e1]at hits;obtain⟨A8,c8,rfl,-⟩:=zt hits;have uc:=hu.cell 0 rfl;have ec:=hi.en.cell 0 rfl;have HK:=q_ hK;have HR:=q_ hits;have HKP:=q_ hi.kept;clear hi hK hu hits hr0 e1 HZS;generalize hen:b.length-(qp b).2.length=en at *;have HEN:=q_ hen;clear hen;go_wp2_with fail
  go_region
  clear uc ec;go_wp2_with fail;have hkd:W.drew.heap[Wg.1.size]?=some (.deferred (some [])):=HK.o;refine⟨by simp,.inl ⟨_,_,rfl,run_takeDeferred hkd,?_⟩⟩;have hlt:=(o8.1 hkd).1;have hput:∀k,k≠Wg.1.size ->(W.drew.putObj Wg.1.size (.deferred none)).heap[k]?=W.heap[k]?:=λk q=>World.putObj_heap_other q
  have hpz:W.1.size <=(W.drew.putObj Wg.1.size (.deferred none)).1.size:=by simp[World.putObj]
  have hZ:=HZ5.o;have hN:=HN.o;refine⟨_,results_tmp2 rfl _ _ _,_,by rw[HEN.o];rfl,aue (ac5 HR.o λk q _=>hput k om) om,?_⟩;have hb9:Below w.1.size w W:=HG5.o.bel.trans (qi.belowM HKP.o (λj q=>⟨by omega,by omega,by omega⟩) HG5.o.bel.size);exact hb9.trans ⟨rfl,rfl,rfl,hpz,λk q=>hput k om⟩
open Go.RowKit Go.Shelf
attribute [local go_sem] Oper.semAt_some
structure b_f (Wg:World) (ob eb:Nat) (pre:List VeD) (a:Nat) (W:World):Prop where
 o:Blk W ob [.slice none 0 0]
 en:Blk W eb [.int .i64 (a:Int)]
 kept:qi (λj=>j<Wg.1.size/\j≠ob/\j≠eb) Wg W
theorem b_f.same {Wg:World} {ob eb:Nat} {pre:List VeD} {a:Nat} {W W':World} (h:b_f Wg ob eb pre a W) (ho:ob<Wg.1.size) (he:eb<Wg.1.size) (hk:qi (λk=>k<W.1.size/\k≠Wg.1.size/\k≠Wg.1.size+1) W W'):b_f Wg ob eb pre a W':=by
 have hz:=h.kept.size;have kb:∀k,k<Wg.1.size->W'.heap[k]?=W.heap[k]?:=λk q=>hk.block k om
 exact⟨h.o.kept (kb _ ho) hk.size,h.en.kept (kb _ he) hk.size,h.kept.trans (hk.less λj q=>by omega)⟩
set_option maxRecDepth 100000 in
theorem awc {w:World} {A:Option Addr} {c:Nat} {b:List UInt8} (hf:qf (λk=>k<w.1.size) w A (bsV b)) (hb:b.length<=1100000) (hc:b.length<=c) (hno:∀v∈(qp b).1,v.d≠2) :
 Calls prog 52 #[.slice A b.length c,.int .i64 2,.func (.func 53) #[] #[]] w λe w'=>e=.returned (.tuple #[.slice none 0 0,.int .i64 ((b.length-(qp b).2.length:Nat):Int)])/\Below w.1.size w w':=by
 have HF:=q_ hf;have HNO:=q_ hno;have HBC:=q_ (o3 hb hc);have HZS:=λW=>q_ (ao3 W)
 clear hf hno;refine jw func52 rfl ?_;simp only[ntmps52,o6,n6,b0z,Nat.reduceAdd,Nat.reduceSub,b1n,b1o,b12,b1s,b0y,b0u];go_upto_region 3 with fail;have HG4:=q_ (ayx.mk4 w (.int .i64 2) (.func (.func 53) #[] #[]) (.slice none 0 0) (.int .i64 0) 3 132 99 3);have hz4:((((w.alloc (.cells #[.int .i64 2] 3)).alloc (.cells #[.func (.func 53) #[] #[]] 132)).alloc (.cells #[.slice none 0 0] 99)).alloc (.cells #[.int .i64 0] 3)).1.size=w.1.size+4:=by simp
 generalize ((((w.alloc (.cells #[.int .i64 2] 3)).alloc (.cells #[.func (.func 53) #[] #[]] 132)).alloc (.cells #[.slice none 0 0] 99)).alloc (.cells #[.int .i64 0] 3))=W4 at *;generalize hn:w.1.size=n at *;have HN:=q_ hn;clear hn;go_wp2_with fail;refine(amz A b.length c W4).mono ?_;rintro e Wg ⟨rfl,hWg⟩;have hg5:=qg W4 #[.slice A b.length c] 22;rw[<- hWg]at hg5;have HG5:=q_ (HG4.o.grew hg5);have HBX:=q_ (Blk.newL hg5 rfl);have hz5:Wg.1.size=n+5:=by have:=hg5.sz;omega
 have HZ5:=q_ hz5;rw[hz4]at HBX ⊢;clear HG4 hWg hg5 hz4 hz5;go_wp2_with fail;refine(b46 (n:=8)).1 ?_
 refine adf (m:=8) (bx:=n+4) rfl (N:=λk=>k<Wg.1.size/\k≠n+1+1/\k≠n+1+1+1) (A:=A) (c:=c) (b:=b) (HBX.o.cell 0 rfl) ⟨HBX.o.lt,by omega,by omega⟩ (λk q=>q.1)
  ((HF.o.keep λk q=>HG5.o.bel.block k (by rw[HN.o];exact q)).less λk q=>⟨by have:=HZ5.o;omega,by omega,by omega⟩) HBC.o.1 HBC.o.2 rfl (b_f Wg (n+1+1) (n+1+1+1)) (λpre a V h=>⟨λk q=>h.kept.block k q,h.kept.size⟩)
  (λpre a V V' h hk=>h.same (by have:=HZ5.o;omega) (by have:=HZ5.o;omega) hk)
  ⟨HG5.o.o2,HG5.o.e3,qi.refl _ _⟩
  (λT0 u d=>(T0.setIfInBounds 13 u).setIfInBounds 10 (.pointer (some ⟨d,0,none⟩))) ?assign ?body ?done
 case assign=>
  intro l x V K hs1 hs2 hK;have HK:=q_ hK;clear hK;refine adq (r:=some l) (λ⟨_,_,h⟩=>h) sm ?_;simp only[b5b,b4z,b40,b41,b2l,List.foldl_nil,b1c,b18,b15];go_wp2_with ((refine qc rfl 106 rfl a3w (HZS _).o ?_;intro V1 hW;have HV1:=q_ (Blk.new hW);have HB1:=q_ (o3 hW.bel hW.sz);clear hW;refine qe rfl 106 _ _ rfl V.1.size 0 x rfl rfl (HV1.o.there 0 x.size (by rw[hs1,b0h,acw];decide)) (by rw[hs1];kernel_rfl) hs2 ?_;intro V2 hs;have HV2:=q_ (HV1.o.all hs (by rw[b0h,b0h,hs1,acw]));have HB2:Q_ (Below V.1.size V V2/\V2.1.size=V.1.size+1):=q_ ⟨HB1.o.1.trans (hs.below (a8 _)),hs.sz.trans HB1.o.2⟩))
  try go_frame
  exact HK.o V2 HV2.o HB2.o.1 HB2.o.2
 case body=>
  rintro l pre a0 at_ r C V0 W2 d rfl hzz hi hst hk hit hblk hd hz;simp only[b1c,b15,b18];have hZ:=HZ5.o;have hz0:=hi.kept.size;have hi2:=hi.same om om hk;have HST:=q_ hst;have HI2:=q_ hi2;have HSZ:Q_ (True/\V0.1.size<=d/\W2.1.size=d+1/\Wg.1.size+2<=V0.1.size):=q_ ⟨trivial,hd,hz,hzz⟩;have h2:¬(zg r).d=2:=λq=>HNO.o (zg r) (by rw[hst.sc,abg om];simp) q
  have c124:=hblk.cell 124 (a7v hit.len at_);have c0:W2.cell? ⟨d,0,none⟩=some (.int .i64 (zg r).d):=hblk.cell 0 rfl;have ec:=hi2.en.cell 0 rfl;have ef:=hi2.en.fz 0;have dc:W2.cell? ⟨n,0,none⟩=some (.int .i64 2):=(t7 (a:=⟨n,0,none⟩) (hi2.kept.block n om)).trans (HG5.o.d0.cell 0 rfl);have hne:d≠n+1+1+1:=by omega
  clear hi hst hk hit hblk hz0 hi2 hZ;generalize zg r=v at *;have h2':(v.d==2)=false:=by rw[l7];exact h2
  gi_wp2_with fail
  obtain⟨he3,hs3⟩:=HI2.o.en.set (o:=0) sm (.int .i64 (at_:Int));refine⟨⟨HI2.o.o.kept (hs3.far (n+1+1) om) (b1e hs3.sz.symm),he3,?_⟩,λk q=>hs3.far k ?_⟩
  ·exact HI2.o.kept.trans ⟨hs3.os,hs3.tape,hs3.output,b1e hs3.sz.symm,λk q=>hs3.far k q.2.2⟩
  ·have:=HZ5.o;have:=HSZ.o;omega
 case done=>
  rintro D W rfl hi hK;have hu:=hi.o;have uc:=hu.cell 0 rfl;have ec:=hi.en.cell 0 rfl;have HK:=q_ hK;have HKP:=q_ hi.kept;clear hi hK hu HZS;generalize hen:b.length-(qp b).2.length=en at *;have HEN:=q_ hen;clear hen;go_wp2_with fail
  go_region
  clear uc ec;go_wp2_with fail;have hkd:W.drew.heap[Wg.1.size]?=some (.deferred (some [])):=HK.o;refine⟨by simp,.inl ⟨_,_,rfl,run_takeDeferred hkd,?_⟩⟩;have hlt:=(o8.1 hkd).1;have hput:∀k,k≠Wg.1.size ->(W.drew.putObj Wg.1.size (.deferred none)).heap[k]?=W.heap[k]?:=λk q=>World.putObj_heap_other q
  have hpz:W.1.size <=(W.drew.putObj Wg.1.size (.deferred none)).1.size:=by simp[World.putObj]
  have hZ:=HZ5.o;have hN:=HN.o;refine⟨_,results_tmp2 rfl _ _ _,by rw[HEN.o];rfl,?_⟩;have hb9:Below w.1.size w W:=HG5.o.bel.trans (qi.belowM HKP.o (λj q=>⟨by omega,by omega,by omega⟩) HG5.o.bel.size);exact hb9.trans ⟨rfl,rfl,rfl,hpz,λk q=>hput k om⟩
theorem arn {w:World} {A:Option Addr} {c:Nat} {b:List UInt8} (hf:qf (λk=>k<w.1.size) w A (bsV b)) (hb:b.length<=1100000) (hc:b.length<=c) (hno:∀v∈(qp b).1,v.d≠2) (n en:Nat) (hn:b.length=n) (he:b.length-(qp b).2.length=en) :
 Calls prog 30 #[.slice A n c] w λe w'=>e=.returned (.tuple #[.slice none 0 0,.int .i64 (en:Int)])/\Below w.1.size w w':=by
 have HG:=awc hf hb hc hno;rw[he]at HG;rw[hn]at HG;have HG:=q_ HG;clear hf hb hc hno he hn;go_enter func30,ntmps30;go_wp2_with fail;refine HG.o.mono ?_;rintro e w1 ⟨rfl,hb⟩;have HB:=q_ hb;clear hb HG;go_wp2_with fail
 go_ret2
 exact⟨rfl,HB.o⟩
theorem aup:qp [0,0]=([afn,afn],[]):=by
 have h1:∀l:List UInt8,zg (0::l)=afn:=λl=>au3 dc
 have h2:∀l:List UInt8,qp (0::l)=(afn::(qp l).1,(qp l).2):=λl=>by
  rw[abg (by rw[h1];decide),h1];rfl
 rw[h2,h2,a2c]
theorem be9 (w:World):Calls prog 31 #[.slice none 0 0,.int .i64 1] w λe w'=>e=.returned (.int .i64 (-1))/\Below w.1.size w w':=by
 have HS:=λW=>q_ (arn (w:=W) (A:=none) (c:=0) (b:=[]) (qf.nil _ _ _) (b0d _) (b0d _) (λv hv=>by rw[a2c]at hv;cases hv) 0 0 rfl rfl)
 go_enter func31,ntmps31;go_wp2_with fail;refine(HS _).o.mono ?_;rintro e w1 ⟨rfl,hb⟩;have HB:=q_ hb;clear hb HS;go_wp2_with fail;refine wp_loop_once ?_;go_wp2_with fail;go_ret;exact⟨rfl,HB.o⟩
theorem ann (w:World):Calls prog 15 #[] w λe w'=>e=.returned (.bool true)/\Below w.1.size w w':=by
 have HF:=λW=>q_ (be9 W)
 have hk:=Blk.newL (L:=bsV [0,0]) (qg w #[.int .u8 0,.int .u8 0] 5) rfl;have HS:=q_ (arn (w:=w.alloc (.cells #[.int .u8 0,.int .u8 0] 5)) (A:=some ⟨w.1.size,0,none⟩) (c:=2) (b:=[0,0]) (hk.flat sm) dc dc (λv hv=>by rw[aup]at hv;simp at hv;rw[hv];decide) 2 2 rfl (by rw[aup];rfl));have HB0:=q_ (qa w (.cells #[.int .u8 0,.int .u8 0] 5));clear hk;go_enter func15,ntmps15;go_wp2_with fail;refine HS.o.mono ?_;rintro e w1 ⟨rfl,hb⟩;have HB1:=q_ (qb HB0.o hb);clear hb HS HB0;go_wp2_with fail;refine(HF _).o.mono ?_;rintro e w2 ⟨rfl,hb⟩;have HB2:=q_ (qb HB1.o hb);clear hb HF HB1;go_wp2_with fail;go_ret;exact⟨rfl,HB2.o⟩
theorem a1x {fn:Func} {p u v:Tmp} {ty:TypeId} (h:fn.results=#[.tmp u,.cell p ty,.tmp v]) (tmps:Array Value) (P:Program) (w:World) :
 (results fn tmps).run P w=((asAddr (tmps.getD p undef)).run P w).andThen λa w₁=>((loadVar ty a).run P w₁).andThen λx w₂=>.ok (.tuple #[tmps.getD u undef,x,tmps.getD v undef]) w₂:=by
 simp only[results,h];simp[Result.andThen]
def agb (C:List Int) (L:List Int):List Int:=L.foldl (λC p=>q7 C (9+p.toNat) 1) C
theorem bi2 (C:List Int) (k:Nat) (a:Int):∀V:List VeD,abc (q7 C k a) V=q7 (abc C V) k a:=λV=>by
 unfold abc;generalize V.filter _=U;exact aih k a U C
theorem atr:∀(V:List VeD) (C:List Int),(∀v∈V,v.d=1\/v.d=2)->jp C V=agb (abc C V) (vk V)
 | [],_,_=>rfl
 | v::V,C,h=>by
  have ih:=atr V (aco C v) (λu hu=>h u (by simp[hu]));show jp (aco C v) V=_;rw[ih];rcases h v sm with q|q
  ·have e1:aco C v=q7 C (9+v.p.toNat) 1:=by
    unfold aco ash;rw[if_pos q]
   have e2:abc C (v::V)=abc C V:=by unfold abc;simp[q]
   have e3:vk (v::V)=v.p::vk V:=by unfold vk;simp[q]
   rw[e1,bi2,e2,e3];rfl
  ·have e2:abc C (v::V)=abc (aco C v) V:=by unfold abc;simp[q]
   have e3:vk (v::V)=vk V:=by unfold vk;simp[q]
   rw[e2,e3]
theorem a8z {N:Int}:∀(L:List Int) {C:List Int},v5 C N->v5 (agb C L) (N+L.length)
 | [],C,h=>by simpa [agb]using h
 | p::L,C,h=>by
  have:=a8z (N:=N+1) L (C:=q7 C (9+p.toNat) 1) (al8 h _);show v5 (agb (q7 C (9+p.toNat) 1) L) _;rw[n6,show N +((L.length+1:Nat):Int)=N+1 +(L.length:Int)from by omega];exact this
theorem a97 {C:List Int} {L:List Int} {k:Nat} (hk:k<L.length):agb C (L.take (k+1))=q7 (agb C (L.take k)) (9+L[k].toNat) 1:=by
 rw[o9 hk];unfold agb;rw[b3v];rfl
theorem bau {V:List VeD} (h:∀v∈V,ay5 v):∀p∈vk V,p=0\/p=1\/p=2\/p=3:=by
 intro p hp;unfold vk at hp;obtain⟨v,hv,rfl⟩:=b2f.1 hp;exact(h v (List.mem_filter.1 hv).1).1
def ahi (n:Int):List Int:=[n,0,0,0,0,0,0,0,0,0,0,0,0]
theorem a4p (k:Int) (w:World):(Instr.build 78 #[(0,.int .i64 k)]).run prog w=.ok (.agg (yp (ahi k))) w:=by kernel_rfl
theorem a80 {n N:Int} (h0:0<=n) (h1:n<=N):v5 (ahi n) N:=λk=>by
 cases k with
 | zero=>exact⟨h0,h1⟩
 | succ k=>
  have:(ahi n).getD (k+1) 0=0:=by
   rcases k with _|_|_|_|_|_|_|_|_|_|_|_|k<;>rfl
  rw[this];omega
theorem a4y (b:List UInt8):acb b=agb (abc (ahi b.length) (qp b).1) (vk (qp b).1):=by
 have h:∀v∈(qp b).1,v.d=1\/v.d=2:=λv hv=>by
  have:=(ara b v hv).2;omega
 rw[<- atr _ _ h];unfold acb;rw[<- aih]
 congr 1
 simp[q7,ahi]
structure bnu (W5:World) (cb:Nat) (T:List Int) (L:List Int) (k:Nat) (wr:World):Prop where
 cnt:afh wr cb (agb T (L.take k))
 kept:qi (λj=>j≠cb) W5 wr
theorem a05 {w:World} {A:Option Addr} {c:Nat} {b:List UInt8} (hf:qf (λk=>k<w.1.size) w A (bsV b)) (hb:b.length<=1100000) (hc:b.length<=c) :
 Calls prog 16 #[.slice A b.length c] w λe w'=>∃v,e=.returned (.tuple #[v,.agg (yp (acb b)),.int .i64 ((qp b).2.length:Int)])/\xt w.1.size v (q6 (qp b).1) w'/\Below w.1.size w w':=by
 have HZ:=λW=>q_ (al4 W)
 have HBC:=λW=>q_ (a4p (b.length:Int) W)
 have hbI:(b.length:Int)<=1100000:=by omega
 have HIN:=q_ (o3 hf (o3 hb hc))
 have hen:(qp b).2.length<=b.length:=by
  obtain⟨-,-,P,hP,-⟩:=adz b;have:=congrArg List.length hP;rw[e9]at this;omega
 have HEN:=q_ hen;clear hf hb hc hen;obtain⟨en,hee⟩:∃en,b.length-(qp b).2.length=en:=⟨_,rfl⟩;have hrI:(b.length:Int)-(en:Int)=((qp b).2.length:Int):=by have:=HEN.o;omega
 have hrW:IntKind.i64.wrap ((qp b).2.length:Int)=((qp b).2.length:Int):=b05 _ (by have:=HEN.o;omega);have HEE:=q_ hee;clear hee;go_enter func16,ntmps16;go_upto_region 1 with(refine qc rfl 78 rfl (yp z13) (HZ _).o ?_;intro W1 hW;have HR1:=q_ (Blk.newL (L:=z13.map (Value.int .i64)) hW rfl);have HB1:=q_ (o3 hW.bel hW.sz);clear hW)
 go_upto_region 2 with(first
  | refine zf (u:=.int .i64 (b.length:Int)) rfl 78 0 _ rfl rfl (HBC _).o ?_
  | (refine qc rfl 78 rfl (yp z13) (HZ _).o ?_;intro W2 hW;have HR2:=q_ (HR1.o.grew hW);have HC2:=q_ (Blk.newL (L:=z13.map (Value.int .i64)) hW rfl);have HB2:Q_ (Below w.1.size w W2/\W1.1.size=w.1.size+1/\W2.1.size=w.1.size+2):=q_ ⟨qb HB1.o.1 hW.bel,HB1.o.2,by have:=hW.sz;have:=HB1.o.2;omega⟩;clear hW)
  | (refine qe rfl 78 _ _ rfl W1.1.size 0 (yp (ahi (b.length:Int))) rfl rfl (HC2.o.there 0 13 dc) (ac3 rfl) (ahj _) ?_;intro W3 hs;have HC3:=q_ (HC2.o.all hs rfl);have HR3:=q_ (HR2.o.far hs (by have:=HB2.o;omega));have HB3:Q_ (Below w.1.size w W3/\W3.1.size=w.1.size+2):=q_ ⟨HB2.o.1.trans (hs.below (by have:=HB2.o;omega)),hs.sz.trans HB2.o.2.2⟩;clear hs))
 have HCB:Q_ (W1.1.size=w.1.size+1):=q_ HB2.o.2.1;generalize W1.1.size=cb at *;have hfl3:qf (λk=>k<W3.1.size/\k≠cb) W3 A (bsV b):=(HIN.o.1.keep λk q=>HB3.o.1.block k q).less λk q=>⟨by have:=HB3.o.2;omega,by have:=HCB.o;omega⟩
 have HG1:=q_ (a0g (w:=W3) (cb:=cb) (T:=ahi (b.length:Int)) ⟨HC3.o,rfl⟩ (a80 om om) hfl3 HIN.o.2.1 HIN.o.2.2);rw[HEE.o]at HG1;have HLV:=q_ (o3 (aa8 b) (az0 (qp b).1));have HMEM:=q_ (bau (ara b));have HSP:=q_ (a4y b);have HTK:=q_ (aoq (qp b).1 (a80 (n:=(b.length:Int)) (N:=900000000) om om));have HTL:Q_ ((abc (ahi (b.length:Int)) (qp b).1).length=13):=q_ (by unfold abc;exact aii _ _);have HFL3:=q_ hfl3;clear hfl3 HC3 HB2 HBC;go_wp2_with fail;refine HG1.o.mono ?_;rintro e w4 ⟨v,rfl,hi4,hc4,hk4⟩;obtain⟨AI,cI,rfl,-⟩:=hi4.slice;have HG2:=q_ (a0h (w:=w4) (A:=A) (c:=c) (b:=b) ((HFL3.o.keep λk q=>hk4.block k q).less λk q=>i9 q.1 hk4.size) HIN.o.2.1 HIN.o.2.2);rw[HEE.o]at HG2;have HI4:=q_ hi4;have HC4:=q_ hc4;have HK4:=q_ hk4;clear hi4 hc4 hk4 HG1;go_wp2_with fail;refine HG2.o.mono ?_;rintro e w5 ⟨v2,rfl,ho5,hb5⟩;obtain⟨A2,c2,rfl,-,hf5,-⟩:=zt ho5
 have HF5:=q_ hf5;have HC5:Q_ (afh w5 cb (abc (ahi (b.length:Int)) (qp b).1)):=q_ (HC4.o.kept (hb5.block cb HC4.o.1.lt) hb5.size);have HI5:Q_ (xt (w.1.size+2) (.slice AI (q6 (qp b).1).length cI) (q6 (qp b).1) w5):=q_ ((HI4.o.kept (λk _ r=>hb5.block k r) hb5.size).lower (b1e HB3.o.2.symm));have HK5:Q_ (qi (λj=>j<w.1.size+2/\j≠cb) W3 w5):=q_ ((HK4.o.less λj q=>⟨by have:=HB3.o.2;omega,q.2⟩).trans (qi.of_below hb5 λj q=>by have:=HK4.o.size;have:=HB3.o.2;omega));have HZ5:Q_ (w.1.size+2<=w4.1.size/\w4.1.size<=w5.1.size):=q_ ⟨by have:=HK4.o.size;have:=HB3.o.2;omega,hb5.size⟩;have HD1:Q_ (bnu w5 cb (abc (ahi (b.length:Int)) (qp b).1) (vk (qp b).1) 0 w5):=q_ ⟨HC5.o,qi.refl _ _⟩;clear ho5 hf5 hb5 HG2 HI4 HC4 HK4 HFL3;generalize hI:q6 (qp b).1=Y at *;generalize vk (qp b).1=L at *;generalize abc (ahi (b.length:Int)) (qp b).1=T at *
 have HY:=q_ hI;clear hI;have hlI:(L.length:Int)<=1100000:=by have:=HLV.o;have:=HIN.o.2.1;omega
 go_wp2_with fail
 go_loopg [28] L.length (λg s28 wr=>∃k:Nat,k<=L.length/\L.length-k<=g/\s28=.int .i64 k/\Q_ (bnu w5 cb T L k wr))
 case atStart=>exact⟨0,b0d _,by omega,rfl,HD1⟩
 case round=>
  obtain⟨k,hk,hg,rfl,HP⟩:=hrel;clear HD1
  by_cases hlt:k<L.length
  ·obtain⟨b',o',rfl,hq,hcell⟩:=HF5.o k (.int .i64 L[k]) (by rw[b0l,d7 hlt];rfl);have hc':wr.cell? ⟨b',o'+k,none⟩=some (.int .i64 L[k]):=(t7 (a:=⟨b',o'+k,none⟩) (HP.o.kept.block b' (by have:=HCB.o;have:=HZ5.o;omega))).trans hcell;have hmem:=HMEM.o L[k] (b1j hlt);have HTE:=q_ (a97 (C:=T) hlt);have hok:=a8z (L.take k) HTK.o;have hcc:=λj q=>HP.o.cnt.cell j q
   have hset:=λj (v:Int) q=>q_ (HP.o.cnt.set j v q)
   have hfz:=λo=>HP.o.cnt.1.fz o
   generalize L[k]=p at *;have hlk:(L.take k).length<=1100000:=by have:=List.length_take_le' k L;omega
   have hbd:∀j,0 <=(agb T (L.take k)).getD j 0 /\(agb T (L.take k)).getD j 0<=1000000000:=λj=>by have:=hok j;have:=HLV.o;have:=HIN.o.2.1;omega
   clear hok hcell hlk;have i1:(k:Int)<(L.length:Int):=by omega
   have i2:(0:Int) <=(k:Int):=o5 _;rcases hmem with rfl|rfl|rfl|rfl
   all_goals
    simp only[Int.toNat_zero,Int.reduceToNat,Nat.reduceAdd,Int.toNat_one]at HTE
   ·have b0:=hbd 9;have ck:=hcc 9 dc;have HSE:=hset 9 ((agb T (L.take k)).getD 9 0+1) dc;have zk:=hfz 9;clear hbd hcc hset hfz;generalize hx:(agb T (L.take k)).getD 9 0=x at *;have HX:=q_ hx;clear hx;go_wp2_with fail
    go_roundg (L.length-(k+1))
    case measure=>omega
    case rel=>exact⟨k+1,by omega,by omega,by simp,q_ ⟨by rw[HTE.o];unfold q7;rw[HX.o];exact HSE.o.1,HP.o.kept.trans HSE.o.2⟩⟩
   ·have b0:=hbd 10;have ck:=hcc 10 dc;have HSE:=hset 10 ((agb T (L.take k)).getD 10 0+1) dc;have zk:=hfz 10;clear hbd hcc hset hfz;generalize hx:(agb T (L.take k)).getD 10 0=x at *;have HX:=q_ hx;clear hx;go_wp2_with fail
    go_roundg (L.length-(k+1))
    case measure=>omega
    case rel=>exact⟨k+1,by omega,by omega,by simp,q_ ⟨by rw[HTE.o];unfold q7;rw[HX.o];exact HSE.o.1,HP.o.kept.trans HSE.o.2⟩⟩
   ·have b0:=hbd 11;have ck:=hcc 11 dc;have HSE:=hset 11 ((agb T (L.take k)).getD 11 0+1) dc;have zk:=hfz 11;clear hbd hcc hset hfz;generalize hx:(agb T (L.take k)).getD 11 0=x at *;have HX:=q_ hx;clear hx;go_wp2_with fail
    go_roundg (L.length-(k+1))
    case measure=>omega
    case rel=>exact⟨k+1,by omega,by omega,by simp,q_ ⟨by rw[HTE.o];unfold q7;rw[HX.o];exact HSE.o.1,HP.o.kept.trans HSE.o.2⟩⟩
   ·have b0:=hbd 12;have ck:=hcc 12 dc;have HSE:=hset 12 ((agb T (L.take k)).getD 12 0+1) dc;have zk:=hfz 12;clear hbd hcc hset hfz;generalize hx:(agb T (L.take k)).getD 12 0=x at *;have HX:=q_ hx;clear hx;go_wp2_with fail
    go_roundg (L.length-(k+1))
    case measure=>omega
    case rel=>exact⟨k+1,by omega,by omega,by simp,q_ ⟨by rw[HTE.o];unfold q7;rw[HX.o];exact HSE.o.1,HP.o.kept.trans HSE.o.2⟩⟩
  ·obtain rfl:k=L.length:=by omega
   have hcn:=HP.o.cnt;rw[b0v,<- HSP.o]at hcn;have HCN:=q_ hcn;have hbl:∀j,j<w.1.size+2->j≠cb->wr.heap[j]?=W3.heap[j]?:=λj q1 q2=>(HP.o.kept.block j q2).trans (HK5.o.block j ⟨q1,q2⟩)
   have hszr:w.1.size+2<=wr.1.size:=by have:=HP.o.kept.size;have:=HZ5.o;omega
   have HRR:=q_ (HR3.o.kept (hbl w.1.size om (by have:=HCB.o;omega)) (by have:=HB3.o.2;omega));have HBW:Q_ (Below w.1.size w wr):=q_ (HB3.o.1.trans ⟨HP.o.kept.os.trans HK5.o.os,HP.o.kept.tape.trans HK5.o.tape,HP.o.kept.output.trans HK5.o.output,p9 HK5.o.size HP.o.kept.size,λj q=>hbl j om (by have:=HCB.o;omega)⟩);have HIR:Q_ (xt (w.1.size+2) (.slice AI Y.length cI) Y wr):=q_ (HI5.o.kept (λj q _=>HP.o.kept.block j (by have:=HCB.o;omega)) HP.o.kept.size);have hS0:wr.drew.heap[cb]?=wr.heap[cb]?:=rfl;clear hcn hbl hszr;go_wp2_with fail;refine t6 (S:=λw'=>w'.heap[cb]?=wr.heap[cb]?) kr hS0 (λhHeld=>?_);refine tkA 0 40 rfl ?_;go_frame;refine tkQ (i:=1) (oi:=⟨some 41,_,_,_,_,_⟩) (v:=_) rfl (o4 (by rfl) 78 _ rfl cb 0 rfl ((acb b).map (Value.int .i64)) _ (λw' hSw=>aa6 HCN.o.1.rg hSw) underlying78 rfl (al9 HCN.o.2)) ?_
   go_frame;refine tkA 2 42 rfl ?_;go_frame;refine tkA 3 43 rfl ?_;go_frame;refine tkA 4 44 rfl ?_;go_frame;refine tkA 5 45 rfl ?_;go_frame;refine tkA 6 2 rfl ?_;go_frame;refine b1a (rs:=[7]) kr sm ?_;refine b0i (o:=⟨none,_,_,_,_,_⟩) rfl (λK hK=>?_) b01;rw[if_pos (by rfl)];have hth:wr.drew.there w.1.size 0 (yp (acb b)).size:=HRR.o.drew.there 0 _ (by unfold yp;rw[o6,b0o,HCN.o.2];decide);refine wp_store_mid 78 _ _ rfl w.1.size 0 (yp (acb b)) rfl rfl hth (ac3 HCN.o.2) (ahj _) ?_;have hst:=qo (w:=wr.drew) (b:=w.1.size) (o:=0) (cs:=(yp (acb b)).toList) (by rw[b0h];exact hth)
   try go_frame
   refine hK.out _ _ (hst.far cb (by have:=HCB.o;omega)) (λ_=>?_);clear hK K
   try go_frame
   have HLD:=q_ (t9 (P:=prog) _ w.1.size 0 78 (yp (acb b)).toList _ hst.rg underlying78 rfl (by rw[b0h];exact ac3 HCN.o.2));have HF9:Q_ (xt w.1.size (.slice AI Y.length cI) Y _/\Below w.1.size w _):=q_ ⟨(HIR.o.kept (λj q _=>hst.far j om) (b1e hst.sz.symm)).lower om,HBW.o.drew.trans (hst.below (a8 _))⟩;generalize wr.drew.setCells w.1.size 0 (yp (acb b)).toList=W9 at *;refine tkA 8 4 rfl ?_;go_frame;refine b0m kr ?_ _
   try go_frame
   go_wp2_with fail;refine b9 (v:=.tuple #[.slice AI Y.length cI,.agg (yp (acb b)),.int .i64 ((qp b).2.length:Int)]) (by rw[a1x rfl];simp[asAddr,Result.andThen,HLD.o]) rfl ?_;refine⟨_,rfl,?_,HF9.o.2⟩;rw[HY.o];exact HF9.o.1
