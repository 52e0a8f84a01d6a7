/- Parts. -/
import Derived.Test.YtdkhlkfleggbaaaGreatQ32
namespace Go.Proofs.YtdkhlkfleggbaaaGreat
set_option maxHeartbeats 4000000
set_option maxRecDepth 8000
open Lib (hid)
open Tryz
set_option linter.unusedVariables false
open Go.RowKit
def axz (v:VeD):Prop:=(v.p=0∨v.p=1∨v.p=2∨v.p=3) ∧(v.d=1∧v.n=0∨v.d=2∧8≤v.n∧v.n≤1024∧v.p≠0)
theorem ak6 (l:List UInt8) (h:(zm l).d≠0):axz (zm l):=by
 refine⟨?_,?_⟩
 ·cases l with
  | nil=>exact absurd rfl h
  | cons x l=>rw[bk9 (x::l) x rfl];exact alx x
 ·rcases bk8 l with q|q|q
  ·exact absurd q h
  ·exact .inl ⟨q,(a7p l om).1⟩
  ·have:=ame l q;exact .inr ⟨q,this.1,this.2.1,by omega⟩
theorem aql (l:List UInt8):∀v∈(q6 l).1,axz v:=a0v (P:=axz) ak6 l
theorem abw {C:List Int} {k:Nat} (hk:k<C.length) (n:Int) (j:Nat):(q8 C k n).getD j 0=C.getD j 0+if j=k then n else 0:=by
 unfold q8
 by_cases h:j=k
 ·subst h;rw[if_pos rfl];simp[List.getD_eq_getElem?_getD,hk]
 ·rw[if_neg h];have h':¬k=j:=fun e=>h e.symm
  simp[List.getD_eq_getElem?_getD,h']
attribute [local go_sem] Oper.semAt_some
def bfl (A:Option Addr) (c lo:Nat):Option Addr:=if c=lo then A else A.map (·.add lo)
theorem a5v (A:Option Addr) (n c lo:Nat) (h:lo≤n) (w:World):(Instr.sliceAt 22 (.slice A n c) (some (.int .i64 lo)) none none).run prog w=.ok (.slice (bfl A c lo) (n-lo) (c-lo)) w:=by
 have hu:prog.underlying 22=some (.slice (prog.elem 22)):=by kernel_rfl
 have hz:∀W,(sizeOf (prog.elem 22)).run prog W=.ok 1 W:=fun W=>by kernel_rfl
 rw[run_sliceAt_slice _ _ _ _ _ _ hu,run_slice_l _ _ _ _ _ hu _ _ om om,hz];simp[Result.andThen,sliced,bfl]
theorem a8z {Q:Nat→Prop} {w:World} {A:Option Addr} {l:List UInt8} (h:qf Q w A (bsV l)) (c lo:Nat) (hlo:lo≤l.length) (hc:l.length≤c):qf Q w (bfl A c lo) (bsV (l.drop lo)):=by
 rcases Nat.lt_or_ge lo l.length with q|q
 ·obtain⟨b,off,rfl,-,-⟩:=h lo _ (yk q);unfold bfl;rw[if_neg om,← afd,Option.map_some,adq];exact h.part lo
 ·rw[List.drop_eq_nil_of_le q];exact qf.nil _ _ _
theorem ajv {P:Program} {ops:Array Oper} {rest:List Oper} {o:Oper} {a:Act} {w:World} {Q:Exit→Act→World→Prop} (hgd:o.guard=none) (t:TypeId) (x lo:Operand) (ho:o.op=.slice t x (some lo) none none) {u v r:Value} (hx:a.eval x=u) (hl:a.eval lo=v) (hr:(Instr.sliceAt t u (some v) none none).run P w=.ok r w)
 (h:wpList P ops Q rest (a.put o.dst r) w):wpList P ops Q (o::rest) a w:=
 ab3 hgd (by unfold execOp;rw[ho];simp only[hx,hl,Option.map_some,Option.map_none,Sem.run_bind,hr,Result.andThen_ok,Sem.run_pure]) h
def stA (v:VeD) (C:List Value) (at_:Nat):Array Value:=(veL v.d v.p v.n v.e C++[Value.int .i64 (at_:Int)]).toArray
def a2e:Array Value:=(veL 0 0 0 0 adc++[Value.int .i64 0]).toArray
theorem acr:a2e.size=125:=by
 unfold a2e;rw[List.size_toArray,List.length_append,bk7];rfl
theorem aoc (w:World):(zeroValue 106).run prog w=.ok (.agg a2e) w:=by kernel_rfl
def bma:Array (Nat×Nat):=#[(0,124),(124,1)]
theorem bcr {v:VeD} {C:List Value} (hl:C.length=120) (k:Nat) (w:World):(Instr.build 106 #[(0,.agg (veL v.d v.p v.n v.e C).toArray),(1,.int .i64 (k:Int))]).run prog w=.ok (.agg (stA v C k)) w:=by
 refine ack (z:=a2e) (pl:=bma) underlying106 (aoc w) kr ?_;have h4:=agn (d:=v.d) (p:=v.p) (n:=v.n) (e:=v.e) hl
 have e1:aa0 (veL 0 0 0 0 adc++[Value.int .i64 0]) 0 (veL v.d v.p v.n v.e C)=veL v.d v.p v.n v.e C++[Value.int .i64 0]:=by
  have:=acp [] (veL 0 0 0 0 adc) [Value.int .i64 0] (veL v.d v.p v.n v.e C) (by rw[h4];rfl);exact this
 have e2:aa0 (veL v.d v.p v.n v.e C++[Value.int .i64 0]) 124 [Value.int .i64 (k:Int)]=veL v.d v.p v.n v.e C++[Value.int .i64 (k:Int)]:=by
  have:=acp (veL v.d v.p v.n v.e C) [Value.int .i64 0] [] [Value.int .i64 (k:Int)] rfl;rw[h4]at this;exact this
 show Instr.fill _ a2e ((0,.agg (veL v.d v.p v.n v.e C).toArray)::(1,.int .i64 (k:Int))::[])=_;rw[yn (off:=0) (L:=veL v.d v.p v.n v.e C) rfl (by rw[h4];rfl) (by rw[h4,acr];decide)];show Instr.fill _ (aa0 (veL 0 0 0 0 adc++[Value.int .i64 0]) 0 (veL v.d v.p v.n v.e C)).toArray _=_;rw[e1,yn (off:=124) (L:=[.int .i64 (k:Int)]) rfl rfl (by rw[List.size_toArray,List.length_append,h4];exact Nat.le_refl _)];show some (aa0 (veL v.d v.p v.n v.e C++[Value.int .i64 0]) 124 [Value.int .i64 (k:Int)]).toArray=_;rw[e2];rfl
structure ac7 (b:List UInt8) (pre:List VeD) (at_:Nat) (r:List UInt8):Prop where
 cut:b.drop at_=r
 len:at_+r.length=b.length
 sc:q6 b=(pre ++(q6 r).1,(q6 r).2)
theorem ac7.start (b:List UInt8):ac7 b [] 0 b:=⟨rfl,by simp,rfl⟩
theorem ac7.next {b:List UInt8} {pre:List VeD} {at_:Nat} {r:List UInt8} (h:ac7 b pre at_ r) (hr:(zm r).d≠0):ac7 b (pre++[zm r]) (at_+acd (zm r)) (r.drop (acd (zm r))):=by
 have h1:=aky hr;have h2:=h.len;refine⟨by rw[← h.cut,List.drop_drop],by rw[List.length_drop];omega,baj h.sc hr⟩
theorem ac7.stop {b:List UInt8} {pre:List VeD} {at_:Nat} {r:List UInt8} (h:ac7 b pre at_ r) (hr:(zm r).d=0):(q6 b).1=pre ∧(q6 b).2=r:=by
 rw[h.sc,afo hr,List.append_nil];exact⟨rfl,rfl⟩
set_option maxRecDepth 100000 in
theorem ba8 (m l bx:Nat) (N:Nat→Prop) (A:Option Addr) (c:Nat) (b:List UInt8) (w:World) (hbx:w.cell? ⟨bx,0,none⟩=some (.slice A b.length c)) (hN:N bx) (hNl:∀k,N k→k<w.1.size) (hf:qf N w A (bsV b)) (hb:b.length≤1000000) (hc:b.length≤c) (J:List VeD→Nat→World→Prop)
 (hJ:∀pre a V,J pre a V →(∀k,N k→V.heap[k]?=w.heap[k]?)∧w.1.size≤V.1.size)
 (hY:∀pre a at_ r C V0 V,J pre a V0→ac7 b pre at_ r→Below V0.1.size V0 V→ItM (Bk V0.1.size V) V C (zm r).x→YieldAt Fence.wide (m-1) prog l #[.agg (stA (zm r) C at_)] V fun e V'=>e=.returned (.bool true)∧J (pre++[zm r]) at_ V'∧∀k,V0.1.size≤k→k<V.1.size→V'.heap[k]?=V.heap[k]?)
 (h0:J [] 0 w) :
 CallsIn Fence.wide m prog 70 #[.func (.yield l) #[] #[],.pointer (some ⟨bx,0,none⟩)] w fun e W'=>(∃v,e=.returned v)∧J ((q6 b).1++[zm (q6 b).2]) (b.length-(q6 b).2.length) W':=by
 have HJ:=hid hJ;have HY:=hid hY;have HN:=hid (And.intro hN hNl);have HBX:=hid (And.intro hbx hf);have H0:Hid (J [] 0 w∧ac7 b [] 0 b):=hid ⟨h0,ac7.start b⟩;have HZ:=fun W=>hid (aig W)
 clear hJ hY hN hNl hbx hf h0;refine callsIn_of_wp func70 rfl trivial ?_ rfl;have HLO:Hid (¬LetsOut (bodyPost prog Tryz.f70 fun e W'=>(∃v,e=Ending.returned v)∧J ((q6 b).1++[zm (q6 b).2]) (b.length-(q6 b).2.length) W')):=hid (by rintro⟨_,_,⟨v,q⟩,-⟩;cases q);simp only[ntmps70,List.size_toArray,List.length_cons,List.length_nil,Nat.reduceAdd,Nat.reduceSub,Array.replicate_succ,Array.replicate_zero,List.push_toArray,List.append_toArray,List.nil_append,List.cons_append]
 gi_wp2
 gi_loopw [3] (fun s3 wr=>∃pre a at_ r,s3=.int .i64 ((at_:Nat):Int)∧Hid (J pre a wr∧ac7 b pre at_ r)) (fun s _=>b.length+1-(intOf s).toNat)
 case atStart=>exact⟨[],0,0,b,rfl,H0⟩
 case round=>
  obtain⟨pre,a,at_,r,rfl,HR⟩:=hrel;clear H0;obtain⟨hk,hz⟩:=HJ.out _ _ _ HR.out.1;have hbx:wr.cell? ⟨bx,0,none⟩=some (.slice A b.length c):=(World.cell?_of_block (a:=⟨bx,0,none⟩) (hk bx HN.out.1)).trans HBX.out.1;have hla:=HR.out.2.len;have HSL:=hid (a5v A b.length c at_ om wr);have hfl:=a8z (HBX.out.2.keep hk) c at_ om hc;rw[HR.out.2.cut]at hfl;have hat:=a90 (bfl A c at_) (c-at_) r (hfl.less (R:=fun _=>True) fun _ _=>trivial) om om;have hrl:r.length=b.length-at_:=by omega
  rw[hrl]at hat;unfold a2z at hat;have HAT:=hid hat;clear hat hfl hk hz;obtain⟨v,hv⟩:∃v,zm r=v:=⟨_,rfl⟩;have HV:=hid hv;rw[hv]at HAT;have hcl:at_≤b.length:=by omega
  clear hv hla hrl;apply wpIn_block;apply wpIn_seq_k;intro K1 HK1;refine ado (r:=none) (fun q=>HLO.out q) sm ?_
  go_wp2_with (first
   | refine ajv rfl 22 _ _ rfl rfl rfl HSL.out ?_)
  refine HAT.out.mono ?_;rintro e w3 ⟨C,rfl,hit,hb3⟩;have HVL:=hid (agn (d:=v.d) (p:=v.p) (n:=v.n) (e:=v.e) hit.len);have HVO:=hid (aq4 (d:=v.d) (p:=v.p) (n:=v.n) (e:=v.e) hit.ones);have HVS:=hid (aq5 HVL.out);have HIT:=hid (And.intro hit hb3);clear hit hb3 HAT HSL
  go_wp2_with (first
   | (refine qc rfl 66 rfl (veA 0 0 0 0) (HZ _).out ?_;intro W4 hW;have HV4:=hid (Blk.newL (L:=veL 0 0 0 0 adc) hW rfl);have HB4:=hid (And.intro hW.bel hW.sz);clear hW)
   | (refine qe rfl 66 _ _ rfl w3.1.size 0 (veL v.d v.p v.n v.e C).toArray rfl rfl (aap HV4.out HVL.out) HVS.out HVO.out ?_;intro W5 hs;have HV5:=hid (acs HV4.out HVL.out hs);have HB5:Hid (Below w3.1.size w3 W5∧W5.1.size=w3.1.size+1):=hid ⟨HB4.out.1.trans (hs.below (Nat.le_refl _)),hs.sz.trans HB4.out.2⟩;clear hs))
  have hb5:Below wr.1.size wr W5:=HIT.out.2.trans (HB5.out.1.mono HIT.out.2.size)
  have hi5:ItM (Bk wr.1.size W5) W5 C (zm r).x:=by
   rw[HV.out];exact(HIT.out.1.keep fun k q=>HB5.out.1.block k q.2).less fun k q=>⟨q.1,by have:=q.2;have:=HB5.out.2;omega⟩
  obtain⟨fn,tmps,assign,body,hy,hR⟩:=HY.out pre a at_ r C wr W5 HR.out.1 HR.out.2 hb5 hi5;rw[HV.out]at hy hR;have HRR:=hid hR;have HBS:=hid (bcr (v:=v) HIT.out.1.len at_ W5);have hvz:wr.1.size≤w3.1.size:=HIT.out.2.size;have hvb:w3.1.size<W5.1.size:=by have:=HB5.out.2;omega
  clear hR hb5 hi5 HV4 HB4 HVO HVS;generalize w3.1.size=vb at *
  gi_wp2_with (first
   | refine ak8 (r:=none) rfl 66 _ rfl vb 0 rfl (veL v.d v.p v.n v.e C) _ HV5.out.rg underlying66 rfl (by rw[HVL.out];kernel_rfl) ?_
   | refine ans (r:=none) (u:=.agg (veL v.d v.p v.n v.e C).toArray) (u':=.int .i64 (at_:Int)) rfl 106 0 1 _ _ rfl rfl rfl HBS.out ?_)
  refine And.intro (fun q=>by cases q) (RoundIn.mono HRR.out ?_);rintro e W6 ⟨rfl,hJ6,hk6⟩;have hbk:=hk6 vb hvz hvb;have hvd:W6.cell? ⟨vb,0,none⟩=some (.int .i64 v.d):=(World.cell?_of_block (a:=⟨vb,0,none⟩) hbk).trans (a18 HV5.out).1;have hvn:W6.cell? ⟨vb,2,none⟩=some (.int .i64 (v.n:Int)):=(World.cell?_of_block (a:=⟨vb,2,none⟩) hbk).trans (a18 HV5.out).2.2.1;have HJ6:=hid hJ6;have HVK:=hid (fun q=>ak6 r q);have HVT:=hid (ame r);rw[HV.out]at HVK HVT;clear hbk hk6 hJ6 HRR HBS HV5 HB5 HIT HVL hy hvz hvb hbx
  by_cases hd:v.d=0
  ·rw[hd]at hvd
   gi_wp2
   refine bodyPost_ret (results_none rfl _ _ _) rfl ?_;have hs:=HR.out.2.stop (by rw[HV.out];exact hd);have hl:=HR.out.2.len;refine⟨⟨_,rfl⟩,?_⟩;rw[hs.1,hs.2,HV.out,show b.length-r.length=at_ by omega];exact HJ6.out
  ·have hde:(v.d==0)=false:=by rw[beq_eq_false_iff_ne];exact hd
   have hnx:=HR.out.2.next (by rw[HV.out];exact hd)
   rw[HV.out]at hnx;have HNX:=hid hnx;have hln:=hnx.len;have hok:=(HVK.out hd).2;have hmx:acd v=max v.n 1:=rfl;have HMX:=hid hmx;clear hnx HVK HVT;rcases hok with⟨h1,h2⟩|⟨h1,h2,h3,-⟩
   ·rw[h2]at hvn hmx;rw[h1]at hvd;have hst:acd v=1:=hmx;rw[hst]at HNX hln;clear hmx hde hd HMX
    gi_wp2
    go_roundw
    case rel=>exact⟨_,_,at_+1,_,by simp;omega,HJ6.out,HNX.out⟩
    case measure=>simp[intOf];omega
   ·have hst:acd v=v.n:=by omega
    rw[hst]at HNX hln;rw[h1]at hvd;have hn1:(1:Int) ≤(v.n:Int):=by omega
    have hn2:(v.n:Int)≤1024:=by omega
    clear hmx hde hd HMX hst;generalize v.n=vn at *
    gi_wp2
    go_roundw
    case rel=>exact⟨_,_,at_+vn,_,by simp;omega,HJ6.out,HNX.out⟩
    case measure=>simp[intOf];omega
def bfj (w V0 W2:World) (d:Nat) (I:List VeD→Nat→World→Prop) (pre:List VeD) (a:Nat):Exit→Act→World→Prop
 | .normal,_,W3=>I pre a W3∧∀k,(k=w.1.size∨k=w.1.size+1∨V0.1.size≤k∧k<d)→W3.heap[k]?=W2.heap[k]?
 | _,_,_=>False
theorem akx {v:VeD} {C:List Value} (hl:C.length=120) (k:Nat):(stA v C k).size=125:=by
 unfold stA;rw[List.size_toArray,List.length_append,agn hl];rfl
theorem bfh {v:VeD} {C:List Value} (h:∀u∈C,u.oneCell'=true) (k:Nat):(stA v C k).all (·.oneCell')=true:=ka fun u hu=>by
 unfold stA at hu;rw[List.toList_toArray,List.mem_append]at hu;rcases hu with hu|hu
 ·simp only[veL,List.mem_cons]at hu;rcases hu with rfl|rfl|rfl|rfl|hu
  ·rfl
  ·rfl
  ·rfl
  ·rfl
  ·exact h u hu
 ·rw[List.mem_singleton.1 hu];rfl
theorem adb {m:Nat} {g:Operand} {ps:Array Tmp} {assign body:Code} {Q:Exit→Act→World→Prop} {a:Act} {w:World} {bx:Nat} (hg:a.eval g=.func (.func 70) #[] #[.pointer (some ⟨bx,0,none⟩)])
 {N:Nat→Prop} {A:Option Addr} {c:Nat} {b:List UInt8} (hbx:w.cell? ⟨bx,0,none⟩=some (.slice A b.length c)) (hN:N bx) (hNl:∀k,N k→k<w.1.size) (hf:qf N w A (bsV b)) (hb:b.length≤1000000) (hc:b.length≤c) (hps:ps.size=1)
 (I:List VeD→Nat→World→Prop) (hIk:∀pre a V,I pre a V →(∀k,N k→V.heap[k]?=w.heap[k]?)∧w.1.size≤V.1.size) (hI:∀pre a V V',I pre a V→qn (fun k=>k<V.1.size∧k≠w.1.size∧k≠w.1.size+1) V V'→I pre a V') (h0:I [] 0 w)
 (A1:Array Value→Value→Nat→Array Value)
 (hassign:∀(l:Nat) (x:Array Value) (V:World) (K:Act→World→Prop),x.size=125→x.all (·.oneCell')=true →(∀W',Blk W' V.1.size x.toList→Below V.1.size V W'→W'.1.size=V.1.size+1→K {tmps:=A1 a.tmps (.agg x) V.1.size,defers:=[]} W') →
  assign.wpIn (Fence.wide.inRound l) (m-1-1) prog (Exit.then K (fun _ _ _=>False)) {tmps:=(ps.zip #[.agg x]).foldl (fun t (p,v)=>t.setIfInBounds p v) a.tmps,defers:=[]} V)
 (hbody:∀(l:Nat) (pre:List VeD) (a0 at_:Nat) (r:List UInt8) (C:List Value) (V0 W2:World) (d:Nat),l=w.1.size+1→w.1.size+2≤V0.1.size→I pre a0 V0→ac7 b pre at_ r→qn (fun k=>k<V0.1.size∧k≠w.1.size∧k≠w.1.size+1) V0 W2→ItM (fun k=>V0.1.size≤k∧k<d) W2 C (zm r).x→Blk W2 d (stA (zm r) C at_).toList→V0.1.size≤d→W2.1.size=d+1 →
  body.wpIn (Fence.wide.inRound l) (m-1-1) prog (bfj w V0 W2 d I (pre++[zm r]) at_) {tmps:=A1 a.tmps (.agg (stA (zm r) C at_)) d,defers:=[]} W2)
 (hdone:∀(D:Nat) (W:World),D=w.1.size→I ((q6 b).1++[zm (q6 b).2]) (b.length-(q6 b).2.length) W→W.heap[D]?=some (.deferred (some []))→Q .normal {a with defers:={target:=.collected D,args:=#[]}::a.defers} W) :
 (Code.rangeFunc g ps assign body).wpIn Fence.wide m prog Q a w:=by
 refine wpIn_rangeFunc ?_;intro fn hfn;show ∃_,_;let rec_:LoopState→Option Code→Loop:=fun st pe=>{state:=st,pending:=pe,fn,tmps:=a.tmps,params:=ps,assign,body,defers:=w.1.size}
 obtain⟨R,hR⟩:∃R:LoopState→Option Code→Loop,R=rec_:=⟨_,rfl⟩;have rS:∀st pe,(R st pe).state=st:=fun st pe=>by rw[hR]
 obtain⟨W1,hW1⟩:∃W1,(w.alloc (.deferred (some []))).alloc (.loop (R .ready none))=W1:=⟨_,rfl⟩;have bel:Below w.1.size w W1:=by rw[← hW1];exact((Below.refl _ w).alloc (Nat.le_refl _) _).alloc sm _
 have atL:W1.heap[w.1.size+1]?=some (.loop (R .ready none)):=by
  have:=World.alloc_heap_new (w.alloc (.deferred (some []))) (.loop (R .ready none));rw[World.size_alloc]at this;rw[← hW1];exact this
 have atD:W1.heap[w.1.size]?=some (.deferred (some [])):=by
  rw[← hW1];exact(Below.heap_alloc _ _ _ sm).trans (World.alloc_heap_new w _)
 have i1:I [] 0 W1:=hI _ _ _ _ h0 (qn.of_below bel fun j q=>q.1)
 have put:∀(V:World) (l:Nat) (o:Obj),l=w.1.size∨l=w.1.size+1→qn (fun k=>k<V.1.size∧k≠w.1.size∧k≠w.1.size+1) V (V.putObj l o):=fun V l o hl=>
  ⟨rfl,rfl,rfl,by simp,fun k q=>World.putObj_heap_other om⟩
 refine⟨w.1.size+1,[{target:=.collected w.1.size,args:=#[]}],W1,{target:=.fn (.func 70) #[.pointer (some ⟨bx,0,none⟩)],args:=#[.func (.yield (w.1.size+1)) #[] #[]]},W1,70,
  #[.func (.yield (w.1.size+1)) #[] #[]]++#[.pointer (some ⟨bx,0,none⟩)],W1,?_,?_,?_,?_,(fun h=>by cases h),?_⟩
 ·rw[← hW1,hR];exact run_enterLoop_outer _ _ _ _ _
 ·simp only[resolve,hg];simp[go_sem]
 ·intro f' hf';trivial
 ·simp[invoke,go_sem]
 ·refine(ba8 (m-1) (w.1.size+1) bx N A c b W1 ((bel.cell (p:=⟨bx,0,none⟩) (hNl _ hN)).trans hbx) hN (fun k q=>Nat.lt_of_lt_of_le (hNl k q) bel.size) (hf.below bel hNl) hb hc
   (fun pre a V=>I pre a V∧V.heap[w.1.size+1]?=some (.loop (R .ready none))∧V.heap[w.1.size]?=some (.deferred (some [])))
   (fun pre a V q=>⟨fun k hk=>((hIk _ _ _ q.1).1 k hk).trans (bel.block k (hNl k hk)).symm,?_⟩) ?_ ⟨i1,atL,atD⟩).mono ?_
  ·have h1:=(Array.getElem?_eq_some_iff.1 q.2.1).1;have h2:W1.1.size=w.1.size+2:=by rw[← hW1];simp
   omega
  ·rintro pre a0 at_ r C V0 V ⟨hi,hl,hd⟩ hst hbl hit;have hlt:w.1.size+1<V0.1.size:=(Array.getElem?_eq_some_iff.1 hl).1;have hlV:V.heap[w.1.size+1]?=some (.loop (R .ready none)):=(hbl.block _ hlt).trans hl;have hdV:V.heap[w.1.size]?=some (.deferred (some [])):=(hbl.block _ om).trans hd;have hy:=run_yield (P:=prog) (args:=#[.agg (stA (zm r) C at_)]) hlV (by rw[hR];exact hps.symm);rw[hR]at hy;refine⟨fn,_,assign,body,hy,roundIn_of_wpIn hfn (hassign _ (stA (zm r) C at_) V _ (akx hit.len at_) (bfh hit.ones at_) fun W' hblk hbW hzW=>?_)⟩;have hlW:W'.heap[w.1.size+1]?=some (.loop (R .ready none)):=(hbW.block _ (Nat.lt_of_lt_of_le hlt hbl.size)).trans hlV;have hdW:W'.heap[w.1.size]?=some (.deferred (some [])):=(hbW.block _ (by have:=hbl.size;omega)).trans hdV;refine⟨_,run_beginRound hlW (rS _ _),?_⟩;obtain⟨V2,hV2⟩:∃V2,W'.putObj (w.1.size+1) (.loop {R .ready none with state:=.busy})=V2:=⟨_,rfl⟩
   have l2:V2.heap[w.1.size+1]?=some (.loop {R .ready none with state:=.busy}):=by rw[← hV2];exact World.putObj_heap_same (by have:=hbl.size;omega)
   have d2:V2.heap[w.1.size]?=some (.deferred (some [])):=by rw[← hV2];exact(World.putObj_heap_other om).trans hdW
   have k2:∀k,k≠w.1.size+1→V2.heap[k]?=W'.heap[k]?:=fun k hk=>by rw[← hV2];exact World.putObj_heap_other hk
   have z2:V2.1.size=V.1.size+1:=by rw[← hV2,← hzW];simp
   have b02:qn (fun k=>k<V0.1.size∧k≠w.1.size∧k≠w.1.size+1) V0 V2:=by
    have h1:qn (fun k=>k<V0.1.size∧k≠w.1.size∧k≠w.1.size+1) V0 W':=qn.of_below (hbl.trans (hbW.mono hbl.size)) fun j q=>q.1
    refine h1.trans ?_;rw[← hV2];exact(put W' (w.1.size+1) (.loop {R .ready none with state:=.busy}) (.inr rfl)).less fun j q=>⟨Nat.lt_of_lt_of_le q.1 (by have:=hbl.size;omega),q.2⟩
   have it2:ItM (fun k=>V0.1.size≤k∧k<V.1.size) V2 C (zm r).x:=(hit.keep fun k q=>(k2 k (by have:=q.1;omega)).trans (hbW.block k q.2)).less fun k q=>q
   have bk2:Blk V2 V.1.size (stA (zm r) C at_).toList:=hblk.kept (k2 _ (by have:=hbl.size;omega)) om;rw[hV2];refine wpIn_mono (hbody _ pre a0 at_ r C V0 V2 V.1.size rfl hlt hi hst b02 it2 bk2 hbl.size z2) ?_;rintro e a3 V3 hp;cases e with
   | normal=>
    obtain⟨hi3,hk3⟩:=hp;have l3:=(hk3 _ (.inr (.inl rfl))).trans l2;have d3:=(hk3 _ (.inl rfl)).trans d2;have hr:=run_endRound (P:=prog) none l3;rw[hR]at hr;refine⟨_,_,hr,rfl,⟨hI _ _ _ _ hi3 (put V3 (w.1.size+1) _ (.inr rfl)),?_,?_⟩,?_⟩
    ·rw[hR];exact World.putObj_heap_same (Array.getElem?_eq_some_iff.1 l3).1
    ·exact(World.putObj_heap_other om).trans d3
    ·intro k q1 q2;exact(World.putObj_heap_other om).trans ((hk3 k (.inr (.inr ⟨q1,q2⟩))).trans ((k2 k om).trans (hbW.block k q2)))
   | ret=>exact hp.elim
   | exit id=>exact hp.elim
   | goto t=>exact hp.elim
   | panic ch=>exact hp.elim
   | outgrown=>exact hp.elim
  ·rintro e V ⟨⟨v,rfl⟩,hi,hl,hd⟩;have he:=run_endLoop (P:=prog) hl (by rw[hR];simp[rec_]);rw[hR]at he;exact⟨none,_,he,hdone _ _ rfl (hI _ _ _ _ hi (put V (w.1.size+1) _ (.inr rfl))) ((World.putObj_heap_other om).trans hd)⟩
theorem aqe {fn:Func} {p:Tmp} {ty:TypeId} (h:fn.results=#[.cell p ty]) (tmps:Array Value) (P:Program) (w:World):(results fn tmps).run P w=((asAddr (tmps.getD p undef)).run P w).andThen fun a w₁=>(loadVar ty a).run P w₁:=by
 simp only[results,h];simp[Sem.run_bind,Result.andThen]
def ac5 (W:World) (cb:Nat) (T:List Int):Prop:=Blk W cb (T.map (Value.int .i64))∧T.length=13
theorem ac5.cell {W:World} {cb:Nat} {T:List Int} (h:ac5 W cb T) (k:Nat) (hk:k<13):W.cell? ⟨cb,k,none⟩=some (.int .i64 (T.getD k 0)):=h.1.cell k (by
 have:=h.2;rw[List.getElem?_map,List.getD_eq_getElem?_getD,List.getElem?_eq_getElem om];rfl)
theorem ac5.set {W:World} {cb:Nat} {T:List Int} (h:ac5 W cb T) (k:Nat) (v:Int) (hk:k<13):ac5 (W.setCell ⟨cb,k,none⟩ (.int .i64 v)) cb (T.set k v)∧qn (fun j=>j≠cb) W (W.setCell ⟨cb,k,none⟩ (.int .i64 v)):=by
 have:=h.1.set (o:=k) (by rw[List.length_map];have:=h.2;omega) (.int .i64 v);refine⟨⟨by rw[List.map_set];exact this.1,by rw[List.length_set];exact h.2⟩,?_⟩;exact⟨this.2.os,this.2.tape,this.2.output,Nat.le_of_eq this.2.sz.symm,fun j q=>this.2.far j q⟩
theorem ac5.kept {W W':World} {cb:Nat} {T:List Int} (h:ac5 W cb T) (hk:W'.heap[cb]?=W.heap[cb]?) (hz:W.1.size≤W'.1.size):ac5 W' cb T:=⟨h.1.kept hk hz,h.2⟩
theorem a50 {v:VeD} {C:List Value} (hl:C.length=120) (k:Nat):(stA v C k).toList[124]?=some (.int .i64 (k:Int)):=by
 unfold stA;rw[List.toList_toArray,List.getElem?_append_right (by rw[agn hl];exact Nat.le_refl _),agn hl];rfl
theorem bfg {W:World} {d:Nat} {v:VeD} {C:List Value} {k:Nat} (h:Blk W d (stA v C k).toList):W.rangeAt d 4 C:=by
 have:Blk W d ([.int .i64 v.d,.int .i64 v.p,.int .i64 (v.n:Int),.int .i64 v.e]++C++[.int .i64 (k:Int)]):=h;exact this.sub
theorem a4o {Q:Nat→Prop} {W:World} {cb:Nat} {T:List Int} {C:List Value} {v:VeD} {at_:Nat} (hT:ac5 W cb T) (hI:ItM Q W C v.x) (hp:v.p=1∨v.p=2∨v.p=3) (hd:v.d=2) (hC:yj T 1000000000) :
 Calls prog 33 #[.agg (stA v C at_),.pointer (some ⟨cb,0,none⟩)] W fun e w'=>e=.returned (.agg C.toArray)∧ac5 w' cb (acl T v)∧qn (fun j=>j<W.1.size∧j≠cb) W w':=by
 obtain⟨R,hR⟩:=a9k hI;have HIL:=hid hI.len;have HIO:=hid hI.ones;have HT:=hid hT;have HZ:=fun W=>hid (adp W)
 obtain⟨vd,vp,vn,ve,vx⟩:=v;obtain⟨pr,od,U0,N0,T0⟩:=vx;dsimp only at *;subst hd;have HSZ:=hid (akx (v:=⟨2,vp,vn,ve,⟨pr,od,U0,N0,T0⟩⟩) hI.len at_);obtain⟨k,hk⟩:∃k,(if od=true then 5+vp.toNat else 1+vp.toNat)=k:=⟨_,rfl⟩
 have hcv:acl T ⟨2,vp,vn,ve,⟨pr,od,U0,N0,T0⟩⟩=q8 T k 1:=by
  unfold acl ayh;rw[if_neg (show ¬(2:Int)=1 by decide)];rw[hk]
 rw[hcv];have hk13:k<13:=by rw[← hk];split<;>omega
 obtain⟨n,hn⟩:∃n,T.getD k 0=n:=⟨_,rfl⟩;have hn0:=(hC k).1;have hn1:=(hC k).2;rw[hn]at hn0 hn1
 have HCK:∀W1,Below W.1.size W W1→Hid (W1.cell? ⟨cb,k,none⟩=some (.int .i64 n)∧W1.frozen? ⟨cb,k,none⟩=false):=fun W1 hb=>hid (by
  have h1:=HT.out.1.on hb;have h2:ac5 W1 cb T:=⟨h1,HT.out.2⟩;have:=h2.cell k hk13;rw[hn]at this;exact⟨this,h1.fz _⟩)
 have HFIN:∀W1,Below W.1.size W W1→Hid (ac5 (W1.setCell ⟨cb,k,none⟩ (.int .i64 (n+1))) cb (q8 T k 1)∧qn (fun j=>j<W.1.size∧j≠cb) W (W1.setCell ⟨cb,k,none⟩ (.int .i64 (n+1)))∧∀j,j≠cb →(W1.setCell ⟨cb,k,none⟩ (.int .i64 (n+1))).heap[j]?=W1.heap[j]?):=fun W1 hb=>hid (by
  have h2:ac5 W1 cb T:=⟨HT.out.1.on hb,HT.out.2⟩;have hd:=h2.set k (n+1) hk13;refine⟨by rw[← hn]at hd ⊢;exact hd.1,(qn.of_below hb fun j q=>q.1).trans (hd.2.less fun j q=>q.2),fun j q=>hd.2.block j q⟩)
 have HCB:Hid (cb<W.1.size):=hid hT.1.lt;have HRI:=hid hR;clear hC hk13 hn hI hT hR hcv;cases od<;>rcases hp with rfl|rfl|rfl
 all_goals
  have hk':=hk.symm;simp only[Bool.false_eq_true,if_false,if_true,Int.reduceToNat,Nat.reduceAdd]at hk';subst hk';clear hk;go_enter func33,ntmps33
  go_upto_region 1 with(first
   | (refine qr rfl _ _ rfl (stA _ C at_) rfl ?_;intro W1 hW;have K1:=hid (Blk.newL hW rfl);have HB1:=hid (And.intro hW.bel hW.sz);clear hW)
   | (refine qc rfl 64 rfl ala (HZ _).out ?_;intro W2 hW;have K2:=hid (K1.out.grew hW);have R2:=hid (Blk.newL (L:=adc) hW rfl);have HB2:Hid (Below W.1.size W W2∧W1.1.size=W.1.size+1∧W2.1.size=W.1.size+2):=hid ⟨qb HB1.out.1 hW.bel,HB1.out.2,by have:=hW.sz;have:=HB1.out.2;omega⟩;clear hW))
  have hk2:=K2.out;rw[HRI.out]at hk2;have i1:=hk2.cell 1 rfl;have i5:=hk2.cell 5 rfl;obtain⟨ck,zk⟩:=(HCK W2 HB2.out.1).out;have HF1:=HFIN W2 HB2.out.1;clear hk2 HCK HFIN K1 HB1;go_upto_region 4 with fail;have hz1:W.1.size≠cb∧W1.1.size≠cb∧W1.1.size≠W.1.size:=by have:=HCB.out;have:=HB2.out.2;omega
  have K3:=hid (bfg (K2.out.kept (HF1.out.2.2 _ hz1.1) sm));have R3:=hid (R2.out.kept (HF1.out.2.2 _ hz1.2.1) sm);clear i1 i5 ck zk K2 R2;generalize W2.setCell ⟨cb,_,none⟩ (.int .i64 (n+1))=W3 at *
  go_wp2_with (first
   | refine wpList_load_mid rfl 64 _ rfl W.1.size 4 rfl C _ K3.out underlying64 rfl (by rw[HIL.out];kernel_rfl) ?_
   | (refine qe rfl 64 _ _ rfl W1.1.size 0 C.toArray rfl rfl (aap R3.out HIL.out) (by rw[List.size_toArray,HIL.out];kernel_rfl) (ka fun u hu=>HIO.out u (by simpa using hu)) ?_;intro W4 hs;have R4:=hid (acs R3.out HIL.out hs);have HF4:Hid (ac5 W4 cb _∧qn (fun j=>j<W.1.size∧j≠cb) W W4):=hid ⟨HF1.out.1.kept (hs.far _ (fun q=>hz1.2.1 q.symm)) (Nat.le_of_eq hs.sz.symm),HF1.out.2.1.stored hs (fun q=>by have:=HB2.out.2;omega)⟩;clear hs HF1 R3))
  try go_frame
  have HLD:=hid (run_loadVar_mid (P:=prog) W4 W1.1.size 0 64 C _ R4.out.rg underlying64 rfl (by rw[HIL.out];kernel_rfl));refine bodyPost_ret (v:=.agg C.toArray) (by rw[aqe rfl];simp[asAddr,Result.andThen,HLD.out]) rfl ?_;exact⟨rfl,HF4.out⟩
open Go.RowKit Go.Shelf
attribute [local go_sem] Oper.semAt_some
theorem afx {P:Program} {o:Oper} {a:Act} {w W:World} {Q:Exit→Act→World→Prop} {K:Act→World→Prop} {v:Value} (hex:(execOp a.eval o).run P w=.ok (.value v) W) (h:K (a.put o.dst v) W):o.wp P a w K Q:=by
 unfold Oper.wp;rw[hex];exact h
theorem alu {w:World} {B B':Nat} {e:TypeId} {size:Nat} {v:Value} {n:Nat} {xs:List Value} (h:w.ownsRow B e size v n xs) (hB:B'≤B):w.ownsRow B' e size v n xs:=by
 refine⟨h.1,?_⟩;rcases h.2 with q|⟨g,cap,cur,h1,h2,h3,h4⟩
 ·exact .inl q
 ·exact .inr ⟨g,cap,cur,h1,Nat.le_trans hB h2,h3,h4⟩
theorem xz.lower {B B':Nat} {v:Value} {X:List ItD} {w:World} (h:xz B v X w) (hB:B'≤B):xz B' v X w:=by
 obtain⟨Ls,h1,h2⟩:=h;exact⟨Ls,alu h1 hB,h2.less fun k q=>⟨Nat.le_trans hB q.1,q.2⟩⟩
def aa3 (T:List Int) (V:List VeD):List Int:=(V.filter fun v=>decide (v.d=2)).foldl acl T
theorem apf (T:List Int) (V:List VeD) (v:VeD):aa3 T (V++[v])=if v.d=2 then acl (aa3 T V) v else aa3 T V:=by
 unfold aa3;rw[List.filter_append,List.foldl_append]
 by_cases h:v.d=2<;>simp[h]
theorem anz {N:Int}:∀(V:List VeD) {T:List Int},yj T N→yj (aa3 T V) (N+V.length)
 | [],T,h=>by simpa [aa3]using h
 | v::V,T,h=>by
  by_cases hd:v.d=2
  ·have:=anz (N:=N+1) V (T:=acl T v) (ale h _);have e:aa3 T (v::V)=aa3 (acl T v) V:=by simp[aa3,hd]
   rw[e];rw[List.length_cons,show N +((V.length+1:Nat):Int)=N+1 +(V.length:Int)from by omega];exact this
  ·have:=anz V h;have e:aa3 T (v::V)=aa3 T V:=by simp[aa3,hd]
   rw[e];exact fun k=>⟨(this k).1,by have:=(this k).2;rw[List.length_cons];omega⟩
structure a7u (Wg:World) (cb ob eb:Nat) (T:List Int) (pre:List VeD) (a:Nat) (W:World):Prop where
 its:∃u,Blk W ob [u]∧xz (Wg.1.size+2) u (xw pre) W
 en:Blk W eb [.int .i64 (a:Int)]
 cnt:ac5 W cb (aa3 T pre)
 kept:qn (fun j=>j<Wg.1.size∧j≠cb∧j≠ob∧j≠eb) Wg W
theorem a7u.same {Wg:World} {cb ob eb:Nat} {T:List Int} {pre:List VeD} {a:Nat} {W W':World} (h:a7u Wg cb ob eb T pre a W) (hc:cb<Wg.1.size) (ho:ob<Wg.1.size) (he:eb<Wg.1.size) (hk:qn (fun k=>k<W.1.size∧k≠Wg.1.size∧k≠Wg.1.size+1) W W'):a7u Wg cb ob eb T pre a W':=by
 have hz:=h.kept.size;obtain⟨u,h1,h2⟩:=h.its;have kb:∀k,k<Wg.1.size→W'.heap[k]?=W.heap[k]?:=fun k q=>hk.block k om
 exact⟨⟨u,h1.kept (kb _ ho) hk.size,h2.kept (fun k q1 q2=>hk.block k om) hk.size⟩,h.en.kept (kb _ he) hk.size,h.cnt.kept (kb _ hc) hk.size,h.kept.trans (hk.less fun j q=>by omega)⟩
theorem al7 (A:Option Addr) (n c:Nat) (w:World):Calls prog 54 #[.slice A n c] w fun e w'=>e=.returned (.func (.func 70) #[] #[.pointer (some ⟨w.1.size,0,none⟩)])∧w'=w.alloc (.cells #[.slice A n c] 22):=by
 go_enter func54,ntmps54;go_wp2;go_ret;exact⟨rfl,rfl⟩
structure axp (w W:World) (n:Nat) (d o u e:Value):Prop where
 d0:Blk W n [d]
 o1:Blk W (n+1) [o]
 o2:Blk W (n+1+1) [u]
 e3:Blk W (n+1+1+1) [e]
 bel:Below w.1.size w W
 at_:n=w.1.size
theorem axp.mk4 (w:World) (d o u e:Value) (t1 t2 t3 t4:TypeId):axp w ((((w.alloc (.cells #[d] t1)).alloc (.cells #[o] t2)).alloc (.cells #[u] t3)).alloc (.cells #[e] t4)) w.1.size d o u e:=by
 have g1:=qg w #[d] t1;have g2:=qg (w.alloc (.cells #[d] t1)) #[o] t2;have g3:=qg ((w.alloc (.cells #[d] t1)).alloc (.cells #[o] t2)) #[u] t3;have g4:=qg (((w.alloc (.cells #[d] t1)).alloc (.cells #[o] t2)).alloc (.cells #[u] t3)) #[e] t4;have z1:(w.alloc (.cells #[d] t1)).1.size=w.1.size+1:=by simp
 have z2:((w.alloc (.cells #[d] t1)).alloc (.cells #[o] t2)).1.size=w.1.size+1+1:=by simp
 have z3:(((w.alloc (.cells #[d] t1)).alloc (.cells #[o] t2)).alloc (.cells #[u] t3)).1.size=w.1.size+1+1+1:=by simp
 refine⟨((((Blk.newL g1 rfl).grew g2).grew g3).grew g4),?_,?_,?_,qb (qb (qb g1.bel g2.bel) g3.bel) g4.bel,rfl⟩
 ·have:=Blk.newL g2 rfl;rw[z1]at this;exact(this.grew g3).grew g4
 ·have:=Blk.newL g3 rfl;rw[z2]at this;exact this.grew g4
 ·have:=Blk.newL g4 rfl;rw[z3]at this;exact this
theorem axp.grew {w W W':World} {n:Nat} {d o u e:Value} {C:Array Value} (h:axp w W n d o u e) (hg:axq W W' C):axp w W' n d o u e:=⟨h.d0.grew hg,h.o1.grew hg,h.o2.grew hg,h.e3.grew hg,qb h.bel hg.bel,h.at_⟩
theorem ajg (V:List VeD):(xw V).length≤V.length:=by
 unfold xw;rw[List.length_map];exact List.length_filter_le _ _
theorem adr {P:Program} {o:Oper} {a:Act} {w W:World} {t:TypeId} {x:Operand} (ho:o.op=.buildSlice t 1 #[(0,x)]) {u v:Value} (hx:a.eval x=u) (hr:(Instr.buildSlice t 1 #[(0,u)]).run P w=.ok v W):(execOp a.eval o).run P w=.ok (.value v) W:=by
 unfold execOp;rw[ho];simp[hx,hr]
def agq (n d:Nat) (W W':World):Prop:=W'.heap[n+1]?=W.heap[n+1]?∧W'.heap[d]?=W.heap[d]?
theorem a85 {Wg V0 W2 w4:World} {cb n d:Nat} {T:List Int} {pre:List VeD} {a0 at_:Nat} {u:Value} {v:VeD} {C:List Value} (hz:Wg.1.size=n+5) (hcb:cb<n) (hi:a7u Wg cb (n+1+1) (n+1+1+1) T pre a0 W2) (hu:Blk W2 (n+1+1) [u]) (hrow:xz (Wg.1.size+2) u (xw pre) W2)
 (hown:∀k,u.ownBlock=some k→Wg.1.size+2≤k∧k<V0.1.size) (hz0:Wg.1.size+2≤V0.1.size) (hd:V0.1.size≤d) (hz2:W2.1.size=d+1) (hit:ItM (fun k=>V0.1.size≤k∧k<d) W2 C v.x) (h2:v.d=2) (hn:(xw pre).length+1≤20000000)
 (hc4:ac5 w4 cb (acl (aa3 T pre) v)) (hk4:qn (fun j=>j<(W2.setCell ⟨n+1+1+1,0,none⟩ (.int .i64 (at_:Int))).drew.1.size∧j≠cb) (W2.setCell ⟨n+1+1+1,0,none⟩ (.int .i64 (at_:Int))).drew w4) :
 ∃A8 n8 c8 W8,(Builtin.append_ #[75,75] 75 #[u,.slice (some ⟨w4.1.size,0,none⟩) 1 1]).run prog (w4.alloc (.cells C.toArray 64))=.ok (.slice A8 n8 c8) W8 ∧
  Blk w4 (n+1+1) [u]∧Blk (w4.alloc (.cells C.toArray 64)) (n+1+1) [u]∧Blk W8 (n+1+1) [u] ∧
  (a7u Wg cb (n+1+1) (n+1+1+1) T (pre++[v]) at_ (W8.setCell ⟨n+1+1,0,none⟩ (.slice A8 n8 c8))∧∀k,(k=Wg.1.size∨k=Wg.1.size+1∨V0.1.size≤k∧k<d) →(W8.setCell ⟨n+1+1,0,none⟩ (.slice A8 n8 c8)).heap[k]?=W2.heap[k]?) ∧
  agq n d W2 w4∧agq n d W2 (w4.alloc (.cells C.toArray 64))∧agq n d W2 W8∧agq n d W2 (W8.setCell ⟨n+1+1,0,none⟩ (.slice A8 n8 c8)):=by
 obtain⟨he3,hs3⟩:=hi.en.set (o:=0) sm (.int .i64 (at_:Int));generalize hW3:W2.setCell ⟨n+1+1+1,0,none⟩ (.int .i64 (at_:Int))=W3 at *;have k4:∀k,k<d+1→k≠cb→k≠n+1+1+1→w4.heap[k]?=W2.heap[k]?:=fun k q1 q2 q3=>(hk4.block k ⟨by show k<W3.1.size;rw[hs3.sz];omega,q2⟩).trans (hs3.far k q3)
 have hz4:d+1≤w4.1.size:=by have:=hk4.size;have h':W3.drew.1.size=W3.1.size:=rfl;rw[h',hs3.sz]at this;omega
 have he4:Blk w4 (n+1+1+1) [.int .i64 (at_:Int)]:=he3.kept (hk4.block _ ⟨by show _<W3.1.size;rw[hs3.sz];omega,by omega⟩) hk4.size;have hu4:Blk w4 (n+1+1) [u]:=hu.kept (k4 _ om om om) om;have hr4:xz (Wg.1.size+2) u (xw pre) w4:=hrow.kept (fun k q1 q2=>k4 k om om om) om;have hi4:ItM (fun k=>V0.1.size≤k∧k<d) w4 C v.x:=hit.keep fun k q=>k4 k om om om
 have hba:=qa w4 (.cells C.toArray 64);have hz5:(w4.alloc (.cells C.toArray 64)).1.size=w4.1.size+1:=by simp
 have hblk:Blk (w4.alloc (.cells C.toArray 64)) w4.1.size C:=Blk.newL (qg w4 _ _) List.toList_toArray
 have hfl:qf (fun _=>True) (w4.alloc (.cells C.toArray 64)) (some ⟨w4.1.size,0,none⟩) [C].flatten:=by
  rw[show [C].flatten=C from by simp];exact hblk.flat trivial
 have hits:ab4 (fun k=>Wg.1.size+2≤k∧k<(w4.alloc (.cells C.toArray 64)).1.size∧some k≠u.ownBlock) (w4.alloc (.cells C.toArray 64)) [C] [v.x]:=ab4.one ((hi4.keep fun k q=>hba.block k om).less fun k q=>⟨by omega,by omega,fun r=>by have:=(hown k r.symm).2;omega⟩);obtain⟨v8,W8,hrun,hr8,hb8,hx8,-⟩:=(hr4.kept (fun k _ r=>hba.block k r) hba.size).app om (some ⟨w4.1.size,0,none⟩) 1 [C] hfl hits (by simp;omega);obtain⟨A8,c8,rfl,-⟩:=hr8.slice;have ou:∀k,k<Wg.1.size+2∨V0.1.size≤k→some k≠u.ownBlock:=fun k q r=>by have:=hown k r.symm;omega
 have k8:∀k,k<d+1 →(k<Wg.1.size+2∨V0.1.size≤k)→W8.heap[k]?=w4.heap[k]?:=fun k q1 q2=>(hx8 k om (ou k q2)).trans (hba.block k om)
 have hz8:=hb8.size;have hu8:Blk W8 (n+1+1) [u]:=hu4.kept (k8 _ om om) om;obtain⟨hu9,hs9⟩:=hu8.set (o:=0) sm (.slice A8 ((xw pre)++[v.x]).length c8);refine⟨A8,_,c8,W8,hrun,hu4,hu4.on hba,hu8,⟨⟨⟨_,hu9,?_⟩,?_,?_,?_⟩,?_⟩,?_,?_,?_,?_⟩
 ·rw[ajf,if_pos h2];exact hr8.kept (fun k q1 q2=>hs9.far k om) (Nat.le_of_eq hs9.sz.symm)
 ·exact he4.kept ((hs9.far _ om).trans (k8 _ om om)) (by have:=hs9.sz;omega)
 ·rw[apf,if_pos h2];exact hc4.kept ((hs9.far _ om).trans (k8 _ om om)) (by have:=hs9.sz;omega)
 ·have h1:qn (fun j=>j<Wg.1.size∧j≠cb∧j≠n+1+1∧j≠n+1+1+1) W2 W3:=⟨hs3.os,hs3.tape,hs3.output,Nat.le_of_eq hs3.sz.symm,fun k q=>hs3.far k q.2.2.2⟩;have h2:qn (fun j=>j<Wg.1.size∧j≠cb∧j≠n+1+1∧j≠n+1+1+1) W3 w4:=(⟨hk4.os,hk4.tape,hk4.output,hk4.size,hk4.block⟩:qn (fun j=>j<W3.drew.1.size∧j≠cb) W3 w4).less fun j q=>⟨by show j<W3.1.size;rw[hs3.sz];omega,q.2.1⟩
  have h3:qn (fun j=>j<Wg.1.size∧j≠cb∧j≠n+1+1∧j≠n+1+1+1) w4 W8:=(qn.of_below hba fun j q=>by omega).trans (qn.of_below hb8 fun j q=>by omega);exact(((hi.kept.trans h1).trans h2).trans h3).trans ⟨hs9.os,hs9.tape,hs9.output,Nat.le_of_eq hs9.sz.symm,fun k q=>hs9.far k q.2.2.1⟩
 ·intro k q;exact(hs9.far k om).trans ((k8 k om om).trans (k4 k om om om))
 ·exact⟨k4 _ om om om,k4 _ om om om⟩
 ·exact⟨(hba.block _ om).trans (k4 _ om om om),(hba.block _ om).trans (k4 _ om om om)⟩
 ·exact⟨(k8 _ om om).trans (k4 _ om om om),(k8 _ om om).trans (k4 _ om om om)⟩
 ·exact⟨(hs9.far _ om).trans ((k8 _ om om).trans (k4 _ om om om)),(hs9.far _ om).trans ((k8 _ om om).trans (k4 _ om om om))⟩
set_option maxRecDepth 100000 in
theorem ay7 {w:World} {cb:Nat} {T:List Int} {A:Option Addr} {c:Nat} {b:List UInt8} (hT:ac5 w cb T) (hTk:yj T 900000000) (hf:qf (fun k=>k<w.1.size∧k≠cb) w A (bsV b)) (hb:b.length≤1000000) (hc:b.length≤c) :
 Calls prog 32 #[.slice A b.length c,.int .i64 2,.func (.func 33) #[] #[.pointer (some ⟨cb,0,none⟩)]] w fun e w'=>∃v,e=.returned (.tuple #[v,.int .i64 ((b.length-(q6 b).2.length:Nat):Int)])∧xz w.1.size v (xw (q6 b).1) w'∧ac5 w' cb (aa3 T (q6 b).1)∧qn (fun j=>j<w.1.size∧j≠cb) w w':=by
 have HT:=hid (And.intro hT hTk);have HF:=hid hf;have HBC:=hid (And.intro hb hc);have HZS:=fun W=>hid (aoc W)
 clear hT hTk hf;refine jw func32 rfl ?_;simp only[ntmps32,List.size_toArray,List.length_cons,List.length_nil,Nat.reduceAdd,Nat.reduceSub,Array.replicate_succ,Array.replicate_zero,List.push_toArray,List.append_toArray,List.nil_append,List.cons_append];go_upto_region 3 with fail;have HG4:=hid (axp.mk4 w (.int .i64 2) (.func (.func 33) #[] #[.pointer (some ⟨cb,0,none⟩)]) (.slice none 0 0) (.int .i64 0) 3 107 75 3);have hz4:((((w.alloc (.cells #[.int .i64 2] 3)).alloc (.cells #[.func (.func 33) #[] #[.pointer (some ⟨cb,0,none⟩)]] 107)).alloc (.cells #[.slice none 0 0] 75)).alloc (.cells #[.int .i64 0] 3)).1.size=w.1.size+4:=by simp
 generalize ((((w.alloc (.cells #[.int .i64 2] 3)).alloc (.cells #[.func (.func 33) #[] #[.pointer (some ⟨cb,0,none⟩)]] 107)).alloc (.cells #[.slice none 0 0] 75)).alloc (.cells #[.int .i64 0] 3))=W4 at *;generalize hn:w.1.size=n at *;have HN:=hid hn;clear hn;go_wp2_with fail;refine(al7 A b.length c W4).mono ?_;rintro e Wg ⟨rfl,hWg⟩;have hg5:=qg W4 #[.slice A b.length c] 22;rw[← hWg]at hg5;have HG5:=hid (HG4.out.grew hg5);have HBX:=hid (Blk.newL hg5 rfl);have hz5:Wg.1.size=n+5:=by have:=hg5.sz;omega
 have HZ5:=hid hz5;rw[hz4]at HBX ⊢;clear HG4 hWg hg5 hz4 hz5;go_wp2_with fail;have hcb:cb<n:=by have:=HT.out.1.1.lt;have:=HN.out;omega
 have HCB:=hid hcb;clear hcb;refine(wpIn_wide (n:=8)).1 ?_
 refine adb (m:=8) (bx:=n+4) rfl (N:=fun k=>k<Wg.1.size∧k≠cb∧k≠n+1+1∧k≠n+1+1+1) (A:=A) (c:=c) (b:=b) (HBX.out.cell 0 rfl) ⟨HBX.out.lt,by have:=HCB.out;omega,by omega,by omega⟩ (fun k q=>q.1)
  ((HF.out.keep fun k q=>HG5.out.bel.block k (by rw[HN.out];exact q.1)).less fun k q=>⟨by have:=HZ5.out;omega,q.2,by omega,by omega⟩) HBC.out.1 HBC.out.2 rfl (a7u Wg cb (n+1+1) (n+1+1+1) T) (fun pre a V h=>⟨fun k q=>h.kept.block k q,h.kept.size⟩)
  (fun pre a V V' h hk=>h.same (by have:=HCB.out;have:=HZ5.out;omega) (by have:=HZ5.out;omega) (by have:=HZ5.out;omega) hk)
  ⟨⟨_,HG5.out.o2,xz.nil _ _⟩,HG5.out.e3,⟨HT.out.1.1.below HG5.out.bel (by rw[HN.out];exact HCB.out),HT.out.1.2⟩,qn.refl _ _⟩
  (fun T0 u d=>(T0.setIfInBounds 13 u).setIfInBounds 10 (.pointer (some ⟨d,0,none⟩))) ?assign ?body ?done
 case assign=>
  intro l x V K hs1 hs2 hK;have HK:=hid hK;clear hK;refine ado (r:=some l) (fun⟨_,_,h⟩=>h) sm ?_;simp only[List.zip_toArray,List.zip_cons_cons,List.zip_nil_right,List.foldl_toArray,List.foldl_cons,List.foldl_nil,List.setIfInBounds_toArray,List.set_cons_succ,List.set_cons_zero];go_wp2_with ((refine qc rfl 106 rfl a2e (HZS _).out ?_;intro V1 hW;have HV1:=hid (Blk.new hW);have HB1:=hid (And.intro hW.bel hW.sz);clear hW;refine qe rfl 106 _ _ rfl V.1.size 0 x rfl rfl (HV1.out.there 0 x.size (by rw[hs1,Array.length_toList,acr];decide)) (by rw[hs1];kernel_rfl) hs2 ?_;intro V2 hs;have HV2:=hid (HV1.out.all hs (by rw[Array.length_toList,Array.length_toList,hs1,acr]));have HB2:Hid (Below V.1.size V V2∧V2.1.size=V.1.size+1):=hid ⟨HB1.out.1.trans (hs.below (Nat.le_refl _)),hs.sz.trans HB1.out.2⟩))
  try go_frame
  exact HK.out V2 HV2.out HB2.out.1 HB2.out.2
 case body=>
  rintro l pre a0 at_ r C V0 W2 d rfl hzz hi hst hk hit hblk hd hz;simp only[List.setIfInBounds_toArray,List.set_cons_zero,List.set_cons_succ];have hZ:=HZ5.out;have hCB:=HCB.out;have hz0:=hi.kept.size;have hi2:=hi.same om om om hk;obtain⟨u,hu,hits⟩:=hi.its;have hu2:Blk W2 (n+1+1) [u]:=hu.kept (hk.block _ om) hk.size;have hits2:xz (Wg.1.size+2) u (xw pre) W2:=hits.kept (fun k q1 q2=>hk.block k om) hk.size;have HOW:Hid (∀k,u.ownBlock=some k→Wg.1.size+2≤k∧k<V0.1.size):=hid fun k q=>hits.own q
  have HST:=hid hst;have HI2:=hid hi2;have HIT:=hid hit;have HBK:=hid hblk;have HRW:=hid hits2;have HU2:=hid hu2;have HSZ:Hid (True∧V0.1.size≤d∧W2.1.size=d+1∧Wg.1.size+2≤V0.1.size):=hid ⟨trivial,hd,hz,hzz⟩;have HVK:=hid (fun q=>ak6 r q);have HLV:Hid (pre.length≤b.length):=hid (by have h1:=congrArg (fun p=>p.1.length) hst.sc;have h2:=ac2 b;simp only[List.length_append]at h1;omega);have c124:=hblk.cell 124 (a50 hit.len at_);have c0:W2.cell? ⟨d,0,none⟩=some (.int .i64 (zm r).d):=hblk.cell 0 rfl;have ec:=hi2.en.cell 0 rfl;have ef:=hi2.en.fz 0;have dc:W2.cell? ⟨n,0,none⟩=some (.int .i64 2):=(World.cell?_of_block (a:=⟨n,0,none⟩) (hi2.kept.block n om)).trans (HG5.out.d0.cell 0 rfl);have oc:W2.cell? ⟨n+1,0,none⟩=some (.func (.func 33) #[] #[.pointer (some ⟨cb,0,none⟩)]):=(World.cell?_of_block (a:=⟨n+1,0,none⟩) (hi2.kept.block (n+1) om)).trans (HG5.out.o1.cell 0 rfl)
  have hne:d≠n+1+1+1:=by omega
  clear hi hst hk hit hblk hz0 hi2 hu hits hu2 hits2 hZ hCB;generalize zm r=v at *
  by_cases h2:v.d=2
  ·rw[h2]at c0
   gi_wp2_with fail
   have HIL:=hid HIT.out.len;have HVS:=hid (akx (v:=v) HIL.out at_);have HTL:=hid (fun w4 hc4 hk4=>a85 (w4:=w4) (at_:=at_) HZ5.out HCB.out HI2.out HU2.out HRW.out HOW.out HSZ.out.2.2.2 HSZ.out.2.1 HSZ.out.2.2.1 HIT.out h2 (by have h1:=ajg pre;have:=HLV.out;omega) hc4 hk4);obtain⟨he3,hs3⟩:=HI2.out.en.set (o:=0) sm (.int .i64 (at_:Int));have HP1:=hid (a4o (W:=(W2.setCell ⟨n+1+1+1,0,none⟩ (.int .i64 (at_:Int))).drew) (cb:=cb) (T:=aa3 T pre) (C:=C) (v:=v) (at_:=at_) ⟨(HI2.out.cnt.1.kept (hs3.far cb (by have:=HCB.out;omega)) (Nat.le_of_eq hs3.sz.symm)).drew,HI2.out.cnt.2⟩ (HIT.out.keep fun k q=>hs3.far k (by have:=HSZ.out;have:=HZ5.out;omega)) (by have:=HVK.out om;have h1:=this.1;have h3:=this.2;omega) h2 (fun k=>by have:=anz pre HT.out.2 k;have:=HLV.out;have:=HBC.out.1;omega));have uX:(W2.setCell ⟨n+1+1+1,0,none⟩ (.int .i64 (at_:Int))).drew.cell? ⟨n+1+1,0,none⟩=some u:=(World.cell?_of_block (a:=⟨n+1+1,0,none⟩) (hs3.far (n+1+1) om)).trans (HU2.out.cell 0 rfl)
   have HS0:Hid (agq n d W2 (W2.setCell ⟨n+1+1+1,0,none⟩ (.int .i64 (at_:Int))).drew):=hid ⟨hs3.far (n+1) om,hs3.far d hne⟩;have HOC:=hid oc;clear he3 hs3 c124 c0 ec ef dc oc HI2 HRW HU2 HST;generalize (W2.setCell ⟨n+1+1+1,0,none⟩ (.int .i64 (at_:Int)))=W3 at *;refine ak7 (r:=some (Wg.1.size+1)) (S:=agq n d W2) (fun⟨_,_,h⟩=>h) sm kr HS0.out (fun hHeld=>?_);refine tkQ (i:=1) (oi:=⟨some 22,_,_,_,_,_⟩) (v:=?_) rfl (Or.inl ⟨by rfl,?_⟩) ?_;rotate_left
   ·intro w' hSw;have oc:=(World.cell?_of_block (a:=⟨n+1,0,none⟩) hSw.1).trans HOC.out;go_simp
    try with_reducible rfl
   try go_frame
   refine tkQ (i:=2) (oi:=⟨some 23,_,_,_,_,_⟩) (v:=_) rfl (yieldsIf_load_mid (by rfl) 106 _ rfl d 0 rfl (stA v C at_).toList _ (fun w' hSw=>abs HBK.out.rg hSw.2) underlying106 rfl (by rw[Array.length_toList,HVS.out];kernel_rfl)) ?_
   try go_frame
   refine wpAnyH_ready (rs:=[0,3]) kr sm ?_;refine AllReadyH.cons (o:=⟨some 21,_,_,_,_,_⟩) rfl (fun K0 hK0=>?_) (AllReadyH.cons (o:=⟨some 24,_,_,_,_,_⟩) rfl (fun K3 hK3=>?_) AllReadyH.nil)
   ·rw[if_pos (by rfl)];go_step
    try go_frame
    refine hK0.out _ _ (HS0.out) (fun _=>?_);clear hK0 K0
    try go_frame
    refine rdB 3 24 rfl fun K3a hK3a=>?_
    go_step;refine HP1.out.mono ?_;rintro e w4 ⟨rfl,hc4,hk4⟩;obtain⟨A8,n8,c8,W8,hrun,hb4,hb5,hb8,hfin,hs4,hs5,hs8,hs9⟩:=HTL.out w4 hc4 hk4;have HRUN:=hid hrun;have HFIN:=hid hfin;have HS4:=hid hs4;have HS5:=hid hs5;have HS8:=hid hs8;have HS9:=hid hs9;have u4:=hb4.cell 0 rfl;have u5:=hb5.cell 0 rfl;have u8:=hb8.cell 0 rfl;have f8:=hb8.fz 0;have HSL:=hid (apb HIL.out w4);clear hc4 hk4 hrun hfin hs4 hs5 hs8 hs9 hb4 hb5 hb8
    try go_frame
    refine hK3a.out _ _ (HS4.out) (fun _=>?_);clear hK3a K3a
    try go_frame
    refine rdB 4 25 rfl fun K4ac hK4ac=>?_
    refine afx (v:=.slice (some ⟨w4.1.size,0,none⟩) 1 1) (W:=w4.alloc (.cells C.toArray 64)) (adr (u:=.agg C.toArray) rfl rfl HSL.out) ?_
    try go_frame
    refine hK4ac.out _ _ (HS5.out) (fun _=>?_);clear hK4ac K4ac
    try go_frame
    refine rdB 5 26 rfl fun K5acc hK5acc=>?_
    refine jm _ _ 75 rfl _ _ _ rfl rfl HRUN.out ?_
    try go_frame
    refine hK5acc.out _ _ (HS8.out) (fun _=>?_);clear hK5acc K5acc
    try go_frame
    refine wpAnyH_ready (rs:=[6]) kr sm ?_;refine AllReadyH.cons (o:=⟨none,_,_,_,_,_⟩) rfl (fun K6accc hK6accc=>?_) AllReadyH.nil;rw[if_pos (by rfl)];go_step
    try go_frame
    refine hK6accc.out _ _ (HS9.out) (fun _=>?_);clear hK6accc K6accc
    try go_frame
    refine wpAnyH_done kr ?_ _
    try go_frame
    go_wp2_with fail;exact HFIN.out
   ·rw[if_pos (by rfl)];go_step;refine HP1.out.mono ?_;rintro e w4 ⟨rfl,hc4,hk4⟩;obtain⟨A8,n8,c8,W8,hrun,hb4,hb5,hb8,hfin,hs4,hs5,hs8,hs9⟩:=HTL.out w4 hc4 hk4;have HRUN:=hid hrun;have HFIN:=hid hfin;have HS4:=hid hs4;have HS5:=hid hs5;have HS8:=hid hs8;have HS9:=hid hs9;have u4:=hb4.cell 0 rfl;have u5:=hb5.cell 0 rfl;have u8:=hb8.cell 0 rfl;have f8:=hb8.fz 0;have HSL:=hid (apb HIL.out w4);clear hc4 hk4 hrun hfin hs4 hs5 hs8 hs9 hb4 hb5 hb8
    try go_frame
    refine hK3.out _ _ (HS4.out) (fun _=>?_);clear hK3 K3
    try go_frame
    refine wpAnyH_ready (rs:=[0,4]) kr sm ?_;refine AllReadyH.cons (o:=⟨some 21,_,_,_,_,_⟩) rfl (fun K0b hK0b=>?_) (AllReadyH.cons (o:=⟨some 25,_,_,_,_,_⟩) rfl (fun K4b hK4b=>?_) AllReadyH.nil)
    ·rw[if_pos (by rfl)];go_step
     try go_frame
     refine hK0b.out _ _ (HS4.out) (fun _=>?_);clear hK0b K0b
     try go_frame
     refine rdB 4 25 rfl fun K4ba hK4ba=>?_
     refine afx (v:=.slice (some ⟨w4.1.size,0,none⟩) 1 1) (W:=w4.alloc (.cells C.toArray 64)) (adr (u:=.agg C.toArray) rfl rfl HSL.out) ?_
     try go_frame
     refine hK4ba.out _ _ (HS5.out) (fun _=>?_);clear hK4ba K4ba
     try go_frame
     refine rdB 5 26 rfl fun K5bac hK5bac=>?_
     refine jm _ _ 75 rfl _ _ _ rfl rfl HRUN.out ?_
     try go_frame
     refine hK5bac.out _ _ (HS8.out) (fun _=>?_);clear hK5bac K5bac
     try go_frame
     refine wpAnyH_ready (rs:=[6]) kr sm ?_;refine AllReadyH.cons (o:=⟨none,_,_,_,_,_⟩) rfl (fun K6bacc hK6bacc=>?_) AllReadyH.nil;rw[if_pos (by rfl)];go_step
     try go_frame
     refine hK6bacc.out _ _ (HS9.out) (fun _=>?_);clear hK6bacc K6bacc
     try go_frame
     refine wpAnyH_done kr ?_ _
     try go_frame
     go_wp2_with fail;exact HFIN.out
    ·rw[if_pos (by rfl)];refine afx (v:=.slice (some ⟨w4.1.size,0,none⟩) 1 1) (W:=w4.alloc (.cells C.toArray 64)) (adr (u:=.agg C.toArray) rfl rfl HSL.out) ?_
     try go_frame
     refine hK4b.out _ _ (HS5.out) (fun _=>?_);clear hK4b K4b
     try go_frame
     refine rdB 0 21 rfl fun K0bb hK0bb=>?_
     go_step
     try go_frame
     refine hK0bb.out _ _ (HS5.out) (fun _=>?_);clear hK0bb K0bb
     try go_frame
     refine rdB 5 26 rfl fun K5bbc hK5bbc=>?_
     refine jm _ _ 75 rfl _ _ _ rfl rfl HRUN.out ?_
     try go_frame
     refine hK5bbc.out _ _ (HS8.out) (fun _=>?_);clear hK5bbc K5bbc
     try go_frame
     refine wpAnyH_ready (rs:=[6]) kr sm ?_;refine AllReadyH.cons (o:=⟨none,_,_,_,_,_⟩) rfl (fun K6bbcc hK6bbcc=>?_) AllReadyH.nil;rw[if_pos (by rfl)];go_step
     try go_frame
     refine hK6bbcc.out _ _ (HS9.out) (fun _=>?_);clear hK6bbcc K6bbcc
     try go_frame
     refine wpAnyH_done kr ?_ _
     try go_frame
     go_wp2_with fail;exact HFIN.out
  ·have h2':(v.d==2)=false:=by rw[beq_eq_false_iff_ne];exact h2
   gi_wp2_with fail
   obtain⟨he3,hs3⟩:=HI2.out.en.set (o:=0) sm (.int .i64 (at_:Int));refine⟨⟨⟨u,HU2.out.kept (hs3.far (n+1+1) om) (Nat.le_of_eq hs3.sz.symm),?_⟩,he3,?_,?_⟩,fun k q=>hs3.far k ?_⟩
   ·rw[ajf,if_neg h2];exact HRW.out.kept (fun k q1 q2=>hs3.far k (by have:=HZ5.out;omega)) (Nat.le_of_eq hs3.sz.symm)
   ·rw[apf,if_neg h2];exact HI2.out.cnt.kept (hs3.far cb (by have:=HCB.out;omega)) (Nat.le_of_eq hs3.sz.symm)
   ·exact HI2.out.kept.trans ⟨hs3.os,hs3.tape,hs3.output,Nat.le_of_eq hs3.sz.symm,fun k q=>hs3.far k q.2.2.2⟩
   ·have:=HZ5.out;have:=HSZ.out;omega
 case done=>
  rintro D W rfl hi hK;have hr0:=(ah3 b).1;have e1:xw ((q6 b).1++[zm (q6 b).2])=xw (q6 b).1:=by rw[ajf,if_neg om]
  have e2:aa3 T ((q6 b).1++[zm (q6 b).2])=aa3 T (q6 b).1:=by rw[apf,if_neg om]
  obtain⟨u,hu,hits⟩:=hi.its;obtain⟨A8,c8,rfl,-⟩:=hits.slice;have hcnt:=hi.cnt;rw[e1]at hits hu;rw[e2]at hcnt;have uc:=hu.cell 0 rfl;have ec:=hi.en.cell 0 rfl;have HK:=hid hK;have HC:=hid hcnt;have HR:=hid hits;have HKP:=hid hi.kept;clear hi hK hu hits hcnt hr0 e1 e2 HZS;generalize hen:b.length-(q6 b).2.length=en at *;have HEN:=hid hen;clear hen;go_wp2_with fail
  go_region
  clear uc ec;go_wp2_with fail;have hkd:W.drew.heap[Wg.1.size]?=some (.deferred (some [])):=HK.out;refine⟨by simp,.inl ⟨_,_,rfl,run_takeDeferred hkd,?_⟩⟩;have hlt:=(Array.getElem?_eq_some_iff.1 hkd).1;have hput:∀k,k≠Wg.1.size →(W.drew.putObj Wg.1.size (.deferred none)).heap[k]?=W.heap[k]?:=fun k q=>World.putObj_heap_other q
  have hpz:W.1.size ≤(W.drew.putObj Wg.1.size (.deferred none)).1.size:=by simp[World.putObj]
  have hZ:=HZ5.out;have hN:=HN.out;refine⟨_,results_tmp2 rfl _ _ _,_,by rw[HEN.out];rfl,(HR.out.kept (fun k q _=>hput k om) hpz).lower om,HC.out.kept (hput cb (by have:=HCB.out;omega)) hpz,?_⟩;have h1:qn (fun j=>j<w.1.size∧j≠cb) w Wg:=qn.of_below HG5.out.bel fun j q=>q.1
  exact(h1.trans (HKP.out.less fun j q=>⟨by omega,q.2,by omega,by omega⟩)).trans ⟨rfl,rfl,rfl,hpz,fun k q=>hput k om⟩
open Go.RowKit Go.Shelf
attribute [local go_sem] Oper.semAt_some
def vh (V:List VeD):List Int:=(V.filter fun v=>decide (v.d=1)).map (·.p)
theorem alo (V:List VeD) (v:VeD):vh (V++[v])=if v.d=1 then vh V++[v.p]else vh V:=by
 unfold vh
 by_cases h:v.d=1<;>simp[h]
theorem ays (V:List VeD):(vh V).length≤V.length:=by
 unfold vh;rw[List.length_map];exact List.length_filter_le _ _
theorem qn.belowM {S:Nat→Prop} {B:Nat} {w w':World} (h:qn S w w') (hS:∀j,j<B→S j) (hB:B≤w.1.size):Below B w w':=⟨h.os,h.tape,h.output,h.size,fun k q=>h.block k (hS k q)⟩
structure a7v (Wg:World) (ob eb:Nat) (pre:List VeD) (a:Nat) (W:World):Prop where
 its:∃u,Blk W ob [u]∧W.ownsRow (Wg.1.size+2) 3 1 u (vh pre).length ((vh pre).map (Value.int .i64))
 en:Blk W eb [.int .i64 (a:Int)]
 kept:qn (fun j=>j<Wg.1.size∧j≠ob∧j≠eb) Wg W
theorem a7v.same {Wg:World} {ob eb:Nat} {pre:List VeD} {a:Nat} {W W':World} (h:a7v Wg ob eb pre a W) (ho:ob<Wg.1.size) (he:eb<Wg.1.size) (hk:qn (fun k=>k<W.1.size∧k≠Wg.1.size∧k≠Wg.1.size+1) W W'):a7v Wg ob eb pre a W':=by
 have hz:=h.kept.size;obtain⟨u,h1,h2⟩:=h.its;have kb:∀k,k<Wg.1.size→W'.heap[k]?=W.heap[k]?:=fun k q=>hk.block k om
 exact⟨⟨u,h1.kept (kb _ ho) hk.size,ac1 h2 (fun k q1 q2=>hk.block k om)⟩,h.en.kept (kb _ he) hk.size,h.kept.trans (hk.less fun j q=>by omega)⟩
theorem a4p (W:World) {C:List Value} {v:VeD} {at_:Nat} (hl:C.length=120) (ho:∀u∈C,u.oneCell'=true):Calls prog 35 #[.agg (stA v C at_)] W fun e w'=>e=.returned (.int .i64 v.p)∧Below W.1.size W w':=by
 have HC:∀W1,Blk W1 W.1.size (stA v C at_).toList→Hid (W1.cell? ⟨W.1.size,1,none⟩=some (.int .i64 v.p)):=fun W1 h=>hid (h.cell 1 rfl)
 go_enter func35,ntmps35;go_upto_region 1 with(refine qr rfl _ _ rfl (stA v C at_) rfl ?_;intro W1 hW;have h1:=(HC W1 (Blk.newL hW rfl)).out;have HB1:=hid hW.bel;clear hW)
 go_wp2_with fail;go_ret;exact⟨rfl,HB1.out⟩
theorem asw (p:Int) (w:World):(Instr.buildSlice 108 1 #[(0,.int .i64 p)]).run prog w=.ok (.slice (some ⟨w.1.size,0,none⟩) 1 1) (w.alloc (.cells #[.int .i64 p] 3)):=by kernel_rfl
theorem a9j:(prog.info? 3).map (fun i=>(i.zero,i.size,i.bytes))=some (some (.int .i64 0),1,8):=by kernel_rfl
theorem bdi:∃i z,prog.info? 3=some i∧i.zero=some z∧i.size=1∧i.bytes=8∧z.cells.size=1:=by
 have h:=a9j;cases hi:prog.info? 3 with
 | none=>rw[hi]at h;cases h
 | some i=>
  rw[hi,Option.map_some,Option.some.injEq,Prod.mk.injEq,Prod.mk.injEq]at h;exact⟨i,_,rfl,h.1,h.2.1,h.2.2,rfl⟩
theorem a86 {Wg V0 W2 w4:World} {n d:Nat} {pre:List VeD} {a0 at_:Nat} {u:Value} {v:VeD} (hz:Wg.1.size=n+5) (hi:a7v Wg (n+1+1) (n+1+1+1) pre a0 W2) (hu:Blk W2 (n+1+1) [u]) (hrow:W2.ownsRow (Wg.1.size+2) 3 1 u (vh pre).length ((vh pre).map (Value.int .i64)))
 (hown:∀k,u.ownBlock=some k→Wg.1.size+2≤k∧k<V0.1.size) (hz0:Wg.1.size+2≤V0.1.size) (hd:V0.1.size≤d) (hz2:W2.1.size=d+1) (h2:v.d=1) (hn:(vh pre).length+1≤20000000)
 (hb4:Below (W2.setCell ⟨n+1+1+1,0,none⟩ (.int .i64 (at_:Int))).drew.1.size (W2.setCell ⟨n+1+1+1,0,none⟩ (.int .i64 (at_:Int))).drew w4) :
 ∃A8 n8 c8 W8,(Builtin.append_ #[108,108] 108 #[u,.slice (some ⟨w4.1.size,0,none⟩) 1 1]).run prog (w4.alloc (.cells #[.int .i64 v.p] 3))=.ok (.slice A8 n8 c8) W8 ∧
  Blk w4 (n+1+1) [u]∧Blk (w4.alloc (.cells #[.int .i64 v.p] 3)) (n+1+1) [u]∧Blk W8 (n+1+1) [u] ∧
  (a7v Wg (n+1+1) (n+1+1+1) (pre++[v]) at_ (W8.setCell ⟨n+1+1,0,none⟩ (.slice A8 n8 c8))∧∀k,(k=Wg.1.size∨k=Wg.1.size+1∨V0.1.size≤k∧k<d) →(W8.setCell ⟨n+1+1,0,none⟩ (.slice A8 n8 c8)).heap[k]?=W2.heap[k]?) ∧
  agq n d W2 w4∧agq n d W2 (w4.alloc (.cells #[.int .i64 v.p] 3))∧agq n d W2 W8∧agq n d W2 (W8.setCell ⟨n+1+1,0,none⟩ (.slice A8 n8 c8)):=by
 obtain⟨he3,hs3⟩:=hi.en.set (o:=0) sm (.int .i64 (at_:Int));generalize hW3:W2.setCell ⟨n+1+1+1,0,none⟩ (.int .i64 (at_:Int))=W3 at *;have hz3:W3.drew.1.size=d+1:=by show W3.1.size=_;rw[hs3.sz];exact hz2
 have k4:∀k,k<d+1→k≠n+1+1+1→w4.heap[k]?=W2.heap[k]?:=fun k q1 q3=>(hb4.block k om).trans (hs3.far k q3)
 have hz4:d+1≤w4.1.size:=by have:=hb4.size;omega
 have he4:Blk w4 (n+1+1+1) [.int .i64 (at_:Int)]:=he3.kept (hb4.block _ om) hb4.size;have hu4:Blk w4 (n+1+1) [u]:=hu.kept (k4 _ om om) om;have hr4:=ac1 (w':=w4) hrow (fun k q1 q2=>k4 k om om);have hba:=qa w4 (.cells #[.int .i64 v.p] 3);have hz5:(w4.alloc (.cells #[.int .i64 v.p] 3)).1.size=w4.1.size+1:=by simp
 have hblk:Blk (w4.alloc (.cells #[.int .i64 v.p] 3)) w4.1.size [.int .i64 v.p]:=Blk.newL (qg w4 _ _) rfl;obtain⟨i0,z0,i1,i2,i3,i4,i5⟩:=bdi;obtain⟨v8,W8,hrun,hr8,hb8,-⟩:=jl (P:=prog) (w4.alloc (.cells #[.int .i64 v.p] 3)) 108 108 3 i0 z0 1 8 underlying108 i1 i2 i3 i4 i5 dc (Wg.1.size+2) u (vh pre).length _ (ac1 hr4 fun k _ r=>hba.block k r) (some ⟨w4.1.size,0,none⟩) 1 1 [.int .i64 v.p] rfl (hblk.flat (Q:=fun _=>True) trivial) (fun x hx=>by rw[List.mem_singleton.1 hx];rfl) (by unfold maxLen;omega) om om;obtain⟨A8,c8,rfl,-⟩:=zj hr8;have ou:∀k,k<Wg.1.size+2∨V0.1.size≤k→some k≠u.ownBlock:=fun k q r=>by have:=hown k r.symm;omega
 have k8:∀k,k<d+1 →(k<Wg.1.size+2∨V0.1.size≤k)→W8.heap[k]?=w4.heap[k]?:=fun k q1 q2=>(hb8.block k om (ou k q2)).trans (hba.block k om)
 have hz8:=hb8.size;have hu8:Blk W8 (n+1+1) [u]:=hu4.kept (k8 _ om om) om;obtain⟨hu9,hs9⟩:=hu8.set (o:=0) sm (.slice A8 ((vh pre).length+1) c8);refine⟨A8,_,c8,W8,hrun,hu4,hu4.on hba,hu8,⟨⟨⟨_,hu9,?_⟩,?_,?_⟩,?_⟩,?_,?_,?_,?_⟩
 ·rw[alo,if_pos h2,List.map_append,List.length_append];exact ac1 hr8 (fun k q1 q2=>hs9.far k om)
 ·exact he4.kept ((hs9.far _ om).trans (k8 _ om om)) (by have:=hs9.sz;omega)
 ·have h1:qn (fun j=>j<Wg.1.size∧j≠n+1+1∧j≠n+1+1+1) W2 W3:=⟨hs3.os,hs3.tape,hs3.output,Nat.le_of_eq hs3.sz.symm,fun k q=>hs3.far k q.2.2⟩;have h2:qn (fun j=>j<Wg.1.size∧j≠n+1+1∧j≠n+1+1+1) W3 w4:=⟨hb4.os,hb4.tape,hb4.output,hb4.size,fun k q=>hb4.block k om⟩;have h3:qn (fun j=>j<Wg.1.size∧j≠n+1+1∧j≠n+1+1+1) w4 W8:=(qn.of_below hba fun j q=>by omega).trans ⟨hb8.os,hb8.tape,hb8.output,hb8.size,fun k q=>hb8.block k om (ou k om)⟩;exact(((hi.kept.trans h1).trans h2).trans h3).trans ⟨hs9.os,hs9.tape,hs9.output,Nat.le_of_eq hs9.sz.symm,fun k q=>hs9.far k q.2.1⟩
 ·intro k q;exact(hs9.far k om).trans ((k8 k om om).trans (k4 k om om))
 ·exact⟨k4 _ om om,k4 _ om om⟩
 ·exact⟨(hba.block _ om).trans (k4 _ om om),(hba.block _ om).trans (k4 _ om om)⟩
 ·exact⟨(k8 _ om om).trans (k4 _ om om),(k8 _ om om).trans (k4 _ om om)⟩
 ·exact⟨(hs9.far _ om).trans ((k8 _ om om).trans (k4 _ om om)),(hs9.far _ om).trans ((k8 _ om om).trans (k4 _ om om))⟩
set_option maxRecDepth 100000 in
theorem ay8 {w:World} {A:Option Addr} {c:Nat} {b:List UInt8} (hf:qf (fun k=>k<w.1.size) w A (bsV b)) (hb:b.length≤1000000) (hc:b.length≤c) :
 Calls prog 34 #[.slice A b.length c,.int .i64 1,.func (.func 35) #[] #[]] w fun e w'=>∃v,e=.returned (.tuple #[v,.int .i64 ((b.length-(q6 b).2.length:Nat):Int)])∧w'.ownsRow w.1.size 3 1 v (vh (q6 b).1).length ((vh (q6 b).1).map (Value.int .i64))∧Below w.1.size w w':=by
 have HF:=hid hf;have HBC:=hid (And.intro hb hc);have HZS:=fun W=>hid (aoc W)
 clear hf;refine jw func34 rfl ?_;simp only[ntmps34,List.size_toArray,List.length_cons,List.length_nil,Nat.reduceAdd,Nat.reduceSub,Array.replicate_succ,Array.replicate_zero,List.push_toArray,List.append_toArray,List.nil_append,List.cons_append];go_upto_region 3 with fail;have HG4:=hid (axp.mk4 w (.int .i64 1) (.func (.func 35) #[] #[]) (.slice none 0 0) (.int .i64 0) 3 111 108 3);have hz4:((((w.alloc (.cells #[.int .i64 1] 3)).alloc (.cells #[.func (.func 35) #[] #[]] 111)).alloc (.cells #[.slice none 0 0] 108)).alloc (.cells #[.int .i64 0] 3)).1.size=w.1.size+4:=by simp
 generalize ((((w.alloc (.cells #[.int .i64 1] 3)).alloc (.cells #[.func (.func 35) #[] #[]] 111)).alloc (.cells #[.slice none 0 0] 108)).alloc (.cells #[.int .i64 0] 3))=W4 at *;generalize hn:w.1.size=n at *;have HN:=hid hn;clear hn;go_wp2_with fail;refine(al7 A b.length c W4).mono ?_;rintro e Wg ⟨rfl,hWg⟩;have hg5:=qg W4 #[.slice A b.length c] 22;rw[← hWg]at hg5;have HG5:=hid (HG4.out.grew hg5);have HBX:=hid (Blk.newL hg5 rfl);have hz5:Wg.1.size=n+5:=by have:=hg5.sz;omega
 have HZ5:=hid hz5;rw[hz4]at HBX ⊢;clear HG4 hWg hg5 hz4 hz5;go_wp2_with fail;refine(wpIn_wide (n:=8)).1 ?_
 refine adb (m:=8) (bx:=n+4) rfl (N:=fun k=>k<Wg.1.size∧k≠n+1+1∧k≠n+1+1+1) (A:=A) (c:=c) (b:=b) (HBX.out.cell 0 rfl) ⟨HBX.out.lt,by omega,by omega⟩ (fun k q=>q.1)
  ((HF.out.keep fun k q=>HG5.out.bel.block k (by rw[HN.out];exact q)).less fun k q=>⟨by have:=HZ5.out;omega,by omega,by omega⟩) HBC.out.1 HBC.out.2 rfl (a7v Wg (n+1+1) (n+1+1+1)) (fun pre a V h=>⟨fun k q=>h.kept.block k q,h.kept.size⟩)
  (fun pre a V V' h hk=>h.same (by have:=HZ5.out;omega) (by have:=HZ5.out;omega) hk)
  ⟨⟨_,HG5.out.o2,World.ownsRow_nil _ _ _ _⟩,HG5.out.e3,qn.refl _ _⟩
  (fun T0 u d=>(T0.setIfInBounds 13 u).setIfInBounds 10 (.pointer (some ⟨d,0,none⟩))) ?assign ?body ?done
 case assign=>
  intro l x V K hs1 hs2 hK;have HK:=hid hK;clear hK;refine ado (r:=some l) (fun⟨_,_,h⟩=>h) sm ?_;simp only[List.zip_toArray,List.zip_cons_cons,List.zip_nil_right,List.foldl_toArray,List.foldl_cons,List.foldl_nil,List.setIfInBounds_toArray,List.set_cons_succ,List.set_cons_zero];go_wp2_with ((refine qc rfl 106 rfl a2e (HZS _).out ?_;intro V1 hW;have HV1:=hid (Blk.new hW);have HB1:=hid (And.intro hW.bel hW.sz);clear hW;refine qe rfl 106 _ _ rfl V.1.size 0 x rfl rfl (HV1.out.there 0 x.size (by rw[hs1,Array.length_toList,acr];decide)) (by rw[hs1];kernel_rfl) hs2 ?_;intro V2 hs;have HV2:=hid (HV1.out.all hs (by rw[Array.length_toList,Array.length_toList,hs1,acr]));have HB2:Hid (Below V.1.size V V2∧V2.1.size=V.1.size+1):=hid ⟨HB1.out.1.trans (hs.below (Nat.le_refl _)),hs.sz.trans HB1.out.2⟩))
  try go_frame
  exact HK.out V2 HV2.out HB2.out.1 HB2.out.2
 case body=>
  rintro l pre a0 at_ r C V0 W2 d rfl hzz hi hst hk hit hblk hd hz;simp only[List.setIfInBounds_toArray,List.set_cons_zero,List.set_cons_succ];have hZ:=HZ5.out;have hz0:=hi.kept.size;have hi2:=hi.same om om hk;obtain⟨u,hu,hits⟩:=hi.its;have hu2:Blk W2 (n+1+1) [u]:=hu.kept (hk.block _ om) hk.size;have hits2:W2.ownsRow (Wg.1.size+2) 3 1 u (vh pre).length ((vh pre).map (Value.int .i64)):=ac1 hits (fun k q1 q2=>hk.block k om);have HOW:Hid (∀k,u.ownBlock=some k→Wg.1.size+2≤k∧k<V0.1.size):=hid fun k q=>avm hits q
  have HST:=hid hst;have HI2:=hid hi2;have HIT:=hid hit;have HBK:=hid hblk;have HRW:=hid hits2;have HU2:=hid hu2;have HSZ:Hid (True∧V0.1.size≤d∧W2.1.size=d+1∧Wg.1.size+2≤V0.1.size):=hid ⟨trivial,hd,hz,hzz⟩;have HVK:=hid (fun q=>ak6 r q);have HLV:Hid (pre.length≤b.length):=hid (by have h1:=congrArg (fun p=>p.1.length) hst.sc;have h2:=ac2 b;simp only[List.length_append]at h1;omega);have c124:=hblk.cell 124 (a50 hit.len at_);have c0:W2.cell? ⟨d,0,none⟩=some (.int .i64 (zm r).d):=hblk.cell 0 rfl;have ec:=hi2.en.cell 0 rfl;have ef:=hi2.en.fz 0;have dc:W2.cell? ⟨n,0,none⟩=some (.int .i64 1):=(World.cell?_of_block (a:=⟨n,0,none⟩) (hi2.kept.block n om)).trans (HG5.out.d0.cell 0 rfl);have oc:W2.cell? ⟨n+1,0,none⟩=some (.func (.func 35) #[] #[]):=(World.cell?_of_block (a:=⟨n+1,0,none⟩) (hi2.kept.block (n+1) om)).trans (HG5.out.o1.cell 0 rfl);have hne:d≠n+1+1+1:=by omega
  clear hi hst hk hit hblk hz0 hi2 hu hits hu2 hits2 hZ;generalize zm r=v at *
  by_cases h2:v.d=1
  ·rw[h2]at c0
   gi_wp2_with fail
   have HIL:=hid HIT.out.len;have HVS:=hid (akx (v:=v) HIL.out at_);have HTL:=hid (fun w4 hb4=>a86 (w4:=w4) (at_:=at_) HZ5.out HI2.out HU2.out HRW.out HOW.out HSZ.out.2.2.2 HSZ.out.2.1 HSZ.out.2.2.1 h2 (by have h1:=ays pre;have:=HLV.out;omega) hb4);obtain⟨he3,hs3⟩:=HI2.out.en.set (o:=0) sm (.int .i64 (at_:Int));have HP1:=hid (a4p (W2.setCell ⟨n+1+1+1,0,none⟩ (.int .i64 (at_:Int))).drew (v:=v) (at_:=at_) HIL.out HIT.out.ones);have uX:(W2.setCell ⟨n+1+1+1,0,none⟩ (.int .i64 (at_:Int))).drew.cell? ⟨n+1+1,0,none⟩=some u:=(World.cell?_of_block (a:=⟨n+1+1,0,none⟩) (hs3.far (n+1+1) om)).trans (HU2.out.cell 0 rfl);have HS0:Hid (agq n d W2 (W2.setCell ⟨n+1+1+1,0,none⟩ (.int .i64 (at_:Int))).drew):=hid ⟨hs3.far (n+1) om,hs3.far d hne⟩;have HOC:=hid oc;clear he3 hs3 c124 c0 ec ef dc oc HI2 HRW HU2 HST;generalize (W2.setCell ⟨n+1+1+1,0,none⟩ (.int .i64 (at_:Int)))=W3 at *
   refine ak7 (r:=some (Wg.1.size+1)) (S:=agq n d W2) (fun⟨_,_,h⟩=>h) sm kr HS0.out (fun hHeld=>?_);refine tkQ (i:=1) (oi:=⟨some 22,_,_,_,_,_⟩) (v:=?_) rfl (Or.inl ⟨by rfl,?_⟩) ?_;rotate_left
   ·intro w' hSw;have oc:=(World.cell?_of_block (a:=⟨n+1,0,none⟩) hSw.1).trans HOC.out;go_simp
    try with_reducible rfl
   try go_frame
   refine tkQ (i:=2) (oi:=⟨some 23,_,_,_,_,_⟩) (v:=_) rfl (yieldsIf_load_mid (by rfl) 106 _ rfl d 0 rfl (stA v C at_).toList _ (fun w' hSw=>abs HBK.out.rg hSw.2) underlying106 rfl (by rw[Array.length_toList,HVS.out];kernel_rfl)) ?_
   try go_frame
   refine wpAnyH_ready (rs:=[0,3]) kr sm ?_;refine AllReadyH.cons (o:=⟨some 21,_,_,_,_,_⟩) rfl (fun K0 hK0=>?_) (AllReadyH.cons (o:=⟨some 24,_,_,_,_,_⟩) rfl (fun K3 hK3=>?_) AllReadyH.nil)
   ·rw[if_pos (by rfl)];go_step
    try go_frame
    refine hK0.out _ _ (HS0.out) (fun _=>?_);clear hK0 K0
    try go_frame
    refine rdB 3 24 rfl fun K3a hK3a=>?_
    go_step;refine HP1.out.mono ?_;rintro e w4 ⟨rfl,hb4⟩;obtain⟨A8,n8,c8,W8,hrun,hb4,hb5,hb8,hfin,hs4,hs5,hs8,hs9⟩:=HTL.out w4 hb4;have HRUN:=hid hrun;have HFIN:=hid hfin;have HS4:=hid hs4;have HS5:=hid hs5;have HS8:=hid hs8;have HS9:=hid hs9;have u4:=hb4.cell 0 rfl;have u5:=hb5.cell 0 rfl;have u8:=hb8.cell 0 rfl;have f8:=hb8.fz 0;have HSL:=hid (asw v.p w4);clear hrun hfin hs4 hs5 hs8 hs9 hb4 hb5 hb8
    try go_frame
    refine hK3a.out _ _ (HS4.out) (fun _=>?_);clear hK3a K3a
    try go_frame
    refine rdB 4 25 rfl fun K4ac hK4ac=>?_
    refine afx (v:=.slice (some ⟨w4.1.size,0,none⟩) 1 1) (W:=w4.alloc (.cells #[.int .i64 v.p] 3)) (adr (u:=.int .i64 v.p) rfl rfl HSL.out) ?_
    try go_frame
    refine hK4ac.out _ _ (HS5.out) (fun _=>?_);clear hK4ac K4ac
    try go_frame
    refine rdB 5 26 rfl fun K5acc hK5acc=>?_
    refine jm _ _ 108 rfl _ _ _ rfl rfl HRUN.out ?_
    try go_frame
    refine hK5acc.out _ _ (HS8.out) (fun _=>?_);clear hK5acc K5acc
    try go_frame
    refine wpAnyH_ready (rs:=[6]) kr sm ?_;refine AllReadyH.cons (o:=⟨none,_,_,_,_,_⟩) rfl (fun K6accc hK6accc=>?_) AllReadyH.nil;rw[if_pos (by rfl)];go_step
    try go_frame
    refine hK6accc.out _ _ (HS9.out) (fun _=>?_);clear hK6accc K6accc
    try go_frame
    refine wpAnyH_done kr ?_ _
    try go_frame
    go_wp2_with fail;exact HFIN.out
   ·rw[if_pos (by rfl)];go_step;refine HP1.out.mono ?_;rintro e w4 ⟨rfl,hb4⟩;obtain⟨A8,n8,c8,W8,hrun,hb4,hb5,hb8,hfin,hs4,hs5,hs8,hs9⟩:=HTL.out w4 hb4;have HRUN:=hid hrun;have HFIN:=hid hfin;have HS4:=hid hs4;have HS5:=hid hs5;have HS8:=hid hs8;have HS9:=hid hs9;have u4:=hb4.cell 0 rfl;have u5:=hb5.cell 0 rfl;have u8:=hb8.cell 0 rfl;have f8:=hb8.fz 0;have HSL:=hid (asw v.p w4);clear hrun hfin hs4 hs5 hs8 hs9 hb4 hb5 hb8
    try go_frame
    refine hK3.out _ _ (HS4.out) (fun _=>?_);clear hK3 K3
    try go_frame
    refine wpAnyH_ready (rs:=[0,4]) kr sm ?_;refine AllReadyH.cons (o:=⟨some 21,_,_,_,_,_⟩) rfl (fun K0b hK0b=>?_) (AllReadyH.cons (o:=⟨some 25,_,_,_,_,_⟩) rfl (fun K4b hK4b=>?_) AllReadyH.nil)
    ·rw[if_pos (by rfl)];go_step
     try go_frame
     refine hK0b.out _ _ (HS4.out) (fun _=>?_);clear hK0b K0b
     try go_frame
     refine rdB 4 25 rfl fun K4ba hK4ba=>?_
     refine afx (v:=.slice (some ⟨w4.1.size,0,none⟩) 1 1) (W:=w4.alloc (.cells #[.int .i64 v.p] 3)) (adr (u:=.int .i64 v.p) rfl rfl HSL.out) ?_
     try go_frame
     refine hK4ba.out _ _ (HS5.out) (fun _=>?_);clear hK4ba K4ba
     try go_frame
     refine rdB 5 26 rfl fun K5bac hK5bac=>?_
     refine jm _ _ 108 rfl _ _ _ rfl rfl HRUN.out ?_
     try go_frame
     refine hK5bac.out _ _ (HS8.out) (fun _=>?_);clear hK5bac K5bac
     try go_frame
     refine wpAnyH_ready (rs:=[6]) kr sm ?_;refine AllReadyH.cons (o:=⟨none,_,_,_,_,_⟩) rfl (fun K6bacc hK6bacc=>?_) AllReadyH.nil;rw[if_pos (by rfl)];go_step
     try go_frame
     refine hK6bacc.out _ _ (HS9.out) (fun _=>?_);clear hK6bacc K6bacc
     try go_frame
     refine wpAnyH_done kr ?_ _
     try go_frame
     go_wp2_with fail;exact HFIN.out
    ·rw[if_pos (by rfl)];refine afx (v:=.slice (some ⟨w4.1.size,0,none⟩) 1 1) (W:=w4.alloc (.cells #[.int .i64 v.p] 3)) (adr (u:=.int .i64 v.p) rfl rfl HSL.out) ?_
     try go_frame
     refine hK4b.out _ _ (HS5.out) (fun _=>?_);clear hK4b K4b
     try go_frame
     refine rdB 0 21 rfl fun K0bb hK0bb=>?_
     go_step
     try go_frame
     refine hK0bb.out _ _ (HS5.out) (fun _=>?_);clear hK0bb K0bb
     try go_frame
     refine rdB 5 26 rfl fun K5bbc hK5bbc=>?_
     refine jm _ _ 108 rfl _ _ _ rfl rfl HRUN.out ?_
     try go_frame
     refine hK5bbc.out _ _ (HS8.out) (fun _=>?_);clear hK5bbc K5bbc
     try go_frame
     refine wpAnyH_ready (rs:=[6]) kr sm ?_;refine AllReadyH.cons (o:=⟨none,_,_,_,_,_⟩) rfl (fun K6bbcc hK6bbcc=>?_) AllReadyH.nil;rw[if_pos (by rfl)];go_step
     try go_frame
     refine hK6bbcc.out _ _ (HS9.out) (fun _=>?_);clear hK6bbcc K6bbcc
     try go_frame
     refine wpAnyH_done kr ?_ _
     try go_frame
     go_wp2_with fail;exact HFIN.out
  ·have h2':(v.d==1)=false:=by rw[beq_eq_false_iff_ne];exact h2
   gi_wp2_with fail
   obtain⟨he3,hs3⟩:=HI2.out.en.set (o:=0) sm (.int .i64 (at_:Int));refine⟨⟨⟨u,HU2.out.kept (hs3.far (n+1+1) om) (Nat.le_of_eq hs3.sz.symm),?_⟩,he3,?_⟩,fun k q=>hs3.far k ?_⟩
   ·rw[alo,if_neg h2];exact ac1 HRW.out (fun k q1 q2=>hs3.far k (by have:=HZ5.out;omega))
   ·exact HI2.out.kept.trans ⟨hs3.os,hs3.tape,hs3.output,Nat.le_of_eq hs3.sz.symm,fun k q=>hs3.far k q.2.2⟩
   ·have:=HZ5.out;have:=HSZ.out;omega
 case done=>
  rintro D W rfl hi hK;have hr0:=(ah3 b).1;have e1:vh ((q6 b).1++[zm (q6 b).2])=vh (q6 b).1:=by rw[alo,if_neg om]
  obtain⟨u,hu,hits⟩:=hi.its;rw[e1]at hits;obtain⟨A8,c8,rfl,-⟩:=zj hits;have uc:=hu.cell 0 rfl;have ec:=hi.en.cell 0 rfl;have HK:=hid hK;have HR:=hid hits;have HKP:=hid hi.kept;clear hi hK hu hits hr0 e1 HZS;generalize hen:b.length-(q6 b).2.length=en at *;have HEN:=hid hen;clear hen;go_wp2_with fail
  go_region
  clear uc ec;go_wp2_with fail;have hkd:W.drew.heap[Wg.1.size]?=some (.deferred (some [])):=HK.out;refine⟨by simp,.inl ⟨_,_,rfl,run_takeDeferred hkd,?_⟩⟩;have hlt:=(Array.getElem?_eq_some_iff.1 hkd).1;have hput:∀k,k≠Wg.1.size →(W.drew.putObj Wg.1.size (.deferred none)).heap[k]?=W.heap[k]?:=fun k q=>World.putObj_heap_other q
  have hpz:W.1.size ≤(W.drew.putObj Wg.1.size (.deferred none)).1.size:=by simp[World.putObj]
  have hZ:=HZ5.out;have hN:=HN.out;refine⟨_,results_tmp2 rfl _ _ _,_,by rw[HEN.out];rfl,alu (ac1 HR.out fun k q _=>hput k om) om,?_⟩;have hb9:Below w.1.size w W:=HG5.out.bel.trans (qn.belowM HKP.out (fun j q=>⟨by omega,by omega,by omega⟩) HG5.out.bel.size);exact hb9.trans ⟨rfl,rfl,rfl,hpz,fun k q=>hput k om⟩
open Go.RowKit Go.Shelf
attribute [local go_sem] Oper.semAt_some
structure bgb (Wg:World) (ob eb:Nat) (pre:List VeD) (a:Nat) (W:World):Prop where
 out:Blk W ob [.slice none 0 0]
 en:Blk W eb [.int .i64 (a:Int)]
 kept:qn (fun j=>j<Wg.1.size∧j≠ob∧j≠eb) Wg W
theorem bgb.same {Wg:World} {ob eb:Nat} {pre:List VeD} {a:Nat} {W W':World} (h:bgb Wg ob eb pre a W) (ho:ob<Wg.1.size) (he:eb<Wg.1.size) (hk:qn (fun k=>k<W.1.size∧k≠Wg.1.size∧k≠Wg.1.size+1) W W'):bgb Wg ob eb pre a W':=by
 have hz:=h.kept.size;have kb:∀k,k<Wg.1.size→W'.heap[k]?=W.heap[k]?:=fun k q=>hk.block k om
 exact⟨h.out.kept (kb _ ho) hk.size,h.en.kept (kb _ he) hk.size,h.kept.trans (hk.less fun j q=>by omega)⟩
set_option maxRecDepth 100000 in
theorem au9 {w:World} {A:Option Addr} {c:Nat} {b:List UInt8} (hf:qf (fun k=>k<w.1.size) w A (bsV b)) (hb:b.length≤1000000) (hc:b.length≤c) (hno:∀v∈(q6 b).1,v.d≠2) :
 Calls prog 52 #[.slice A b.length c,.int .i64 2,.func (.func 53) #[] #[]] w fun e w'=>e=.returned (.tuple #[.slice none 0 0,.int .i64 ((b.length-(q6 b).2.length:Nat):Int)])∧Below w.1.size w w':=by
 have HF:=hid hf;have HNO:=hid hno;have HBC:=hid (And.intro hb hc);have HZS:=fun W=>hid (aoc W)
 clear hf hno;refine jw func52 rfl ?_;simp only[ntmps52,List.size_toArray,List.length_cons,List.length_nil,Nat.reduceAdd,Nat.reduceSub,Array.replicate_succ,Array.replicate_zero,List.push_toArray,List.append_toArray,List.nil_append,List.cons_append];go_upto_region 3 with fail;have HG4:=hid (axp.mk4 w (.int .i64 2) (.func (.func 53) #[] #[]) (.slice none 0 0) (.int .i64 0) 3 132 99 3);have hz4:((((w.alloc (.cells #[.int .i64 2] 3)).alloc (.cells #[.func (.func 53) #[] #[]] 132)).alloc (.cells #[.slice none 0 0] 99)).alloc (.cells #[.int .i64 0] 3)).1.size=w.1.size+4:=by simp
 generalize ((((w.alloc (.cells #[.int .i64 2] 3)).alloc (.cells #[.func (.func 53) #[] #[]] 132)).alloc (.cells #[.slice none 0 0] 99)).alloc (.cells #[.int .i64 0] 3))=W4 at *;generalize hn:w.1.size=n at *;have HN:=hid hn;clear hn;go_wp2_with fail;refine(al7 A b.length c W4).mono ?_;rintro e Wg ⟨rfl,hWg⟩;have hg5:=qg W4 #[.slice A b.length c] 22;rw[← hWg]at hg5;have HG5:=hid (HG4.out.grew hg5);have HBX:=hid (Blk.newL hg5 rfl);have hz5:Wg.1.size=n+5:=by have:=hg5.sz;omega
 have HZ5:=hid hz5;rw[hz4]at HBX ⊢;clear HG4 hWg hg5 hz4 hz5;go_wp2_with fail;refine(wpIn_wide (n:=8)).1 ?_
 refine adb (m:=8) (bx:=n+4) rfl (N:=fun k=>k<Wg.1.size∧k≠n+1+1∧k≠n+1+1+1) (A:=A) (c:=c) (b:=b) (HBX.out.cell 0 rfl) ⟨HBX.out.lt,by omega,by omega⟩ (fun k q=>q.1)
  ((HF.out.keep fun k q=>HG5.out.bel.block k (by rw[HN.out];exact q)).less fun k q=>⟨by have:=HZ5.out;omega,by omega,by omega⟩) HBC.out.1 HBC.out.2 rfl (bgb Wg (n+1+1) (n+1+1+1)) (fun pre a V h=>⟨fun k q=>h.kept.block k q,h.kept.size⟩)
  (fun pre a V V' h hk=>h.same (by have:=HZ5.out;omega) (by have:=HZ5.out;omega) hk)
  ⟨HG5.out.o2,HG5.out.e3,qn.refl _ _⟩
  (fun T0 u d=>(T0.setIfInBounds 13 u).setIfInBounds 10 (.pointer (some ⟨d,0,none⟩))) ?assign ?body ?done
 case assign=>
  intro l x V K hs1 hs2 hK;have HK:=hid hK;clear hK;refine ado (r:=some l) (fun⟨_,_,h⟩=>h) sm ?_;simp only[List.zip_toArray,List.zip_cons_cons,List.zip_nil_right,List.foldl_toArray,List.foldl_cons,List.foldl_nil,List.setIfInBounds_toArray,List.set_cons_succ,List.set_cons_zero];go_wp2_with ((refine qc rfl 106 rfl a2e (HZS _).out ?_;intro V1 hW;have HV1:=hid (Blk.new hW);have HB1:=hid (And.intro hW.bel hW.sz);clear hW;refine qe rfl 106 _ _ rfl V.1.size 0 x rfl rfl (HV1.out.there 0 x.size (by rw[hs1,Array.length_toList,acr];decide)) (by rw[hs1];kernel_rfl) hs2 ?_;intro V2 hs;have HV2:=hid (HV1.out.all hs (by rw[Array.length_toList,Array.length_toList,hs1,acr]));have HB2:Hid (Below V.1.size V V2∧V2.1.size=V.1.size+1):=hid ⟨HB1.out.1.trans (hs.below (Nat.le_refl _)),hs.sz.trans HB1.out.2⟩))
  try go_frame
  exact HK.out V2 HV2.out HB2.out.1 HB2.out.2
 case body=>
  rintro l pre a0 at_ r C V0 W2 d rfl hzz hi hst hk hit hblk hd hz;simp only[List.setIfInBounds_toArray,List.set_cons_zero,List.set_cons_succ];have hZ:=HZ5.out;have hz0:=hi.kept.size;have hi2:=hi.same om om hk;have HST:=hid hst;have HI2:=hid hi2;have HSZ:Hid (True∧V0.1.size≤d∧W2.1.size=d+1∧Wg.1.size+2≤V0.1.size):=hid ⟨trivial,hd,hz,hzz⟩;have h2:¬(zm r).d=2:=fun q=>HNO.out (zm r) (by rw[hst.sc,ab1 om];simp) q
  have c124:=hblk.cell 124 (a50 hit.len at_);have c0:W2.cell? ⟨d,0,none⟩=some (.int .i64 (zm r).d):=hblk.cell 0 rfl;have ec:=hi2.en.cell 0 rfl;have ef:=hi2.en.fz 0;have dc:W2.cell? ⟨n,0,none⟩=some (.int .i64 2):=(World.cell?_of_block (a:=⟨n,0,none⟩) (hi2.kept.block n om)).trans (HG5.out.d0.cell 0 rfl);have hne:d≠n+1+1+1:=by omega
  clear hi hst hk hit hblk hz0 hi2 hZ;generalize zm r=v at *;have h2':(v.d==2)=false:=by rw[beq_eq_false_iff_ne];exact h2
  gi_wp2_with fail
  obtain⟨he3,hs3⟩:=HI2.out.en.set (o:=0) sm (.int .i64 (at_:Int));refine⟨⟨HI2.out.out.kept (hs3.far (n+1+1) om) (Nat.le_of_eq hs3.sz.symm),he3,?_⟩,fun k q=>hs3.far k ?_⟩
  ·exact HI2.out.kept.trans ⟨hs3.os,hs3.tape,hs3.output,Nat.le_of_eq hs3.sz.symm,fun k q=>hs3.far k q.2.2⟩
  ·have:=HZ5.out;have:=HSZ.out;omega
 case done=>
  rintro D W rfl hi hK;have hu:=hi.out;have uc:=hu.cell 0 rfl;have ec:=hi.en.cell 0 rfl;have HK:=hid hK;have HKP:=hid hi.kept;clear hi hK hu HZS;generalize hen:b.length-(q6 b).2.length=en at *;have HEN:=hid hen;clear hen;go_wp2_with fail
  go_region
  clear uc ec;go_wp2_with fail;have hkd:W.drew.heap[Wg.1.size]?=some (.deferred (some [])):=HK.out;refine⟨by simp,.inl ⟨_,_,rfl,run_takeDeferred hkd,?_⟩⟩;have hlt:=(Array.getElem?_eq_some_iff.1 hkd).1;have hput:∀k,k≠Wg.1.size →(W.drew.putObj Wg.1.size (.deferred none)).heap[k]?=W.heap[k]?:=fun k q=>World.putObj_heap_other q
  have hpz:W.1.size ≤(W.drew.putObj Wg.1.size (.deferred none)).1.size:=by simp[World.putObj]
  have hZ:=HZ5.out;have hN:=HN.out;refine⟨_,results_tmp2 rfl _ _ _,by rw[HEN.out];rfl,?_⟩;have hb9:Below w.1.size w W:=HG5.out.bel.trans (qn.belowM HKP.out (fun j q=>⟨by omega,by omega,by omega⟩) HG5.out.bel.size);exact hb9.trans ⟨rfl,rfl,rfl,hpz,fun k q=>hput k om⟩
theorem aqy {w:World} {A:Option Addr} {c:Nat} {b:List UInt8} (hf:qf (fun k=>k<w.1.size) w A (bsV b)) (hb:b.length≤1000000) (hc:b.length≤c) (hno:∀v∈(q6 b).1,v.d≠2) (n en:Nat) (hn:b.length=n) (he:b.length-(q6 b).2.length=en) :
 Calls prog 30 #[.slice A n c] w fun e w'=>e=.returned (.tuple #[.slice none 0 0,.int .i64 (en:Int)])∧Below w.1.size w w':=by
 have HG:=au9 hf hb hc hno;rw[he]at HG;rw[hn]at HG;have HG:=hid HG;clear hf hb hc hno he hn;go_enter func30,ntmps30;go_wp2_with fail;refine HG.out.mono ?_;rintro e w1 ⟨rfl,hb⟩;have HB:=hid hb;clear hb HG;go_wp2_with fail
 go_ret2
 exact⟨rfl,HB.out⟩
theorem atq:q6 [0,0]=([ayr,ayr],[]):=by
 have h1:∀l:List UInt8,zm (0::l)=ayr:=fun l=>bbs dc
 have h2:∀l:List UInt8,q6 (0::l)=(ayr::(q6 l).1,(q6 l).2):=fun l=>by
  rw[ab1 (by rw[h1];decide),h1];rfl
 rw[h2,h2,a0x]
theorem bc7 (w:World):Calls prog 31 #[.slice none 0 0,.int .i64 1] w fun e w'=>e=.returned (.int .i64 (-1))∧Below w.1.size w w':=by
 have HS:=fun W=>hid (aqy (w:=W) (A:=none) (c:=0) (b:=[]) (qf.nil _ _ _) (Nat.zero_le _) (Nat.zero_le _) (fun v hv=>by rw[a0x]at hv;cases hv) 0 0 rfl rfl)
 go_enter func31,ntmps31;go_wp2_with fail;refine(HS _).out.mono ?_;rintro e w1 ⟨rfl,hb⟩;have HB:=hid hb;clear hb HS;go_wp2_with fail;refine wp_loop_once ?_;go_wp2_with fail;go_ret;exact⟨rfl,HB.out⟩
theorem amv (w:World):Calls prog 15 #[] w fun e w'=>e=.returned (.bool true)∧Below w.1.size w w':=by
 have HF:=fun W=>hid (bc7 W)
 have hk:=Blk.newL (L:=bsV [0,0]) (qg w #[.int .u8 0,.int .u8 0] 5) rfl;have HS:=hid (aqy (w:=w.alloc (.cells #[.int .u8 0,.int .u8 0] 5)) (A:=some ⟨w.1.size,0,none⟩) (c:=2) (b:=[0,0]) (hk.flat sm) dc dc (fun v hv=>by rw[atq]at hv;simp at hv;rw[hv];decide) 2 2 rfl (by rw[atq];rfl));have HB0:=hid (qa w (.cells #[.int .u8 0,.int .u8 0] 5));clear hk;go_enter func15,ntmps15;go_wp2_with fail;refine HS.out.mono ?_;rintro e w1 ⟨rfl,hb⟩;have HB1:=hid (qb HB0.out hb);clear hb HS HB0;go_wp2_with fail;refine(HF _).out.mono ?_;rintro e w2 ⟨rfl,hb⟩;have HB2:=hid (qb HB1.out hb);clear hb HF HB1;go_wp2_with fail;go_ret;exact⟨rfl,HB2.out⟩
theorem ayf (C:List Int) (i j:Nat) (a b:Int):q8 (q8 C i a) j b=q8 (q8 C j b) i a:=by
 by_cases h:i=j
 ·subst h;unfold q8
  by_cases hi:i<C.length
  ·simp[List.getD_eq_getElem?_getD,hi,Int.add_right_comm]
  ·simp[List.set_eq_of_length_le (Nat.le_of_not_lt hi)]
 ·unfold q8;rw[List.set_comm _ _ h];have h':¬j=i:=fun e=>h e.symm
  simp[List.getD_eq_getElem?_getD,h,h']
theorem a3c (C:List Int) (i:Nat) (a b:Int):q8 (q8 C i a) i b=q8 C i (a+b):=by
 unfold q8
 by_cases hi:i<C.length
 ·simp[List.getD_eq_getElem?_getD,hi,Int.add_assoc]
 ·simp[List.set_eq_of_length_le (Nat.le_of_not_lt hi)]
theorem ahw (i:Nat) (a:Int):∀(V:List VeD) (C:List Int),abb (q8 C i a) V=q8 (abb C V) i a
 | [],_=>rfl
 | v::V,C=>by
  show abb (acl (q8 C i a) v) V=q8 (abb (acl C v) V) i a;rw[← ahw i a V (acl C v)];unfold acl;rw[ayf]
def aac (l:List UInt8):List Int:=q8 (abb [0,0,0,0,0,0,0,0,0,0,0,0,0] (q6 l).1) 0 l.length
theorem bcx (l m:List UInt8):abb (q8 (aac l) 0 m.length) (q6 ((q6 l).2++m)).1=aac (l++m):=by
 unfold aac;rw[a3c,ahw,a0w l m,a8o,List.length_append]
 congr 1
theorem a0l {fn:Func} {p u v:Tmp} {ty:TypeId} (h:fn.results=#[.tmp u,.cell p ty,.tmp v]) (tmps:Array Value) (P:Program) (w:World) :
 (results fn tmps).run P w=((asAddr (tmps.getD p undef)).run P w).andThen fun a w₁=>((loadVar ty a).run P w₁).andThen fun x w₂=>.ok (.tuple #[tmps.getD u undef,x,tmps.getD v undef]) w₂:=by
 simp only[results,h];simp[Sem.run_bind,Result.andThen]
def af5 (C:List Int) (L:List Int):List Int:=L.foldl (fun C p=>q8 C (9+p.toNat) 1) C
theorem bgu (C:List Int) (k:Nat) (a:Int):∀V:List VeD,aa3 (q8 C k a) V=q8 (aa3 C V) k a:=fun V=>by
 unfold aa3;generalize V.filter _=U;exact ahw k a U C
theorem asx:∀(V:List VeD) (C:List Int),(∀v∈V,v.d=1∨v.d=2)→abb C V=af5 (aa3 C V) (vh V)
 | [],_,_=>rfl
 | v::V,C,h=>by
  have ih:=asx V (acl C v) (fun u hu=>h u (by simp[hu]));show abb (acl C v) V=_;rw[ih];rcases h v sm with q|q
  ·have e1:acl C v=q8 C (9+v.p.toNat) 1:=by
    unfold acl ayh;rw[if_pos q]
   have e2:aa3 C (v::V)=aa3 C V:=by unfold aa3;simp[q]
   have e3:vh (v::V)=v.p::vh V:=by unfold vh;simp[q]
   rw[e1,bgu,e2,e3];rfl
  ·have e2:aa3 C (v::V)=aa3 (acl C v) V:=by unfold aa3;simp[q]
   have e3:vh (v::V)=vh V:=by unfold vh;simp[q]
   rw[e2,e3]
theorem a61 {N:Int}:∀(L:List Int) {C:List Int},yj C N→yj (af5 C L) (N+L.length)
 | [],C,h=>by simpa [af5]using h
 | p::L,C,h=>by
  have:=a61 (N:=N+1) L (C:=q8 C (9+p.toNat) 1) (ale h _);show yj (af5 (q8 C (9+p.toNat) 1) L) _;rw[List.length_cons,show N +((L.length+1:Nat):Int)=N+1 +(L.length:Int)from by omega];exact this
theorem a8a {C:List Int} {L:List Int} {k:Nat} (hk:k<L.length):af5 C (L.take (k+1))=q8 (af5 C (L.take k)) (9+L[k].toNat) 1:=by
 rw[List.take_succ_eq_append_getElem hk];unfold af5;rw[List.foldl_append];rfl
theorem a8v {V:List VeD} (h:∀v∈V,axz v):∀p∈vh V,p=0∨p=1∨p=2∨p=3:=by
 intro p hp;unfold vh at hp;obtain⟨v,hv,rfl⟩:=List.mem_map.1 hp;exact(h v (List.mem_filter.1 hv).1).1
def ag2 (n:Int):List Int:=[n,0,0,0,0,0,0,0,0,0,0,0,0]
theorem a26 (k:Int) (w:World):(Instr.build 78 #[(0,.int .i64 k)]).run prog w=.ok (.agg (vr (ag2 k))) w:=by kernel_rfl
theorem a62 {n N:Int} (h0:0≤n) (h1:n≤N):yj (ag2 n) N:=fun k=>by
 cases k with
 | zero=>exact⟨h0,h1⟩
 | succ k=>
  have:(ag2 n).getD (k+1) 0=0:=by
   rcases k with _|_|_|_|_|_|_|_|_|_|_|_|k<;>rfl
  rw[this];omega
theorem a3d (b:List UInt8):aac b=af5 (aa3 (ag2 b.length) (q6 b).1) (vh (q6 b).1):=by
 have h:∀v∈(q6 b).1,v.d=1∨v.d=2:=fun v hv=>by
  have:=(aql b v hv).2;omega
 rw[← asx _ _ h];unfold aac;rw[← ahw]
 congr 1
 simp[q8,ag2]
structure ble (W5:World) (cb:Nat) (T:List Int) (L:List Int) (k:Nat) (wr:World):Prop where
 cnt:ac5 wr cb (af5 T (L.take k))
 kept:qn (fun j=>j≠cb) W5 wr
theorem ahb {w:World} {A:Option Addr} {c:Nat} {b:List UInt8} (hf:qf (fun k=>k<w.1.size) w A (bsV b)) (hb:b.length≤1000000) (hc:b.length≤c) :
 Calls prog 16 #[.slice A b.length c] w fun e w'=>∃v,e=.returned (.tuple #[v,.agg (vr (aac b)),.int .i64 ((q6 b).2.length:Int)])∧xz w.1.size v (xw (q6 b).1) w'∧Below w.1.size w w':=by
 have HZ:=fun W=>hid (arh W)
 have HBC:=fun W=>hid (a26 (b.length:Int) W)
 have hbI:(b.length:Int)≤1000000:=by omega
 have HIN:=hid (And.intro hf (And.intro hb hc))
 have hen:(q6 b).2.length≤b.length:=by
  obtain⟨-,-,P,hP,-⟩:=ah3 b;have:=congrArg List.length hP;rw[List.length_append]at this;omega
 have HEN:=hid hen;clear hf hb hc hen;obtain⟨en,hee⟩:∃en,b.length-(q6 b).2.length=en:=⟨_,rfl⟩;have hrI:(b.length:Int)-(en:Int)=((q6 b).2.length:Int):=by have:=HEN.out;omega
 have hrW:IntKind.i64.wrap ((q6 b).2.length:Int)=((q6 b).2.length:Int):=IntWalk.i64_in _ (by have:=HEN.out;omega);have HEE:=hid hee;clear hee;go_enter func16,ntmps16;go_upto_region 1 with(refine qc rfl 78 rfl (vr z13) (HZ _).out ?_;intro W1 hW;have HR1:=hid (Blk.newL (L:=z13.map (Value.int .i64)) hW rfl);have HB1:=hid (And.intro hW.bel hW.sz);clear hW)
 go_upto_region 2 with(first
  | refine zo (u:=.int .i64 (b.length:Int)) rfl 78 0 _ rfl rfl (HBC _).out ?_
  | (refine qc rfl 78 rfl (vr z13) (HZ _).out ?_;intro W2 hW;have HR2:=hid (HR1.out.grew hW);have HC2:=hid (Blk.newL (L:=z13.map (Value.int .i64)) hW rfl);have HB2:Hid (Below w.1.size w W2∧W1.1.size=w.1.size+1∧W2.1.size=w.1.size+2):=hid ⟨qb HB1.out.1 hW.bel,HB1.out.2,by have:=hW.sz;have:=HB1.out.2;omega⟩;clear hW)
  | (refine qe rfl 78 _ _ rfl W1.1.size 0 (vr (ag2 (b.length:Int))) rfl rfl (HC2.out.there 0 13 dc) (acz rfl) (aff _) ?_;intro W3 hs;have HC3:=hid (HC2.out.all hs rfl);have HR3:=hid (HR2.out.far hs (by have:=HB2.out;omega));have HB3:Hid (Below w.1.size w W3∧W3.1.size=w.1.size+2):=hid ⟨HB2.out.1.trans (hs.below (by have:=HB2.out;omega)),hs.sz.trans HB2.out.2.2⟩;clear hs))
 have HCB:Hid (W1.1.size=w.1.size+1):=hid HB2.out.2.1;generalize W1.1.size=cb at *;have hfl3:qf (fun k=>k<W3.1.size∧k≠cb) W3 A (bsV b):=(HIN.out.1.keep fun k q=>HB3.out.1.block k q).less fun k q=>⟨by have:=HB3.out.2;omega,by have:=HCB.out;omega⟩
 have HG1:=hid (ay7 (w:=W3) (cb:=cb) (T:=ag2 (b.length:Int)) ⟨HC3.out,rfl⟩ (a62 om om) hfl3 HIN.out.2.1 HIN.out.2.2);rw[HEE.out]at HG1;have HLV:=hid (And.intro (ac2 b) (ays (q6 b).1));have HMEM:=hid (a8v (aql b));have HSP:=hid (a3d b);have HTK:=hid (anz (q6 b).1 (a62 (n:=(b.length:Int)) (N:=900000000) om om));have HTL:Hid ((aa3 (ag2 (b.length:Int)) (q6 b).1).length=13):=hid (by unfold aa3;exact alf _ _);have HFL3:=hid hfl3;clear hfl3 HC3 HB2 HBC;go_wp2_with fail;refine HG1.out.mono ?_;rintro e w4 ⟨v,rfl,hi4,hc4,hk4⟩;obtain⟨AI,cI,rfl,-⟩:=hi4.slice;have HG2:=hid (ay8 (w:=w4) (A:=A) (c:=c) (b:=b) ((HFL3.out.keep fun k q=>hk4.block k q).less fun k q=>Nat.lt_of_lt_of_le q.1 hk4.size) HIN.out.2.1 HIN.out.2.2);rw[HEE.out]at HG2;have HI4:=hid hi4;have HC4:=hid hc4;have HK4:=hid hk4;clear hi4 hc4 hk4 HG1;go_wp2_with fail;refine HG2.out.mono ?_;rintro e w5 ⟨v2,rfl,ho5,hb5⟩;obtain⟨A2,c2,rfl,-,hf5,-⟩:=zj ho5
 have HF5:=hid hf5;have HC5:Hid (ac5 w5 cb (aa3 (ag2 (b.length:Int)) (q6 b).1)):=hid (HC4.out.kept (hb5.block cb HC4.out.1.lt) hb5.size);have HI5:Hid (xz (w.1.size+2) (.slice AI (xw (q6 b).1).length cI) (xw (q6 b).1) w5):=hid ((HI4.out.kept (fun k _ r=>hb5.block k r) hb5.size).lower (Nat.le_of_eq HB3.out.2.symm));have HK5:Hid (qn (fun j=>j<w.1.size+2∧j≠cb) W3 w5):=hid ((HK4.out.less fun j q=>⟨by have:=HB3.out.2;omega,q.2⟩).trans (qn.of_below hb5 fun j q=>by have:=HK4.out.size;have:=HB3.out.2;omega));have HZ5:Hid (w.1.size+2≤w4.1.size∧w4.1.size≤w5.1.size):=hid ⟨by have:=HK4.out.size;have:=HB3.out.2;omega,hb5.size⟩;have HD1:Hid (ble w5 cb (aa3 (ag2 (b.length:Int)) (q6 b).1) (vh (q6 b).1) 0 w5):=hid ⟨HC5.out,qn.refl _ _⟩;clear ho5 hf5 hb5 HG2 HI4 HC4 HK4 HFL3;generalize hI:xw (q6 b).1=Y at *;generalize vh (q6 b).1=L at *;generalize aa3 (ag2 (b.length:Int)) (q6 b).1=T at *
 have HY:=hid hI;clear hI;have hlI:(L.length:Int)≤1000000:=by have:=HLV.out;have:=HIN.out.2.1;omega
 go_wp2_with fail
 go_loopg [28] L.length (fun g s28 wr=>∃k:Nat,k≤L.length∧L.length-k≤g∧s28=.int .i64 k∧Hid (ble w5 cb T L k wr))
 case atStart=>exact⟨0,Nat.zero_le _,by omega,rfl,HD1⟩
 case round=>
  obtain⟨k,hk,hg,rfl,HP⟩:=hrel;clear HD1
  by_cases hlt:k<L.length
  ·obtain⟨b',o',rfl,hq,hcell⟩:=HF5.out k (.int .i64 L[k]) (by rw[List.getElem?_map,List.getElem?_eq_getElem hlt];rfl);have hc':wr.cell? ⟨b',o'+k,none⟩=some (.int .i64 L[k]):=(World.cell?_of_block (a:=⟨b',o'+k,none⟩) (HP.out.kept.block b' (by have:=HCB.out;have:=HZ5.out;omega))).trans hcell;have hmem:=HMEM.out L[k] (List.getElem_mem hlt);have HTE:=hid (a8a (C:=T) hlt);have hok:=a61 (L.take k) HTK.out;have hcc:=fun j q=>HP.out.cnt.cell j q
   have hset:=fun j (v:Int) q=>hid (HP.out.cnt.set j v q)
   have hfz:=fun o=>HP.out.cnt.1.fz o
   generalize L[k]=p at *;have hlk:(L.take k).length≤1000000:=by have:=List.length_take_le' k L;omega
   have hbd:∀j,0 ≤(af5 T (L.take k)).getD j 0 ∧(af5 T (L.take k)).getD j 0≤1000000000:=fun j=>by have:=hok j;have:=HLV.out;have:=HIN.out.2.1;omega
   clear hok hcell hlk;have i1:(k:Int)<(L.length:Int):=by omega
   have i2:(0:Int) ≤(k:Int):=Int.natCast_nonneg _;rcases hmem with rfl|rfl|rfl|rfl
   all_goals
    simp only[Int.toNat_zero,Int.reduceToNat,Nat.reduceAdd,Int.toNat_one]at HTE
   ·have b0:=hbd 9;have ck:=hcc 9 dc;have HSE:=hset 9 ((af5 T (L.take k)).getD 9 0+1) dc;have zk:=hfz 9;clear hbd hcc hset hfz;generalize hx:(af5 T (L.take k)).getD 9 0=x at *;have HX:=hid hx;clear hx;go_wp2_with fail
    go_roundg (L.length-(k+1))
    case measure=>omega
    case rel=>exact⟨k+1,by omega,by omega,by simp,hid ⟨by rw[HTE.out];unfold q8;rw[HX.out];exact HSE.out.1,HP.out.kept.trans HSE.out.2⟩⟩
   ·have b0:=hbd 10;have ck:=hcc 10 dc;have HSE:=hset 10 ((af5 T (L.take k)).getD 10 0+1) dc;have zk:=hfz 10;clear hbd hcc hset hfz;generalize hx:(af5 T (L.take k)).getD 10 0=x at *;have HX:=hid hx;clear hx;go_wp2_with fail
    go_roundg (L.length-(k+1))
    case measure=>omega
    case rel=>exact⟨k+1,by omega,by omega,by simp,hid ⟨by rw[HTE.out];unfold q8;rw[HX.out];exact HSE.out.1,HP.out.kept.trans HSE.out.2⟩⟩
   ·have b0:=hbd 11;have ck:=hcc 11 dc;have HSE:=hset 11 ((af5 T (L.take k)).getD 11 0+1) dc;have zk:=hfz 11;clear hbd hcc hset hfz;generalize hx:(af5 T (L.take k)).getD 11 0=x at *;have HX:=hid hx;clear hx;go_wp2_with fail
    go_roundg (L.length-(k+1))
    case measure=>omega
    case rel=>exact⟨k+1,by omega,by omega,by simp,hid ⟨by rw[HTE.out];unfold q8;rw[HX.out];exact HSE.out.1,HP.out.kept.trans HSE.out.2⟩⟩
   ·have b0:=hbd 12;have ck:=hcc 12 dc;have HSE:=hset 12 ((af5 T (L.take k)).getD 12 0+1) dc;have zk:=hfz 12;clear hbd hcc hset hfz;generalize hx:(af5 T (L.take k)).getD 12 0=x at *;have HX:=hid hx;clear hx;go_wp2_with fail
    go_roundg (L.length-(k+1))
    case measure=>omega
    case rel=>exact⟨k+1,by omega,by omega,by simp,hid ⟨by rw[HTE.out];unfold q8;rw[HX.out];exact HSE.out.1,HP.out.kept.trans HSE.out.2⟩⟩
  ·obtain rfl:k=L.length:=by omega
   have hcn:=HP.out.cnt;rw[List.take_length,← HSP.out]at hcn;have HCN:=hid hcn;have hbl:∀j,j<w.1.size+2→j≠cb→wr.heap[j]?=W3.heap[j]?:=fun j q1 q2=>(HP.out.kept.block j q2).trans (HK5.out.block j ⟨q1,q2⟩)
   have hszr:w.1.size+2≤wr.1.size:=by have:=HP.out.kept.size;have:=HZ5.out;omega
   have HRR:=hid (HR3.out.kept (hbl w.1.size om (by have:=HCB.out;omega)) (by have:=HB3.out.2;omega));have HBW:Hid (Below w.1.size w wr):=hid (HB3.out.1.trans ⟨HP.out.kept.os.trans HK5.out.os,HP.out.kept.tape.trans HK5.out.tape,HP.out.kept.output.trans HK5.out.output,Nat.le_trans HK5.out.size HP.out.kept.size,fun j q=>hbl j om (by have:=HCB.out;omega)⟩);have HIR:Hid (xz (w.1.size+2) (.slice AI Y.length cI) Y wr):=hid (HI5.out.kept (fun j q _=>HP.out.kept.block j (by have:=HCB.out;omega)) HP.out.kept.size);have hS0:wr.drew.heap[cb]?=wr.heap[cb]?:=rfl;clear hcn hbl hszr;go_wp2_with fail;refine wp_region_held_drew (S:=fun w'=>w'.heap[cb]?=wr.heap[cb]?) kr hS0 (fun hHeld=>?_);refine tkA 0 40 rfl ?_
   try go_frame
   refine tkQ (i:=1) (oi:=⟨some 41,_,_,_,_,_⟩) (v:=_) rfl (yieldsIf_load_mid (by rfl) 78 _ rfl cb 0 rfl ((aac b).map (Value.int .i64)) _ (fun w' hSw=>abs HCN.out.1.rg hSw) underlying78 rfl (afg HCN.out.2)) ?_
   try go_frame
   refine tkA 2 42 rfl ?_
   try go_frame
   refine tkA 3 43 rfl ?_
   try go_frame
   refine tkA 4 44 rfl ?_
   try go_frame
   refine tkA 5 45 rfl ?_
   try go_frame
   refine tkA 6 2 rfl ?_
   try go_frame
   refine wpAnyH_ready (rs:=[7]) kr sm ?_;refine AllReadyH.cons (o:=⟨none,_,_,_,_,_⟩) rfl (fun K hK=>?_) AllReadyH.nil;rw[if_pos (by rfl)];have hth:wr.drew.there w.1.size 0 (vr (aac b)).size:=HRR.out.drew.there 0 _ (by unfold vr;rw[List.size_toArray,List.length_map,HCN.out.2];decide);refine wp_store_mid 78 _ _ rfl w.1.size 0 (vr (aac b)) rfl rfl hth (acz HCN.out.2) (aff _) ?_;have hst:=qm (w:=wr.drew) (b:=w.1.size) (o:=0) (cs:=(vr (aac b)).toList) (by rw[Array.length_toList];exact hth)
   try go_frame
   refine hK.out _ _ (hst.far cb (by have:=HCB.out;omega)) (fun _=>?_);clear hK K
   try go_frame
   have HLD:=hid (run_loadVar_mid (P:=prog) _ w.1.size 0 78 (vr (aac b)).toList _ hst.rg underlying78 rfl (by rw[Array.length_toList];exact acz HCN.out.2));have HF9:Hid (xz w.1.size (.slice AI Y.length cI) Y _∧Below w.1.size w _):=hid ⟨(HIR.out.kept (fun j q _=>hst.far j om) (Nat.le_of_eq hst.sz.symm)).lower om,HBW.out.drew.trans (hst.below (Nat.le_refl _))⟩;generalize wr.drew.setCells w.1.size 0 (vr (aac b)).toList=W9 at *;refine tkA 8 4 rfl ?_
   try go_frame
   refine wpAnyH_done kr ?_ _
   try go_frame
   go_wp2_with fail;refine bodyPost_ret (v:=.tuple #[.slice AI Y.length cI,.agg (vr (aac b)),.int .i64 ((q6 b).2.length:Int)]) (by rw[a0l rfl];simp[asAddr,Result.andThen,HLD.out]) rfl ?_;refine⟨_,rfl,?_,HF9.out.2⟩;rw[HY.out];exact HF9.out.1
def adm (X Y:List Int):Nat→List Int
 | 0=>q8 X 0 (Y.getD 0 0)
 | i+1=>q8 (q8 (q8 (adm X Y i) (1+i) (Y.getD (1+i) 0)) (5+i) (Y.getD (5+i) 0)) (9+i) (Y.getD (9+i) 0)
theorem a7l {X Y:List Int} {N M:Int} (hx:yj X N) (hy:yj Y M):∀i:Nat,yj (adm X Y i) (N +(1+3*(i:Int))*M)
 | 0=>by
  have:=abq hx 0 (hy 0).1;refine fun k=>⟨(this k).1,?_⟩
  have h1:=(this k).2;have h2:=(hy 0).2;show (q8 X 0 (Y.getD 0 0)).getD k 0≤_;have e:N +(1+3*((0:Nat):Int))*M=N+M:=by simp
  rw[e];omega
 | i+1=>by
  have ih:=a7l hx hy i;have:=abq (abq (abq ih (1+i) (hy (1+i)).1) (5+i) (hy (5+i)).1) (9+i) (hy (9+i)).1;refine fun k=>⟨(this k).1,?_⟩
  have h1:=(this k).2;have h2:=(hy (1+i)).2;have h3:=(hy (5+i)).2;have h4:=(hy (9+i)).2;show (adm X Y (i+1)).getD k 0≤_
  have e:N +(1+3*((i+1:Nat):Int))*M=N +(1+3*(i:Int))*M+M+M+M:=by
   push_cast;simp only[Int.add_mul,Int.mul_add,Int.one_mul,Int.mul_one];omega
  rw[e];exact Int.le_trans h1 om
theorem akz {X Y:List Int} (h:X.length=13):∀i:Nat,(adm X Y i).length=13
 | 0=>by show (q8 _ _ _).length=13;rw[yg,h]
 | i+1=>by show (q8 _ _ _).length=13;rw[yg,yg,yg,akz h i]
theorem ac5.add {W:World} {cb:Nat} {T:List Int} (h:ac5 W cb T) (k:Nat) (v:Int) (hk:k<13):ac5 (W.setCell ⟨cb,k,none⟩ (.int .i64 (T.getD k 0+v))) cb (q8 T k v)∧qn (fun j=>j≠cb) W (W.setCell ⟨cb,k,none⟩ (.int .i64 (T.getD k 0+v))):=h.set k _ hk
structure axv (w:World) (X Y:List Int) (wr:World):Prop where
 x:ac5 wr w.1.size X
 y:ac5 wr (w.1.size+1) Y
 z:Blk wr (w.1.size+1+1) (z13.map (Value.int .i64))
 bel:Below w.1.size w wr
theorem axv.add {w:World} {X Y:List Int} {wr:World} (h:axv w X Y wr) (k:Nat) (v:Int) (hk:k<13):axv w (q8 X k v) Y (wr.setCell ⟨w.1.size,k,none⟩ (.int .i64 (X.getD k 0+v))):=by
 obtain⟨h1,h2⟩:=h.x.add k v hk;exact⟨h1,h.y.kept (h2.block _ om) h2.size,h.z.kept (h2.block _ om) h2.size,h.bel.trans ⟨h2.os,h2.tape,h2.output,h2.size,fun j q=>h2.block j om⟩⟩
theorem axv.drew {w:World} {X Y:List Int} {wr:World} (h:axv w X Y wr):axv w X Y wr.drew:=⟨⟨h.x.1.drew,h.x.2⟩,⟨h.y.1.drew,h.y.2⟩,h.z.drew,h.bel.drew⟩
theorem avy {w:World} {X Y:List Int} (hX:X.length=13) (hY:Y.length=13) (hx:yj X 1000000000) (hy:yj Y 1000000000) :
 Calls prog 18 #[.agg (vr X),.agg (vr Y)] w fun e w'=>e=.returned (.agg (vr (adm X Y 4)))∧Below w.1.size w w':=by
 have HZ:=fun W=>hid (arh W)
 have HOK:=hid (a7l hx hy);have HXY:=hid (And.intro hx hy);have HLN:=hid (And.intro hX hY);clear hx hy hX hY;go_enter func18,ntmps18
 go_upto_region 1 with(first
  | (refine qr rfl _ (.tmp 0) rfl (vr X) rfl ?_;intro W1 hW;have HX1:Hid (Blk W1 w.1.size (X.map (Value.int .i64))):=hid (Blk.newL hW List.toList_toArray);have HB1:=hid (And.intro hW.bel hW.sz);clear hW)
  | (refine qr rfl _ (.tmp 1) rfl (vr Y) rfl ?_;intro W2 hW;have HX2:=hid (HX1.out.grew hW);have HY2:Hid (Blk W2 W1.1.size (Y.map (Value.int .i64))):=hid (Blk.newL hW List.toList_toArray);have HB2:Hid (Below w.1.size w W2∧W1.1.size=w.1.size+1∧W2.1.size=w.1.size+1+1):=hid ⟨qb HB1.out.1 hW.bel,HB1.out.2,by have:=hW.sz;have:=HB1.out.2;omega⟩;clear hW)
  | (refine qc rfl 78 rfl (vr z13) (HZ _).out ?_;intro W3 hW;have HX3:=hid (HX2.out.grew hW);have HY3:=hid (HY2.out.grew hW);have HZ3:=hid (Blk.newL (L:=z13.map (Value.int .i64)) hW rfl);have HB3:=hid (qb HB2.out.1 hW.bel);clear hW))
 have HS3:Hid (axv w X Y W3):=hid ⟨⟨HX3.out,HLN.out.1⟩,⟨by have:=HY3.out;rw[HB2.out.2.1]at this;exact this,HLN.out.2⟩,by have:=HZ3.out;rw[HB2.out.2.2]at this;exact this,HB3.out⟩;have e1:=HB2.out.2.1;have e2:=HB2.out.2.2;rw[e1,e2];clear e1 e2 HX3 HY3 HZ3 HB3 HX2 HY2 HB2 HX1 HB1;have x0:=HS3.out.x.cell 0 dc;have y0:=HS3.out.y.cell 0 dc;have z0:=HS3.out.x.1.fz 0;have HS4:=hid (HS3.out.add 0 (Y.getD 0 0) dc);have bx:=HXY.out.1 0;have by_:=HXY.out.2 0;have hS0:q8 X 0 (Y.getD 0 0)=adm X Y 0:=rfl;rw[hS0]at HS4;clear hS0;generalize Y.getD 0 0=yv at y0 by_ HS4;generalize X.getD 0 0=xv at x0 bx HS4
 try go_frame
 go_wp2_with fail
 go_loopg [5] 4 (fun g s5 wr=>∃i:Nat,i≤4∧4-i≤g∧s5=.int .i64 i∧Hid (axv w (adm X Y i) Y wr))
 case atStart=>
  exact⟨0,Nat.zero_le _,by omega,rfl,HS4⟩
 case round=>
  obtain⟨i,hi,hg,rfl,HR⟩:=hrel;clear HS3 HS4
  by_cases hlt:i<4
  ·have i1:(i:Int)<4:=by omega
   have i2:(0:Int) ≤(i:Int):=Int.natCast_nonneg _;have hb0:∀k,0 ≤(adm X Y i).getD k 0 ∧(adm X Y i).getD k 0≤20000000000:=fun k=>by have:=HOK.out i k;omega
   have HB1:=hid hb0;have HB2:Hid (yj (q8 (adm X Y i) (1+i) (Y.getD (1+i) 0)) 30000000000):=hid fun k=>by have h1:=abq hb0 (1+i) (HXY.out.2 (1+i)).1 k;have h2:=HXY.out.2 (1+i);omega
   have HB3:Hid (yj (q8 (q8 (adm X Y i) (1+i) (Y.getD (1+i) 0)) (5+i) (Y.getD (5+i) 0)) 40000000000):=hid fun k=>by have h1:=abq HB2.out (5+i) (HXY.out.2 (5+i)).1 k;have h2:=HXY.out.2 (5+i);omega
   have HEQ:Hid (adm X Y (i+1)=q8 (q8 (q8 (adm X Y i) (1+i) (Y.getD (1+i) 0)) (5+i) (Y.getD (5+i) 0)) (9+i) (Y.getD (9+i) 0)):=hid rfl;clear hb0;have x1:=HR.out.x.cell (1+i) om;have y1:=HR.out.y.cell (1+i) om;have z1:=HR.out.x.1.fz (1+i);have b1:=HB1.out (1+i);have c1:=HXY.out.2 (1+i);have H1:=hid (HR.out.add (1+i) (Y.getD (1+i) 0) om).drew;generalize (adm X Y i).getD (1+i) 0=p1 at x1 b1 H1;generalize hq1:Y.getD (1+i) 0=q1 at *;have HQ1:=hid hq1;clear hq1;go_wp2_with fail
   go_region
   clear x1 y1 z1 b1 c1;generalize (wr.setCell ⟨w.1.size,1+i,none⟩ (.int .i64 (p1+q1))).drew=A1 at *;have x2:=H1.out.x.cell (5+i) om;have y2:=H1.out.y.cell (5+i) om;have z2:=H1.out.x.1.fz (5+i);have b2:=HB2.out (5+i);have c2:=HXY.out.2 (5+i);have H2:=hid (H1.out.add (5+i) (Y.getD (5+i) 0) om).drew;generalize (q8 (adm X Y i) (1+i) q1).getD (5+i) 0=p2 at x2 b2 H2;generalize hq2:Y.getD (5+i) 0=q2 at *;have HQ2:=hid hq2;clear hq2;go_wp2_with fail
   go_region
   clear x2 y2 z2 b2 c2;generalize (A1.setCell ⟨w.1.size,5+i,none⟩ (.int .i64 (p2+q2))).drew=A2 at *;have x3:=H2.out.x.cell (9+i) om;have y3:=H2.out.y.cell (9+i) om;have z3:=H2.out.x.1.fz (9+i);have b3:=HB3.out (9+i);have c3:=HXY.out.2 (9+i);have H3:=hid (H2.out.add (9+i) (Y.getD (9+i) 0) om).drew;generalize (q8 (q8 (adm X Y i) (1+i) q1) (5+i) q2).getD (9+i) 0=p3 at x3 b3 H3;generalize hq3:Y.getD (9+i) 0=q3 at *;have HQ3:=hid hq3;clear hq3;go_wp2_with fail
   go_region
   clear x3 y3 z3 b3 c3;generalize (A2.setCell ⟨w.1.size,9+i,none⟩ (.int .i64 (p3+q3))).drew=A3 at *;go_wp2_with fail
   go_roundg (4-(i+1))
   case measure=>omega
   case rel=>exact⟨i+1,by omega,by omega,by simp,by rw[HEQ.out];exact H3⟩
  ·obtain rfl:i=4:=by omega
   have HL4:=hid (akz (Y:=Y) HLN.out.1 4)
   go_wp2_with (first
    | refine wpList_load_mid rfl 78 _ rfl w.1.size 0 rfl ((adm X Y 4).map (Value.int .i64)) _ HR.out.x.1.rg underlying78 rfl (afg HL4.out) ?_
    | (refine qe rfl 78 _ _ rfl (w.1.size+1+1) 0 (vr (adm X Y 4)) rfl rfl (HR.out.z.there 0 _ (by unfold vr;rw[List.size_toArray,List.length_map,HL4.out];decide)) (acz HL4.out) (aff _) ?_;intro W9 hs;have H9:=hid (HR.out.z.all hs (by unfold vr;rw[List.toList_toArray,List.length_map,HL4.out];rfl));have HB9:=hid (HR.out.bel.trans (hs.below om));clear hs))
   try go_frame
   have HLD:=hid (run_loadVar_mid (P:=prog) W9 (w.1.size+1+1) 0 78 (vr (adm X Y 4)).toList _ H9.out.rg underlying78 rfl (by rw[Array.length_toList];exact acz HL4.out));refine bodyPost_ret (v:=.agg (vr (adm X Y 4))) (by rw[aqe rfl];simp[asAddr,Result.andThen,HLD.out]) rfl ?_;exact⟨rfl,HB9.out⟩
