/- Parts. -/
import Derived.RangeFuncNested
import Derived.RangeFuncBound
import Derived.RangeFuncCalls
import Derived.RangeFuncLeaves
import Derived.OwnWalkIn
import Derived.TacticsInMore
import Derived.LoopNIn
import Derived.LoopIn
import Derived.Test.YtdkhlkfleggbaaaGreatU17
import Derived.Shelf.Abstract
import Derived.Shelf.RegionOpen
import Derived.Sort.QuietIn
namespace Go.Proofs.YtdkhlkfleggbaaaGreat
set_option maxHeartbeats 4000000
set_option maxRecDepth 8000
open Lib (hid)
open Tryz
set_option linter.unusedVariables false
open Go.RowKit
def ax5 {α:Type} (m:Nat) (P:Program) (gf:Nat) (lb:Array Value) (encs:α→Array Value) (bx:Nat) (S:List α→Prop) (w:World):Prop:=
 ∀(l:Nat) (J Jx:List α→World→Prop) (W:World),Below w.1.size w W →(∀pre V V',J pre V→V.grownBy V' (some bx)→J pre V') →
  (∀pre x V,J pre V →(∃rest,S (pre++x::rest))→YieldAt Fence.wide (m-1) P l (encs x) V fun e V'=>
   (e=.returned (.bool true)∧J (pre++[x]) V'∧V'.heap[bx]?=V.heap[bx]?) ∨(e=.returned (.bool false)∧Jx (pre++[x]) V')) →
  J [] W →
  CallsIn Fence.wide m P gf (#[.func (.yield l) #[] #[]]++lb) W fun e W'=>(∃v,e=.returned v) ∧((∃xs,S xs∧J xs W') ∨(∃pre,(∃rest,S (pre++rest))∧Jx pre W'))
def bhc {α:Type} (B bx:Nat) (I:List α→World→Prop) (Ix:Code→List α→World→Prop) (xs:List α) (W:World):Exit→Act→World→Prop
 | .normal,_,W'=>KeepsFrom B W W'∧W'.heap[bx]?=W.heap[bx]?∧I xs W'
 | .ret,_,W'=>KeepsFrom B W W'∧Ix .ret xs W'
 | _,_,_=>False
theorem ae7 {α:Type} {m:Nat} {P:Program} {g:Operand} {ps:Array Tmp} {assign body:Code} {Q:Exit→Act→World→Prop} {a:Act} {w:World}
 (h1:1≤m) {gf:Nat} {lb:Array Value} (hg:a.eval g=.func (.func gf) #[] lb) (eg:∀args w,(callFunc gf args).run P w=.ok (.enter gf args) w)
 {encs:α→Array Value} {bx:Nat} (hbx:bx<w.1.size) {S:List α→Prop} (hseq:ax5 (m-1) P gf lb encs bx S w) (hps:∀x,(encs x).size=ps.size)
 (I:List α→World→Prop) (Ix:Code→List α→World→Prop) (hI:OwnFrom w.1.size I) (hIx:∀c,OwnFrom w.1.size (Ix c)) (hIb:∀pre V V',I pre V→V.grownBy V' (some bx)→I pre V') (h0:I [] w) (A1:Array Value→α→Array Value)
 (hassign:∀(l:Nat) (x:α) (W:World) (K:Act→World→Prop),K {tmps:=A1 a.tmps x,defers:=[]} W →
  assign.wpIn (Fence.wide.inRound l) (m-1-1) P (Exit.then K (fun _ _ _=>False)) {tmps:=(ps.zip (encs x)).foldl (fun t (p,v)=>t.setIfInBounds p v) a.tmps,defers:=[]} W)
 (hbody:∀(l:Nat) (pre:List α) (x:α) (W:World),I pre W →(∃rest,S (pre++x::rest))→body.wpIn (Fence.wide.inRound l) (m-1-1) P (bhc w.1.size bx I Ix (pre++[x]) W) {tmps:=A1 a.tmps x,defers:=[]} W)
 (hdone:∀(D:Nat) (xs:List α) (W:World),w.1.size≤D→S xs→I xs W→W.heap[D]?=some (.deferred (some []))→Q .normal {a with defers:={target:=.collected D,args:=#[]}::a.defers} W)
 (hstop:∀(D:Nat) (pre:List α) (W:World),w.1.size≤D →(∃rest,S (pre++rest))→Ix .ret pre W→W.heap[D]?=some (.deferred (some []))→Code.ret.wpIn Fence.wide m P Q {a with defers:={target:=.collected D,args:=#[]}::a.defers} W) :
 (Code.rangeFunc g ps assign body).wpIn Fence.wide m P Q a w:=by
 refine wpIn_rangeFunc ?_;intro fn hfn;show ∃_,_;let rec_:LoopState→Option Code→Loop:=fun st pe=>{state:=st,pending:=pe,fn,tmps:=a.tmps,params:=ps,assign,body,defers:=w.1.size}
 obtain⟨R,hR⟩:∃R:LoopState→Option Code→Loop,R=rec_:=⟨_,rfl⟩;have rS:∀st pe,(R st pe).state=st:=fun st pe=>by rw[hR]
 obtain⟨W1,hW1⟩:∃W1,(w.alloc (.deferred (some []))).alloc (.loop (R .ready none))=W1:=⟨_,rfl⟩;have z1:W1.1.size=w.1.size+2:=by rw[← hW1];simp
 have bel:Below w.1.size w W1:=by rw[← hW1];exact((n6 _ w).alloc (a8 _) _).alloc sm _
 have atL:W1.heap[w.1.size+1]?=some (.loop (R .ready none)):=by
  have:=World.alloc_heap_new (w.alloc (.deferred (some []))) (.loop (R .ready none));rw[World.size_alloc]at this;rw[← hW1];exact this
 have atD:W1.heap[w.1.size]?=some (.deferred (some [])):=by
  rw[← hW1];exact(Below.heap_alloc _ _ _ sm).trans (World.alloc_heap_new w _)
 have i1:I [] W1:=by rw[← hW1];exact hI.alloc _ (hI.alloc _ h0)
 -- the record and the row of deferred calls,behind a write of block bx
 have far:∀(V V':World) (k:Nat) (o:Obj),V.grownBy V' (some bx)→w.1.size≤k→V.heap[k]?=some o→V'.heap[k]?=some o:=fun V V' k o hg hk ho=>
  (hg.block k (o9.1 ho).1 (fun e=>by cases e;omega)).trans ho
 refine⟨w.1.size+1,[{target:=.collected w.1.size,args:=#[]}],W1,{target:=.fn (.func gf) lb,args:=#[.func (.yield (w.1.size+1)) #[] #[]]},W1,gf,
  #[.func (.yield (w.1.size+1)) #[] #[]]++lb,W1,?_,?_,?_,?_,fun _=>h1,?_⟩
 ·rw[← hW1,hR];exact run_enterLoop_outer _ _ _ _ _
 ·simp only[resolve,hg];simp[go_sem]
 ·intro f' hf';trivial
 ·simp[invoke,go_sem,eg]
 ·refine(hseq (w.1.size+1)
   (fun pre V=>I pre V∧V.heap[w.1.size+1]?=some (.loop (R .ready none))∧V.heap[w.1.size]?=some (.deferred (some [])))
   (fun pre V=>Ix .ret pre V∧V.heap[w.1.size+1]?=some (.loop (R .done (some .ret)))∧V.heap[w.1.size]?=some (.deferred (some [])))
   W1 bel (fun pre V V' ⟨q1,q2,q3⟩ hg=>⟨hIb pre V V' q1 hg,far V V' _ _ hg om q2,far V V' _ _ hg (a8 _) q3⟩) ?_ ⟨i1,atL,atD⟩).mono ?_
  ·rintro pre x V ⟨hi,hl,hd⟩ hx;have hlt:w.1.size+1<V.1.size:=(o9.1 hl).1;have hy:=run_yield (P:=P) (args:=encs x) hl (by rw[hR];exact hps x);rw[hR]at hy;refine⟨fn,_,assign,body,hy,roundIn_of_wpIn hfn (hassign _ x V _ ⟨_,run_beginRound hl (rS _ _),?_⟩)⟩;obtain⟨V2,hV2⟩:∃V2,V.putObj (w.1.size+1) (.loop {R .ready none with state:=.busy})=V2:=⟨_,rfl⟩;have l2:V2.heap[w.1.size+1]?=some (.loop {R .ready none with state:=.busy}):=by rw[← hV2];exact World.putObj_heap_same hlt
   have d2:V2.heap[w.1.size]?=some (.deferred (some [])):=by rw[← hV2];exact(World.putObj_heap_other om).trans hd
   have b2:V2.heap[bx]?=V.heap[bx]?:=by rw[← hV2];exact World.putObj_heap_other om
   have i2:I pre V2:=by rw[← hV2];exact hI.putObj _ hi om hl rfl
   rw[hV2];refine wpIn_mono (hbody _ pre x V2 i2 hx) ?_
   have fin:∀(jump:Option Code) (V3:World),KeepsFrom w.1.size V2 V3 →
    (Instr.endRound (w.1.size+1) jump).run P V3=.ok (.bool jump.isNone) (V3.putObj (w.1.size+1) (.loop (R (if jump.isNone then .ready else .done) jump))) ∧
    V3.heap[w.1.size+1]?=some (.loop {R .ready none with state:=.busy}) ∧
    (V3.putObj (w.1.size+1) (.loop (R (if jump.isNone then .ready else .done) jump))).heap[w.1.size+1]?=some (.loop (R (if jump.isNone then .ready else .done) jump)) ∧
    (V3.putObj (w.1.size+1) (.loop (R (if jump.isNone then .ready else .done) jump))).heap[w.1.size]?=some (.deferred (some [])):=fun jump V3 hk3=>by
    have l3:=hk3.same _ _ om l2 rfl;have hr:=run_endRound (P:=P) jump l3;rw[hR]at hr l3 ⊢;exact⟨hr,l3,World.putObj_heap_same (o9.1 l3).1,(World.putObj_heap_other om).trans (hk3.same _ _ (a8 _) d2 rfl)⟩
   rintro e a3 V3 hp;cases e with
   | normal=>
    obtain⟨hk3,hb3,hi3⟩:=hp;obtain⟨hr,l3,l4,d4⟩:=fin none V3 hk3;exact⟨_,_,hr,.inl ⟨rfl,⟨hI.putObj _ hi3 om l3 rfl,l4,d4⟩,(World.putObj_heap_other om).trans (hb3.trans b2)⟩⟩
   | ret=>
    obtain⟨hk3,hi3⟩:=hp;obtain⟨hr,l3,l4,d4⟩:=fin (some .ret) V3 hk3;exact⟨_,_,hr,.inr ⟨rfl,(hIx _).putObj _ hi3 om l3 rfl,l4,d4⟩⟩
   | exit id=>exact hp.elim
   | goto t=>exact hp.elim
   | panic ch=>exact hp.elim
   | outgrown=>exact hp.elim
  ·rintro e V ⟨⟨v,rfl⟩,(⟨xs,hS,hi,hl,hd⟩|⟨pre,hS,hi,hl,hd⟩)⟩
   ·have he:=run_endLoop (P:=P) hl (by rw[hR];simp[rec_]);rw[hR]at he;exact⟨none,_,he,hdone _ xs _ (a8 _) hS (hI.putObj _ hi om hl rfl) ((World.putObj_heap_other om).trans hd)⟩
   ·have he:=run_endLoop (P:=P) hl (by rw[hR];simp[rec_]);rw[hR]at he;exact⟨some .ret,_,he,hstop _ pre _ (a8 _) hS ((hIx _).putObj _ hi om hl rfl) ((World.putObj_heap_other om).trans hd)⟩
open Go.RowKit Go.Shelf
attribute [local go_sem] Oper.semAt_some
def vj (a b:UInt8):Int×Bool:=(10*((((a.toNat:Int)-48)%256)) +(((b.toNat:Int)-48)%256),aae a && aae b)
def k9:List UInt8→List (Int×Bool)
 | a::b::l=>vj a b::k9 l
 | _=>[]
def a3r (w:World) (bx:Nat):Nat:=match w.cell? ⟨bx,0,none⟩with|some (.string s)=>s.size|_=>0
theorem as7 {w:World} {bx:Nat} {s:ByteArray} (h:w.cell? ⟨bx,0,none⟩=some (.string s)):a3r w bx=s.size:=by unfold a3r;rw[h]
theorem bao {s:ByteArray} (h:1<s.size):k9 s.data.toList=vj (s[0]'(by omega)) (s[1]'h)::k9 (s.extract 2 s.size).data.toList:=by
 obtain⟨⟨l⟩⟩:=s
 match l,h with
 | a::b::l,h=>
  show vj a b::k9 l=vj a b::k9 _
  congr 2
  have hz:({data:={toList:=a::b::l}}:ByteArray).size=l.length+2:=rfl;rw[hz];simp[ByteArray.extract,ByteArray.copySlice]
 | [a],h=>exact absurd h (Nat.lt_irrefl 1)
 | [],h=>exact absurd h (b0v 1)
theorem ban {s:ByteArray} (h:s.size≤1):k9 s.data.toList=[]:=by
 obtain⟨⟨l⟩⟩:=s
 match l,h with
 | a::b::l,h=>simp[ByteArray.size]at h
 | [a],h=>rfl
 | [],h=>rfl
theorem ay5 (c:UInt8):aae c=decide (((c.toNat:Int)-48)%256<10):=by
 have:=c.toNat_lt;unfold aae;rw[b4c];simp only[b0d,b1b];omega
theorem a2j (c:UInt8):IntKind.u8.wrap ((c.toNat:Int)-48)=((c.toNat:Int)-48)%256∧0 ≤((c.toNat:Int)-48)%256 ∧((c.toNat:Int)-48)%256≤255:=by
 refine⟨?_,by omega,by omega⟩;rfl
def bc3 (l:List (Int×Bool)) (bx:Nat) (J:List (Int×Bool)→World→Prop) (w:World):Prop:=
 ∃pre sr,l=pre++k9 (ByteArray.data sr).toList∧J pre w∧w.cell? ⟨bx,0,none⟩=some (.string sr)∧w.frozen? ⟨bx,0,none⟩=false∧sr.size≤1000000
theorem ajs (s:ByteArray) (w:World):Calls prog 226 #[.string s] w fun e w'=>e=.returned (.func (.func 234) #[] #[.pointer (some ⟨w.1.size,0,none⟩)])∧w'=w.alloc (.cells #[.string s] 9):=by
 go_enter func226,ntmps226;go_wp2;go_ret;exact⟨rfl,rfl⟩
set_option maxRecDepth 100000 in
theorem ahm (m bx:Nat) (hm:1≤m) (s:ByteArray) (hs:s.size≤1000000) (w:World) (hw:w.cell? ⟨bx,0,none⟩=some (.string s)) (hf:w.frozen? ⟨bx,0,none⟩=false) (hbx:bx<w.1.size) :
 ax5 m prog 234 #[.pointer (some ⟨bx,0,none⟩)] (fun x:Int×Bool=>#[.int .i64 x.1,.bool x.2]) bx (fun xs=>xs=k9 s.data.toList) w:=by
 intro l J Jx W hW hJ hY h0;have hbW:W.cell? ⟨bx,0,none⟩=some (.string s):=(hW.cell (p:=⟨bx,0,none⟩) hbx).trans hw;have hfW:W.frozen? ⟨bx,0,none⟩=false:=(hW.frozen (p:=⟨bx,0,none⟩) hbx).trans hf;have HJ:=hid hJ;have HY:=hid hY;have HI0:Hid (bc3 (k9 s.data.toList) bx J W):=⟨[],s,rfl,h0,hbW,hfW,hs⟩;clear hJ hY h0 hW hw hf hbW hfW;have hmx:prog.follows .mixedOrders=true:=by kernel_rfl
 refine callsIn_of_wp func234 rfl trivial ?_ rfl;simp only[ntmps234,o6,n7,b04,Nat.reduceAdd,Nat.reduceSub,b2a,b2b,b2t,b2h,b03,b02]
 gi_wp2
 gi_loopw [] (fun wr=>Hid (bc3 (k9 s.data.toList) bx J wr)) (fun wr=>a3r wr bx)
 case atStart=>exact HI0
 case round=>
  clear HI0;obtain⟨pre,sr,he,hj,hc,hf,hz⟩:=hrel.out;have hbl:=as7 hc
  by_cases h1:1<sr.size
  ·have hp:=bao h1;rw[hp]at he;clear hp;have hi1:(1:Int)<(sr.size:Int):=by omega
   have h0:0<sr.size:=by omega
   obtain⟨wa,a0,a1⟩:=a2j sr[0];obtain⟨wb,b0,b1⟩:=a2j sr[1];have hd1:=ay5 sr[0];have hd2:=ay5 sr[1]
   have HPV:Hid (vj sr[0] sr[1]=(10*(((sr[0].toNat:Int)-48)%256) +(((sr[1].toNat:Int)-48)%256),decide (((sr[0].toNat:Int)-48)%256<10) && decide (((sr[1].toNat:Int)-48)%256<10))):=by
    show _=_;rw[← hd1,← hd2];rfl
   rw[HPV.out]at he;clear hd1 hd2 HPV;have HNX:Hid (k9 (sr.extract 2 sr.size).data.toList=k9 (sr.extract 2 sr.size).data.toList):=hid rfl;have hx2:(sr.extract 2 sr.size).size=sr.size-2:=by rw[b0u];omega
   have HX2:=hid hx2;clear HNX hx2;generalize ((sr[0].toNat:Int)-48)%256=A at *;generalize ((sr[1].toNat:Int)-48)%256=B at *;have HE:=hid he;have HJ2:=hid hj;have HB:=hid hbl;clear he hj hrel hbl
   gi_wp2
   gi_quiet (fail)
   have hj2:=HJ.out pre wr (wr.drewN nq) HJ2.out ⟨rfl,rfl,rfl,a8 _,fun _ _ _=>rfl⟩;have hc2:(wr.drewN nq).cell? ⟨bx,0,none⟩=some (.string sr):=hc;have hf2:(wr.drewN nq).frozen? ⟨bx,0,none⟩=false:=hf;clear hc hf;generalize wr.drewN nq=wq at *
   obtain⟨x2,hx,hw⟩:∃x2:Bool,(decide (A<10) && decide (B<10))=x2 ∧(A<10∧decide (B<10)=true∧x2=true∨A<10∧decide (B<10)=false∧x2=false∨10≤A∧True∧x2=false):=by
    by_cases p1:A<10
    ·by_cases p2:B<10
     ·exact⟨true,by rw[p9 p1,p9 p2];rfl,.inl ⟨p1,p9 p2,rfl⟩⟩
     ·exact⟨false,by rw[o3 p2,Bool.and_false],.inr (.inl ⟨p1,o3 p2,rfl⟩)⟩
    ·exact⟨false,by rw[o3 p1];rfl,.inr (.inr ⟨by omega,trivial,rfl⟩)⟩
   have he2:=HE.out;rw[hx]at he2;have HE2:=hid he2;obtain⟨fn,tmps,assign,body,hy,hR⟩:=HY.out pre (10*A+B,x2) _ hj2 ⟨_,he2.symm⟩;dsimp only at hy;have HR:=hid hR;clear hR hj2 he2 hx HE HJ2;rcases hw with⟨p1,p2,rfl⟩|⟨p1,p2,rfl⟩|⟨p1,p2,rfl⟩
   all_goals
    gi_wp2
    refine HR.out.mono ?_;rintro e V' (⟨rfl,hJ3,hb3⟩|⟨rfl,hJ3⟩)
    ·have hc3:V'.cell? ⟨bx,0,none⟩=some (.string sr):=(b0q (a:=⟨bx,0,none⟩) hb3).trans hc2;have hf3:V'.frozen? ⟨bx,0,none⟩=false:=(b1l (a:=⟨bx,0,none⟩) hb3).trans hf2;have HJ3:=hid hJ3;have hj4:=HJ.out _ V' (V'.setCell ⟨bx,0,none⟩ (.string (sr.extract 2 sr.size))) hJ3 (grownBy_setCell' V' bx _);have hc4:(V'.setCell ⟨bx,0,none⟩ (.string (sr.extract 2 sr.size))).cell? ⟨bx,0,none⟩=some (.string (sr.extract 2 sr.size)):=b0b _ _ _ (by rw[hc3];rfl);have hf4:(V'.setCell ⟨bx,0,none⟩ (.string (sr.extract 2 sr.size))).frozen? ⟨bx,0,none⟩=false:=by rw[b3k];exact hf3
     have HL4:=hid (as7 hc4);have HFIN:Hid (bc3 (k9 s.data.toList) bx J (V'.setCell ⟨bx,0,none⟩ (.string (sr.extract 2 sr.size)))):=⟨_,sr.extract 2 sr.size,by rw[HE2.out,b0l];rfl,hj4,hc4,hf4,by rw[HX2.out];omega⟩;clear hJ3 hj4 hc4 hf4 hb3 hc2 hf2 HJ3
     gi_wp2
     go_roundw
     case rel=>exact HFIN
     case measure=>rw[HL4.out,HB.out,HX2.out];omega
    ·have HJ3:=hid hJ3;clear hJ3
     gi_wp2
     refine b9 (results_none rfl _ _ _) rfl ?_;exact⟨⟨_,rfl⟩,.inr ⟨_,⟨k9 (sr.extract 2 sr.size).data.toList,by rw[HE2.out,b0l];rfl⟩,HJ3.out⟩⟩
  ·have hi1:(sr.size:Int)≤1:=by omega
   rw[ban (s:=sr) om,b0k]at he;have HE:=hid he;have HJ2:=hid hj;clear he hj hrel hbl hf
   gi_wp2
   go_end0
   exact⟨⟨_,rfl⟩,.inl ⟨_,HE.out.symm,HJ2.out⟩⟩
open Go.RowKit Go.Shelf
attribute [local go_sem] Oper.semAt_some
def a8k (P:Program) (fn:Func) (R:Ending→World→Prop) (_:Exit→Act→World→Prop):Exit→Act→World→Prop
 | .ret,a,w=>bodyPostM Fence.wide 8 P fn R .ret a w
 | _,_,_=>False
theorem yo {P:Program} {f:FuncId} {fn:Func} {c:Code} {args:Array Value} {w:World} {R:Ending→World→Prop} (hf:P.funcs[f]?=some fn) (hb:fn.body=some c)
 (h:c.wp P (a8k P fn R (bodyPost P fn R)) {tmps:=args++Array.replicate (fn.ntmps-args.size) undef,defers:=[]} w):Calls P f args w R:=by
 refine(callsIn_wide (n:=8)).1 (callsIn_of_wp_marks hf hb trivial (wpIn_wide.2 (b5h h ?_)) rfl);intro e a w' hq;cases e with
 | ret=>exact hq
 | _=>exact hq.elim
structure adv (w:World) (pre:List (Int×Bool)) (W:World):Prop where
 out:∀j,j<3→W.cell? ⟨w.1.size+2,j,none⟩=some (.int .i64 ((pre.map Prod.fst).getD j 0))
 cnt:W.cell? ⟨w.1.size+3,0,none⟩=some (.int .i64 (pre.length:Int))
 r0:∀j,j<3→W.cell? ⟨w.1.size,j,none⟩=some (.int .i64 0)
 r1:W.cell? ⟨w.1.size+1,0,none⟩=some (.bool false)
 fr:∀b,w.1.size≤b→b<w.1.size+4→∀o,W.frozen? ⟨b,o,none⟩=false
 bel:Below w.1.size w W
 ok:∀x∈pre,x.2=true
structure aus (w:World) (pre:List (Int×Bool)) (W:World):Prop where
 r0:∀j,j<3→∃a,W.cell? ⟨w.1.size,j,none⟩=some (.int .i64 a)
 r1:W.cell? ⟨w.1.size+1,0,none⟩=some (.bool false)
 bel:Below w.1.size w W
 sz:w.1.size+4≤W.1.size
 bad:∃x∈pre,x.2=false
theorem akx {w W W':World} {row:Option Nat} {b:Nat} {o:Obj} (hg:W.grownBy W' row) (hr:∀r,row=some r→∃o:Obj,W.heap[r]?=some o∧o.isCells=false) (ho:W.heap[b]?=some o) (hc:o.isCells=true):W'.heap[b]?=W.heap[b]?:=
 hg.block b (o9.1 ho).1 (fun e=>by obtain⟨o',ho',hc'⟩:=hr b e.symm;rw[ho]at ho';cases ho';rw[hc]at hc';cases hc')
theorem adv.same {w W W':World} {pre:List (Int×Bool)} (h:adv w pre W) (hb:∀b,w.1.size≤b→b<w.1.size+4→W'.heap[b]?=W.heap[b]?) (hw:Below w.1.size w W'):adv w pre W' where
 out:=fun j hj=>(b0q (a:=⟨_,j,none⟩) (hb (w.1.size+2) om om)).trans (h.out j hj)
 cnt:=(b0q (a:=⟨_,0,none⟩) (hb (w.1.size+3) om om)).trans h.cnt
 r0:=fun j hj=>(b0q (a:=⟨_,j,none⟩) (hb w.1.size om om)).trans (h.r0 j hj)
 r1:=(b0q (a:=⟨_,0,none⟩) (hb (w.1.size+1) om om)).trans h.r1
 fr:=fun b h1 h2 o=>(b1l (a:=⟨b,o,none⟩) (hb b h1 h2)).trans (h.fr b h1 h2 o)
 bel:=hw
 ok:=h.ok
theorem aus.same {w W W':World} {pre:List (Int×Bool)} (h:aus w pre W) (hb:∀b,w.1.size≤b→b<w.1.size+4→W'.heap[b]?=W.heap[b]?) (hw:Below w.1.size w W') (hz:W.1.size≤W'.1.size):aus w pre W' where
 sz:=o8 h.sz hz
 r0:=fun j hj=>by obtain⟨a,ha⟩:=h.r0 j hj;exact⟨a,(b0q (a:=⟨_,j,none⟩) (hb w.1.size om om)).trans ha⟩
 r1:=(b0q (a:=⟨_,0,none⟩) (hb (w.1.size+1) om om)).trans h.r1
 bel:=hw
 bad:=h.bad
theorem adv.blocks {w W:World} {pre:List (Int×Bool)} (h:adv w pre W):∀b,w.1.size≤b→b<w.1.size+4→∃o,W.heap[b]?=some o∧o.isCells=true:=fun b h1 h2=>by
 rcases(by omega:b=w.1.size∨b=w.1.size+1∨b=w.1.size+2∨b=w.1.size+3)with rfl|rfl|rfl|rfl
 ·exact cells_of_cell (h.r0 0 om)
 ·exact cells_of_cell h.r1
 ·exact cells_of_cell (h.out 0 om)
 ·exact cells_of_cell h.cnt
theorem adv.snoc {w W:World} {pre:List (Int×Bool)} (h:adv w pre W) (hl:pre.length<3) (n:Int) :
 adv w (pre++[(n,true)]) ((W.setCell ⟨w.1.size+2,pre.length,none⟩ (.int .i64 n)).setCell ⟨w.1.size+3,0,none⟩ (.int .i64 ((pre.length:Int)+1))) where
 out:=fun j hj=>by
  rw[a9 _ _ _ _ (fun e=>by injection e with e _;omega)]
  by_cases e:j=pre.length
  ·subst e;rw[b0b _ _ _ (by rw[h.out _ hl];rfl)];simp
  ·rw[a9 _ _ _ _ (fun q=>by injection q with _ q;exact e q.symm),h.out j hj]
   congr 2
   simp only[b1y,l9];rcases b01 j pre.length with q|q
   ·rw[b0a (by simpa using q)]
   ·rw[t8 (by simpa using q),t9 (by simpa using q),t9 (by simp;omega)]
 cnt:=by
  rw[b0b _ _ _ (by rw[a9 _ _ _ _ (fun e=>by injection e with e _;omega),h.cnt];rfl)];simp
 r0:=fun j hj=>by
  rw[a9 _ _ _ _ (fun e=>by injection e with e _;omega),a9 _ _ _ _ (fun e=>by injection e with e _;omega)];exact h.r0 j hj
 r1:=by
  rw[a9 _ _ _ _ (fun e=>by injection e with e _;omega),a9 _ _ _ _ (fun e=>by injection e with e _;omega)];exact h.r1
 fr:=fun b h1 h2 o=>by rw[b3k,b3k];exact h.fr b h1 h2 o
 bel:=(h.bel.setCell (by show w.1.size≤w.1.size+2;omega) _).setCell (by show w.1.size≤w.1.size+3;omega) _
 ok:=fun x hx=>by
  rcases b1u.1 hx with q|q
  ·exact h.ok x q
  ·rw[b3h.1 q]
theorem bna {W:World} {g:Nat} {a b c x y z:Value} (h0:W.cell? ⟨g,0,none⟩=some x) (h1:W.cell? ⟨g,1,none⟩=some y) (h2:W.cell? ⟨g,2,none⟩=some z) :
 (((W.setCell ⟨g,0,none⟩ a).setCell ⟨g,1,none⟩ b).setCell ⟨g,2,none⟩ c).cell? ⟨g,0,none⟩=some a ∧(((W.setCell ⟨g,0,none⟩ a).setCell ⟨g,1,none⟩ b).setCell ⟨g,2,none⟩ c).cell? ⟨g,1,none⟩=some b ∧(((W.setCell ⟨g,0,none⟩ a).setCell ⟨g,1,none⟩ b).setCell ⟨g,2,none⟩ c).cell? ⟨g,2,none⟩=some c:=by
 have n01:(⟨g,1,none⟩:Addr) ≠⟨g,0,none⟩:=fun e=>by injection e with _ e;cases e
 have n02:(⟨g,2,none⟩:Addr) ≠⟨g,0,none⟩:=fun e=>by injection e with _ e;cases e
 have n12:(⟨g,2,none⟩:Addr) ≠⟨g,1,none⟩:=fun e=>by injection e with _ e;cases e
 refine⟨?_,?_,?_⟩
 ·rw[a9 _ _ _ _ n02,a9 _ _ _ _ n01,b0b _ _ _ (by rw[h0];rfl)]
 ·rw[a9 _ _ _ _ n12,b0b _ _ _ (by rw[a9 _ _ _ _ n01.symm,h1];rfl)]
 ·rw[b0b _ _ _ (by rw[a9 _ _ _ _ n12.symm,a9 _ _ _ _ n02.symm,h2];rfl)]
theorem aik {W:World} {g h o:Nat} {a b c d:Value} (hn:h≠g):((((W.setCell ⟨g,0,none⟩ a).setCell ⟨g,1,none⟩ b).setCell ⟨g,2,none⟩ c).setCell ⟨h,0,none⟩ d).cell? ⟨g,o,none⟩=(((W.setCell ⟨g,0,none⟩ a).setCell ⟨g,1,none⟩ b).setCell ⟨g,2,none⟩ c).cell? ⟨g,o,none⟩:=
 a9 _ _ _ _ (fun e=>by injection e with e _;exact hn e)
theorem a1t {W:World} {g h:Nat} {a b c d x:Value} (hn:h≠g) (h0:W.cell? ⟨h,0,none⟩=some x):((((W.setCell ⟨g,0,none⟩ a).setCell ⟨g,1,none⟩ b).setCell ⟨g,2,none⟩ c).setCell ⟨h,0,none⟩ d).cell? ⟨h,0,none⟩=some d:=by
 have n:∀o,(⟨g,o,none⟩:Addr) ≠⟨h,0,none⟩:=fun o e=>by injection e with e _;exact hn e.symm
 exact b0b _ _ _ (by rw[a9 _ _ _ _ (n 2),a9 _ _ _ _ (n 1),a9 _ _ _ _ (n 0),h0];rfl)
theorem bd9 {W:World} {p q r s:Addr} {a b c d:Value}:KeepsOthers W ((((W.setCell p a).setCell q b).setCell r c).setCell s d):=
 (((KeepsOthers.setCell _ _ _).trans (KeepsOthers.setCell _ _ _)).trans (KeepsOthers.setCell _ _ _)).trans (KeepsOthers.setCell _ _ _)
def alq (l:List UInt8) (w:World) (e:Ending) (w':World):Prop:=
 ∃(a b c:Int) (k:Bool),e=.returned (.tuple #[.agg #[.int .i64 a,.int .i64 b,.int .i64 c],.bool k])∧ab0 l=(if k=true then some (a,b,c)else none)∧Below w.1.size w w'
theorem a6y {l:List UInt8} (h:l.length≠6):ab0 l=none:=by
 unfold ab0
 split
 ·exact absurd rfl h
 ·rfl
theorem a5e {l:List UInt8} (h:l.length=6):(k9 l).length=3:=by
 match l,h with
 | [a,b,c,d,e,f],_=>rfl
theorem bf7 {l:List UInt8} (h:l.length=6):∃a b c d e f,l=[a,b,c,d,e,f]:=by
 match l,h with
 | [a,b,c,d,e,f],_=>exact⟨a,b,c,d,e,f,rfl⟩
theorem aff {a b:UInt8} (h:(vj a b).2=true):(vj a b).1=asa a b:=by
 have h:(aae a && aae b)=true:=h;rw[b0d]at h;obtain⟨h1,h2⟩:=h;unfold aae at h1 h2;simp only[b0d,b1b]at h1 h2;unfold vj asa;simp only;omega
theorem bcb {l:List UInt8} (h:l.length=6) (hk:∀x∈k9 l,x.2=true):∃p q r,k9 l=[p,q,r]∧ab0 l=some (p.1,q.1,r.1):=by
 obtain⟨a,b,c,d,e,f,rfl⟩:=bf7 h;refine⟨vj a b,vj c d,vj e f,rfl,?_⟩;have h1:=hk (vj a b) (by simp[k9]);have h2:=hk (vj c d) (by simp[k9]);have h3:=hk (vj e f) (by simp[k9]);rw[aff h1,aff h2,aff h3];have h1:(aae a && aae b)=true:=h1;have h2:(aae c && aae d)=true:=h2;have h3:(aae e && aae f)=true:=h3;rw[b0d]at h1 h2 h3;show (if _ then _ else _)=_;rw[h1.1,h1.2,h2.1,h2.2,h3.1,h3.2];rfl
theorem bcc {l:List UInt8} (h:l.length=6) (hk:∃x∈k9 l,x.2=false):ab0 l=none:=by
 obtain⟨a,b,c,d,e,f,rfl⟩:=bf7 h;obtain⟨x,hx,h2⟩:=hk;show (if _ then _ else _)=_;rw[if_neg ?_];intro q;simp only[b0d]at q;have hx':x=vj a b∨x=vj c d∨x=vj e f:=by simpa [k9]using hx
 rcases hx' with rfl|rfl|rfl
 ·have h2:(aae a && aae b)=false:=h2;rw[q.1.1.1.1.1,q.1.1.1.1.2]at h2;cases h2
 ·have h2:(aae c && aae d)=false:=h2;rw[q.1.1.1.2,q.1.1.2]at h2;cases h2
 ·have h2:(aae e && aae f)=false:=h2;rw[q.1.2,q.2]at h2;cases h2
theorem a2a (s:ByteArray) (w:World) (t1 t2 t3 t4 t5:TypeId) :
 adv w [] (((((w.alloc (.cells #[.int .i64 0,.int .i64 0,.int .i64 0] t1)).alloc (.cells #[.bool false] t2)).alloc (.cells #[.int .i64 0,.int .i64 0,.int .i64 0] t3)).alloc (.cells #[.int .i64 0] t4)).alloc (.cells #[.string s] t5)) where
 out:=fun j hj=>by
  rw[n5 _ _ _ (by simp<;>omega),n5 _ _ _ (by simp<;>omega),b8 _ _ _ _ sm];rcases(by omega:j=0∨j=1∨j=2)with rfl|rfl|rfl<;>rfl
 cnt:=by
  rw[n5 _ _ _ (by simp<;>omega),b8 _ _ _ _ sm];rfl
 r0:=fun j hj=>by
  rw[n5 _ _ _ (by simp<;>omega),n5 _ _ _ (by simp<;>omega),n5 _ _ _ (by simp<;>omega),n5 _ _ _ (by simp<;>omega),b8 _ _ _ _ sm];rcases(by omega:j=0∨j=1∨j=2)with rfl|rfl|rfl<;>rfl
 r1:=by
  rw[n5 _ _ _ (by simp<;>omega),n5 _ _ _ (by simp<;>omega),n5 _ _ _ (by simp<;>omega),b8 _ _ _ _ sm];rfl
 fr:=fun b h1 h2 o=>by
  simp only[i9];exact qk _ _ _ h1
 bel:=qb (qb (qb (qb (qa _ _) (qa _ _)) (qa _ _)) (qa _ _)) (qa _ _)
 ok:=fun x hx=>by cases hx
theorem au7 (s:ByteArray) (w:World) (hs:s.size≤1000000) (h:s.size≠6):Calls prog 209 #[.string s] w (alq s.data.toList w):=by
 have HL:Hid (ab0 s.data.toList=none):=a6y (by simpa using h);have hne:((s.size:Int) != 6)=true:=by rw[b0g];omega
 refine yo func209 rfl ?_;simp only[ntmps209,o6,n7,b04,Nat.reduceAdd,Nat.reduceSub,b2a,b2b,b2t,b2h,b03,b02];go_wp2_with fail;refine⟨.tuple #[.agg #[.int .i64 0,.int .i64 0,.int .i64 0],.bool false],by simp[results,results209,go_sem],?_⟩;exact⟨0,0,0,false,rfl,HL.out,qb (qb (qa _ _) (qa _ _)) (qa _ _)⟩
theorem a33 (s:ByteArray) (w:World) (h:s.size=6):Calls prog 209 #[.string s] w (alq s.data.toList w):=by
 have hne:((s.size:Int) != 6)=false:=by rw[t7,h];rfl
 have HS6:=hid h;clear h;refine yo func209 rfl ?_;simp only[ntmps209,o6,n7,b04,Nat.reduceAdd,Nat.reduceSub,b2a,b2b,b2t,b2h,b03,b02];go_wp2_with fail;refine(ajs _ _).mono ?_;rintro r x5 ⟨rfl,rfl⟩;go_wp2_with fail;have hbx:w.1.size+1+1+1+1<(((((w.alloc (.cells #[.int .i64 0,.int .i64 0,.int .i64 0] 343)).alloc (.cells #[.bool false] 4)).alloc (.cells #[.int .i64 0,.int .i64 0,.int .i64 0] 343)).alloc (.cells #[.int .i64 0] 3)).alloc (.cells #[.string s] 9)).1.size:=by simp
 have hI0:adv w [] (((((w.alloc (.cells #[.int .i64 0,.int .i64 0,.int .i64 0] 343)).alloc (.cells #[.bool false] 4)).alloc (.cells #[.int .i64 0,.int .i64 0,.int .i64 0] 343)).alloc (.cells #[.int .i64 0] 3)).alloc (.cells #[.string s] 9)):=a2a s w _ _ _ _ _;have hbs:(((((w.alloc (.cells #[.int .i64 0,.int .i64 0,.int .i64 0] 343)).alloc (.cells #[.bool false] 4)).alloc (.cells #[.int .i64 0,.int .i64 0,.int .i64 0] 343)).alloc (.cells #[.int .i64 0] 3)).alloc (.cells #[.string s] 9)).cell? ⟨w.1.size+1+1+1+1,0,none⟩=some (.string s):=b8 _ _ _ _ sm
 have hbf:(((((w.alloc (.cells #[.int .i64 0,.int .i64 0,.int .i64 0] 343)).alloc (.cells #[.bool false] 4)).alloc (.cells #[.int .i64 0,.int .i64 0,.int .i64 0] 343)).alloc (.cells #[.int .i64 0] 3)).alloc (.cells #[.string s] 9)).frozen? ⟨w.1.size+1+1+1+1,0,none⟩=false:=by
  simp only[i9];exact qk _ _ _ om
 have hz5:(((((w.alloc (.cells #[.int .i64 0,.int .i64 0,.int .i64 0] 343)).alloc (.cells #[.bool false] 4)).alloc (.cells #[.int .i64 0,.int .i64 0,.int .i64 0] 343)).alloc (.cells #[.int .i64 0] 3)).alloc (.cells #[.string s] 9)).1.size=w.1.size+5:=by simp
 generalize hW5:((((w.alloc (.cells #[.int .i64 0,.int .i64 0,.int .i64 0] 343)).alloc (.cells #[.bool false] 4)).alloc (.cells #[.int .i64 0,.int .i64 0,.int .i64 0] 343)).alloc (.cells #[.int .i64 0] 3)).alloc (.cells #[.string s] 9)=W5 at *;clear hW5;refine(wpIn_wide (n:=8)).1 ?_
 refine ae7 om (gf:=234) (lb:=#[.pointer (some ⟨w.1.size+1+1+1+1,0,none⟩)]) rfl (enters_of func234 kr rfl) hbx
  (ahm 7 (w.1.size+1+1+1+1) om s (by rw[HS6.out];omega) W5 hbs hbf hbx) (fun _=>rfl)
  (fun pre W=>adv w pre W) (fun _ pre W=>aus w pre W) ?own ?ownx ?box hI0
  (fun T x=>(((T.setIfInBounds 14 (.int .i64 x.1)).setIfInBounds 15 (.bool x.2)).setIfInBounds 6 (.int .i64 x.1)).setIfInBounds 7 (.bool x.2)) ?assign ?body ?done ?stop
 case own=>
  intro pre W W' row h hg hr;refine h.same (fun b h1 h2=>?_) (h.bel.grown hg h.bel.size (fun k e=>by have:=(hr k e).1;omega));obtain⟨o,ho,hc⟩:=h.blocks b h1 h2;exact akx (w:=w) hg (fun r e=>(hr r e).2) ho hc
 case ownx=>
  intro c pre W W' row h hg hr;refine h.same (fun b h1 h2=>hg.block b ?_ (fun e=>by have:=(hr b e.symm).1;omega)) (h.bel.grown hg h.bel.size (fun k e=>by have:=(hr k e).1;omega)) hg.size;have:=h.sz;omega
 case box=>
  intro pre W W' h hg;refine h.same (fun b h1 h2=>hg.block b ?_ (fun e=>by cases e;omega)) (h.bel.grown hg h.bel.size (fun k e=>by cases e;omega));obtain⟨o,ho,-⟩:=h.blocks b h1 h2;exact(o9.1 ho).1
 case assign=>
  rintro l ⟨xn,xb⟩ W K hK
  gi_wp2
  exact hK
 case body=>
  rintro l pre ⟨xn,xb⟩ W hI ⟨rest,hrest⟩
  have hl:pre.length<3:=by
   have h1:=a5e (l:=s.data.toList) (by simpa using HS6.out);rw[← hrest,d7,n7]at h1;omega
  simp only[b2v,b3v,b4r];have HI:=hid hI;have o0:=hI.out 0 om;have o1:=hI.out 1 om;have o2:=hI.out 2 om;have r0:=hI.r0 0 om;have r1:=hI.r0 1 om;have r2:=hI.r0 2 om;have r3:=hI.r1;have cn:=hI.cnt;have f0:=fun o=>hI.fr w.1.size om om o
  have f1:=hI.fr (w.1.size+1) om om 0;have f2:=fun o=>hI.fr (w.1.size+2) om om o
  have f3:=hI.fr (w.1.size+3) om om 0;have hnw:=hI.out pre.length hl;generalize (pre.map Prod.fst).getD 0 0=v0 at *;generalize (pre.map Prod.fst).getD 1 0=v1 at *;generalize (pre.map Prod.fst).getD 2 0=v2 at *;generalize (pre.map Prod.fst).getD pre.length 0=v3 at *;have HR:=hid hrest;have i1:(0:Int) ≤(pre.length:Int):=by omega
  have i2:(pre.length:Int)<3:=by omega
  clear hI hI0 hbs hbf hrest;cases xb with
  | false=>
   gi_wp2
   obtain⟨c0,c1,c2⟩:=bna (a:=.int .i64 v0) (b:=.int .i64 v1) (c:=.int .i64 v2) r0 r1 r2;refine⟨bd9.from _,⟨fun j hj=>?_,a1t om r3,?_,?_,⟨_,List.mem_append_right _ (List.mem_singleton_self _),rfl⟩⟩⟩
   ·rcases(by omega:j=0∨j=1∨j=2)with rfl|rfl|rfl
    ·exact⟨v0,(aik om).trans c0⟩
    ·exact⟨v1,(aik om).trans c1⟩
    ·exact⟨v2,(aik om).trans c2⟩
   ·exact(((HI.out.bel.setCell (a8 _) _).setCell (a8 _) _).setCell (a8 _) _).setCell (b2g _) _
   ·obtain⟨o,ho,-⟩:=HI.out.blocks (w.1.size+3) om om;have:=(o9.1 ho).1;simp;omega
  | true=>
   gi_wp2
   refine⟨((KeepsOthers.setCell _ _ _).trans (KeepsOthers.setCell _ _ _)).from _,?_,HI.out.snoc hl xn⟩;obtain⟨o,ho,-⟩:=HI.out.blocks (w.1.size+3) om om;have hz3:=(o9.1 ho).1;rw[b1r _ _ _ _ sm,b1r _ _ _ _ (by simp<;>omega)]
 case done=>
  rintro D xs W hD rfl hI hK;obtain⟨p,q,r,hpq,hth⟩:=bcb (l:=s.data.toList) (by simpa using HS6.out) hI.ok;rw[hpq]at hI;have o0:=hI.out 0 om;have o1:=hI.out 1 om;have o2:=hI.out 2 om;simp only[b2l,b44,List.getD_cons_zero,List.getD_cons_succ]at o0 o1 o2;have r0:=hI.r0 0 om;have r1:=hI.r0 1 om;have r2:=hI.r0 2 om;have r3:=hI.r1;have f0:=fun o=>hI.fr w.1.size om om o
  have f1:=hI.fr (w.1.size+1) om om 0;have HB:=hid hI.bel;have HT:=hid hth;have HK:=hid hK;have hzW:W5.1.size≤W.1.size:=by have:=(o9.1 hK).1;omega
  clear hI hI0 hbs hbf hpq hth hK;go_wp2_with fail;obtain⟨c0,c1,c2⟩:=bna (a:=.int .i64 p.1) (b:=.int .i64 q.1) (c:=.int .i64 r.1) r0 r1 r2;have c3:=a1t (a:=.int .i64 p.1) (b:=.int .i64 q.1) (c:=.int .i64 r.1) (d:=.bool true) (by omega:w.1.size+1≠w.1.size) r3;rw[← aik (h:=w.1.size+1) (d:=.bool true) om]at c0 c1 c2;have hk2:=(bd9 (W:=W) (p:=⟨w.1.size,0,none⟩) (q:=⟨w.1.size,1,none⟩) (r:=⟨w.1.size,2,none⟩) (s:=⟨w.1.size+1,0,none⟩) (a:=.int .i64 p.1) (b:=.int .i64 q.1) (c:=.int .i64 r.1) (d:=.bool true)).same D _ HK.out rfl
  have hb4:Below w.1.size w ((((W.setCell ⟨w.1.size,0,none⟩ (.int .i64 p.1)).setCell ⟨w.1.size,1,none⟩ (.int .i64 q.1)).setCell ⟨w.1.size,2,none⟩ (.int .i64 r.1)).setCell ⟨w.1.size+1,0,none⟩ (.bool true)):=
   (((HB.out.setCell (a8 _) _).setCell (a8 _) _).setCell (a8 _) _).setCell (b2g _) _
  generalize (((W.setCell ⟨w.1.size,0,none⟩ (.int .i64 p.1)).setCell ⟨w.1.size,1,none⟩ (.int .i64 q.1)).setCell ⟨w.1.size,2,none⟩ (.int .i64 r.1)).setCell ⟨w.1.size+1,0,none⟩ (.bool true)=W8 at *;refine⟨by simp,.inl ⟨_,_,rfl,run_takeDeferred hk2,?_⟩⟩;have hg:=grownBy_putObj' W8 D (.deferred none);have hr:∀r,some D=some r→∃o:Obj,W8.heap[r]?=some o∧o.isCells=false:=fun r e=>by cases e;exact⟨_,hk2,rfl⟩
  have d0:=cell_kept c0 hg hr;have d1:=cell_kept c1 hg hr;have d2:=cell_kept c2 hg hr;have d3:=cell_kept c3 hg hr;refine⟨.tuple #[.agg #[.int .i64 p.1,.int .i64 q.1,.int .i64 r.1],.bool true],by simp[results,results209,go_sem,d0,d1,d2,d3],?_⟩;exact⟨p.1,q.1,r.1,true,rfl,HT.out,hb4.grown hg hb4.size (fun k e=>by cases e;omega)⟩
 case stop=>
  rintro D pre W hD ⟨rest,hrest⟩ hX hK
  have hbad:ab0 s.data.toList=none:=by
   obtain⟨x,hx,hx2⟩:=hX.bad;exact bcc (by simpa using HS6.out) ⟨x,by rw[← hrest];exact List.mem_append_left _ hx,hx2⟩
  obtain⟨a,ha⟩:=hX.r0 0 om;obtain⟨b,hb⟩:=hX.r0 1 om;obtain⟨c,hc⟩:=hX.r0 2 om;have hd:=hX.r1;have HB:=hid hX.bel;have HT:=hid hbad;have HK:=hid hK;clear hX hI0 hbs hbf hrest hbad hK
  gi_wp2
  refine⟨by simp,.inl ⟨_,_,rfl,run_takeDeferred HK.out,?_⟩⟩;have hg:=grownBy_putObj' W D (.deferred none);have hr:∀r,some D=some r→∃o:Obj,W.heap[r]?=some o∧o.isCells=false:=fun r e=>by cases e;exact⟨_,HK.out,rfl⟩
  have d0:=cell_kept ha hg hr;have d1:=cell_kept hb hg hr;have d2:=cell_kept hc hg hr;have d3:=cell_kept hd hg hr;refine⟨.tuple #[.agg #[.int .i64 a,.int .i64 b,.int .i64 c],.bool false],by simp[results,results209,go_sem,d0,d1,d2,d3],?_⟩;exact⟨a,b,c,false,rfl,HT.out,HB.out.grown hg HB.out.size (fun k e=>by cases e;omega)⟩
theorem ajv (s:ByteArray) (w:World) (hs:s.size≤1000000):Calls prog 209 #[.string s] w (alq s.data.toList w):=by
 by_cases h:s.size=6
 ·exact a33 s w h
 ·exact au7 s w hs h
open Go.RowKit Go.Shelf
attribute [local go_sem] Oper.semAt_some
def akd (l:List UInt8) (w:World) (e:Ending) (w':World):Prop:=
 ∃(n:Int) (k:Bool),e=.returned (.tuple #[.int .i64 n,.bool k])∧aeo l=(if k=true then some n else none)∧Below w.1.size w w'
theorem a3o {s:ByteArray} (h0:0<s.size) (h:s[0]≠46∨s.size<2∨3<s.size):aeo s.data.toList=none:=by
 obtain⟨⟨l⟩⟩:=s
 match l,h0,h with
 | [a],_,_=>rfl
 | [q,a],_,h=>
  have hq:q≠46:=by
   rcases h with h|h|h
   ·exact h
   ·exact absurd h (by show ¬(2<2);omega)
   ·exact absurd h (by show ¬(3<2);omega)
  show (if _ then _ else _)=_;rw[if_neg (fun x=>hq x.1)]
 | [q,a,b],_,h=>
  have hq:q≠46:=by
   rcases h with h|h|h
   ·exact h
   ·exact absurd h (by show ¬(3<2);omega)
   ·exact absurd h (by show ¬(3<3);omega)
  show (if _ then _ else _)=_;rw[if_neg (fun x=>hq x.1)]
 | _::_::_::_::_,_,_=>rfl
theorem a80 (a b:UInt8):aeo [46,a,b]=if(vj a b).2=true then some (vj a b).1 else none:=by
 show (if _ then _ else _)=_
 by_cases h:(vj a b).2=true
 ·rw[if_pos h,aff h];have h:(aae a && aae b)=true:=h;rw[b0d]at h;rw[if_pos ⟨rfl,h.1,h.2⟩]
 ·rw[if_neg h,if_neg];rintro⟨-,h1,h2⟩;exact h (by show (aae a && aae b)=true;rw[h1,h2];rfl)
theorem a8z (a:UInt8):aeo [46,a]=if(vj a 48).2=true then some (vj a 48).1 else none:=by
 show (if _ then _ else _)=_
 by_cases h:(vj a 48).2=true
 ·rw[if_pos h,aff h];have h:(aae a && aae 48)=true:=h;rw[b0d]at h;rw[if_pos ⟨rfl,h.1⟩]
  congr 1
  unfold asa;have:((48:UInt8).toNat:Int)=48:=rfl;omega
 ·rw[if_neg h,if_neg];rintro⟨-,h1⟩;exact h (by show (aae a && aae 48)=true;rw[h1];rfl)
theorem bdh (w:World):Calls prog 210 #[.string ⟨#[]⟩] w (akd [] w):=by
 refine yo func210 rfl ?_;simp only[ntmps210,o6,n7,b04,Nat.reduceAdd,Nat.reduceSub,b2a,b2b,b2t,b2h,b03,b02];go_wp2_with fail;refine⟨.tuple #[.int .i64 0,.bool true],by simp[results,results210,go_sem],?_⟩;exact⟨0,true,rfl,rfl,by first|exact qb (qa _ _) (qa _ _)|exact((qb (qa _ _) (qa _ _)).setCell sm _)|exact((qb (qa _ _) (qa _ _)).setCell sm _).setCell sm _⟩
theorem bha (s:ByteArray) (w:World) (hs:s.size≤1000000) (h0:0<s.size) (h:s[0]≠46∨s.size<2∨3<s.size):Calls prog 210 #[.string s] w (akd s.data.toList w):=by
 have HL:=hid (a3o h0 h);obtain⟨f1,f2⟩:=q8 h0
 have hk:((s[0].toNat:Int) != 46)=true ∨((s[0].toNat:Int) != 46)=false ∧(s.size:Int)<2 ∨((s[0].toNat:Int) != 46)=false∧2 ≤(s.size:Int)∧3<(s.size:Int):=by
  by_cases q:s[0]=46
  ·have q2:((s[0].toNat:Int) != 46)=false:=by rw[q];rfl
   rcases h with h|h|h
   ·exact absurd q h
   ·exact .inr (.inl ⟨q2,by omega⟩)
   ·exact .inr (.inr ⟨q2,by omega,by omega⟩)
  ·refine .inl ?_;rw[b0g];intro k;refine q (b1p.1 ?_);have:((46:UInt8).toNat:Int)=46:=rfl;omega
 clear h;rcases hk with k1|⟨k1,k2⟩|⟨k1,k2,k3⟩
 all_goals
  refine yo func210 rfl ?_;simp only[ntmps210,o6,n7,b04,Nat.reduceAdd,Nat.reduceSub,b2a,b2b,b2t,b2h,b03,b02];go_wp2_with fail;refine⟨.tuple #[.int .i64 0,.bool false],by simp[results,results210,go_sem],?_⟩;exact⟨0,false,rfl,HL.out,by first|exact qb (qa _ _) (qa _ _)|exact((qb (qa _ _) (qa _ _)).setCell sm _)|exact((qb (qa _ _) (qa _ _)).setCell sm _).setCell sm _⟩
structure ax4 (w:World) (W:World):Prop where
 r0:∃a,W.cell? ⟨w.1.size,0,none⟩=some (.int .i64 a)
 r1:∃a,W.cell? ⟨w.1.size+1,0,none⟩=some (.bool a)
 f0:W.frozen? ⟨w.1.size,0,none⟩=false
 f1:W.frozen? ⟨w.1.size+1,0,none⟩=false
 bel:Below w.1.size w W
structure bcw (w:World) (x:Int×Bool) (W:World):Prop where
 r0:W.cell? ⟨w.1.size,0,none⟩=some (.int .i64 x.1)
 r1:W.cell? ⟨w.1.size+1,0,none⟩=some (.bool x.2)
 bel:Below w.1.size w W
theorem ax4.same {w W W':World} (h:ax4 w W) (h0:W'.heap[w.1.size]?=W.heap[w.1.size]?) (h1:W'.heap[w.1.size+1]?=W.heap[w.1.size+1]?) (hw:Below w.1.size w W'):ax4 w W' where
 r0:=by obtain⟨a,ha⟩:=h.r0;exact⟨a,(b0q (a:=⟨_,0,none⟩) h0).trans ha⟩
 r1:=by obtain⟨a,ha⟩:=h.r1;exact⟨a,(b0q (a:=⟨_,0,none⟩) h1).trans ha⟩
 f0:=(b1l (a:=⟨_,0,none⟩) h0).trans h.f0
 f1:=(b1l (a:=⟨_,0,none⟩) h1).trans h.f1
 bel:=hw
theorem bcw.same {w W W':World} {x:Int×Bool} (h:bcw w x W) (h0:W'.heap[w.1.size]?=W.heap[w.1.size]?) (h1:W'.heap[w.1.size+1]?=W.heap[w.1.size+1]?) (hw:Below w.1.size w W'):bcw w x W' where
 r0:=(b0q (a:=⟨_,0,none⟩) h0).trans h.r0
 r1:=(b0q (a:=⟨_,0,none⟩) h1).trans h.r1
 bel:=hw
theorem as3 (w:World) (t1 t2 t3:TypeId) (s:ByteArray):ax4 w (((w.alloc (.cells #[.int .i64 0] t1)).alloc (.cells #[.bool false] t2)).alloc (.cells #[.string s] t3)) where
 r0:=⟨0,by rw[n5 _ _ _ (by simp<;>omega),n5 _ _ _ (by simp<;>omega),b8 _ _ _ _ rfl];rfl⟩
 r1:=⟨false,by rw[n5 _ _ _ (by simp<;>omega),b8 _ _ _ _ sm];rfl⟩
 f0:=by simp only[i9];exact qk _ _ _ (a8 _)
 f1:=by simp only[i9];exact qk _ _ _ (b2g _)
 bel:=qb (qb (qa _ _) (qa _ _)) (qa _ _)
theorem bml (a:UInt8) (w:World):Calls prog 210 #[.string ⟨#[46,a]⟩] w (akd [46,a] w):=by
 have hz:(⟨#[46,a]⟩:ByteArray).size=2:=rfl;have h0:((⟨#[46,a]⟩:ByteArray)[0]'(b4s _))=46:=rfl;have hn:((⟨#[46,a]⟩:ByteArray).toList==[])=false:=by rw[b0x];rfl
 have hn2:(⟨#[46,a]⟩:ByteArray).toList.isEmpty=false:=by rw[b0x];rfl
 have hap:(⟨#[46,a]⟩:ByteArray) ++⟨#[48]⟩=⟨#[46,a,48]⟩:=rfl;have hz3:(⟨#[46,a,48]⟩:ByteArray).size=3:=rfl;have hx:(⟨#[46,a,48]⟩:ByteArray).extract 1 3=⟨#[a,48]⟩:=rfl;have HL:=hid (a8z a);refine yo func210 rfl ?_;simp only[ntmps210,o6,n7,b04,Nat.reduceAdd,Nat.reduceSub,b2a,b2b,b2t,b2h,b03,b02];go_wp2_with fail;refine(ajs _ _).mono ?_;rintro r x5 ⟨rfl,rfl⟩;go_wp2_with fail;clear h0 hn hn2 hap hx hz hz3;have hbx:w.1.size+1+1<(((w.alloc (.cells #[.int .i64 0] 2)).alloc (.cells #[.bool false] 4)).alloc (.cells #[.string ⟨#[a,48]⟩] 9)).1.size:=by simp
 have hI0:ax4 w (((w.alloc (.cells #[.int .i64 0] 2)).alloc (.cells #[.bool false] 4)).alloc (.cells #[.string ⟨#[a,48]⟩] 9)):=as3 _ _ _ _ _;have hbs:(((w.alloc (.cells #[.int .i64 0] 2)).alloc (.cells #[.bool false] 4)).alloc (.cells #[.string ⟨#[a,48]⟩] 9)).cell? ⟨w.1.size+1+1,0,none⟩=some (.string ⟨#[a,48]⟩):=b8 _ _ _ _ sm
 have hbf:(((w.alloc (.cells #[.int .i64 0] 2)).alloc (.cells #[.bool false] 4)).alloc (.cells #[.string ⟨#[a,48]⟩] 9)).frozen? ⟨w.1.size+1+1,0,none⟩=false:=by
  simp only[i9];exact qk _ _ _ om
 have hz5:(((w.alloc (.cells #[.int .i64 0] 2)).alloc (.cells #[.bool false] 4)).alloc (.cells #[.string ⟨#[a,48]⟩] 9)).1.size=w.1.size+3:=by simp
 generalize hW5:((w.alloc (.cells #[.int .i64 0] 2)).alloc (.cells #[.bool false] 4)).alloc (.cells #[.string ⟨#[a,48]⟩] 9)=W5 at *;clear hW5;refine(wpIn_wide (n:=8)).1 ?_
 refine ae7 om (gf:=234) (lb:=#[.pointer (some ⟨w.1.size+1+1,0,none⟩)]) rfl (enters_of func234 kr rfl) hbx
  (ahm 7 (w.1.size+1+1) om ⟨#[a,48]⟩ (by show 2≤1000000;omega) W5 hbs hbf hbx) (fun _=>rfl)
  (fun pre W=>pre=[]∧ax4 w W) (fun _ pre W=>∃x,pre=[x]∧bcw w x W) ?own ?ownx ?box ⟨rfl,hI0⟩
  (fun T x=>(((T.setIfInBounds 32 (.int .i64 x.1)).setIfInBounds 33 (.bool x.2)).setIfInBounds 4 (.int .i64 x.1)).setIfInBounds 5 (.bool x.2)) ?assign ?body ?done ?stop
 case own=>
  rintro pre W W' row ⟨hp,h⟩ hg hr;obtain⟨_,a0⟩:=h.r0;obtain⟨_,a1⟩:=h.r1;obtain⟨o0,q0,c0⟩:=cells_of_cell a0;obtain⟨o1,q1,c1⟩:=cells_of_cell a1;exact⟨hp,h.same (akx (w:=w) hg (fun r e=>(hr r e).2) q0 c0) (akx (w:=w) hg (fun r e=>(hr r e).2) q1 c1) (h.bel.grown hg h.bel.size (fun k e=>by have:=(hr k e).1;omega))⟩
 case ownx=>
  rintro c pre W W' row ⟨x,hp,h⟩ hg hr;obtain⟨o0,q0,c0⟩:=cells_of_cell h.r0;obtain⟨o1,q1,c1⟩:=cells_of_cell h.r1;exact⟨x,hp,h.same (akx (w:=w) hg (fun r e=>(hr r e).2) q0 c0) (akx (w:=w) hg (fun r e=>(hr r e).2) q1 c1) (h.bel.grown hg h.bel.size (fun k e=>by have:=(hr k e).1;omega))⟩
 case box=>
  rintro pre W W' ⟨hp,h⟩ hg;obtain⟨_,a0⟩:=h.r0;obtain⟨_,a1⟩:=h.r1;obtain⟨o0,q0,c0⟩:=cells_of_cell a0;obtain⟨o1,q1,c1⟩:=cells_of_cell a1;exact⟨hp,h.same (hg.block _ (o9.1 q0).1 (fun e=>by injection e with e;omega)) (hg.block _ (o9.1 q1).1 (fun e=>by injection e with e;omega)) (h.bel.grown hg h.bel.size (fun k e=>by cases e;omega))⟩
 case assign=>
  rintro l ⟨xn,xb⟩ W K hK
  gi_wp2
  exact hK
 case body=>
  rintro l pre ⟨xn,xb⟩ W ⟨rfl,hI⟩ -;simp only[b2v,b3v,b4r];obtain⟨a0,r0⟩:=hI.r0;obtain⟨a1,r1⟩:=hI.r1;have f0:=hI.f0;have f1:=hI.f1;have HI:=hid hI;clear hI hI0 hbs hbf
  gi_wp2
  refine⟨((KeepsOthers.setCell _ _ _).trans (KeepsOthers.setCell _ _ _)).from _,(xn,xb),rfl,?_,?_,(HI.out.bel.setCell (a8 _) _).setCell (b2g _) _⟩
  ·rw[a9 _ _ _ _ (fun e=>by injection e with e _;omega),b0b _ _ _ (by rw[r0];rfl)]
  ·rw[b0b _ _ _ (by rw[a9 _ _ _ _ (fun e=>by injection e with e _;omega),r1];rfl)]
 case done=>
  rintro D xs W hD rfl ⟨hq,-⟩ hK;exact absurd hq (by simp[k9])
 case stop=>
  rintro D pre W hD ⟨rest,hrest⟩ ⟨x,rfl,hX⟩ hK
  have hx:x=vj a 48:=by
   have:[x]++rest=[vj a 48]:=hrest;injection this
  subst hx;have ha:=hX.r0;have hb:=hX.r1;have HB:=hid hX.bel;have HK:=hid hK;clear hX hI0 hbs hbf hrest hK;generalize (vj a 48).1=xn at *;generalize (vj a 48).2=xb at *
  gi_wp2
  refine⟨by simp,.inl ⟨_,_,rfl,run_takeDeferred HK.out,?_⟩⟩;have hg:=grownBy_putObj' W D (.deferred none);have hr:∀r,some D=some r→∃o:Obj,W.heap[r]?=some o∧o.isCells=false:=fun r e=>by cases e;exact⟨_,HK.out,rfl⟩
  have d0:=cell_kept ha hg hr;have d1:=cell_kept hb hg hr;refine⟨.tuple #[.int .i64 xn,.bool xb],by simp[results,results210,go_sem,d0,d1],?_⟩;exact⟨xn,xb,rfl,HL.out,HB.out.grown hg HB.out.size (fun k e=>by cases e;omega)⟩
theorem bmm (a b:UInt8) (w:World):Calls prog 210 #[.string ⟨#[46,a,b]⟩] w (akd [46,a,b] w):=by
 have hz:(⟨#[46,a,b]⟩:ByteArray).size=3:=rfl;have h0:((⟨#[46,a,b]⟩:ByteArray)[0]'(b4s _))=46:=rfl;have hn:((⟨#[46,a,b]⟩:ByteArray).toList==[])=false:=by rw[b0x];rfl
 have hn2:(⟨#[46,a,b]⟩:ByteArray).toList.isEmpty=false:=by rw[b0x];rfl
 have hap:(⟨#[46,a]⟩:ByteArray) ++⟨#[48]⟩=⟨#[46,a,48]⟩:=rfl;have hz3:(⟨#[46,a,b]⟩:ByteArray).size=3:=rfl;have hx:(⟨#[46,a,b]⟩:ByteArray).extract 1 3=⟨#[a,b]⟩:=rfl;have HL:=hid (a80 a b);refine yo func210 rfl ?_;simp only[ntmps210,o6,n7,b04,Nat.reduceAdd,Nat.reduceSub,b2a,b2b,b2t,b2h,b03,b02];go_wp2_with fail;refine(ajs _ _).mono ?_;rintro r x5 ⟨rfl,rfl⟩;go_wp2_with fail;clear h0 hn hn2 hap hx hz hz3;have hbx:w.1.size+1+1<(((w.alloc (.cells #[.int .i64 0] 2)).alloc (.cells #[.bool false] 4)).alloc (.cells #[.string ⟨#[a,b]⟩] 9)).1.size:=by simp
 have hI0:ax4 w (((w.alloc (.cells #[.int .i64 0] 2)).alloc (.cells #[.bool false] 4)).alloc (.cells #[.string ⟨#[a,b]⟩] 9)):=as3 _ _ _ _ _;have hbs:(((w.alloc (.cells #[.int .i64 0] 2)).alloc (.cells #[.bool false] 4)).alloc (.cells #[.string ⟨#[a,b]⟩] 9)).cell? ⟨w.1.size+1+1,0,none⟩=some (.string ⟨#[a,b]⟩):=b8 _ _ _ _ sm
 have hbf:(((w.alloc (.cells #[.int .i64 0] 2)).alloc (.cells #[.bool false] 4)).alloc (.cells #[.string ⟨#[a,b]⟩] 9)).frozen? ⟨w.1.size+1+1,0,none⟩=false:=by
  simp only[i9];exact qk _ _ _ om
 have hz5:(((w.alloc (.cells #[.int .i64 0] 2)).alloc (.cells #[.bool false] 4)).alloc (.cells #[.string ⟨#[a,b]⟩] 9)).1.size=w.1.size+3:=by simp
 generalize hW5:((w.alloc (.cells #[.int .i64 0] 2)).alloc (.cells #[.bool false] 4)).alloc (.cells #[.string ⟨#[a,b]⟩] 9)=W5 at *;clear hW5;refine(wpIn_wide (n:=8)).1 ?_
 refine ae7 om (gf:=234) (lb:=#[.pointer (some ⟨w.1.size+1+1,0,none⟩)]) rfl (enters_of func234 kr rfl) hbx
  (ahm 7 (w.1.size+1+1) om ⟨#[a,b]⟩ (by show 2≤1000000;omega) W5 hbs hbf hbx) (fun _=>rfl)
  (fun pre W=>pre=[]∧ax4 w W) (fun _ pre W=>∃x,pre=[x]∧bcw w x W) ?own ?ownx ?box ⟨rfl,hI0⟩
  (fun T x=>(((T.setIfInBounds 32 (.int .i64 x.1)).setIfInBounds 33 (.bool x.2)).setIfInBounds 4 (.int .i64 x.1)).setIfInBounds 5 (.bool x.2)) ?assign ?body ?done ?stop
 case own=>
  rintro pre W W' row ⟨hp,h⟩ hg hr;obtain⟨_,a0⟩:=h.r0;obtain⟨_,a1⟩:=h.r1;obtain⟨o0,q0,c0⟩:=cells_of_cell a0;obtain⟨o1,q1,c1⟩:=cells_of_cell a1;exact⟨hp,h.same (akx (w:=w) hg (fun r e=>(hr r e).2) q0 c0) (akx (w:=w) hg (fun r e=>(hr r e).2) q1 c1) (h.bel.grown hg h.bel.size (fun k e=>by have:=(hr k e).1;omega))⟩
 case ownx=>
  rintro c pre W W' row ⟨x,hp,h⟩ hg hr;obtain⟨o0,q0,c0⟩:=cells_of_cell h.r0;obtain⟨o1,q1,c1⟩:=cells_of_cell h.r1;exact⟨x,hp,h.same (akx (w:=w) hg (fun r e=>(hr r e).2) q0 c0) (akx (w:=w) hg (fun r e=>(hr r e).2) q1 c1) (h.bel.grown hg h.bel.size (fun k e=>by have:=(hr k e).1;omega))⟩
 case box=>
  rintro pre W W' ⟨hp,h⟩ hg;obtain⟨_,a0⟩:=h.r0;obtain⟨_,a1⟩:=h.r1;obtain⟨o0,q0,c0⟩:=cells_of_cell a0;obtain⟨o1,q1,c1⟩:=cells_of_cell a1;exact⟨hp,h.same (hg.block _ (o9.1 q0).1 (fun e=>by injection e with e;omega)) (hg.block _ (o9.1 q1).1 (fun e=>by injection e with e;omega)) (h.bel.grown hg h.bel.size (fun k e=>by cases e;omega))⟩
 case assign=>
  rintro l ⟨xn,xb⟩ W K hK
  gi_wp2
  exact hK
 case body=>
  rintro l pre ⟨xn,xb⟩ W ⟨rfl,hI⟩ -;simp only[b2v,b3v,b4r];obtain⟨a0,r0⟩:=hI.r0;obtain⟨a1,r1⟩:=hI.r1;have f0:=hI.f0;have f1:=hI.f1;have HI:=hid hI;clear hI hI0 hbs hbf
  gi_wp2
  refine⟨((KeepsOthers.setCell _ _ _).trans (KeepsOthers.setCell _ _ _)).from _,(xn,xb),rfl,?_,?_,(HI.out.bel.setCell (a8 _) _).setCell (b2g _) _⟩
  ·rw[a9 _ _ _ _ (fun e=>by injection e with e _;omega),b0b _ _ _ (by rw[r0];rfl)]
  ·rw[b0b _ _ _ (by rw[a9 _ _ _ _ (fun e=>by injection e with e _;omega),r1];rfl)]
 case done=>
  rintro D xs W hD rfl ⟨hq,-⟩ hK;exact absurd hq (by simp[k9])
 case stop=>
  rintro D pre W hD ⟨rest,hrest⟩ ⟨x,rfl,hX⟩ hK
  have hx:x=vj a b:=by
   have:[x]++rest=[vj a b]:=hrest;injection this
  subst hx;have ha:=hX.r0;have hb:=hX.r1;have HB:=hid hX.bel;have HK:=hid hK;clear hX hI0 hbs hbf hrest hK;generalize (vj a b).1=xn at *;generalize (vj a b).2=xb at *
  gi_wp2
  refine⟨by simp,.inl ⟨_,_,rfl,run_takeDeferred HK.out,?_⟩⟩;have hg:=grownBy_putObj' W D (.deferred none);have hr:∀r,some D=some r→∃o:Obj,W.heap[r]?=some o∧o.isCells=false:=fun r e=>by cases e;exact⟨_,HK.out,rfl⟩
  have d0:=cell_kept ha hg hr;have d1:=cell_kept hb hg hr;refine⟨.tuple #[.int .i64 xn,.bool xb],by simp[results,results210,go_sem,d0,d1],?_⟩;exact⟨xn,xb,rfl,HL.out,HB.out.grown hg HB.out.size (fun k e=>by cases e;omega)⟩
theorem amw (s:ByteArray) (w:World) (hs:s.size≤1000000):Calls prog 210 #[.string s] w (akd s.data.toList w):=by
 by_cases h0:0<s.size
 ·by_cases h:s[0]≠46∨s.size<2∨3<s.size
  ·exact bha s w hs h0 h
  ·have h1:s[0]=46:=Classical.byContradiction fun q=>h (.inl q)
   have h2:2≤s.size:=by omega
   have h3:s.size≤3:=by omega
   clear h hs;obtain⟨⟨l⟩⟩:=s
   match l,h0,h1,h2,h3 with
   | [q,a],_,h1,_,_=>have h1:q=46:=h1;subst h1;exact bml a w
   | [q,a,b],_,h1,_,_=>have h1:q=46:=h1;subst h1;exact bmm a b w
   | [q],_,_,h2,_=>exact absurd h2 (by show ¬(2≤1);omega)
   | a::b::c::d::l,_,_,_,h3=>exact absurd h3 (by show ¬(l.length+4≤3);omega)
 ·obtain⟨⟨l⟩⟩:=s;cases l with
  | nil=>exact bdh w
  | cons a l=>exact absurd (b4s _) h0
abbrev aat (b:Bool) (h m s c:Int):Obj:=.cells #[.bool b,.int .i64 h,.int .i64 m,.int .i64 s,.int .i64 c] 40
def an5 (x:Clk×Int) (w:World) (e:Ending) (w':World):Prop:=
 e=.returned (.tuple #[apo x.1.1 x.1.2.1 x.1.2.2.1 x.1.2.2.2.1 x.1.2.2.2.2,.int .i64 x.2])∧Below w.1.size w w'
theorem bgg (s:ByteArray) (n:Nat):(s.extract 0 n).data.toList=s.data.toList.take n:=by
 simp
theorem bdt (s:ByteArray) (n:Nat):(s.extract n s.size).data.toList=s.data.toList.drop n:=by
 rw[ByteArray.data_extract,Array.toList_extract];rw[List.extract_eq_take_drop];exact b08 sm
theorem a6f {W:World} {g:Nat} {a b c d e:Value} (h:∀o,o<5→∃v,W.cell? ⟨g,o,none⟩=some v) :
 ∀o,o<5 →(((((W.setCell ⟨g,0,none⟩ a).setCell ⟨g,1,none⟩ b).setCell ⟨g,2,none⟩ c).setCell ⟨g,3,none⟩ d).setCell ⟨g,4,none⟩ e).cell? ⟨g,o,none⟩=(#[a,b,c,d,e]:Array Value)[o]?:=by
 have n:∀(i j:Nat),i≠j →(⟨g,i,none⟩:Addr) ≠⟨g,j,none⟩:=fun i j hn q=>by injection q with _ q;exact hn q
 intro o ho;obtain⟨v,hv⟩:=h o ho;rcases(by omega:o=0∨o=1∨o=2∨o=3∨o=4)with rfl|rfl|rfl|rfl|rfl
 ·rw[a9 _ _ _ _ (n 4 0 om),a9 _ _ _ _ (n 3 0 om),a9 _ _ _ _ (n 2 0 om),a9 _ _ _ _ (n 1 0 om),b0b _ _ _ (by rw[hv];rfl)];rfl
 ·rw[a9 _ _ _ _ (n 4 1 om),a9 _ _ _ _ (n 3 1 om),a9 _ _ _ _ (n 2 1 om),b0b _ _ _ (by rw[a9 _ _ _ _ (n 0 1 om),hv];rfl)];rfl
 ·rw[a9 _ _ _ _ (n 4 2 om),a9 _ _ _ _ (n 3 2 om),b0b _ _ _ (by rw[a9 _ _ _ _ (n 1 2 om),a9 _ _ _ _ (n 0 2 om),hv];rfl)];rfl
 ·rw[a9 _ _ _ _ (n 4 3 om),b0b _ _ _ (by rw[a9 _ _ _ _ (n 2 3 om),a9 _ _ _ _ (n 1 3 om),a9 _ _ _ _ (n 0 3 om),hv];rfl)];rfl
 ·rw[b0b _ _ _ (by rw[a9 _ _ _ _ (n 3 4 om),a9 _ _ _ _ (n 2 4 om),a9 _ _ _ _ (n 1 4 om),a9 _ _ _ _ (n 0 4 om),hv];rfl)];rfl
theorem acr {B:Nat} {w0 W:World} {g:Nat} {a b c d e:Value} (h:Below B w0 W) (hg:B≤g):Below B w0 (((((W.setCell ⟨g,0,none⟩ a).setCell ⟨g,1,none⟩ b).setCell ⟨g,2,none⟩ c).setCell ⟨g,3,none⟩ d).setCell ⟨g,4,none⟩ e):=
 ((((h.setCell hg _).setCell hg _).setCell hg _).setCell hg _).setCell hg _
theorem au3 (w:World):Calls prog 151 #[.string ⟨#[]⟩] w (an5 (zC,0) w):=by
 go_enter func151,ntmps151;go_wp2_with fail;exact b9 (v:=.tuple #[apo false 0 0 0 0,.int .i64 0]) (by simp[results,results151,go_sem]) rfl ⟨rfl,qa _ _⟩
theorem ays {l:List UInt8} (hl:l≠[]) {a b c n:Int} {k1 k2:Bool} (h1:ab0 (l.take 6)=if k1=true then some (a,b,c)else none) (h2:aeo (l.drop 6)=if k2=true then some n else none) :
 aah l=if k1=true∧k2=true then(if ans (true,a,b,c,n)=true then((true,a,b,c,n),0)else(zC,5))else(zC,3):=by
 unfold aah;rw[if_neg hl,h1,h2];cases k1<;>cases k2<;>rfl
theorem ar4 (s:ByteArray) (w:World) (hs:s.size≤1000000) (h0:0<s.size) (i6:(s.size:Int)≤6):Calls prog 151 #[.string s] w (an5 (aah s.data.toList) w):=by
 obtain⟨f1,f2⟩:=q8 h0;have HNE:Hid (s.data.toList≠[]):=fun q=>by have:=aef q;omega
 have HR0:Hid (∀o,(w.alloc (aat false 0 0 0 0)).cell? ⟨w.1.size,o,none⟩=(#[Value.bool false,.int .i64 0,.int .i64 0,.int .i64 0,.int .i64 0]:Array Value)[o]?):=fun o=>b8 _ _ _ _ rfl
 have HF0:Hid (∀o,(w.alloc (aat false 0 0 0 0)).frozen? ⟨w.1.size,o,none⟩=false):=fun o=>by rw[i9];exact qk _ _ _ (a8 _)
 have HB0:=hid (qa w (aat false 0 0 0 0));have HZ0:Hid (w.1.size<(w.alloc (aat false 0 0 0 0)).1.size):=by show _<_;simp
 go_enter func151,ntmps151;go_wp2_with fail;refine(ajv _ _ (by first|exact hs|(rw[b0u];omega))).mono ?_;rintro e w1 ⟨a,b,c,k1,rfl,h1,hb1⟩
 have H1:Hid (ab0 (s.data.toList.take 6)=if k1=true then some (a,b,c)else none):=by
  show _=_;rw[b08 (by simp;omega)];exact h1
 have hbo:=qa w1 (.cells #[.int .i64 a,.int .i64 b,.int .i64 c] 343);have HR1:Hid (∀o,(w1.alloc (.cells #[.int .i64 a,.int .i64 b,.int .i64 c] 343)).cell? ⟨w.1.size,o,none⟩=(#[Value.bool false,.int .i64 0,.int .i64 0,.int .i64 0,.int .i64 0]:Array Value)[o]?):=fun o=>((qy hbo).1 _ o (e9 HZ0.out hb1.size)).trans (((qy hb1).1 _ o HZ0.out).trans (HR0.out o))
 have HF1:Hid (∀o,(w1.alloc (.cells #[.int .i64 a,.int .i64 b,.int .i64 c] 343)).frozen? ⟨w.1.size,o,none⟩=false):=fun o=>((qy hbo).2 _ o (e9 HZ0.out hb1.size)).trans (((qy hb1).2 _ o HZ0.out).trans (HF0.out o))
 have HO1:Hid (∀o,(w1.alloc (.cells #[.int .i64 a,.int .i64 b,.int .i64 c] 343)).cell? ⟨w1.1.size,o,none⟩=(#[Value.int .i64 a,.int .i64 b,.int .i64 c]:Array Value)[o]?):=fun o=>b8 _ _ _ _ rfl
 have HB1:=hid (qb (qb HB0.out hb1) hbo);have HZ1:Hid (w.1.size<w1.1.size∧w1.1.size<(w1.alloc (.cells #[.int .i64 a,.int .i64 b,.int .i64 c] 343)).1.size):=⟨e9 HZ0.out hb1.size,by simp⟩;clear h1 hbo hb1 HR0 HF0 HB0 HZ0;go_wp2_with fail;refine(amw _ _ (by first|(rw[b0u];omega)|decide)).mono ?_;rintro e w2 ⟨n,k2,rfl,h2,hb2⟩
 have H2:Hid (aeo (s.data.toList.drop 6)=if k2=true then some n else none):=by
  show _=_
  have hl6:s.data.toList.length≤6:=by
   have:s.data.toList.length=s.size:=by simp
   omega
  rw[b1x hl6];exact h2
 have HW:=hid (ays HNE.out H1.out H2.out);have HR2:Hid (∀o,w2.cell? ⟨w.1.size,o,none⟩=(#[Value.bool false,.int .i64 0,.int .i64 0,.int .i64 0,.int .i64 0]:Array Value)[o]?):=fun o=>((qy hb2).1 _ o (b05 HZ1.out.1 HZ1.out.2)).trans (HR1.out o)
 have HF2:Hid (∀o,w2.frozen? ⟨w.1.size,o,none⟩=false):=fun o=>((qy hb2).2 _ o (b05 HZ1.out.1 HZ1.out.2)).trans (HF1.out o)
 have HO2:Hid (∀o,w2.cell? ⟨w1.1.size,o,none⟩=(#[Value.int .i64 a,.int .i64 b,.int .i64 c]:Array Value)[o]?):=fun o=>((qy hb2).1 _ o HZ1.out.2).trans (HO1.out o)
 have HB2:=hid (qb HB1.out hb2);have HZ2:Hid (w.1.size<w2.1.size):=e9 (b05 HZ1.out.1 HZ1.out.2) hb2.size;clear h2 hb2 HR1 HF1 HB1 HO1 H1 H2 HNE HZ1;have kk:(k1=false∨k1=true∧k2=false)∨k1=true∧k2=true:=by cases k1<;>cases k2<;>simp
 rcases kk with kk|⟨rfl,rfl⟩
 ·have HX:Hid (aah s.data.toList=(zC,3)):=by
   have:=HW.out;rw[if_neg (by rcases kk with rfl|⟨rfl,rfl⟩<;>simp)]at this;exact this
  have r0:=HR2.out 0;have r1:=HR2.out 1;have r2:=HR2.out 2;have r3:=HR2.out 3;have r4:=HR2.out 4;have fz:=HF2.out;clear HW HO2;rcases kk with rfl|⟨rfl,rfl⟩
  all_goals
   go_wp2_with fail;have hd:=a6f (W:=w2) (g:=w.1.size) (a:=.bool false) (b:=.int .i64 0) (c:=.int .i64 0) (d:=.int .i64 0) (e:=.int .i64 0) (fun o ho=>by rw[HR2.out o];rcases(by omega:o=0∨o=1∨o=2∨o=3∨o=4)with rfl|rfl|rfl|rfl|rfl<;>exact⟨_,rfl⟩);have d0:=hd 0 om;have d1:=hd 1 om;have d2:=hd 2 om;have d3:=hd 3 om;have d4:=hd 4 om;have hbl:=acr (a:=.bool false) (b:=.int .i64 0) (c:=.int .i64 0) (d:=.int .i64 0) (e:=.int .i64 0) HB2.out (a8 _);generalize ((((w2.setCell ⟨w.1.size,0,none⟩ (.bool false)).setCell ⟨w.1.size,1,none⟩ (.int .i64 0)).setCell ⟨w.1.size,2,none⟩ (.int .i64 0)).setCell ⟨w.1.size,3,none⟩ (.int .i64 0)).setCell ⟨w.1.size,4,none⟩ (.int .i64 0)=w9 at *;simp at d0 d1 d2 d3 d4;exact b9 (v:=.tuple #[apo false 0 0 0 0,.int .i64 3]) (by simp[results,results151,go_sem,d0,d1,d2,d3,d4]) rfl ⟨by rw[HX.out];rfl,hbl⟩
 ·have HM:=fun W=>hid (ayt true a b c n W)
  obtain⟨Y,hY⟩:∃Y,ans (true,a,b,c,n)=Y:=⟨_,rfl⟩;rw[hY]at HM HW;have o0:=HO2.out 0;have o1:=HO2.out 1;have o2:=HO2.out 2;have hbc:=qa w2 (aat true a b c n);have HB3:=hid (qb HB2.out hbc);have HR3:Hid (∀o,(w2.alloc (aat true a b c n)).cell? ⟨w.1.size,o,none⟩=(#[Value.bool false,.int .i64 0,.int .i64 0,.int .i64 0,.int .i64 0]:Array Value)[o]?):=fun o=>((qy hbc).1 _ o HZ2.out).trans (HR2.out o)
  have HF3:Hid (∀o,(w2.alloc (aat true a b c n)).frozen? ⟨w.1.size,o,none⟩=false):=fun o=>((qy hbc).2 _ o HZ2.out).trans (HF2.out o)
  have HC3:Hid (∀o,(w2.alloc (aat true a b c n)).cell? ⟨w2.1.size,o,none⟩=(#[Value.bool true,.int .i64 a,.int .i64 b,.int .i64 c,.int .i64 n]:Array Value)[o]?):=fun o=>b8 _ _ _ _ rfl
  have HZ3:Hid (w.1.size<(w2.alloc (aat true a b c n)).1.size∧w2.1.size<(w2.alloc (aat true a b c n)).1.size):=⟨e9 HZ2.out hbc.size,by simp⟩;clear hbc hY HO2;go_wp2_with fail;refine(HM _).out.mono ?_;rintro e w4 ⟨rfl,hb4⟩;have HR4:Hid (∀o,w4.cell? ⟨w.1.size,o,none⟩=(#[Value.bool false,.int .i64 0,.int .i64 0,.int .i64 0,.int .i64 0]:Array Value)[o]?):=fun o=>((qy hb4).1 _ o HZ3.out.1).trans (HR3.out o)
  have HF4:Hid (∀o,w4.frozen? ⟨w.1.size,o,none⟩=false):=fun o=>((qy hb4).2 _ o HZ3.out.1).trans (HF3.out o)
  have HC4:Hid (∀o,w4.cell? ⟨w2.1.size,o,none⟩=(#[Value.bool true,.int .i64 a,.int .i64 b,.int .i64 c,.int .i64 n]:Array Value)[o]?):=fun o=>((qy hb4).1 _ o HZ3.out.2).trans (HC3.out o)
  have HB4:=hid (qb HB3.out hb4);clear hb4 HR3 HF3 HC3 HB3 HR2 HF2 HB2 o0 o1 o2 HZ3;have r0:=HR4.out 0;have r1:=HR4.out 1;have r2:=HR4.out 2;have r3:=HR4.out 3;have r4:=HR4.out 4;have fz:=HF4.out;have c0:=HC4.out 0;have c1:=HC4.out 1;have c2:=HC4.out 2;have c3:=HC4.out 3;have c4:=HC4.out 4;have hold:∀o,o<5→∃v,w4.cell? ⟨w.1.size,o,none⟩=some v:=fun o ho=>by rw[HR4.out o];rcases(by omega:o=0∨o=1∨o=2∨o=3∨o=4)with rfl|rfl|rfl|rfl|rfl<;>exact⟨_,rfl⟩
  have HOLD:=hid hold;clear hold;cases Y with
  | false=>
   have HX:Hid (aah s.data.toList=(zC,5)):=HW.out;clear HW;go_wp2_with fail;have hd:=a6f (W:=w4) (g:=w.1.size) (a:=.bool false) (b:=.int .i64 0) (c:=.int .i64 0) (d:=.int .i64 0) (e:=.int .i64 0) HOLD.out;have d0:=hd 0 om;have d1:=hd 1 om;have d2:=hd 2 om;have d3:=hd 3 om;have d4:=hd 4 om;have hbl:=acr (a:=.bool false) (b:=.int .i64 0) (c:=.int .i64 0) (d:=.int .i64 0) (e:=.int .i64 0) HB4.out (a8 _);generalize ((((w4.setCell ⟨w.1.size,0,none⟩ (.bool false)).setCell ⟨w.1.size,1,none⟩ (.int .i64 0)).setCell ⟨w.1.size,2,none⟩ (.int .i64 0)).setCell ⟨w.1.size,3,none⟩ (.int .i64 0)).setCell ⟨w.1.size,4,none⟩ (.int .i64 0)=w9 at *;simp at d0 d1 d2 d3 d4;exact b9 (v:=.tuple #[apo false 0 0 0 0,.int .i64 5]) (by simp[results,results151,go_sem,d0,d1,d2,d3,d4]) rfl ⟨by rw[HX.out];rfl,hbl⟩
  | true=>
   have HX:Hid (aah s.data.toList=((true,a,b,c,n),0)):=HW.out;clear HW;go_wp2_with fail;have hd:=a6f (W:=w4) (g:=w.1.size) (a:=.bool true) (b:=.int .i64 a) (c:=.int .i64 b) (d:=.int .i64 c) (e:=.int .i64 n) HOLD.out;have d0:=hd 0 om;have d1:=hd 1 om;have d2:=hd 2 om;have d3:=hd 3 om;have d4:=hd 4 om;have hbl:=acr (a:=.bool true) (b:=.int .i64 a) (c:=.int .i64 b) (d:=.int .i64 c) (e:=.int .i64 n) HB4.out (a8 _);generalize ((((w4.setCell ⟨w.1.size,0,none⟩ (.bool true)).setCell ⟨w.1.size,1,none⟩ (.int .i64 a)).setCell ⟨w.1.size,2,none⟩ (.int .i64 b)).setCell ⟨w.1.size,3,none⟩ (.int .i64 c)).setCell ⟨w.1.size,4,none⟩ (.int .i64 n)=w9 at *;simp at d0 d1 d2 d3 d4;exact b9 (v:=.tuple #[apo true a b c n,.int .i64 0]) (by simp[results,results151,go_sem,d0,d1,d2,d3,d4]) rfl ⟨by rw[HX.out],hbl⟩
theorem au2 (s:ByteArray) (w:World) (hs:s.size≤1000000) (h0:0<s.size) (i6:(6:Int)<(s.size:Int)):Calls prog 151 #[.string s] w (an5 (aah s.data.toList) w):=by
 obtain⟨f1,f2⟩:=q8 h0;have HNE:Hid (s.data.toList≠[]):=fun q=>by have:=aef q;omega
 have HR0:Hid (∀o,(w.alloc (aat false 0 0 0 0)).cell? ⟨w.1.size,o,none⟩=(#[Value.bool false,.int .i64 0,.int .i64 0,.int .i64 0,.int .i64 0]:Array Value)[o]?):=fun o=>b8 _ _ _ _ rfl
 have HF0:Hid (∀o,(w.alloc (aat false 0 0 0 0)).frozen? ⟨w.1.size,o,none⟩=false):=fun o=>by rw[i9];exact qk _ _ _ (a8 _)
 have HB0:=hid (qa w (aat false 0 0 0 0));have HZ0:Hid (w.1.size<(w.alloc (aat false 0 0 0 0)).1.size):=by show _<_;simp
 go_enter func151,ntmps151;go_wp2_with fail;refine(ajv _ _ (by first|exact hs|(rw[b0u];omega))).mono ?_;rintro e w1 ⟨a,b,c,k1,rfl,h1,hb1⟩
 have H1:Hid (ab0 (s.data.toList.take 6)=if k1=true then some (a,b,c)else none):=by
  show _=_;rw[← bgg];exact h1
 have hbo:=qa w1 (.cells #[.int .i64 a,.int .i64 b,.int .i64 c] 343);have HR1:Hid (∀o,(w1.alloc (.cells #[.int .i64 a,.int .i64 b,.int .i64 c] 343)).cell? ⟨w.1.size,o,none⟩=(#[Value.bool false,.int .i64 0,.int .i64 0,.int .i64 0,.int .i64 0]:Array Value)[o]?):=fun o=>((qy hbo).1 _ o (e9 HZ0.out hb1.size)).trans (((qy hb1).1 _ o HZ0.out).trans (HR0.out o))
 have HF1:Hid (∀o,(w1.alloc (.cells #[.int .i64 a,.int .i64 b,.int .i64 c] 343)).frozen? ⟨w.1.size,o,none⟩=false):=fun o=>((qy hbo).2 _ o (e9 HZ0.out hb1.size)).trans (((qy hb1).2 _ o HZ0.out).trans (HF0.out o))
 have HO1:Hid (∀o,(w1.alloc (.cells #[.int .i64 a,.int .i64 b,.int .i64 c] 343)).cell? ⟨w1.1.size,o,none⟩=(#[Value.int .i64 a,.int .i64 b,.int .i64 c]:Array Value)[o]?):=fun o=>b8 _ _ _ _ rfl
 have HB1:=hid (qb (qb HB0.out hb1) hbo);have HZ1:Hid (w.1.size<w1.1.size∧w1.1.size<(w1.alloc (.cells #[.int .i64 a,.int .i64 b,.int .i64 c] 343)).1.size):=⟨e9 HZ0.out hb1.size,by simp⟩;clear h1 hbo hb1 HR0 HF0 HB0 HZ0;go_wp2_with fail;refine(amw _ _ (by first|(rw[b0u];omega)|decide)).mono ?_;rintro e w2 ⟨n,k2,rfl,h2,hb2⟩
 have H2:Hid (aeo (s.data.toList.drop 6)=if k2=true then some n else none):=by
  show _=_;rw[← bdt];exact h2
 have HW:=hid (ays HNE.out H1.out H2.out);have HR2:Hid (∀o,w2.cell? ⟨w.1.size,o,none⟩=(#[Value.bool false,.int .i64 0,.int .i64 0,.int .i64 0,.int .i64 0]:Array Value)[o]?):=fun o=>((qy hb2).1 _ o (b05 HZ1.out.1 HZ1.out.2)).trans (HR1.out o)
 have HF2:Hid (∀o,w2.frozen? ⟨w.1.size,o,none⟩=false):=fun o=>((qy hb2).2 _ o (b05 HZ1.out.1 HZ1.out.2)).trans (HF1.out o)
 have HO2:Hid (∀o,w2.cell? ⟨w1.1.size,o,none⟩=(#[Value.int .i64 a,.int .i64 b,.int .i64 c]:Array Value)[o]?):=fun o=>((qy hb2).1 _ o HZ1.out.2).trans (HO1.out o)
 have HB2:=hid (qb HB1.out hb2);have HZ2:Hid (w.1.size<w2.1.size):=e9 (b05 HZ1.out.1 HZ1.out.2) hb2.size;clear h2 hb2 HR1 HF1 HB1 HO1 H1 H2 HNE HZ1;have kk:(k1=false∨k1=true∧k2=false)∨k1=true∧k2=true:=by cases k1<;>cases k2<;>simp
 rcases kk with kk|⟨rfl,rfl⟩
 ·have HX:Hid (aah s.data.toList=(zC,3)):=by
   have:=HW.out;rw[if_neg (by rcases kk with rfl|⟨rfl,rfl⟩<;>simp)]at this;exact this
  have r0:=HR2.out 0;have r1:=HR2.out 1;have r2:=HR2.out 2;have r3:=HR2.out 3;have r4:=HR2.out 4;have fz:=HF2.out;clear HW HO2;rcases kk with rfl|⟨rfl,rfl⟩
  all_goals
   go_wp2_with fail;have hd:=a6f (W:=w2) (g:=w.1.size) (a:=.bool false) (b:=.int .i64 0) (c:=.int .i64 0) (d:=.int .i64 0) (e:=.int .i64 0) (fun o ho=>by rw[HR2.out o];rcases(by omega:o=0∨o=1∨o=2∨o=3∨o=4)with rfl|rfl|rfl|rfl|rfl<;>exact⟨_,rfl⟩);have d0:=hd 0 om;have d1:=hd 1 om;have d2:=hd 2 om;have d3:=hd 3 om;have d4:=hd 4 om;have hbl:=acr (a:=.bool false) (b:=.int .i64 0) (c:=.int .i64 0) (d:=.int .i64 0) (e:=.int .i64 0) HB2.out (a8 _);generalize ((((w2.setCell ⟨w.1.size,0,none⟩ (.bool false)).setCell ⟨w.1.size,1,none⟩ (.int .i64 0)).setCell ⟨w.1.size,2,none⟩ (.int .i64 0)).setCell ⟨w.1.size,3,none⟩ (.int .i64 0)).setCell ⟨w.1.size,4,none⟩ (.int .i64 0)=w9 at *;simp at d0 d1 d2 d3 d4;exact b9 (v:=.tuple #[apo false 0 0 0 0,.int .i64 3]) (by simp[results,results151,go_sem,d0,d1,d2,d3,d4]) rfl ⟨by rw[HX.out];rfl,hbl⟩
 ·have HM:=fun W=>hid (ayt true a b c n W)
  obtain⟨Y,hY⟩:∃Y,ans (true,a,b,c,n)=Y:=⟨_,rfl⟩;rw[hY]at HM HW;have o0:=HO2.out 0;have o1:=HO2.out 1;have o2:=HO2.out 2;have hbc:=qa w2 (aat true a b c n);have HB3:=hid (qb HB2.out hbc);have HR3:Hid (∀o,(w2.alloc (aat true a b c n)).cell? ⟨w.1.size,o,none⟩=(#[Value.bool false,.int .i64 0,.int .i64 0,.int .i64 0,.int .i64 0]:Array Value)[o]?):=fun o=>((qy hbc).1 _ o HZ2.out).trans (HR2.out o)
  have HF3:Hid (∀o,(w2.alloc (aat true a b c n)).frozen? ⟨w.1.size,o,none⟩=false):=fun o=>((qy hbc).2 _ o HZ2.out).trans (HF2.out o)
  have HC3:Hid (∀o,(w2.alloc (aat true a b c n)).cell? ⟨w2.1.size,o,none⟩=(#[Value.bool true,.int .i64 a,.int .i64 b,.int .i64 c,.int .i64 n]:Array Value)[o]?):=fun o=>b8 _ _ _ _ rfl
  have HZ3:Hid (w.1.size<(w2.alloc (aat true a b c n)).1.size∧w2.1.size<(w2.alloc (aat true a b c n)).1.size):=⟨e9 HZ2.out hbc.size,by simp⟩;clear hbc hY HO2;go_wp2_with fail;refine(HM _).out.mono ?_;rintro e w4 ⟨rfl,hb4⟩;have HR4:Hid (∀o,w4.cell? ⟨w.1.size,o,none⟩=(#[Value.bool false,.int .i64 0,.int .i64 0,.int .i64 0,.int .i64 0]:Array Value)[o]?):=fun o=>((qy hb4).1 _ o HZ3.out.1).trans (HR3.out o)
  have HF4:Hid (∀o,w4.frozen? ⟨w.1.size,o,none⟩=false):=fun o=>((qy hb4).2 _ o HZ3.out.1).trans (HF3.out o)
  have HC4:Hid (∀o,w4.cell? ⟨w2.1.size,o,none⟩=(#[Value.bool true,.int .i64 a,.int .i64 b,.int .i64 c,.int .i64 n]:Array Value)[o]?):=fun o=>((qy hb4).1 _ o HZ3.out.2).trans (HC3.out o)
  have HB4:=hid (qb HB3.out hb4);clear hb4 HR3 HF3 HC3 HB3 HR2 HF2 HB2 o0 o1 o2 HZ3;have r0:=HR4.out 0;have r1:=HR4.out 1;have r2:=HR4.out 2;have r3:=HR4.out 3;have r4:=HR4.out 4;have fz:=HF4.out;have c0:=HC4.out 0;have c1:=HC4.out 1;have c2:=HC4.out 2;have c3:=HC4.out 3;have c4:=HC4.out 4;have hold:∀o,o<5→∃v,w4.cell? ⟨w.1.size,o,none⟩=some v:=fun o ho=>by rw[HR4.out o];rcases(by omega:o=0∨o=1∨o=2∨o=3∨o=4)with rfl|rfl|rfl|rfl|rfl<;>exact⟨_,rfl⟩
  have HOLD:=hid hold;clear hold;cases Y with
  | false=>
   have HX:Hid (aah s.data.toList=(zC,5)):=HW.out;clear HW;go_wp2_with fail;have hd:=a6f (W:=w4) (g:=w.1.size) (a:=.bool false) (b:=.int .i64 0) (c:=.int .i64 0) (d:=.int .i64 0) (e:=.int .i64 0) HOLD.out;have d0:=hd 0 om;have d1:=hd 1 om;have d2:=hd 2 om;have d3:=hd 3 om;have d4:=hd 4 om;have hbl:=acr (a:=.bool false) (b:=.int .i64 0) (c:=.int .i64 0) (d:=.int .i64 0) (e:=.int .i64 0) HB4.out (a8 _);generalize ((((w4.setCell ⟨w.1.size,0,none⟩ (.bool false)).setCell ⟨w.1.size,1,none⟩ (.int .i64 0)).setCell ⟨w.1.size,2,none⟩ (.int .i64 0)).setCell ⟨w.1.size,3,none⟩ (.int .i64 0)).setCell ⟨w.1.size,4,none⟩ (.int .i64 0)=w9 at *;simp at d0 d1 d2 d3 d4;exact b9 (v:=.tuple #[apo false 0 0 0 0,.int .i64 5]) (by simp[results,results151,go_sem,d0,d1,d2,d3,d4]) rfl ⟨by rw[HX.out];rfl,hbl⟩
  | true=>
   have HX:Hid (aah s.data.toList=((true,a,b,c,n),0)):=HW.out;clear HW;go_wp2_with fail;have hd:=a6f (W:=w4) (g:=w.1.size) (a:=.bool true) (b:=.int .i64 a) (c:=.int .i64 b) (d:=.int .i64 c) (e:=.int .i64 n) HOLD.out;have d0:=hd 0 om;have d1:=hd 1 om;have d2:=hd 2 om;have d3:=hd 3 om;have d4:=hd 4 om;have hbl:=acr (a:=.bool true) (b:=.int .i64 a) (c:=.int .i64 b) (d:=.int .i64 c) (e:=.int .i64 n) HB4.out (a8 _);generalize ((((w4.setCell ⟨w.1.size,0,none⟩ (.bool true)).setCell ⟨w.1.size,1,none⟩ (.int .i64 a)).setCell ⟨w.1.size,2,none⟩ (.int .i64 b)).setCell ⟨w.1.size,3,none⟩ (.int .i64 c)).setCell ⟨w.1.size,4,none⟩ (.int .i64 n)=w9 at *;simp at d0 d1 d2 d3 d4;exact b9 (v:=.tuple #[apo true a b c n,.int .i64 0]) (by simp[results,results151,go_sem,d0,d1,d2,d3,d4]) rfl ⟨by rw[HX.out],hbl⟩
theorem amx (s:ByteArray) (w:World) (hs:s.size≤1000000):Calls prog 151 #[.string s] w (an5 (aah s.data.toList) w):=by
 by_cases h0:0<s.size
 ·by_cases h:s.size≤6
  ·exact ar4 s w hs h0 om
  ·exact au2 s w hs h0 om
 ·obtain⟨⟨l⟩⟩:=s;cases l with
  | nil=>exact au3 w
  | cons a l=>exact absurd (b4s _) h0
abbrev alu (b:Bool) (d m y:Int):Obj:=.cells #[.bool b,.int .i64 d,.int .i64 m,.int .i64 y] 46
def auk (x:Dat×Int) (w:World) (e:Ending) (w':World):Prop:=
 e=.returned (.tuple #[a9l x.1.1 x.1.2.1 x.1.2.2.1 x.1.2.2.2,.int .i64 x.2])∧Below w.1.size w w'
theorem bl9 {W:World} {g:Nat} {a b c d:Value} (h:∀o,o<4→∃v,W.cell? ⟨g,o,none⟩=some v) :
 ∀o,o<4 →((((W.setCell ⟨g,0,none⟩ a).setCell ⟨g,1,none⟩ b).setCell ⟨g,2,none⟩ c).setCell ⟨g,3,none⟩ d).cell? ⟨g,o,none⟩=(#[a,b,c,d]:Array Value)[o]?:=by
 have n:∀(i j:Nat),i≠j →(⟨g,i,none⟩:Addr) ≠⟨g,j,none⟩:=fun i j hn q=>by injection q with _ q;exact hn q
 intro o ho;obtain⟨v,hv⟩:=h o ho;rcases(by omega:o=0∨o=1∨o=2∨o=3)with rfl|rfl|rfl|rfl
 ·rw[a9 _ _ _ _ (n 3 0 om),a9 _ _ _ _ (n 2 0 om),a9 _ _ _ _ (n 1 0 om),b0b _ _ _ (by rw[hv];rfl)];rfl
 ·rw[a9 _ _ _ _ (n 3 1 om),a9 _ _ _ _ (n 2 1 om),b0b _ _ _ (by rw[a9 _ _ _ _ (n 0 1 om),hv];rfl)];rfl
 ·rw[a9 _ _ _ _ (n 3 2 om),b0b _ _ _ (by rw[a9 _ _ _ _ (n 1 2 om),a9 _ _ _ _ (n 0 2 om),hv];rfl)];rfl
 ·rw[b0b _ _ _ (by rw[a9 _ _ _ _ (n 2 3 om),a9 _ _ _ _ (n 1 3 om),a9 _ _ _ _ (n 0 3 om),hv];rfl)];rfl
theorem aj6 {B:Nat} {w0 W:World} {g:Nat} {a b c d:Value} (h:Below B w0 W) (hg:B≤g):Below B w0 ((((W.setCell ⟨g,0,none⟩ a).setCell ⟨g,1,none⟩ b).setCell ⟨g,2,none⟩ c).setCell ⟨g,3,none⟩ d):=
 (((h.setCell hg _).setCell hg _).setCell hg _).setCell hg _
theorem a18 {l:List UInt8} {a b c:Int} (h:ab0 l=some (a,b,c)):0≤c∧c≤99:=by
 unfold ab0 at h
 split at h
 ·split at h
  ·next q=>
   injection h with h
   injection h with _ h
   injection h with _ h
   simp only[b0d]at q;rw[← h];exact b_f q.1.2 q.2
  ·cases h
 ·cases h
theorem bdp {l:List UInt8} (hl:l≠[]) {a b c:Int} {k:Bool} (h:ab0 l=if k=true then some (a,b,c)else none) :
 ach l=if k=true then(if ar5 (true,a,b,2000+c)=true then((true,a,b,2000+c),0)else(zD,5))else(zD,3):=by
 unfold ach;rw[if_neg hl,h];cases k<;>rfl
theorem au8 (w:World):Calls prog 162 #[.string ⟨#[]⟩] w (auk (zD,0) w):=by
 go_enter func162,ntmps162;go_wp2_with fail;exact b9 (v:=.tuple #[a9l false 0 0 0,.int .i64 0]) (by simp[results,results162,go_sem]) rfl ⟨rfl,qa _ _⟩
theorem au9 (s:ByteArray) (w:World) (hs:s.size≤1000000) (h0:0<s.size):Calls prog 162 #[.string s] w (auk (ach s.data.toList) w):=by
 obtain⟨f1,f2⟩:=q8 h0;have HNE:Hid (s.data.toList≠[]):=fun q=>by have:=aef q;omega
 have HR0:Hid (∀o,(w.alloc (alu false 0 0 0)).cell? ⟨w.1.size,o,none⟩=(#[Value.bool false,.int .i64 0,.int .i64 0,.int .i64 0]:Array Value)[o]?):=fun o=>b8 _ _ _ _ rfl
 have HF0:Hid (∀o,(w.alloc (alu false 0 0 0)).frozen? ⟨w.1.size,o,none⟩=false):=fun o=>by rw[i9];exact qk _ _ _ (a8 _)
 have HB0:=hid (qa w (alu false 0 0 0));have HZ0:Hid (w.1.size<(w.alloc (alu false 0 0 0)).1.size):=by show _<_;simp
 go_enter func162,ntmps162;go_wp2_with fail;refine(ajv _ _ hs).mono ?_;rintro e w1 ⟨a,b,c,k,rfl,h1,hb1⟩;have hbo:=qa w1 (.cells #[.int .i64 a,.int .i64 b,.int .i64 c] 343);have HW:=hid (bdp HNE.out h1);have HC9:Hid (k=true→0≤c∧c≤99):=fun q=>a18 (by rw[h1,if_pos q])
 have HR1:Hid (∀o,(w1.alloc (.cells #[.int .i64 a,.int .i64 b,.int .i64 c] 343)).cell? ⟨w.1.size,o,none⟩=(#[Value.bool false,.int .i64 0,.int .i64 0,.int .i64 0]:Array Value)[o]?):=fun o=>((qy hbo).1 _ o (e9 HZ0.out hb1.size)).trans (((qy hb1).1 _ o HZ0.out).trans (HR0.out o))
 have HF1:Hid (∀o,(w1.alloc (.cells #[.int .i64 a,.int .i64 b,.int .i64 c] 343)).frozen? ⟨w.1.size,o,none⟩=false):=fun o=>((qy hbo).2 _ o (e9 HZ0.out hb1.size)).trans (((qy hb1).2 _ o HZ0.out).trans (HF0.out o))
 have HO1:Hid (∀o,(w1.alloc (.cells #[.int .i64 a,.int .i64 b,.int .i64 c] 343)).cell? ⟨w1.1.size,o,none⟩=(#[Value.int .i64 a,.int .i64 b,.int .i64 c]:Array Value)[o]?):=fun o=>b8 _ _ _ _ rfl
 have HB1:=hid (qb (qb HB0.out hb1) hbo);have HZ1:Hid (w.1.size<w1.1.size∧w1.1.size<(w1.alloc (.cells #[.int .i64 a,.int .i64 b,.int .i64 c] 343)).1.size):=⟨e9 HZ0.out hb1.size,by simp⟩;clear h1 hbo hb1 HR0 HF0 HB0 HZ0 HNE;cases k with
 | false=>
  have HX:Hid (ach s.data.toList=(zD,3)):=HW.out;have r0:=HR1.out 0;have r1:=HR1.out 1;have r2:=HR1.out 2;have r3:=HR1.out 3;have fz:=HF1.out;have HOLD:Hid (∀o,o<4→∃v,(w1.alloc (.cells #[.int .i64 a,.int .i64 b,.int .i64 c] 343)).cell? ⟨w.1.size,o,none⟩=some v):=fun o ho=>by rw[HR1.out o];rcases(by omega:o=0∨o=1∨o=2∨o=3)with rfl|rfl|rfl|rfl<;>exact⟨_,rfl⟩
  clear HW HC9
  try dsimp only
  repeat (fail_if_success (show Code.wp _ (Code.seq (Code.region 2 _ _) _) _ _ _)
          first|go_values|go_skip|go_guarded|go_step|go_upon|go_back|(simp only[b2y,b2z]at *;go_simp)|(go_ite<;>go_prune<;>(try go_simp)))
  generalize w1.alloc (.cells #[.int .i64 a,.int .i64 b,.int .i64 c] 343)=W1 at *;go_wp2_with fail;have hd:=bl9 (W:=W1) (g:=w.1.size) (a:=.bool false) (b:=.int .i64 0) (c:=.int .i64 0) (d:=.int .i64 0) HOLD.out;have d0:=hd 0 om;have d1:=hd 1 om;have d2:=hd 2 om;have d3:=hd 3 om;have hbl:=aj6 (a:=.bool false) (b:=.int .i64 0) (c:=.int .i64 0) (d:=.int .i64 0) HB1.out (a8 _);generalize (((W1.setCell ⟨w.1.size,0,none⟩ (.bool false)).setCell ⟨w.1.size,1,none⟩ (.int .i64 0)).setCell ⟨w.1.size,2,none⟩ (.int .i64 0)).setCell ⟨w.1.size,3,none⟩ (.int .i64 0)=w9 at *;simp at d0 d1 d2 d3;exact b9 (v:=.tuple #[a9l false 0 0 0,.int .i64 3]) (by simp[results,results162,go_sem,d0,d1,d2,d3]) rfl ⟨by rw[HX.out];rfl,hbl⟩
 | true=>
  obtain⟨c0,c9⟩:=HC9.out rfl;have HM:=fun W=>hid (au4 true a b (2000+c) W)
  obtain⟨Y,hY⟩:∃Y,ar5 (true,a,b,2000+c)=Y:=⟨_,rfl⟩;have HW2:Hid (ach s.data.toList=if Y=true then((true,a,b,2000+c),0)else(zD,5)):=by rw[← hY];exact HW.out
  rw[hY]at HM;have hwr:IntKind.i64.wrap (2000+c)=2000+c:=b00 _ om;have HZE:Hid ((w1.alloc (.cells #[.int .i64 a,.int .i64 b,.int .i64 c] 343)).1.size=w1.1.size+1):=by show _=_;simp
  have o0:=HO1.out 0;have o1:=HO1.out 1;have o2:=HO1.out 2;clear hY HW HC9
  try dsimp only
  repeat (fail_if_success (show Code.wp _ (Code.seq (Code.region 3 _ _) _) _ _ _)
          first|go_values|go_skip|go_guarded|go_step|go_upon|go_back|(simp only[b2y,b2z]at *;go_simp)|(go_ite<;>go_prune<;>(try go_simp)))
  generalize w1.alloc (.cells #[.int .i64 a,.int .i64 b,.int .i64 c] 343)=W1 at *;have hbc:=qa W1 (alu true a b (2000+c));have HB3:=hid (qb HB1.out hbc);have HR3:Hid (∀o,(W1.alloc (alu true a b (2000+c))).cell? ⟨w.1.size,o,none⟩=(#[Value.bool false,.int .i64 0,.int .i64 0,.int .i64 0]:Array Value)[o]?):=fun o=>((qy hbc).1 _ o (b05 HZ1.out.1 HZ1.out.2)).trans (HR1.out o)
  have HF3:Hid (∀o,(W1.alloc (alu true a b (2000+c))).frozen? ⟨w.1.size,o,none⟩=false):=fun o=>((qy hbc).2 _ o (b05 HZ1.out.1 HZ1.out.2)).trans (HF1.out o)
  have HC3:Hid (∀o,(W1.alloc (alu true a b (2000+c))).cell? ⟨W1.1.size,o,none⟩=(#[Value.bool true,.int .i64 a,.int .i64 b,.int .i64 (2000+c)]:Array Value)[o]?):=fun o=>b8 _ _ _ _ rfl
  have HZ3:Hid (w.1.size<(W1.alloc (alu true a b (2000+c))).1.size∧W1.1.size<(W1.alloc (alu true a b (2000+c))).1.size):=⟨e9 (b05 HZ1.out.1 HZ1.out.2) hbc.size,by simp⟩;clear hbc;go_wp2_with fail;refine(HM _).out.mono ?_;rintro e w4 ⟨rfl,hb4⟩;have HR4:Hid (∀o,w4.cell? ⟨w.1.size,o,none⟩=(#[Value.bool false,.int .i64 0,.int .i64 0,.int .i64 0]:Array Value)[o]?):=fun o=>((qy hb4).1 _ o HZ3.out.1).trans (HR3.out o)
  have HF4:Hid (∀o,w4.frozen? ⟨w.1.size,o,none⟩=false):=fun o=>((qy hb4).2 _ o HZ3.out.1).trans (HF3.out o)
  have HC4:Hid (∀o,w4.cell? ⟨W1.1.size,o,none⟩=(#[Value.bool true,.int .i64 a,.int .i64 b,.int .i64 (2000+c)]:Array Value)[o]?):=fun o=>((qy hb4).1 _ o HZ3.out.2).trans (HC3.out o)
  rw[HZE.out]at HC4;have HB4:=hid (qb HB3.out hb4);clear hb4 HR3 HF3 HC3 HB3 HR1 HF1 HB1 o0 o1 o2 HZ3 HO1 hwr;generalize 2000+c=yy at *;have r0:=HR4.out 0;have r1:=HR4.out 1;have r2:=HR4.out 2;have r3:=HR4.out 3;have fz:=HF4.out;have m0:=HC4.out 0;have m1:=HC4.out 1;have m2:=HC4.out 2;have m3:=HC4.out 3;have HOLD:Hid (∀o,o<4→∃v,w4.cell? ⟨w.1.size,o,none⟩=some v):=fun o ho=>by rw[HR4.out o];rcases(by omega:o=0∨o=1∨o=2∨o=3)with rfl|rfl|rfl|rfl<;>exact⟨_,rfl⟩
  cases Y with
  | false=>
   have HX:Hid (ach s.data.toList=(zD,5)):=HW2.out;clear HW2;go_wp2_with fail;have hd:=bl9 (W:=w4) (g:=w.1.size) (a:=.bool false) (b:=.int .i64 0) (c:=.int .i64 0) (d:=.int .i64 0) HOLD.out;have d0:=hd 0 om;have d1:=hd 1 om;have d2:=hd 2 om;have d3:=hd 3 om;have hbl:=aj6 (a:=.bool false) (b:=.int .i64 0) (c:=.int .i64 0) (d:=.int .i64 0) HB4.out (a8 _);generalize (((w4.setCell ⟨w.1.size,0,none⟩ (.bool false)).setCell ⟨w.1.size,1,none⟩ (.int .i64 0)).setCell ⟨w.1.size,2,none⟩ (.int .i64 0)).setCell ⟨w.1.size,3,none⟩ (.int .i64 0)=w9 at *;simp at d0 d1 d2 d3;exact b9 (v:=.tuple #[a9l false 0 0 0,.int .i64 5]) (by simp[results,results162,go_sem,d0,d1,d2,d3]) rfl ⟨by rw[HX.out];rfl,hbl⟩
  | true=>
   have HX:Hid (ach s.data.toList=((true,a,b,yy),0)):=HW2.out;clear HW2;go_wp2_with fail;have hd:=bl9 (W:=w4) (g:=w.1.size) (a:=.bool true) (b:=.int .i64 a) (c:=.int .i64 b) (d:=.int .i64 yy) HOLD.out;have d0:=hd 0 om;have d1:=hd 1 om;have d2:=hd 2 om;have d3:=hd 3 om;have hbl:=aj6 (a:=.bool true) (b:=.int .i64 a) (c:=.int .i64 b) (d:=.int .i64 yy) HB4.out (a8 _);generalize (((w4.setCell ⟨w.1.size,0,none⟩ (.bool true)).setCell ⟨w.1.size,1,none⟩ (.int .i64 a)).setCell ⟨w.1.size,2,none⟩ (.int .i64 b)).setCell ⟨w.1.size,3,none⟩ (.int .i64 yy)=w9 at *;simp at d0 d1 d2 d3;exact b9 (v:=.tuple #[a9l true a b yy,.int .i64 0]) (by simp[results,results162,go_sem,d0,d1,d2,d3]) rfl ⟨by rw[HX.out],hbl⟩
theorem ay4 (s:ByteArray) (w:World) (hs:s.size≤1000000):Calls prog 162 #[.string s] w (auk (ach s.data.toList) w):=by
 by_cases h0:0<s.size
 ·exact au9 s w hs h0
 ·obtain⟨⟨l⟩⟩:=s;cases l with
  | nil=>exact au8 w
  | cons a l=>exact absurd (b4s _) h0
