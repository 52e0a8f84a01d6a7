/- Parts. -/
import Derived.RangeFuncNested
import Derived.RangeFuncBound
import Derived.RangeFuncCalls
import Derived.RangeFuncLeaves
import Derived.OwnWalkIn
import Derived.TacticsInMore
import Derived.LoopNIn
import Derived.LoopIn
import Derived.Test.YtdkhlkfleggbaaaGreatV15
import Derived.Shelf.Abstract
import Derived.Shelf.RegionOpen
import Derived.Sort.QuietIn
namespace Go.Proofs.YtdkhlkfleggbaaaGreat
set_option maxHeartbeats 4000000
set_option maxRecDepth 8000
open Tryz
set_option linter.unusedVariables false
open Go.RowKit
def ayr {α:Type} (m:Nat) (P:Program) (gf:Nat) (lb:Array Value) (encs:α->Array Value) (bx:Nat) (S:List α->Prop) (w:World):Prop:=
 ∀(l:Nat) (J Jx:List α->World->Prop) (W:World),Below w.1.size w W ->(∀pre V V',J pre V->V.grownBy V' (some bx)->J pre V') ->
  (∀pre x V,J pre V ->(∃rest,S (pre++x::rest))->YieldAt Fence.wide (m-1) P l (encs x) V λe V'=>
   (e=.returned (.bool true)/\J (pre++[x]) V'/\V'.heap[bx]?=V.heap[bx]?) \/(e=.returned (.bool false)/\Jx (pre++[x]) V')) ->
  J [] W ->
  CallsIn Fence.wide m P gf (#[.func (.yield l) #[] #[]]++lb) W λe W'=>(∃v,e=.returned v) /\((∃xs,S xs/\J xs W') \/(∃pre,(∃rest,S (pre++rest))/\Jx pre W'))
def bil {α:Type} (B bx:Nat) (I:List α->World->Prop) (Ix:Code->List α->World->Prop) (xs:List α) (W:World):Exit->Act->World->Prop
 | .normal,_,W'=>KeepsFrom B W W'/\W'.heap[bx]?=W.heap[bx]?/\I xs W'
 | .ret,_,W'=>KeepsFrom B W W'/\Ix .ret xs W'
 | _,_,_=>False
theorem afe {α:Type} {m:Nat} {P:Program} {g:Operand} {ps:Array Tmp} {assign body:Code} {Q:Exit->Act->World->Prop} {a:Act} {w:World}
 (h1:1<=m) {gf:Nat} {lb:Array Value} (hg:a.eval g=.func (.func gf) #[] lb) (eg:∀args w,(callFunc gf args).run P w=.ok (.enter gf args) w)
 {encs:α->Array Value} {bx:Nat} (hbx:bx<w.1.size) {S:List α->Prop} (hseq:ayr (m-1) P gf lb encs bx S w) (hps:∀x,(encs x).size=ps.size)
 (I:List α->World->Prop) (Ix:Code->List α->World->Prop) (hI:OwnFrom w.1.size I) (hIx:∀c,OwnFrom w.1.size (Ix c)) (hIb:∀pre V V',I pre V->V.grownBy V' (some bx)->I pre V') (h0:I [] w) (A1:Array Value->α->Array Value)
 (hassign:∀(l:Nat) (x:α) (W:World) (K:Act->World->Prop),K {tmps:=A1 a.tmps x,defers:=[]} W ->
  assign.wpIn (Fence.wide.inRound l) (m-1-1) P (Exit.then K (λ_ _ _=>False)) {tmps:=(ps.zip (encs x)).foldl (λt (p,v)=>t.setIfInBounds p v) a.tmps,defers:=[]} W)
 (hbody:∀(l:Nat) (pre:List α) (x:α) (W:World),I pre W ->(∃rest,S (pre++x::rest))->body.wpIn (Fence.wide.inRound l) (m-1-1) P (bil w.1.size bx I Ix (pre++[x]) W) {tmps:=A1 a.tmps x,defers:=[]} W)
 (hdone:∀(D:Nat) (xs:List α) (W:World),w.1.size<=D->S xs->I xs W->W.heap[D]?=some (.deferred (some []))->Q .normal {a with defers:={target:=.collected D,args:=#[]}::a.defers} W)
 (hstop:∀(D:Nat) (pre:List α) (W:World),w.1.size<=D ->(∃rest,S (pre++rest))->Ix .ret pre W->W.heap[D]?=some (.deferred (some []))->Code.ret.wpIn Fence.wide m P Q {a with defers:={target:=.collected D,args:=#[]}::a.defers} W) :
 (Code.rangeFunc g ps assign body).wpIn Fence.wide m P Q a w:=by
 refine wpIn_rangeFunc ?_;intro fn hfn;show ∃_,_;let rec_:LoopState->Option Code->Loop:=λst pe=>{state:=st,pending:=pe,fn,tmps:=a.tmps,params:=ps,assign,body,defers:=w.1.size}
 obtain⟨R,hR⟩:∃R:LoopState->Option Code->Loop,R=rec_:=⟨_,rfl⟩;have rS:∀st pe,(R st pe).state=st:=λst pe=>by rw[hR]
 obtain⟨W1,hW1⟩:∃W1,(w.alloc (.deferred (some []))).alloc (.loop (R .ready none))=W1:=⟨_,rfl⟩;have z1:W1.1.size=w.1.size+2:=by rw[<- hW1];simp
 have bel:Below w.1.size w W1:=by rw[<- hW1];exact((n9 _ w).alloc (a8 _) _).alloc sm _
 have atL:W1.heap[w.1.size+1]?=some (.loop (R .ready none)):=by
  have:=World.alloc_heap_new (w.alloc (.deferred (some []))) (.loop (R .ready none));rw[World.size_alloc]at this;rw[<- hW1];exact this
 have atD:W1.heap[w.1.size]?=some (.deferred (some [])):=by
  rw[<- hW1];exact(Below.heap_alloc _ _ _ sm).trans (World.alloc_heap_new w _)
 have i1:I [] W1:=by rw[<- hW1];exact hI.alloc _ (hI.alloc _ h0)
 -- the record and the row of deferred calls,behind a write of block bx
 have far:∀(V V':World) (k:Nat) (o:Obj),V.grownBy V' (some bx)->w.1.size<=k->V.heap[k]?=some o->V'.heap[k]?=some o:=λV V' k o hg hk ho=>
  (hg.block k (o8.1 ho).1 (λe=>by cases e;omega)).trans ho
 refine⟨w.1.size+1,[{target:=.collected w.1.size,args:=#[]}],W1,{target:=.fn (.func gf) lb,args:=#[.func (.yield (w.1.size+1)) #[] #[]]},W1,gf,
  #[.func (.yield (w.1.size+1)) #[] #[]]++lb,W1,?_,?_,?_,?_,λ_=>h1,?_⟩
 ·rw[<- hW1,hR];exact run_enterLoop_outer _ _ _ _ _
 ·simp only[resolve,hg];simp[go_sem]
 ·intro f' hf';trivial
 ·simp[invoke,go_sem,eg]
 ·refine(hseq (w.1.size+1)
   (λpre V=>I pre V/\V.heap[w.1.size+1]?=some (.loop (R .ready none))/\V.heap[w.1.size]?=some (.deferred (some [])))
   (λpre V=>Ix .ret pre V/\V.heap[w.1.size+1]?=some (.loop (R .done (some .ret)))/\V.heap[w.1.size]?=some (.deferred (some [])))
   W1 bel (λpre V V' ⟨q1,q2,q3⟩ hg=>⟨hIb pre V V' q1 hg,far V V' _ _ hg om q2,far V V' _ _ hg (a8 _) q3⟩) ?_ ⟨i1,atL,atD⟩).mono ?_
  ·rintro pre x V ⟨hi,hl,hd⟩ hx;have hlt:w.1.size+1<V.1.size:=(o8.1 hl).1;have hy:=run_yield (P:=P) (args:=encs x) hl (by rw[hR];exact hps x);rw[hR]at hy;refine⟨fn,_,assign,body,hy,roundIn_of_wpIn hfn (hassign _ x V _ ⟨_,run_beginRound hl (rS _ _),?_⟩)⟩;obtain⟨V2,hV2⟩:∃V2,V.putObj (w.1.size+1) (.loop {R .ready none with state:=.busy})=V2:=⟨_,rfl⟩;have l2:V2.heap[w.1.size+1]?=some (.loop {R .ready none with state:=.busy}):=by rw[<- hV2];exact World.putObj_heap_same hlt
   have d2:V2.heap[w.1.size]?=some (.deferred (some [])):=by rw[<- hV2];exact(World.putObj_heap_other om).trans hd
   have b2:V2.heap[bx]?=V.heap[bx]?:=by rw[<- hV2];exact World.putObj_heap_other om
   have i2:I pre V2:=by rw[<- hV2];exact hI.putObj _ hi om hl rfl
   rw[hV2];refine wpIn_mono (hbody _ pre x V2 i2 hx) ?_
   have fin:∀(jump:Option Code) (V3:World),KeepsFrom w.1.size V2 V3 ->
    (Instr.endRound (w.1.size+1) jump).run P V3=.ok (.bool jump.isNone) (V3.putObj (w.1.size+1) (.loop (R (if jump.isNone then .ready else .done) jump))) /\
    V3.heap[w.1.size+1]?=some (.loop {R .ready none with state:=.busy}) /\
    (V3.putObj (w.1.size+1) (.loop (R (if jump.isNone then .ready else .done) jump))).heap[w.1.size+1]?=some (.loop (R (if jump.isNone then .ready else .done) jump)) /\
    (V3.putObj (w.1.size+1) (.loop (R (if jump.isNone then .ready else .done) jump))).heap[w.1.size]?=some (.deferred (some [])):=λjump V3 hk3=>by
    have l3:=hk3.same _ _ om l2 rfl;have hr:=run_endRound (P:=P) jump l3;rw[hR]at hr l3 ⊢;exact⟨hr,l3,World.putObj_heap_same (o8.1 l3).1,(World.putObj_heap_other om).trans (hk3.same _ _ (a8 _) d2 rfl)⟩
   rintro e a3 V3 hp;cases e with
   | normal=>
    obtain⟨hk3,hb3,hi3⟩:=hp;obtain⟨hr,l3,l4,d4⟩:=fin none V3 hk3;exact⟨_,_,hr,.inl ⟨rfl,⟨hI.putObj _ hi3 om l3 rfl,l4,d4⟩,(World.putObj_heap_other om).trans (hb3.trans b2)⟩⟩
   | ret=>
    obtain⟨hk3,hi3⟩:=hp;obtain⟨hr,l3,l4,d4⟩:=fin (some .ret) V3 hk3;exact⟨_,_,hr,.inr ⟨rfl,(hIx _).putObj _ hi3 om l3 rfl,l4,d4⟩⟩
   | exit id=>exact hp.elim
   | goto t=>exact hp.elim
   | panic ch=>exact hp.elim
   | outgrown=>exact hp.elim
  ·rintro e V ⟨⟨v,rfl⟩,(⟨xs,hS,hi,hl,hd⟩|⟨pre,hS,hi,hl,hd⟩)⟩
   ·have he:=run_endLoop (P:=P) hl (by rw[hR];simp[rec_]);rw[hR]at he;exact⟨none,_,he,hdone _ xs _ (a8 _) hS (hI.putObj _ hi om hl rfl) ((World.putObj_heap_other om).trans hd)⟩
   ·have he:=run_endLoop (P:=P) hl (by rw[hR];simp[rec_]);rw[hR]at he;exact⟨some .ret,_,he,hstop _ pre _ (a8 _) hS ((hIx _).putObj _ hi om hl rfl) ((World.putObj_heap_other om).trans hd)⟩
open Go.RowKit Go.Shelf
attribute [local go_sem] Oper.semAt_some
def vo (a b:UInt8):Int×Bool:=(10*((((a.toNat:Int)-48)%256)) +(((b.toNat:Int)-48)%256),aaj a && aaj b)
def vg:List UInt8->List (Int×Bool)
 | a::b::l=>vo a b::vg l
 | _=>[]
def a4n (w:World) (bx:Nat):Nat:=match w.cell? ⟨bx,0,none⟩with|some (.string s)=>s.size|_=>0
theorem atn {w:World} {bx:Nat} {s:ByteArray} (h:w.cell? ⟨bx,0,none⟩=some (.string s)):a4n w bx=s.size:=by unfold a4n;rw[h]
theorem bby {s:ByteArray} (h:1<s.size):vg s.data.toList=vo (s[0]'(by omega)) (s[1]'h)::vg (s.extract 2 s.size).data.toList:=by
 obtain⟨⟨l⟩⟩:=s
 match l,h with
 | a::b::l,h=>
  show vo a b::vg l=vo a b::vg _
  congr 2
  have hz:({data:={toList:=a::b::l}}:ByteArray).size=l.length+2:=rfl;rw[hz];simp[ByteArray.extract,ByteArray.copySlice]
 | [a],h=>exact absurd h (Nat.lt_irrefl 1)
 | [],h=>exact absurd h (b04 1)
theorem bbx {s:ByteArray} (h:s.size<=1):vg s.data.toList=[]:=by
 obtain⟨⟨l⟩⟩:=s
 match l,h with
 | a::b::l,h=>simp[ByteArray.size]at h
 | [a],h=>rfl
 | [],h=>rfl
theorem azv (c:UInt8):aaj c=decide (((c.toNat:Int)-48)%256<10):=by
 have:=c.toNat_lt;unfold aaj;rw[b4i];simp only[b0g,b1l];omega
theorem a3h (c:UInt8):IntKind.u8.wrap ((c.toNat:Int)-48)=((c.toNat:Int)-48)%256/\0 <=((c.toNat:Int)-48)%256 /\((c.toNat:Int)-48)%256<=255:=by
 refine⟨?_,by omega,by omega⟩;rfl
def beb (l:List (Int×Bool)) (bx:Nat) (J:List (Int×Bool)->World->Prop) (w:World):Prop:=
 ∃pre sr,l=pre++vg (ByteArray.data sr).toList/\J pre w/\w.cell? ⟨bx,0,none⟩=some (.string sr)/\w.frozen? ⟨bx,0,none⟩=false/\sr.size<=1100000
theorem ajz (s:ByteArray) (w:World):Calls prog 226 #[.string s] w λe w'=>e=.returned (.func (.func 234) #[] #[.pointer (some ⟨w.1.size,0,none⟩)])/\w'=w.alloc (.cells #[.string s] 9):=by
 go_enter func226,ntmps226;go_wp2;go_ret;exact⟨rfl,rfl⟩
set_option maxRecDepth 100000 in
theorem ahu (m bx:Nat) (hm:1<=m) (s:ByteArray) (hs:s.size<=1100000) (w:World) (hw:w.cell? ⟨bx,0,none⟩=some (.string s)) (hf:w.frozen? ⟨bx,0,none⟩=false) (hbx:bx<w.1.size) :
 ayr m prog 234 #[.pointer (some ⟨bx,0,none⟩)] (λx:Int×Bool=>#[.int .i64 x.1,.bool x.2]) bx (λxs=>xs=vg s.data.toList) w:=by
 intro l J Jx W hW hJ hY h0;have hbW:W.cell? ⟨bx,0,none⟩=some (.string s):=(hW.cell (p:=⟨bx,0,none⟩) hbx).trans hw;have hfW:W.frozen? ⟨bx,0,none⟩=false:=(hW.frozen (p:=⟨bx,0,none⟩) hbx).trans hf;have HJ:=q_ hJ;have HY:=q_ hY;have HI0:Q_ (beb (vg s.data.toList) bx J W):=⟨[],s,rfl,h0,hbW,hfW,hs⟩;clear hJ hY h0 hW hw hf hbW hfW;have hmx:prog.follows .mixedOrders=true:=by kernel_rfl
 refine callsIn_of_wp func234 rfl trivial ?_ rfl;simp only[ntmps234,o6,n6,b0z,Nat.reduceAdd,Nat.reduceSub,b1n,b1o,b12,b1s,b0y,b0u]
 gi_wp2
 gi_loopw [] (λwr=>Q_ (beb (vg s.data.toList) bx J wr)) (λwr=>a4n wr bx)
 case atStart=>exact HI0
 case round=>
  clear HI0;obtain⟨pre,sr,he,hj,hc,hf,hz⟩:=hrel.o;have hbl:=atn hc
  by_cases h1:1<sr.size
  ·have hp:=bby h1;rw[hp]at he;clear hp;have hi1:(1:Int)<(sr.size:Int):=by omega
   have h0:0<sr.size:=by omega
   obtain⟨wa,a0,a1⟩:=a3h sr[0];obtain⟨wb,b0,b1⟩:=a3h sr[1];have hd1:=azv sr[0];have hd2:=azv sr[1]
   have HPV:Q_ (vo sr[0] sr[1]=(10*(((sr[0].toNat:Int)-48)%256) +(((sr[1].toNat:Int)-48)%256),decide (((sr[0].toNat:Int)-48)%256<10) && decide (((sr[1].toNat:Int)-48)%256<10))):=by
    show _=_;rw[<- hd1,<- hd2];rfl
   rw[HPV.o]at he;clear hd1 hd2 HPV;have HNX:Q_ (vg (sr.extract 2 sr.size).data.toList=vg (sr.extract 2 sr.size).data.toList):=q_ rfl;have hx2:(sr.extract 2 sr.size).size=sr.size-2:=by rw[b00];omega
   have HX2:=q_ hx2;clear HNX hx2;generalize ((sr[0].toNat:Int)-48)%256=A at *;generalize ((sr[1].toNat:Int)-48)%256=B at *;have HE:=q_ he;have HJ2:=q_ hj;have HB:=q_ hbl;clear he hj hrel hbl
   gi_wp2
   gi_quiet (fail)
   have hj2:=HJ.o pre wr (wr.drewN nq) HJ2.o ⟨rfl,rfl,rfl,a8 _,λ_ _ _=>rfl⟩;have hc2:(wr.drewN nq).cell? ⟨bx,0,none⟩=some (.string sr):=hc;have hf2:(wr.drewN nq).frozen? ⟨bx,0,none⟩=false:=hf;clear hc hf;generalize wr.drewN nq=wq at *
   obtain⟨x2,hx,hw⟩:∃x2:Bool,(decide (A<10) && decide (B<10))=x2 /\(A<10/\decide (B<10)=true/\x2=true\/A<10/\decide (B<10)=false/\x2=false\/10<=A/\True/\x2=false):=by
    by_cases p1:A<10
    ·by_cases p2:B<10
     ·exact⟨true,by rw[t8 p1,t8 p2];rfl,.inl ⟨p1,t8 p2,rfl⟩⟩
     ·exact⟨false,by rw[o7 p2,Bool.and_false],.inr (.inl ⟨p1,o7 p2,rfl⟩)⟩
    ·exact⟨false,by rw[o7 p1];rfl,.inr (.inr ⟨by omega,trivial,rfl⟩)⟩
   have he2:=HE.o;rw[hx]at he2;have HE2:=q_ he2;obtain⟨fn,tmps,assign,body,hy,hR⟩:=HY.o pre (10*A+B,x2) _ hj2 ⟨_,he2.symm⟩;dsimp only at hy;have HR:=q_ hR;clear hR hj2 he2 hx HE HJ2;rcases hw with⟨p1,p2,rfl⟩|⟨p1,p2,rfl⟩|⟨p1,p2,rfl⟩
   all_goals
    gi_wp2
    refine HR.o.mono ?_;rintro e V' (⟨rfl,hJ3,hb3⟩|⟨rfl,hJ3⟩)
    ·have hc3:V'.cell? ⟨bx,0,none⟩=some (.string sr):=(t7 (a:=⟨bx,0,none⟩) hb3).trans hc2;have hf3:V'.frozen? ⟨bx,0,none⟩=false:=(b1t (a:=⟨bx,0,none⟩) hb3).trans hf2;have HJ3:=q_ hJ3;have hj4:=HJ.o _ V' (V'.setCell ⟨bx,0,none⟩ (.string (sr.extract 2 sr.size))) hJ3 (grownBy_setCell' V' bx _);have hc4:(V'.setCell ⟨bx,0,none⟩ (.string (sr.extract 2 sr.size))).cell? ⟨bx,0,none⟩=some (.string (sr.extract 2 sr.size)):=b0f _ _ _ (by rw[hc3];rfl);have hf4:(V'.setCell ⟨bx,0,none⟩ (.string (sr.extract 2 sr.size))).frozen? ⟨bx,0,none⟩=false:=by rw[b3u];exact hf3
     have HL4:=q_ (atn hc4);have HFIN:Q_ (beb (vg s.data.toList) bx J (V'.setCell ⟨bx,0,none⟩ (.string (sr.extract 2 sr.size)))):=⟨_,sr.extract 2 sr.size,by rw[HE2.o,b0s];rfl,hj4,hc4,hf4,by rw[HX2.o];omega⟩;clear hJ3 hj4 hc4 hf4 hb3 hc2 hf2 HJ3
     gi_wp2
     go_roundw
     case rel=>exact HFIN
     case measure=>rw[HL4.o,HB.o,HX2.o];omega
    ·have HJ3:=q_ hJ3;clear hJ3
     gi_wp2
     refine b9 (results_none rfl _ _ _) rfl ?_;exact⟨⟨_,rfl⟩,.inr ⟨_,⟨vg (sr.extract 2 sr.size).data.toList,by rw[HE2.o,b0s];rfl⟩,HJ3.o⟩⟩
  ·have hi1:(sr.size:Int)<=1:=by omega
   rw[bbx (s:=sr) om,b0p]at he;have HE:=q_ he;have HJ2:=q_ hj;clear he hj hrel hbl hf
   gi_wp2
   go_end0
   exact⟨⟨_,rfl⟩,.inl ⟨_,HE.o.symm,HJ2.o⟩⟩
open Go.RowKit Go.Shelf
attribute [local go_sem] Oper.semAt_some
def a9s (P:Program) (fn:Func) (R:Ending->World->Prop) (_:Exit->Act->World->Prop):Exit->Act->World->Prop
 | .ret,a,w=>bodyPostM Fence.wide 8 P fn R .ret a w
 | _,_,_=>False
theorem jw {P:Program} {f:FuncId} {fn:Func} {c:Code} {args:Array Value} {w:World} {R:Ending->World->Prop} (hf:P.funcs[f]?=some fn) (hb:fn.body=some c)
 (h:c.wp P (a9s P fn R (bodyPost P fn R)) {tmps:=args++Array.replicate (fn.ntmps-args.size) undef,defers:=[]} w):Calls P f args w R:=by
 refine(callsIn_wide (n:=8)).1 (callsIn_of_wp_marks hf hb trivial (b46.2 (b5o h ?_)) rfl);intro e a w' hq;cases e with
 | ret=>exact hq
 | _=>exact hq.elim
structure ad2 (w:World) (pre:List (Int×Bool)) (W:World):Prop where
 o:∀j,j<3->W.cell? ⟨w.1.size+2,j,none⟩=some (.int .i64 ((pre.map Prod.fst).getD j 0))
 cnt:W.cell? ⟨w.1.size+3,0,none⟩=some (.int .i64 (pre.length:Int))
 r0:∀j,j<3->W.cell? ⟨w.1.size,j,none⟩=some (.int .i64 0)
 r1:W.cell? ⟨w.1.size+1,0,none⟩=some (.bool false)
 fr:∀b,w.1.size<=b->b<w.1.size+4->∀o,W.frozen? ⟨b,o,none⟩=false
 bel:Below w.1.size w W
 ok:∀x∈pre,x.2=true
structure ave (w:World) (pre:List (Int×Bool)) (W:World):Prop where
 r0:∀j,j<3->∃a,W.cell? ⟨w.1.size,j,none⟩=some (.int .i64 a)
 r1:W.cell? ⟨w.1.size+1,0,none⟩=some (.bool false)
 bel:Below w.1.size w W
 sz:w.1.size+4<=W.1.size
 bad:∃x∈pre,x.2=false
theorem ak2 {w W W':World} {row:Option Nat} {b:Nat} {o:Obj} (hg:W.grownBy W' row) (hr:∀r,row=some r->∃o:Obj,W.heap[r]?=some o/\o.isCells=false) (ho:W.heap[b]?=some o) (hc:o.isCells=true):W'.heap[b]?=W.heap[b]?:=
 hg.block b (o8.1 ho).1 (λe=>by obtain⟨o',ho',hc'⟩:=hr b e.symm;rw[ho]at ho';cases ho';rw[hc]at hc';cases hc')
theorem ad2.same {w W W':World} {pre:List (Int×Bool)} (h:ad2 w pre W) (hb:∀b,w.1.size<=b->b<w.1.size+4->W'.heap[b]?=W.heap[b]?) (hw:Below w.1.size w W'):ad2 w pre W' where
 o:=λj hj=>(t7 (a:=⟨_,j,none⟩) (hb (w.1.size+2) om om)).trans (h.o j hj)
 cnt:=(t7 (a:=⟨_,0,none⟩) (hb (w.1.size+3) om om)).trans h.cnt
 r0:=λj hj=>(t7 (a:=⟨_,j,none⟩) (hb w.1.size om om)).trans (h.r0 j hj)
 r1:=(t7 (a:=⟨_,0,none⟩) (hb (w.1.size+1) om om)).trans h.r1
 fr:=λb h1 h2 o=>(b1t (a:=⟨b,o,none⟩) (hb b h1 h2)).trans (h.fr b h1 h2 o)
 bel:=hw
 ok:=h.ok
theorem ave.same {w W W':World} {pre:List (Int×Bool)} (h:ave w pre W) (hb:∀b,w.1.size<=b->b<w.1.size+4->W'.heap[b]?=W.heap[b]?) (hw:Below w.1.size w W') (hz:W.1.size<=W'.1.size):ave w pre W' where
 sz:=p9 h.sz hz
 r0:=λj hj=>by obtain⟨a,ha⟩:=h.r0 j hj;exact⟨a,(t7 (a:=⟨_,j,none⟩) (hb w.1.size om om)).trans ha⟩
 r1:=(t7 (a:=⟨_,0,none⟩) (hb (w.1.size+1) om om)).trans h.r1
 bel:=hw
 bad:=h.bad
theorem ad2.blocks {w W:World} {pre:List (Int×Bool)} (h:ad2 w pre W):∀b,w.1.size<=b->b<w.1.size+4->∃o,W.heap[b]?=some o/\o.isCells=true:=λb h1 h2=>by
 rcases(by omega:b=w.1.size\/b=w.1.size+1\/b=w.1.size+2\/b=w.1.size+3)with rfl|rfl|rfl|rfl
 ·exact cells_of_cell (h.r0 0 om)
 ·exact cells_of_cell h.r1
 ·exact cells_of_cell (h.o 0 om)
 ·exact cells_of_cell h.cnt
theorem ad2.snoc {w W:World} {pre:List (Int×Bool)} (h:ad2 w pre W) (hl:pre.length<3) (n:Int) :
 ad2 w (pre++[(n,true)]) ((W.setCell ⟨w.1.size+2,pre.length,none⟩ (.int .i64 n)).setCell ⟨w.1.size+3,0,none⟩ (.int .i64 ((pre.length:Int)+1))) where
 o:=λj hj=>by
  rw[a9 _ _ _ _ (λe=>by injection e with e _;omega)]
  by_cases e:j=pre.length
  ·subst e;rw[b0f _ _ _ (by rw[h.o _ hl];rfl)];simp
  ·rw[a9 _ _ _ _ (λq=>by injection q with _ q;exact e q.symm),h.o j hj]
   congr 2
   simp only[b17,l9];rcases b08 j pre.length with q|q
   ·rw[b0e (by simpa using q)]
   ·rw[b0a (by simpa using q),b0c (by simpa using q),b0c (by simp;omega)]
 cnt:=by
  rw[b0f _ _ _ (by rw[a9 _ _ _ _ (λe=>by injection e with e _;omega),h.cnt];rfl)];simp
 r0:=λj hj=>by
  rw[a9 _ _ _ _ (λe=>by injection e with e _;omega),a9 _ _ _ _ (λe=>by injection e with e _;omega)];exact h.r0 j hj
 r1:=by
  rw[a9 _ _ _ _ (λe=>by injection e with e _;omega),a9 _ _ _ _ (λe=>by injection e with e _;omega)];exact h.r1
 fr:=λb h1 h2 o=>by rw[b3u,b3u];exact h.fr b h1 h2 o
 bel:=(h.bel.setCell (by show w.1.size<=w.1.size+2;omega) _).setCell (by show w.1.size<=w.1.size+3;omega) _
 ok:=λx hx=>by
  rcases b1z.1 hx with q|q
  ·exact h.ok x q
  ·rw[b2v.1 q]
theorem bon {W:World} {g:Nat} {a b c x y z:Value} (h0:W.cell? ⟨g,0,none⟩=some x) (h1:W.cell? ⟨g,1,none⟩=some y) (h2:W.cell? ⟨g,2,none⟩=some z) :
 (((W.setCell ⟨g,0,none⟩ a).setCell ⟨g,1,none⟩ b).setCell ⟨g,2,none⟩ c).cell? ⟨g,0,none⟩=some a /\(((W.setCell ⟨g,0,none⟩ a).setCell ⟨g,1,none⟩ b).setCell ⟨g,2,none⟩ c).cell? ⟨g,1,none⟩=some b /\(((W.setCell ⟨g,0,none⟩ a).setCell ⟨g,1,none⟩ b).setCell ⟨g,2,none⟩ c).cell? ⟨g,2,none⟩=some c:=by
 have n01:(⟨g,1,none⟩:Addr) ≠⟨g,0,none⟩:=λe=>by injection e with _ e;cases e
 have n02:(⟨g,2,none⟩:Addr) ≠⟨g,0,none⟩:=λe=>by injection e with _ e;cases e
 have n12:(⟨g,2,none⟩:Addr) ≠⟨g,1,none⟩:=λe=>by injection e with _ e;cases e
 refine⟨?_,?_,?_⟩
 ·rw[a9 _ _ _ _ n02,a9 _ _ _ _ n01,b0f _ _ _ (by rw[h0];rfl)]
 ·rw[a9 _ _ _ _ n12,b0f _ _ _ (by rw[a9 _ _ _ _ n01.symm,h1];rfl)]
 ·rw[b0f _ _ _ (by rw[a9 _ _ _ _ n12.symm,a9 _ _ _ _ n02.symm,h2];rfl)]
theorem air {W:World} {g h o:Nat} {a b c d:Value} (hn:h≠g):((((W.setCell ⟨g,0,none⟩ a).setCell ⟨g,1,none⟩ b).setCell ⟨g,2,none⟩ c).setCell ⟨h,0,none⟩ d).cell? ⟨g,o,none⟩=(((W.setCell ⟨g,0,none⟩ a).setCell ⟨g,1,none⟩ b).setCell ⟨g,2,none⟩ c).cell? ⟨g,o,none⟩:=
 a9 _ _ _ _ (λe=>by injection e with e _;exact hn e)
theorem a2r {W:World} {g h:Nat} {a b c d x:Value} (hn:h≠g) (h0:W.cell? ⟨h,0,none⟩=some x):((((W.setCell ⟨g,0,none⟩ a).setCell ⟨g,1,none⟩ b).setCell ⟨g,2,none⟩ c).setCell ⟨h,0,none⟩ d).cell? ⟨h,0,none⟩=some d:=by
 have n:∀o,(⟨g,o,none⟩:Addr) ≠⟨h,0,none⟩:=λo e=>by injection e with e _;exact hn e.symm
 exact b0f _ _ _ (by rw[a9 _ _ _ _ (n 2),a9 _ _ _ _ (n 1),a9 _ _ _ _ (n 0),h0];rfl)
theorem bfk {W:World} {p q r s:Addr} {a b c d:Value}:KeepsOthers W ((((W.setCell p a).setCell q b).setCell r c).setCell s d):=
 (((KeepsOthers.setCell _ _ _).trans (KeepsOthers.setCell _ _ _)).trans (KeepsOthers.setCell _ _ _)).trans (KeepsOthers.setCell _ _ _)
def al6 (l:List UInt8) (w:World) (e:Ending) (w':World):Prop:=
 ∃(a b c:Int) (k:Bool),e=.returned (.tuple #[.agg #[.int .i64 a,.int .i64 b,.int .i64 c],.bool k])/\ab2 l=(if k=true then some (a,b,c)else none)/\Below w.1.size w w'
theorem a74 {l:List UInt8} (h:l.length≠6):ab2 l=none:=by
 unfold ab2
 split
 ·exact absurd rfl h
 ·rfl
theorem a6f {l:List UInt8} (h:l.length=6):(vg l).length=3:=by
 match l,h with
 | [a,b,c,d,e,f],_=>rfl
theorem bhd {l:List UInt8} (h:l.length=6):∃a b c d e f,l=[a,b,c,d,e,f]:=by
 match l,h with
 | [a,b,c,d,e,f],_=>exact⟨a,b,c,d,e,f,rfl⟩
theorem afq {a b:UInt8} (h:(vo a b).2=true):(vo a b).1=aso a b:=by
 have h:(aaj a && aaj b)=true:=h;rw[b0g]at h;obtain⟨h1,h2⟩:=h;unfold aaj at h1 h2;simp only[b0g,b1l]at h1 h2;unfold vo aso;simp only;omega
theorem bdj {l:List UInt8} (h:l.length=6) (hk:∀x∈vg l,x.2=true):∃p q r,vg l=[p,q,r]/\ab2 l=some (p.1,q.1,r.1):=by
 obtain⟨a,b,c,d,e,f,rfl⟩:=bhd h;refine⟨vo a b,vo c d,vo e f,rfl,?_⟩;have h1:=hk (vo a b) (by simp[vg]);have h2:=hk (vo c d) (by simp[vg]);have h3:=hk (vo e f) (by simp[vg]);rw[afq h1,afq h2,afq h3];have h1:(aaj a && aaj b)=true:=h1;have h2:(aaj c && aaj d)=true:=h2;have h3:(aaj e && aaj f)=true:=h3;rw[b0g]at h1 h2 h3;show (if _ then _ else _)=_;rw[h1.1,h1.2,h2.1,h2.2,h3.1,h3.2];rfl
theorem bdk {l:List UInt8} (h:l.length=6) (hk:∃x∈vg l,x.2=false):ab2 l=none:=by
 obtain⟨a,b,c,d,e,f,rfl⟩:=bhd h;obtain⟨x,hx,h2⟩:=hk;show (if _ then _ else _)=_;rw[if_neg ?_];intro q;simp only[b0g]at q;have hx':x=vo a b\/x=vo c d\/x=vo e f:=by simpa [vg]using hx
 rcases hx' with rfl|rfl|rfl
 ·have h2:(aaj a && aaj b)=false:=h2;rw[q.1.1.1.1.1,q.1.1.1.1.2]at h2;cases h2
 ·have h2:(aaj c && aaj d)=false:=h2;rw[q.1.1.1.2,q.1.1.2]at h2;cases h2
 ·have h2:(aaj e && aaj f)=false:=h2;rw[q.1.2,q.2]at h2;cases h2
theorem a28 (s:ByteArray) (w:World) (t1 t2 t3 t4 t5:TypeId) :
 ad2 w [] (((((w.alloc (.cells #[.int .i64 0,.int .i64 0,.int .i64 0] t1)).alloc (.cells #[.bool false] t2)).alloc (.cells #[.int .i64 0,.int .i64 0,.int .i64 0] t3)).alloc (.cells #[.int .i64 0] t4)).alloc (.cells #[.string s] t5)) where
 o:=λj hj=>by
  rw[n7 _ _ _ (by simp<;>omega),n7 _ _ _ (by simp<;>omega),b8 _ _ _ _ sm];rcases(by omega:j=0\/j=1\/j=2)with rfl|rfl|rfl<;>rfl
 cnt:=by
  rw[n7 _ _ _ (by simp<;>omega),b8 _ _ _ _ sm];rfl
 r0:=λj hj=>by
  rw[n7 _ _ _ (by simp<;>omega),n7 _ _ _ (by simp<;>omega),n7 _ _ _ (by simp<;>omega),n7 _ _ _ (by simp<;>omega),b8 _ _ _ _ sm];rcases(by omega:j=0\/j=1\/j=2)with rfl|rfl|rfl<;>rfl
 r1:=by
  rw[n7 _ _ _ (by simp<;>omega),n7 _ _ _ (by simp<;>omega),n7 _ _ _ (by simp<;>omega),b8 _ _ _ _ sm];rfl
 fr:=λb h1 h2 o=>by
  simp only[l6];exact qk _ _ _ h1
 bel:=qb (qb (qb (qb (qa _ _) (qa _ _)) (qa _ _)) (qa _ _)) (qa _ _)
 ok:=λx hx=>by cases hx
theorem avu (s:ByteArray) (w:World) (hs:s.size<=1100000) (h:s.size≠6):Calls prog 209 #[.string s] w (al6 s.data.toList w):=by
 have HL:Q_ (ab2 s.data.toList=none):=a74 (by simpa using h);have hne:((s.size:Int) != 6)=true:=by rw[b0r];omega
 refine jw func209 rfl ?_;simp only[ntmps209,o6,n6,b0z,Nat.reduceAdd,Nat.reduceSub,b1n,b1o,b12,b1s,b0y,b0u];go_wp2_with fail;refine⟨.tuple #[.agg #[.int .i64 0,.int .i64 0,.int .i64 0],.bool false],by simp[results,results209,go_sem],?_⟩;exact⟨0,0,0,false,rfl,HL.o,qb (qb (qa _ _) (qa _ _)) (qa _ _)⟩
theorem a40 (s:ByteArray) (w:World) (h:s.size=6):Calls prog 209 #[.string s] w (al6 s.data.toList w):=by
 have hne:((s.size:Int) != 6)=false:=by rw[b0b,h];rfl
 have HS6:=q_ h;clear h;refine jw func209 rfl ?_;simp only[ntmps209,o6,n6,b0z,Nat.reduceAdd,Nat.reduceSub,b1n,b1o,b12,b1s,b0y,b0u];go_wp2_with fail;refine(ajz _ _).mono ?_;rintro r x5 ⟨rfl,rfl⟩;go_wp2_with fail;have hbx:w.1.size+1+1+1+1<(((((w.alloc (.cells #[.int .i64 0,.int .i64 0,.int .i64 0] 343)).alloc (.cells #[.bool false] 4)).alloc (.cells #[.int .i64 0,.int .i64 0,.int .i64 0] 343)).alloc (.cells #[.int .i64 0] 3)).alloc (.cells #[.string s] 9)).1.size:=by simp
 have hI0:ad2 w [] (((((w.alloc (.cells #[.int .i64 0,.int .i64 0,.int .i64 0] 343)).alloc (.cells #[.bool false] 4)).alloc (.cells #[.int .i64 0,.int .i64 0,.int .i64 0] 343)).alloc (.cells #[.int .i64 0] 3)).alloc (.cells #[.string s] 9)):=a28 s w _ _ _ _ _;have hbs:(((((w.alloc (.cells #[.int .i64 0,.int .i64 0,.int .i64 0] 343)).alloc (.cells #[.bool false] 4)).alloc (.cells #[.int .i64 0,.int .i64 0,.int .i64 0] 343)).alloc (.cells #[.int .i64 0] 3)).alloc (.cells #[.string s] 9)).cell? ⟨w.1.size+1+1+1+1,0,none⟩=some (.string s):=b8 _ _ _ _ sm
 have hbf:(((((w.alloc (.cells #[.int .i64 0,.int .i64 0,.int .i64 0] 343)).alloc (.cells #[.bool false] 4)).alloc (.cells #[.int .i64 0,.int .i64 0,.int .i64 0] 343)).alloc (.cells #[.int .i64 0] 3)).alloc (.cells #[.string s] 9)).frozen? ⟨w.1.size+1+1+1+1,0,none⟩=false:=by
  simp only[l6];exact qk _ _ _ om
 have hz5:(((((w.alloc (.cells #[.int .i64 0,.int .i64 0,.int .i64 0] 343)).alloc (.cells #[.bool false] 4)).alloc (.cells #[.int .i64 0,.int .i64 0,.int .i64 0] 343)).alloc (.cells #[.int .i64 0] 3)).alloc (.cells #[.string s] 9)).1.size=w.1.size+5:=by simp
 generalize hW5:((((w.alloc (.cells #[.int .i64 0,.int .i64 0,.int .i64 0] 343)).alloc (.cells #[.bool false] 4)).alloc (.cells #[.int .i64 0,.int .i64 0,.int .i64 0] 343)).alloc (.cells #[.int .i64 0] 3)).alloc (.cells #[.string s] 9)=W5 at *;clear hW5;refine(b46 (n:=8)).1 ?_
 refine afe om (gf:=234) (lb:=#[.pointer (some ⟨w.1.size+1+1+1+1,0,none⟩)]) rfl (enters_of func234 kr rfl) hbx
  (ahu 7 (w.1.size+1+1+1+1) om s (by rw[HS6.o];omega) W5 hbs hbf hbx) (λ_=>rfl)
  (λpre W=>ad2 w pre W) (λ_ pre W=>ave w pre W) ?own ?ownx ?box hI0
  (λT x=>(((T.setIfInBounds 14 (.int .i64 x.1)).setIfInBounds 15 (.bool x.2)).setIfInBounds 6 (.int .i64 x.1)).setIfInBounds 7 (.bool x.2)) ?assign ?body ?done ?stop
 case own=>
  intro pre W W' row h hg hr;refine h.same (λb h1 h2=>?_) (h.bel.grown hg h.bel.size (λk e=>by have:=(hr k e).1;omega));obtain⟨o,ho,hc⟩:=h.blocks b h1 h2;exact ak2 (w:=w) hg (λr e=>(hr r e).2) ho hc
 case ownx=>
  intro c pre W W' row h hg hr;refine h.same (λb h1 h2=>hg.block b ?_ (λe=>by have:=(hr b e.symm).1;omega)) (h.bel.grown hg h.bel.size (λk e=>by have:=(hr k e).1;omega)) hg.size;have:=h.sz;omega
 case box=>
  intro pre W W' h hg;refine h.same (λb h1 h2=>hg.block b ?_ (λe=>by cases e;omega)) (h.bel.grown hg h.bel.size (λk e=>by cases e;omega));obtain⟨o,ho,-⟩:=h.blocks b h1 h2;exact(o8.1 ho).1
 case assign=>
  rintro l ⟨xn,xb⟩ W K hK
  gi_wp2
  exact hK
 case body=>
  rintro l pre ⟨xn,xb⟩ W hI ⟨rest,hrest⟩
  have hl:pre.length<3:=by
   have h1:=a6f (l:=s.data.toList) (by simpa using HS6.o);rw[<- hrest,e9,n6]at h1;omega
  simp only[b1c,b15,b18];have HI:=q_ hI;have o0:=hI.o 0 om;have o1:=hI.o 1 om;have o2:=hI.o 2 om;have r0:=hI.r0 0 om;have r1:=hI.r0 1 om;have r2:=hI.r0 2 om;have r3:=hI.r1;have cn:=hI.cnt;have f0:=λo=>hI.fr w.1.size om om o
  have f1:=hI.fr (w.1.size+1) om om 0;have f2:=λo=>hI.fr (w.1.size+2) om om o
  have f3:=hI.fr (w.1.size+3) om om 0;have hnw:=hI.o pre.length hl;generalize (pre.map Prod.fst).getD 0 0=v0 at *;generalize (pre.map Prod.fst).getD 1 0=v1 at *;generalize (pre.map Prod.fst).getD 2 0=v2 at *;generalize (pre.map Prod.fst).getD pre.length 0=v3 at *;have HR:=q_ hrest;have i1:(0:Int) <=(pre.length:Int):=by omega
  have i2:(pre.length:Int)<3:=by omega
  clear hI hI0 hbs hbf hrest;cases xb with
  | false=>
   gi_wp2
   obtain⟨c0,c1,c2⟩:=bon (a:=.int .i64 v0) (b:=.int .i64 v1) (c:=.int .i64 v2) r0 r1 r2;refine⟨bfk.from _,⟨λj hj=>?_,a2r om r3,?_,?_,⟨_,List.mem_append_right _ (List.mem_singleton_self _),rfl⟩⟩⟩
   ·rcases(by omega:j=0\/j=1\/j=2)with rfl|rfl|rfl
    ·exact⟨v0,(air om).trans c0⟩
    ·exact⟨v1,(air om).trans c1⟩
    ·exact⟨v2,(air om).trans c2⟩
   ·exact(((HI.o.bel.setCell (a8 _) _).setCell (a8 _) _).setCell (a8 _) _).setCell (b2r _) _
   ·obtain⟨o,ho,-⟩:=HI.o.blocks (w.1.size+3) om om;have:=(o8.1 ho).1;simp;omega
  | true=>
   gi_wp2
   refine⟨((KeepsOthers.setCell _ _ _).trans (KeepsOthers.setCell _ _ _)).from _,?_,HI.o.snoc hl xn⟩;obtain⟨o,ho,-⟩:=HI.o.blocks (w.1.size+3) om om;have hz3:=(o8.1 ho).1;rw[b14 _ _ _ _ sm,b14 _ _ _ _ (by simp<;>omega)]
 case done=>
  rintro D xs W hD rfl hI hK;obtain⟨p,q,r,hpq,hth⟩:=bdj (l:=s.data.toList) (by simpa using HS6.o) hI.ok;rw[hpq]at hI;have o0:=hI.o 0 om;have o1:=hI.o 1 om;have o2:=hI.o 2 om;simp only[b2y,b5c,List.getD_cons_zero,List.getD_cons_succ]at o0 o1 o2;have r0:=hI.r0 0 om;have r1:=hI.r0 1 om;have r2:=hI.r0 2 om;have r3:=hI.r1;have f0:=λo=>hI.fr w.1.size om om o
  have f1:=hI.fr (w.1.size+1) om om 0;have HB:=q_ hI.bel;have HT:=q_ hth;have HK:=q_ hK;have hzW:W5.1.size<=W.1.size:=by have:=(o8.1 hK).1;omega
  clear hI hI0 hbs hbf hpq hth hK;go_wp2_with fail;obtain⟨c0,c1,c2⟩:=bon (a:=.int .i64 p.1) (b:=.int .i64 q.1) (c:=.int .i64 r.1) r0 r1 r2;have c3:=a2r (a:=.int .i64 p.1) (b:=.int .i64 q.1) (c:=.int .i64 r.1) (d:=.bool true) (by omega:w.1.size+1≠w.1.size) r3;rw[<- air (h:=w.1.size+1) (d:=.bool true) om]at c0 c1 c2;have hk2:=(bfk (W:=W) (p:=⟨w.1.size,0,none⟩) (q:=⟨w.1.size,1,none⟩) (r:=⟨w.1.size,2,none⟩) (s:=⟨w.1.size+1,0,none⟩) (a:=.int .i64 p.1) (b:=.int .i64 q.1) (c:=.int .i64 r.1) (d:=.bool true)).same D _ HK.o rfl
  have hb4:Below w.1.size w ((((W.setCell ⟨w.1.size,0,none⟩ (.int .i64 p.1)).setCell ⟨w.1.size,1,none⟩ (.int .i64 q.1)).setCell ⟨w.1.size,2,none⟩ (.int .i64 r.1)).setCell ⟨w.1.size+1,0,none⟩ (.bool true)):=
   (((HB.o.setCell (a8 _) _).setCell (a8 _) _).setCell (a8 _) _).setCell (b2r _) _
  generalize (((W.setCell ⟨w.1.size,0,none⟩ (.int .i64 p.1)).setCell ⟨w.1.size,1,none⟩ (.int .i64 q.1)).setCell ⟨w.1.size,2,none⟩ (.int .i64 r.1)).setCell ⟨w.1.size+1,0,none⟩ (.bool true)=W8 at *;refine⟨by simp,.inl ⟨_,_,rfl,run_takeDeferred hk2,?_⟩⟩;have hg:=grownBy_putObj' W8 D (.deferred none);have hr:∀r,some D=some r->∃o:Obj,W8.heap[r]?=some o/\o.isCells=false:=λr e=>by cases e;exact⟨_,hk2,rfl⟩
  have d0:=cell_kept c0 hg hr;have d1:=cell_kept c1 hg hr;have d2:=cell_kept c2 hg hr;have d3:=cell_kept c3 hg hr;refine⟨.tuple #[.agg #[.int .i64 p.1,.int .i64 q.1,.int .i64 r.1],.bool true],by simp[results,results209,go_sem,d0,d1,d2,d3],?_⟩;exact⟨p.1,q.1,r.1,true,rfl,HT.o,hb4.grown hg hb4.size (λk e=>by cases e;omega)⟩
 case stop=>
  rintro D pre W hD ⟨rest,hrest⟩ hX hK
  have hbad:ab2 s.data.toList=none:=by
   obtain⟨x,hx,hx2⟩:=hX.bad;exact bdk (by simpa using HS6.o) ⟨x,by rw[<- hrest];exact List.mem_append_left _ hx,hx2⟩
  obtain⟨a,ha⟩:=hX.r0 0 om;obtain⟨b,hb⟩:=hX.r0 1 om;obtain⟨c,hc⟩:=hX.r0 2 om;have hd:=hX.r1;have HB:=q_ hX.bel;have HT:=q_ hbad;have HK:=q_ hK;clear hX hI0 hbs hbf hrest hbad hK
  gi_wp2
  refine⟨by simp,.inl ⟨_,_,rfl,run_takeDeferred HK.o,?_⟩⟩;have hg:=grownBy_putObj' W D (.deferred none);have hr:∀r,some D=some r->∃o:Obj,W.heap[r]?=some o/\o.isCells=false:=λr e=>by cases e;exact⟨_,HK.o,rfl⟩
  have d0:=cell_kept ha hg hr;have d1:=cell_kept hb hg hr;have d2:=cell_kept hc hg hr;have d3:=cell_kept hd hg hr;refine⟨.tuple #[.agg #[.int .i64 a,.int .i64 b,.int .i64 c],.bool false],by simp[results,results209,go_sem,d0,d1,d2,d3],?_⟩;exact⟨a,b,c,false,rfl,HT.o,HB.o.grown hg HB.o.size (λk e=>by cases e;omega)⟩
theorem aj2 (s:ByteArray) (w:World) (hs:s.size<=1100000):Calls prog 209 #[.string s] w (al6 s.data.toList w):=by
 by_cases h:s.size=6
 ·exact a40 s w h
 ·exact avu s w hs h
open Go.RowKit Go.Shelf
attribute [local go_sem] Oper.semAt_some
def akl (l:List UInt8) (w:World) (e:Ending) (w':World):Prop:=
 ∃(n:Int) (k:Bool),e=.returned (.tuple #[.int .i64 n,.bool k])/\aev l=(if k=true then some n else none)/\Below w.1.size w w'
theorem a4k {s:ByteArray} (h0:0<s.size) (h:s[0]≠46\/s.size<2\/3<s.size):aev s.data.toList=none:=by
 obtain⟨⟨l⟩⟩:=s
 match l,h0,h with
 | [a],_,_=>rfl
 | [q,a],_,h=>
  have hq:q≠46:=by
   rcases h with h|h|h
   ·exact h
   ·exact absurd h (by show ¬(2<2);omega)
   ·exact absurd h (by show ¬(3<2);omega)
  show (if _ then _ else _)=_;rw[if_neg (λx=>hq x.1)]
 | [q,a,b],_,h=>
  have hq:q≠46:=by
   rcases h with h|h|h
   ·exact h
   ·exact absurd h (by show ¬(3<2);omega)
   ·exact absurd h (by show ¬(3<3);omega)
  show (if _ then _ else _)=_;rw[if_neg (λx=>hq x.1)]
 | _::_::_::_::_,_,_=>rfl
theorem a99 (a b:UInt8):aev [46,a,b]=if(vo a b).2=true then some (vo a b).1 else none:=by
 show (if _ then _ else _)=_
 by_cases h:(vo a b).2=true
 ·rw[if_pos h,afq h];have h:(aaj a && aaj b)=true:=h;rw[b0g]at h;rw[if_pos ⟨rfl,h.1,h.2⟩]
 ·rw[if_neg h,if_neg];rintro⟨-,h1,h2⟩;exact h (by show (aaj a && aaj b)=true;rw[h1,h2];rfl)
theorem a98 (a:UInt8):aev [46,a]=if(vo a 48).2=true then some (vo a 48).1 else none:=by
 show (if _ then _ else _)=_
 by_cases h:(vo a 48).2=true
 ·rw[if_pos h,afq h];have h:(aaj a && aaj 48)=true:=h;rw[b0g]at h;rw[if_pos ⟨rfl,h.1⟩]
  congr 1
  unfold aso;have:((48:UInt8).toNat:Int)=48:=rfl;omega
 ·rw[if_neg h,if_neg];rintro⟨-,h1⟩;exact h (by show (aaj a && aaj 48)=true;rw[h1];rfl)
theorem bes (w:World):Calls prog 210 #[.string ⟨#[]⟩] w (akl [] w):=by
 refine jw func210 rfl ?_;simp only[ntmps210,o6,n6,b0z,Nat.reduceAdd,Nat.reduceSub,b1n,b1o,b12,b1s,b0y,b0u];go_wp2_with fail;refine⟨.tuple #[.int .i64 0,.bool true],by simp[results,results210,go_sem],?_⟩;exact⟨0,true,rfl,rfl,by first|exact qb (qa _ _) (qa _ _)|exact((qb (qa _ _) (qa _ _)).setCell sm _)|exact((qb (qa _ _) (qa _ _)).setCell sm _).setCell sm _⟩
theorem bij (s:ByteArray) (w:World) (hs:s.size<=1100000) (h0:0<s.size) (h:s[0]≠46\/s.size<2\/3<s.size):Calls prog 210 #[.string s] w (akl s.data.toList w):=by
 have HL:=q_ (a4k h0 h);obtain⟨f1,f2⟩:=za h0
 have hk:((s[0].toNat:Int) != 46)=true \/((s[0].toNat:Int) != 46)=false /\(s.size:Int)<2 \/((s[0].toNat:Int) != 46)=false/\2 <=(s.size:Int)/\3<(s.size:Int):=by
  by_cases q:s[0]=46
  ·have q2:((s[0].toNat:Int) != 46)=false:=by rw[q];rfl
   rcases h with h|h|h
   ·exact absurd q h
   ·exact .inr (.inl ⟨q2,by omega⟩)
   ·exact .inr (.inr ⟨q2,by omega,by omega⟩)
  ·refine .inl ?_;rw[b0r];intro k;refine q (b1y.1 ?_);have:((46:UInt8).toNat:Int)=46:=rfl;omega
 clear h;rcases hk with k1|⟨k1,k2⟩|⟨k1,k2,k3⟩
 all_goals
  refine jw func210 rfl ?_;simp only[ntmps210,o6,n6,b0z,Nat.reduceAdd,Nat.reduceSub,b1n,b1o,b12,b1s,b0y,b0u];go_wp2_with fail;refine⟨.tuple #[.int .i64 0,.bool false],by simp[results,results210,go_sem],?_⟩;exact⟨0,false,rfl,HL.o,by first|exact qb (qa _ _) (qa _ _)|exact((qb (qa _ _) (qa _ _)).setCell sm _)|exact((qb (qa _ _) (qa _ _)).setCell sm _).setCell sm _⟩
structure ayq (w:World) (W:World):Prop where
 r0:∃a,W.cell? ⟨w.1.size,0,none⟩=some (.int .i64 a)
 r1:∃a,W.cell? ⟨w.1.size+1,0,none⟩=some (.bool a)
 f0:W.frozen? ⟨w.1.size,0,none⟩=false
 f1:W.frozen? ⟨w.1.size+1,0,none⟩=false
 bel:Below w.1.size w W
structure bd4 (w:World) (x:Int×Bool) (W:World):Prop where
 r0:W.cell? ⟨w.1.size,0,none⟩=some (.int .i64 x.1)
 r1:W.cell? ⟨w.1.size+1,0,none⟩=some (.bool x.2)
 bel:Below w.1.size w W
theorem ayq.same {w W W':World} (h:ayq w W) (h0:W'.heap[w.1.size]?=W.heap[w.1.size]?) (h1:W'.heap[w.1.size+1]?=W.heap[w.1.size+1]?) (hw:Below w.1.size w W'):ayq w W' where
 r0:=by obtain⟨a,ha⟩:=h.r0;exact⟨a,(t7 (a:=⟨_,0,none⟩) h0).trans ha⟩
 r1:=by obtain⟨a,ha⟩:=h.r1;exact⟨a,(t7 (a:=⟨_,0,none⟩) h1).trans ha⟩
 f0:=(b1t (a:=⟨_,0,none⟩) h0).trans h.f0
 f1:=(b1t (a:=⟨_,0,none⟩) h1).trans h.f1
 bel:=hw
theorem bd4.same {w W W':World} {x:Int×Bool} (h:bd4 w x W) (h0:W'.heap[w.1.size]?=W.heap[w.1.size]?) (h1:W'.heap[w.1.size+1]?=W.heap[w.1.size+1]?) (hw:Below w.1.size w W'):bd4 w x W' where
 r0:=(t7 (a:=⟨_,0,none⟩) h0).trans h.r0
 r1:=(t7 (a:=⟨_,0,none⟩) h1).trans h.r1
 bel:=hw
theorem atj (w:World) (t1 t2 t3:TypeId) (s:ByteArray):ayq w (((w.alloc (.cells #[.int .i64 0] t1)).alloc (.cells #[.bool false] t2)).alloc (.cells #[.string s] t3)) where
 r0:=⟨0,by rw[n7 _ _ _ (by simp<;>omega),n7 _ _ _ (by simp<;>omega),b8 _ _ _ _ rfl];rfl⟩
 r1:=⟨false,by rw[n7 _ _ _ (by simp<;>omega),b8 _ _ _ _ sm];rfl⟩
 f0:=by simp only[l6];exact qk _ _ _ (a8 _)
 f1:=by simp only[l6];exact qk _ _ _ (b2r _)
 bel:=qb (qb (qa _ _) (qa _ _)) (qa _ _)
theorem bny (a:UInt8) (w:World):Calls prog 210 #[.string ⟨#[46,a]⟩] w (akl [46,a] w):=by
 have hz:(⟨#[46,a]⟩:ByteArray).size=2:=rfl;have h0:((⟨#[46,a]⟩:ByteArray)[0]'(b4y _))=46:=rfl;have hn:((⟨#[46,a]⟩:ByteArray).toList==[])=false:=by rw[b07];rfl
 have hn2:(⟨#[46,a]⟩:ByteArray).toList.isEmpty=false:=by rw[b07];rfl
 have hap:(⟨#[46,a]⟩:ByteArray) ++⟨#[48]⟩=⟨#[46,a,48]⟩:=rfl;have hz3:(⟨#[46,a,48]⟩:ByteArray).size=3:=rfl;have hx:(⟨#[46,a,48]⟩:ByteArray).extract 1 3=⟨#[a,48]⟩:=rfl;have HL:=q_ (a98 a);refine jw func210 rfl ?_;simp only[ntmps210,o6,n6,b0z,Nat.reduceAdd,Nat.reduceSub,b1n,b1o,b12,b1s,b0y,b0u];go_wp2_with fail;refine(ajz _ _).mono ?_;rintro r x5 ⟨rfl,rfl⟩;go_wp2_with fail;clear h0 hn hn2 hap hx hz hz3;have hbx:w.1.size+1+1<(((w.alloc (.cells #[.int .i64 0] 2)).alloc (.cells #[.bool false] 4)).alloc (.cells #[.string ⟨#[a,48]⟩] 9)).1.size:=by simp
 have hI0:ayq w (((w.alloc (.cells #[.int .i64 0] 2)).alloc (.cells #[.bool false] 4)).alloc (.cells #[.string ⟨#[a,48]⟩] 9)):=atj _ _ _ _ _;have hbs:(((w.alloc (.cells #[.int .i64 0] 2)).alloc (.cells #[.bool false] 4)).alloc (.cells #[.string ⟨#[a,48]⟩] 9)).cell? ⟨w.1.size+1+1,0,none⟩=some (.string ⟨#[a,48]⟩):=b8 _ _ _ _ sm
 have hbf:(((w.alloc (.cells #[.int .i64 0] 2)).alloc (.cells #[.bool false] 4)).alloc (.cells #[.string ⟨#[a,48]⟩] 9)).frozen? ⟨w.1.size+1+1,0,none⟩=false:=by
  simp only[l6];exact qk _ _ _ om
 have hz5:(((w.alloc (.cells #[.int .i64 0] 2)).alloc (.cells #[.bool false] 4)).alloc (.cells #[.string ⟨#[a,48]⟩] 9)).1.size=w.1.size+3:=by simp
 generalize hW5:((w.alloc (.cells #[.int .i64 0] 2)).alloc (.cells #[.bool false] 4)).alloc (.cells #[.string ⟨#[a,48]⟩] 9)=W5 at *;clear hW5;refine(b46 (n:=8)).1 ?_
 refine afe om (gf:=234) (lb:=#[.pointer (some ⟨w.1.size+1+1,0,none⟩)]) rfl (enters_of func234 kr rfl) hbx
  (ahu 7 (w.1.size+1+1) om ⟨#[a,48]⟩ (by show 2<=1100000;omega) W5 hbs hbf hbx) (λ_=>rfl)
  (λpre W=>pre=[]/\ayq w W) (λ_ pre W=>∃x,pre=[x]/\bd4 w x W) ?own ?ownx ?box ⟨rfl,hI0⟩
  (λT x=>(((T.setIfInBounds 32 (.int .i64 x.1)).setIfInBounds 33 (.bool x.2)).setIfInBounds 4 (.int .i64 x.1)).setIfInBounds 5 (.bool x.2)) ?assign ?body ?done ?stop
 case own=>
  rintro pre W W' row ⟨hp,h⟩ hg hr;obtain⟨_,a0⟩:=h.r0;obtain⟨_,a1⟩:=h.r1;obtain⟨o0,q0,c0⟩:=cells_of_cell a0;obtain⟨o1,q1,c1⟩:=cells_of_cell a1;exact⟨hp,h.same (ak2 (w:=w) hg (λr e=>(hr r e).2) q0 c0) (ak2 (w:=w) hg (λr e=>(hr r e).2) q1 c1) (h.bel.grown hg h.bel.size (λk e=>by have:=(hr k e).1;omega))⟩
 case ownx=>
  rintro c pre W W' row ⟨x,hp,h⟩ hg hr;obtain⟨o0,q0,c0⟩:=cells_of_cell h.r0;obtain⟨o1,q1,c1⟩:=cells_of_cell h.r1;exact⟨x,hp,h.same (ak2 (w:=w) hg (λr e=>(hr r e).2) q0 c0) (ak2 (w:=w) hg (λr e=>(hr r e).2) q1 c1) (h.bel.grown hg h.bel.size (λk e=>by have:=(hr k e).1;omega))⟩
 case box=>
  rintro pre W W' ⟨hp,h⟩ hg;obtain⟨_,a0⟩:=h.r0;obtain⟨_,a1⟩:=h.r1;obtain⟨o0,q0,c0⟩:=cells_of_cell a0;obtain⟨o1,q1,c1⟩:=cells_of_cell a1;exact⟨hp,h.same (hg.block _ (o8.1 q0).1 (λe=>by injection e with e;omega)) (hg.block _ (o8.1 q1).1 (λe=>by injection e with e;omega)) (h.bel.grown hg h.bel.size (λk e=>by cases e;omega))⟩
 case assign=>
  rintro l ⟨xn,xb⟩ W K hK
  gi_wp2
  exact hK
 case body=>
  rintro l pre ⟨xn,xb⟩ W ⟨rfl,hI⟩ -;simp only[b1c,b15,b18];obtain⟨a0,r0⟩:=hI.r0;obtain⟨a1,r1⟩:=hI.r1;have f0:=hI.f0;have f1:=hI.f1;have HI:=q_ hI;clear hI hI0 hbs hbf
  gi_wp2
  refine⟨((KeepsOthers.setCell _ _ _).trans (KeepsOthers.setCell _ _ _)).from _,(xn,xb),rfl,?_,?_,(HI.o.bel.setCell (a8 _) _).setCell (b2r _) _⟩
  ·rw[a9 _ _ _ _ (λe=>by injection e with e _;omega),b0f _ _ _ (by rw[r0];rfl)]
  ·rw[b0f _ _ _ (by rw[a9 _ _ _ _ (λe=>by injection e with e _;omega),r1];rfl)]
 case done=>
  rintro D xs W hD rfl ⟨hq,-⟩ hK;exact absurd hq (by simp[vg])
 case stop=>
  rintro D pre W hD ⟨rest,hrest⟩ ⟨x,rfl,hX⟩ hK
  have hx:x=vo a 48:=by
   have:[x]++rest=[vo a 48]:=hrest;injection this
  subst hx;have ha:=hX.r0;have hb:=hX.r1;have HB:=q_ hX.bel;have HK:=q_ hK;clear hX hI0 hbs hbf hrest hK;generalize (vo a 48).1=xn at *;generalize (vo a 48).2=xb at *
  gi_wp2
  refine⟨by simp,.inl ⟨_,_,rfl,run_takeDeferred HK.o,?_⟩⟩;have hg:=grownBy_putObj' W D (.deferred none);have hr:∀r,some D=some r->∃o:Obj,W.heap[r]?=some o/\o.isCells=false:=λr e=>by cases e;exact⟨_,HK.o,rfl⟩
  have d0:=cell_kept ha hg hr;have d1:=cell_kept hb hg hr;refine⟨.tuple #[.int .i64 xn,.bool xb],by simp[results,results210,go_sem,d0,d1],?_⟩;exact⟨xn,xb,rfl,HL.o,HB.o.grown hg HB.o.size (λk e=>by cases e;omega)⟩
theorem bnz (a b:UInt8) (w:World):Calls prog 210 #[.string ⟨#[46,a,b]⟩] w (akl [46,a,b] w):=by
 have hz:(⟨#[46,a,b]⟩:ByteArray).size=3:=rfl;have h0:((⟨#[46,a,b]⟩:ByteArray)[0]'(b4y _))=46:=rfl;have hn:((⟨#[46,a,b]⟩:ByteArray).toList==[])=false:=by rw[b07];rfl
 have hn2:(⟨#[46,a,b]⟩:ByteArray).toList.isEmpty=false:=by rw[b07];rfl
 have hap:(⟨#[46,a]⟩:ByteArray) ++⟨#[48]⟩=⟨#[46,a,48]⟩:=rfl;have hz3:(⟨#[46,a,b]⟩:ByteArray).size=3:=rfl;have hx:(⟨#[46,a,b]⟩:ByteArray).extract 1 3=⟨#[a,b]⟩:=rfl;have HL:=q_ (a99 a b);refine jw func210 rfl ?_;simp only[ntmps210,o6,n6,b0z,Nat.reduceAdd,Nat.reduceSub,b1n,b1o,b12,b1s,b0y,b0u];go_wp2_with fail;refine(ajz _ _).mono ?_;rintro r x5 ⟨rfl,rfl⟩;go_wp2_with fail;clear h0 hn hn2 hap hx hz hz3;have hbx:w.1.size+1+1<(((w.alloc (.cells #[.int .i64 0] 2)).alloc (.cells #[.bool false] 4)).alloc (.cells #[.string ⟨#[a,b]⟩] 9)).1.size:=by simp
 have hI0:ayq w (((w.alloc (.cells #[.int .i64 0] 2)).alloc (.cells #[.bool false] 4)).alloc (.cells #[.string ⟨#[a,b]⟩] 9)):=atj _ _ _ _ _;have hbs:(((w.alloc (.cells #[.int .i64 0] 2)).alloc (.cells #[.bool false] 4)).alloc (.cells #[.string ⟨#[a,b]⟩] 9)).cell? ⟨w.1.size+1+1,0,none⟩=some (.string ⟨#[a,b]⟩):=b8 _ _ _ _ sm
 have hbf:(((w.alloc (.cells #[.int .i64 0] 2)).alloc (.cells #[.bool false] 4)).alloc (.cells #[.string ⟨#[a,b]⟩] 9)).frozen? ⟨w.1.size+1+1,0,none⟩=false:=by
  simp only[l6];exact qk _ _ _ om
 have hz5:(((w.alloc (.cells #[.int .i64 0] 2)).alloc (.cells #[.bool false] 4)).alloc (.cells #[.string ⟨#[a,b]⟩] 9)).1.size=w.1.size+3:=by simp
 generalize hW5:((w.alloc (.cells #[.int .i64 0] 2)).alloc (.cells #[.bool false] 4)).alloc (.cells #[.string ⟨#[a,b]⟩] 9)=W5 at *;clear hW5;refine(b46 (n:=8)).1 ?_
 refine afe om (gf:=234) (lb:=#[.pointer (some ⟨w.1.size+1+1,0,none⟩)]) rfl (enters_of func234 kr rfl) hbx
  (ahu 7 (w.1.size+1+1) om ⟨#[a,b]⟩ (by show 2<=1100000;omega) W5 hbs hbf hbx) (λ_=>rfl)
  (λpre W=>pre=[]/\ayq w W) (λ_ pre W=>∃x,pre=[x]/\bd4 w x W) ?own ?ownx ?box ⟨rfl,hI0⟩
  (λT x=>(((T.setIfInBounds 32 (.int .i64 x.1)).setIfInBounds 33 (.bool x.2)).setIfInBounds 4 (.int .i64 x.1)).setIfInBounds 5 (.bool x.2)) ?assign ?body ?done ?stop
 case own=>
  rintro pre W W' row ⟨hp,h⟩ hg hr;obtain⟨_,a0⟩:=h.r0;obtain⟨_,a1⟩:=h.r1;obtain⟨o0,q0,c0⟩:=cells_of_cell a0;obtain⟨o1,q1,c1⟩:=cells_of_cell a1;exact⟨hp,h.same (ak2 (w:=w) hg (λr e=>(hr r e).2) q0 c0) (ak2 (w:=w) hg (λr e=>(hr r e).2) q1 c1) (h.bel.grown hg h.bel.size (λk e=>by have:=(hr k e).1;omega))⟩
 case ownx=>
  rintro c pre W W' row ⟨x,hp,h⟩ hg hr;obtain⟨o0,q0,c0⟩:=cells_of_cell h.r0;obtain⟨o1,q1,c1⟩:=cells_of_cell h.r1;exact⟨x,hp,h.same (ak2 (w:=w) hg (λr e=>(hr r e).2) q0 c0) (ak2 (w:=w) hg (λr e=>(hr r e).2) q1 c1) (h.bel.grown hg h.bel.size (λk e=>by have:=(hr k e).1;omega))⟩
 case box=>
  rintro pre W W' ⟨hp,h⟩ hg;obtain⟨_,a0⟩:=h.r0;obtain⟨_,a1⟩:=h.r1;obtain⟨o0,q0,c0⟩:=cells_of_cell a0;obtain⟨o1,q1,c1⟩:=cells_of_cell a1;exact⟨hp,h.same (hg.block _ (o8.1 q0).1 (λe=>by injection e with e;omega)) (hg.block _ (o8.1 q1).1 (λe=>by injection e with e;omega)) (h.bel.grown hg h.bel.size (λk e=>by cases e;omega))⟩
 case assign=>
  rintro l ⟨xn,xb⟩ W K hK
  gi_wp2
  exact hK
 case body=>
  rintro l pre ⟨xn,xb⟩ W ⟨rfl,hI⟩ -;simp only[b1c,b15,b18];obtain⟨a0,r0⟩:=hI.r0;obtain⟨a1,r1⟩:=hI.r1;have f0:=hI.f0;have f1:=hI.f1;have HI:=q_ hI;clear hI hI0 hbs hbf
  gi_wp2
  refine⟨((KeepsOthers.setCell _ _ _).trans (KeepsOthers.setCell _ _ _)).from _,(xn,xb),rfl,?_,?_,(HI.o.bel.setCell (a8 _) _).setCell (b2r _) _⟩
  ·rw[a9 _ _ _ _ (λe=>by injection e with e _;omega),b0f _ _ _ (by rw[r0];rfl)]
  ·rw[b0f _ _ _ (by rw[a9 _ _ _ _ (λe=>by injection e with e _;omega),r1];rfl)]
 case done=>
  rintro D xs W hD rfl ⟨hq,-⟩ hK;exact absurd hq (by simp[vg])
 case stop=>
  rintro D pre W hD ⟨rest,hrest⟩ ⟨x,rfl,hX⟩ hK
  have hx:x=vo a b:=by
   have:[x]++rest=[vo a b]:=hrest;injection this
  subst hx;have ha:=hX.r0;have hb:=hX.r1;have HB:=q_ hX.bel;have HK:=q_ hK;clear hX hI0 hbs hbf hrest hK;generalize (vo a b).1=xn at *;generalize (vo a b).2=xb at *
  gi_wp2
  refine⟨by simp,.inl ⟨_,_,rfl,run_takeDeferred HK.o,?_⟩⟩;have hg:=grownBy_putObj' W D (.deferred none);have hr:∀r,some D=some r->∃o:Obj,W.heap[r]?=some o/\o.isCells=false:=λr e=>by cases e;exact⟨_,HK.o,rfl⟩
  have d0:=cell_kept ha hg hr;have d1:=cell_kept hb hg hr;refine⟨.tuple #[.int .i64 xn,.bool xb],by simp[results,results210,go_sem,d0,d1],?_⟩;exact⟨xn,xb,rfl,HL.o,HB.o.grown hg HB.o.size (λk e=>by cases e;omega)⟩
theorem anc (s:ByteArray) (w:World) (hs:s.size<=1100000):Calls prog 210 #[.string s] w (akl s.data.toList w):=by
 by_cases h0:0<s.size
 ·by_cases h:s[0]≠46\/s.size<2\/3<s.size
  ·exact bij s w hs h0 h
  ·have h1:s[0]=46:=Classical.byContradiction λq=>h (.inl q)
   have h2:2<=s.size:=by omega
   have h3:s.size<=3:=by omega
   clear h hs;obtain⟨⟨l⟩⟩:=s
   match l,h0,h1,h2,h3 with
   | [q,a],_,h1,_,_=>have h1:q=46:=h1;subst h1;exact bny a w
   | [q,a,b],_,h1,_,_=>have h1:q=46:=h1;subst h1;exact bnz a b w
   | [q],_,_,h2,_=>exact absurd h2 (by show ¬(2<=1);omega)
   | a::b::c::d::l,_,_,_,h3=>exact absurd h3 (by show ¬(l.length+4<=3);omega)
 ·obtain⟨⟨l⟩⟩:=s;cases l with
  | nil=>exact bes w
  | cons a l=>exact absurd (b4y _) h0
abbrev aax (b:Bool) (h m s c:Int):Obj:=.cells #[.bool b,.int .i64 h,.int .i64 m,.int .i64 s,.int .i64 c] 40
def aom (x:Clk×Int) (w:World) (e:Ending) (w':World):Prop:=
 e=.returned (.tuple #[ap5 x.1.1 x.1.2.1 x.1.2.2.1 x.1.2.2.2.1 x.1.2.2.2.2,.int .i64 x.2])/\Below w.1.size w w'
theorem bhq (s:ByteArray) (n:Nat):(s.extract 0 n).data.toList=s.data.toList.take n:=by
 simp
theorem be5 (s:ByteArray) (n:Nat):(s.extract n s.size).data.toList=s.data.toList.drop n:=by
 rw[ByteArray.data_extract,Array.toList_extract];rw[List.extract_eq_take_drop];exact b1h sm
theorem a7j {W:World} {g:Nat} {a b c d e:Value} (h:∀o,o<5->∃v,W.cell? ⟨g,o,none⟩=some v) :
 ∀o,o<5 ->(((((W.setCell ⟨g,0,none⟩ a).setCell ⟨g,1,none⟩ b).setCell ⟨g,2,none⟩ c).setCell ⟨g,3,none⟩ d).setCell ⟨g,4,none⟩ e).cell? ⟨g,o,none⟩=(#[a,b,c,d,e]:Array Value)[o]?:=by
 have n:∀(i j:Nat),i≠j ->(⟨g,i,none⟩:Addr) ≠⟨g,j,none⟩:=λi j hn q=>by injection q with _ q;exact hn q
 intro o ho;obtain⟨v,hv⟩:=h o ho;rcases(by omega:o=0\/o=1\/o=2\/o=3\/o=4)with rfl|rfl|rfl|rfl|rfl
 ·rw[a9 _ _ _ _ (n 4 0 om),a9 _ _ _ _ (n 3 0 om),a9 _ _ _ _ (n 2 0 om),a9 _ _ _ _ (n 1 0 om),b0f _ _ _ (by rw[hv];rfl)];rfl
 ·rw[a9 _ _ _ _ (n 4 1 om),a9 _ _ _ _ (n 3 1 om),a9 _ _ _ _ (n 2 1 om),b0f _ _ _ (by rw[a9 _ _ _ _ (n 0 1 om),hv];rfl)];rfl
 ·rw[a9 _ _ _ _ (n 4 2 om),a9 _ _ _ _ (n 3 2 om),b0f _ _ _ (by rw[a9 _ _ _ _ (n 1 2 om),a9 _ _ _ _ (n 0 2 om),hv];rfl)];rfl
 ·rw[a9 _ _ _ _ (n 4 3 om),b0f _ _ _ (by rw[a9 _ _ _ _ (n 2 3 om),a9 _ _ _ _ (n 1 3 om),a9 _ _ _ _ (n 0 3 om),hv];rfl)];rfl
 ·rw[b0f _ _ _ (by rw[a9 _ _ _ _ (n 3 4 om),a9 _ _ _ _ (n 2 4 om),a9 _ _ _ _ (n 1 4 om),a9 _ _ _ _ (n 0 4 om),hv];rfl)];rfl
theorem act {B:Nat} {w0 W:World} {g:Nat} {a b c d e:Value} (h:Below B w0 W) (hg:B<=g):Below B w0 (((((W.setCell ⟨g,0,none⟩ a).setCell ⟨g,1,none⟩ b).setCell ⟨g,2,none⟩ c).setCell ⟨g,3,none⟩ d).setCell ⟨g,4,none⟩ e):=
 ((((h.setCell hg _).setCell hg _).setCell hg _).setCell hg _).setCell hg _
theorem avq (w:World):Calls prog 151 #[.string ⟨#[]⟩] w (aom (zC,0) w):=by
 go_enter func151,ntmps151;go_wp2_with fail;exact b9 (v:=.tuple #[ap5 false 0 0 0 0,.int .i64 0]) (by simp[results,results151,go_sem]) rfl ⟨rfl,qa _ _⟩
theorem azj {l:List UInt8} (hl:l≠[]) {a b c n:Int} {k1 k2:Bool} (h1:ab2 (l.take 6)=if k1=true then some (a,b,c)else none) (h2:aev (l.drop 6)=if k2=true then some n else none) :
 aam l=if k1=true/\k2=true then(if an9 (true,a,b,c,n)=true then((true,a,b,c,n),0)else(zC,5))else(zC,3):=by
 unfold aam;rw[if_neg hl,h1,h2];cases k1<;>cases k2<;>rfl
theorem asg (s:ByteArray) (w:World) (hs:s.size<=1100000) (h0:0<s.size) (i6:(s.size:Int)<=6):Calls prog 151 #[.string s] w (aom (aam s.data.toList) w):=by
 obtain⟨f1,f2⟩:=za h0;have HNE:Q_ (s.data.toList≠[]):=λq=>by have:=ael q;omega
 have HR0:Q_ (∀o,(w.alloc (aax false 0 0 0 0)).cell? ⟨w.1.size,o,none⟩=(#[Value.bool false,.int .i64 0,.int .i64 0,.int .i64 0,.int .i64 0]:Array Value)[o]?):=λo=>b8 _ _ _ _ rfl
 have HF0:Q_ (∀o,(w.alloc (aax false 0 0 0 0)).frozen? ⟨w.1.size,o,none⟩=false):=λo=>by rw[l6];exact qk _ _ _ (a8 _)
 have HB0:=q_ (qa w (aax false 0 0 0 0));have HZ0:Q_ (w.1.size<(w.alloc (aax false 0 0 0 0)).1.size):=by show _<_;simp
 go_enter func151,ntmps151;go_wp2_with fail;refine(aj2 _ _ (by first|exact hs|(rw[b00];omega))).mono ?_;rintro e w1 ⟨a,b,c,k1,rfl,h1,hb1⟩
 have H1:Q_ (ab2 (s.data.toList.take 6)=if k1=true then some (a,b,c)else none):=by
  show _=_;rw[b1h (by simp;omega)];exact h1
 have hbo:=qa w1 (.cells #[.int .i64 a,.int .i64 b,.int .i64 c] 343);have HR1:Q_ (∀o,(w1.alloc (.cells #[.int .i64 a,.int .i64 b,.int .i64 c] 343)).cell? ⟨w.1.size,o,none⟩=(#[Value.bool false,.int .i64 0,.int .i64 0,.int .i64 0,.int .i64 0]:Array Value)[o]?):=λo=>((qy hbo).1 _ o (i9 HZ0.o hb1.size)).trans (((qy hb1).1 _ o HZ0.o).trans (HR0.o o))
 have HF1:Q_ (∀o,(w1.alloc (.cells #[.int .i64 a,.int .i64 b,.int .i64 c] 343)).frozen? ⟨w.1.size,o,none⟩=false):=λo=>((qy hbo).2 _ o (i9 HZ0.o hb1.size)).trans (((qy hb1).2 _ o HZ0.o).trans (HF0.o o))
 have HO1:Q_ (∀o,(w1.alloc (.cells #[.int .i64 a,.int .i64 b,.int .i64 c] 343)).cell? ⟨w1.1.size,o,none⟩=(#[Value.int .i64 a,.int .i64 b,.int .i64 c]:Array Value)[o]?):=λo=>b8 _ _ _ _ rfl
 have HB1:=q_ (qb (qb HB0.o hb1) hbo);have HZ1:Q_ (w.1.size<w1.1.size/\w1.1.size<(w1.alloc (.cells #[.int .i64 a,.int .i64 b,.int .i64 c] 343)).1.size):=⟨i9 HZ0.o hb1.size,by simp⟩;clear h1 hbo hb1 HR0 HF0 HB0 HZ0;go_wp2_with fail;refine(anc _ _ (by first|(rw[b00];omega)|decide)).mono ?_;rintro e w2 ⟨n,k2,rfl,h2,hb2⟩
 have H2:Q_ (aev (s.data.toList.drop 6)=if k2=true then some n else none):=by
  show _=_
  have hl6:s.data.toList.length<=6:=by
   have:s.data.toList.length=s.size:=by simp
   omega
  rw[b19 hl6];exact h2
 have HW:=q_ (azj HNE.o H1.o H2.o);have HR2:Q_ (∀o,w2.cell? ⟨w.1.size,o,none⟩=(#[Value.bool false,.int .i64 0,.int .i64 0,.int .i64 0,.int .i64 0]:Array Value)[o]?):=λo=>((qy hb2).1 _ o (b1b HZ1.o.1 HZ1.o.2)).trans (HR1.o o)
 have HF2:Q_ (∀o,w2.frozen? ⟨w.1.size,o,none⟩=false):=λo=>((qy hb2).2 _ o (b1b HZ1.o.1 HZ1.o.2)).trans (HF1.o o)
 have HO2:Q_ (∀o,w2.cell? ⟨w1.1.size,o,none⟩=(#[Value.int .i64 a,.int .i64 b,.int .i64 c]:Array Value)[o]?):=λo=>((qy hb2).1 _ o HZ1.o.2).trans (HO1.o o)
 have HB2:=q_ (qb HB1.o hb2);have HZ2:Q_ (w.1.size<w2.1.size):=i9 (b1b HZ1.o.1 HZ1.o.2) hb2.size;clear h2 hb2 HR1 HF1 HB1 HO1 H1 H2 HNE HZ1;have kk:(k1=false\/k1=true/\k2=false)\/k1=true/\k2=true:=by cases k1<;>cases k2<;>simp
 rcases kk with kk|⟨rfl,rfl⟩
 ·have HX:Q_ (aam s.data.toList=(zC,3)):=by
   have:=HW.o;rw[if_neg (by rcases kk with rfl|⟨rfl,rfl⟩<;>simp)]at this;exact this
  have r0:=HR2.o 0;have r1:=HR2.o 1;have r2:=HR2.o 2;have r3:=HR2.o 3;have r4:=HR2.o 4;have fz:=HF2.o;clear HW HO2;rcases kk with rfl|⟨rfl,rfl⟩
  all_goals
   go_wp2_with fail;have hd:=a7j (W:=w2) (g:=w.1.size) (a:=.bool false) (b:=.int .i64 0) (c:=.int .i64 0) (d:=.int .i64 0) (e:=.int .i64 0) (λo ho=>by rw[HR2.o o];rcases(by omega:o=0\/o=1\/o=2\/o=3\/o=4)with rfl|rfl|rfl|rfl|rfl<;>exact⟨_,rfl⟩);have d0:=hd 0 om;have d1:=hd 1 om;have d2:=hd 2 om;have d3:=hd 3 om;have d4:=hd 4 om;have hbl:=act (a:=.bool false) (b:=.int .i64 0) (c:=.int .i64 0) (d:=.int .i64 0) (e:=.int .i64 0) HB2.o (a8 _);generalize ((((w2.setCell ⟨w.1.size,0,none⟩ (.bool false)).setCell ⟨w.1.size,1,none⟩ (.int .i64 0)).setCell ⟨w.1.size,2,none⟩ (.int .i64 0)).setCell ⟨w.1.size,3,none⟩ (.int .i64 0)).setCell ⟨w.1.size,4,none⟩ (.int .i64 0)=w9 at *;simp at d0 d1 d2 d3 d4;exact b9 (v:=.tuple #[ap5 false 0 0 0 0,.int .i64 3]) (by simp[results,results151,go_sem,d0,d1,d2,d3,d4]) rfl ⟨by rw[HX.o];rfl,hbl⟩
 ·have HM:=λW=>q_ (azk true a b c n W)
  obtain⟨Y,hY⟩:∃Y,an9 (true,a,b,c,n)=Y:=⟨_,rfl⟩;rw[hY]at HM HW;have o0:=HO2.o 0;have o1:=HO2.o 1;have o2:=HO2.o 2;have hbc:=qa w2 (aax true a b c n);have HB3:=q_ (qb HB2.o hbc);have HR3:Q_ (∀o,(w2.alloc (aax true a b c n)).cell? ⟨w.1.size,o,none⟩=(#[Value.bool false,.int .i64 0,.int .i64 0,.int .i64 0,.int .i64 0]:Array Value)[o]?):=λo=>((qy hbc).1 _ o HZ2.o).trans (HR2.o o)
  have HF3:Q_ (∀o,(w2.alloc (aax true a b c n)).frozen? ⟨w.1.size,o,none⟩=false):=λo=>((qy hbc).2 _ o HZ2.o).trans (HF2.o o)
  have HC3:Q_ (∀o,(w2.alloc (aax true a b c n)).cell? ⟨w2.1.size,o,none⟩=(#[Value.bool true,.int .i64 a,.int .i64 b,.int .i64 c,.int .i64 n]:Array Value)[o]?):=λo=>b8 _ _ _ _ rfl
  have HZ3:Q_ (w.1.size<(w2.alloc (aax true a b c n)).1.size/\w2.1.size<(w2.alloc (aax true a b c n)).1.size):=⟨i9 HZ2.o hbc.size,by simp⟩;clear hbc hY HO2;go_wp2_with fail;refine(HM _).o.mono ?_;rintro e w4 ⟨rfl,hb4⟩;have HR4:Q_ (∀o,w4.cell? ⟨w.1.size,o,none⟩=(#[Value.bool false,.int .i64 0,.int .i64 0,.int .i64 0,.int .i64 0]:Array Value)[o]?):=λo=>((qy hb4).1 _ o HZ3.o.1).trans (HR3.o o)
  have HF4:Q_ (∀o,w4.frozen? ⟨w.1.size,o,none⟩=false):=λo=>((qy hb4).2 _ o HZ3.o.1).trans (HF3.o o)
  have HC4:Q_ (∀o,w4.cell? ⟨w2.1.size,o,none⟩=(#[Value.bool true,.int .i64 a,.int .i64 b,.int .i64 c,.int .i64 n]:Array Value)[o]?):=λo=>((qy hb4).1 _ o HZ3.o.2).trans (HC3.o o)
  have HB4:=q_ (qb HB3.o hb4);clear hb4 HR3 HF3 HC3 HB3 HR2 HF2 HB2 o0 o1 o2 HZ3;have r0:=HR4.o 0;have r1:=HR4.o 1;have r2:=HR4.o 2;have r3:=HR4.o 3;have r4:=HR4.o 4;have fz:=HF4.o;have c0:=HC4.o 0;have c1:=HC4.o 1;have c2:=HC4.o 2;have c3:=HC4.o 3;have c4:=HC4.o 4;have hold:∀o,o<5->∃v,w4.cell? ⟨w.1.size,o,none⟩=some v:=λo ho=>by rw[HR4.o o];rcases(by omega:o=0\/o=1\/o=2\/o=3\/o=4)with rfl|rfl|rfl|rfl|rfl<;>exact⟨_,rfl⟩
  have HOLD:=q_ hold;clear hold;cases Y with
  | false=>
   have HX:Q_ (aam s.data.toList=(zC,5)):=HW.o;clear HW;go_wp2_with fail;have hd:=a7j (W:=w4) (g:=w.1.size) (a:=.bool false) (b:=.int .i64 0) (c:=.int .i64 0) (d:=.int .i64 0) (e:=.int .i64 0) HOLD.o;have d0:=hd 0 om;have d1:=hd 1 om;have d2:=hd 2 om;have d3:=hd 3 om;have d4:=hd 4 om;have hbl:=act (a:=.bool false) (b:=.int .i64 0) (c:=.int .i64 0) (d:=.int .i64 0) (e:=.int .i64 0) HB4.o (a8 _);generalize ((((w4.setCell ⟨w.1.size,0,none⟩ (.bool false)).setCell ⟨w.1.size,1,none⟩ (.int .i64 0)).setCell ⟨w.1.size,2,none⟩ (.int .i64 0)).setCell ⟨w.1.size,3,none⟩ (.int .i64 0)).setCell ⟨w.1.size,4,none⟩ (.int .i64 0)=w9 at *;simp at d0 d1 d2 d3 d4;exact b9 (v:=.tuple #[ap5 false 0 0 0 0,.int .i64 5]) (by simp[results,results151,go_sem,d0,d1,d2,d3,d4]) rfl ⟨by rw[HX.o];rfl,hbl⟩
  | true=>
   have HX:Q_ (aam s.data.toList=((true,a,b,c,n),0)):=HW.o;clear HW;go_wp2_with fail;have hd:=a7j (W:=w4) (g:=w.1.size) (a:=.bool true) (b:=.int .i64 a) (c:=.int .i64 b) (d:=.int .i64 c) (e:=.int .i64 n) HOLD.o;have d0:=hd 0 om;have d1:=hd 1 om;have d2:=hd 2 om;have d3:=hd 3 om;have d4:=hd 4 om;have hbl:=act (a:=.bool true) (b:=.int .i64 a) (c:=.int .i64 b) (d:=.int .i64 c) (e:=.int .i64 n) HB4.o (a8 _);generalize ((((w4.setCell ⟨w.1.size,0,none⟩ (.bool true)).setCell ⟨w.1.size,1,none⟩ (.int .i64 a)).setCell ⟨w.1.size,2,none⟩ (.int .i64 b)).setCell ⟨w.1.size,3,none⟩ (.int .i64 c)).setCell ⟨w.1.size,4,none⟩ (.int .i64 n)=w9 at *;simp at d0 d1 d2 d3 d4;exact b9 (v:=.tuple #[ap5 true a b c n,.int .i64 0]) (by simp[results,results151,go_sem,d0,d1,d2,d3,d4]) rfl ⟨by rw[HX.o],hbl⟩
theorem avp (s:ByteArray) (w:World) (hs:s.size<=1100000) (h0:0<s.size) (i6:(6:Int)<(s.size:Int)):Calls prog 151 #[.string s] w (aom (aam s.data.toList) w):=by
 obtain⟨f1,f2⟩:=za h0;have HNE:Q_ (s.data.toList≠[]):=λq=>by have:=ael q;omega
 have HR0:Q_ (∀o,(w.alloc (aax false 0 0 0 0)).cell? ⟨w.1.size,o,none⟩=(#[Value.bool false,.int .i64 0,.int .i64 0,.int .i64 0,.int .i64 0]:Array Value)[o]?):=λo=>b8 _ _ _ _ rfl
 have HF0:Q_ (∀o,(w.alloc (aax false 0 0 0 0)).frozen? ⟨w.1.size,o,none⟩=false):=λo=>by rw[l6];exact qk _ _ _ (a8 _)
 have HB0:=q_ (qa w (aax false 0 0 0 0));have HZ0:Q_ (w.1.size<(w.alloc (aax false 0 0 0 0)).1.size):=by show _<_;simp
 go_enter func151,ntmps151;go_wp2_with fail;refine(aj2 _ _ (by first|exact hs|(rw[b00];omega))).mono ?_;rintro e w1 ⟨a,b,c,k1,rfl,h1,hb1⟩
 have H1:Q_ (ab2 (s.data.toList.take 6)=if k1=true then some (a,b,c)else none):=by
  show _=_;rw[<- bhq];exact h1
 have hbo:=qa w1 (.cells #[.int .i64 a,.int .i64 b,.int .i64 c] 343);have HR1:Q_ (∀o,(w1.alloc (.cells #[.int .i64 a,.int .i64 b,.int .i64 c] 343)).cell? ⟨w.1.size,o,none⟩=(#[Value.bool false,.int .i64 0,.int .i64 0,.int .i64 0,.int .i64 0]:Array Value)[o]?):=λo=>((qy hbo).1 _ o (i9 HZ0.o hb1.size)).trans (((qy hb1).1 _ o HZ0.o).trans (HR0.o o))
 have HF1:Q_ (∀o,(w1.alloc (.cells #[.int .i64 a,.int .i64 b,.int .i64 c] 343)).frozen? ⟨w.1.size,o,none⟩=false):=λo=>((qy hbo).2 _ o (i9 HZ0.o hb1.size)).trans (((qy hb1).2 _ o HZ0.o).trans (HF0.o o))
 have HO1:Q_ (∀o,(w1.alloc (.cells #[.int .i64 a,.int .i64 b,.int .i64 c] 343)).cell? ⟨w1.1.size,o,none⟩=(#[Value.int .i64 a,.int .i64 b,.int .i64 c]:Array Value)[o]?):=λo=>b8 _ _ _ _ rfl
 have HB1:=q_ (qb (qb HB0.o hb1) hbo);have HZ1:Q_ (w.1.size<w1.1.size/\w1.1.size<(w1.alloc (.cells #[.int .i64 a,.int .i64 b,.int .i64 c] 343)).1.size):=⟨i9 HZ0.o hb1.size,by simp⟩;clear h1 hbo hb1 HR0 HF0 HB0 HZ0;go_wp2_with fail;refine(anc _ _ (by first|(rw[b00];omega)|decide)).mono ?_;rintro e w2 ⟨n,k2,rfl,h2,hb2⟩
 have H2:Q_ (aev (s.data.toList.drop 6)=if k2=true then some n else none):=by
  show _=_;rw[<- be5];exact h2
 have HW:=q_ (azj HNE.o H1.o H2.o);have HR2:Q_ (∀o,w2.cell? ⟨w.1.size,o,none⟩=(#[Value.bool false,.int .i64 0,.int .i64 0,.int .i64 0,.int .i64 0]:Array Value)[o]?):=λo=>((qy hb2).1 _ o (b1b HZ1.o.1 HZ1.o.2)).trans (HR1.o o)
 have HF2:Q_ (∀o,w2.frozen? ⟨w.1.size,o,none⟩=false):=λo=>((qy hb2).2 _ o (b1b HZ1.o.1 HZ1.o.2)).trans (HF1.o o)
 have HO2:Q_ (∀o,w2.cell? ⟨w1.1.size,o,none⟩=(#[Value.int .i64 a,.int .i64 b,.int .i64 c]:Array Value)[o]?):=λo=>((qy hb2).1 _ o HZ1.o.2).trans (HO1.o o)
 have HB2:=q_ (qb HB1.o hb2);have HZ2:Q_ (w.1.size<w2.1.size):=i9 (b1b HZ1.o.1 HZ1.o.2) hb2.size;clear h2 hb2 HR1 HF1 HB1 HO1 H1 H2 HNE HZ1;have kk:(k1=false\/k1=true/\k2=false)\/k1=true/\k2=true:=by cases k1<;>cases k2<;>simp
 rcases kk with kk|⟨rfl,rfl⟩
 ·have HX:Q_ (aam s.data.toList=(zC,3)):=by
   have:=HW.o;rw[if_neg (by rcases kk with rfl|⟨rfl,rfl⟩<;>simp)]at this;exact this
  have r0:=HR2.o 0;have r1:=HR2.o 1;have r2:=HR2.o 2;have r3:=HR2.o 3;have r4:=HR2.o 4;have fz:=HF2.o;clear HW HO2;rcases kk with rfl|⟨rfl,rfl⟩
  all_goals
   go_wp2_with fail;have hd:=a7j (W:=w2) (g:=w.1.size) (a:=.bool false) (b:=.int .i64 0) (c:=.int .i64 0) (d:=.int .i64 0) (e:=.int .i64 0) (λo ho=>by rw[HR2.o o];rcases(by omega:o=0\/o=1\/o=2\/o=3\/o=4)with rfl|rfl|rfl|rfl|rfl<;>exact⟨_,rfl⟩);have d0:=hd 0 om;have d1:=hd 1 om;have d2:=hd 2 om;have d3:=hd 3 om;have d4:=hd 4 om;have hbl:=act (a:=.bool false) (b:=.int .i64 0) (c:=.int .i64 0) (d:=.int .i64 0) (e:=.int .i64 0) HB2.o (a8 _);generalize ((((w2.setCell ⟨w.1.size,0,none⟩ (.bool false)).setCell ⟨w.1.size,1,none⟩ (.int .i64 0)).setCell ⟨w.1.size,2,none⟩ (.int .i64 0)).setCell ⟨w.1.size,3,none⟩ (.int .i64 0)).setCell ⟨w.1.size,4,none⟩ (.int .i64 0)=w9 at *;simp at d0 d1 d2 d3 d4;exact b9 (v:=.tuple #[ap5 false 0 0 0 0,.int .i64 3]) (by simp[results,results151,go_sem,d0,d1,d2,d3,d4]) rfl ⟨by rw[HX.o];rfl,hbl⟩
 ·have HM:=λW=>q_ (azk true a b c n W)
  obtain⟨Y,hY⟩:∃Y,an9 (true,a,b,c,n)=Y:=⟨_,rfl⟩;rw[hY]at HM HW;have o0:=HO2.o 0;have o1:=HO2.o 1;have o2:=HO2.o 2;have hbc:=qa w2 (aax true a b c n);have HB3:=q_ (qb HB2.o hbc);have HR3:Q_ (∀o,(w2.alloc (aax true a b c n)).cell? ⟨w.1.size,o,none⟩=(#[Value.bool false,.int .i64 0,.int .i64 0,.int .i64 0,.int .i64 0]:Array Value)[o]?):=λo=>((qy hbc).1 _ o HZ2.o).trans (HR2.o o)
  have HF3:Q_ (∀o,(w2.alloc (aax true a b c n)).frozen? ⟨w.1.size,o,none⟩=false):=λo=>((qy hbc).2 _ o HZ2.o).trans (HF2.o o)
  have HC3:Q_ (∀o,(w2.alloc (aax true a b c n)).cell? ⟨w2.1.size,o,none⟩=(#[Value.bool true,.int .i64 a,.int .i64 b,.int .i64 c,.int .i64 n]:Array Value)[o]?):=λo=>b8 _ _ _ _ rfl
  have HZ3:Q_ (w.1.size<(w2.alloc (aax true a b c n)).1.size/\w2.1.size<(w2.alloc (aax true a b c n)).1.size):=⟨i9 HZ2.o hbc.size,by simp⟩;clear hbc hY HO2;go_wp2_with fail;refine(HM _).o.mono ?_;rintro e w4 ⟨rfl,hb4⟩;have HR4:Q_ (∀o,w4.cell? ⟨w.1.size,o,none⟩=(#[Value.bool false,.int .i64 0,.int .i64 0,.int .i64 0,.int .i64 0]:Array Value)[o]?):=λo=>((qy hb4).1 _ o HZ3.o.1).trans (HR3.o o)
  have HF4:Q_ (∀o,w4.frozen? ⟨w.1.size,o,none⟩=false):=λo=>((qy hb4).2 _ o HZ3.o.1).trans (HF3.o o)
  have HC4:Q_ (∀o,w4.cell? ⟨w2.1.size,o,none⟩=(#[Value.bool true,.int .i64 a,.int .i64 b,.int .i64 c,.int .i64 n]:Array Value)[o]?):=λo=>((qy hb4).1 _ o HZ3.o.2).trans (HC3.o o)
  have HB4:=q_ (qb HB3.o hb4);clear hb4 HR3 HF3 HC3 HB3 HR2 HF2 HB2 o0 o1 o2 HZ3;have r0:=HR4.o 0;have r1:=HR4.o 1;have r2:=HR4.o 2;have r3:=HR4.o 3;have r4:=HR4.o 4;have fz:=HF4.o;have c0:=HC4.o 0;have c1:=HC4.o 1;have c2:=HC4.o 2;have c3:=HC4.o 3;have c4:=HC4.o 4;have hold:∀o,o<5->∃v,w4.cell? ⟨w.1.size,o,none⟩=some v:=λo ho=>by rw[HR4.o o];rcases(by omega:o=0\/o=1\/o=2\/o=3\/o=4)with rfl|rfl|rfl|rfl|rfl<;>exact⟨_,rfl⟩
  have HOLD:=q_ hold;clear hold;cases Y with
  | false=>
   have HX:Q_ (aam s.data.toList=(zC,5)):=HW.o;clear HW;go_wp2_with fail;have hd:=a7j (W:=w4) (g:=w.1.size) (a:=.bool false) (b:=.int .i64 0) (c:=.int .i64 0) (d:=.int .i64 0) (e:=.int .i64 0) HOLD.o;have d0:=hd 0 om;have d1:=hd 1 om;have d2:=hd 2 om;have d3:=hd 3 om;have d4:=hd 4 om;have hbl:=act (a:=.bool false) (b:=.int .i64 0) (c:=.int .i64 0) (d:=.int .i64 0) (e:=.int .i64 0) HB4.o (a8 _);generalize ((((w4.setCell ⟨w.1.size,0,none⟩ (.bool false)).setCell ⟨w.1.size,1,none⟩ (.int .i64 0)).setCell ⟨w.1.size,2,none⟩ (.int .i64 0)).setCell ⟨w.1.size,3,none⟩ (.int .i64 0)).setCell ⟨w.1.size,4,none⟩ (.int .i64 0)=w9 at *;simp at d0 d1 d2 d3 d4;exact b9 (v:=.tuple #[ap5 false 0 0 0 0,.int .i64 5]) (by simp[results,results151,go_sem,d0,d1,d2,d3,d4]) rfl ⟨by rw[HX.o];rfl,hbl⟩
  | true=>
   have HX:Q_ (aam s.data.toList=((true,a,b,c,n),0)):=HW.o;clear HW;go_wp2_with fail;have hd:=a7j (W:=w4) (g:=w.1.size) (a:=.bool true) (b:=.int .i64 a) (c:=.int .i64 b) (d:=.int .i64 c) (e:=.int .i64 n) HOLD.o;have d0:=hd 0 om;have d1:=hd 1 om;have d2:=hd 2 om;have d3:=hd 3 om;have d4:=hd 4 om;have hbl:=act (a:=.bool true) (b:=.int .i64 a) (c:=.int .i64 b) (d:=.int .i64 c) (e:=.int .i64 n) HB4.o (a8 _);generalize ((((w4.setCell ⟨w.1.size,0,none⟩ (.bool true)).setCell ⟨w.1.size,1,none⟩ (.int .i64 a)).setCell ⟨w.1.size,2,none⟩ (.int .i64 b)).setCell ⟨w.1.size,3,none⟩ (.int .i64 c)).setCell ⟨w.1.size,4,none⟩ (.int .i64 n)=w9 at *;simp at d0 d1 d2 d3 d4;exact b9 (v:=.tuple #[ap5 true a b c n,.int .i64 0]) (by simp[results,results151,go_sem,d0,d1,d2,d3,d4]) rfl ⟨by rw[HX.o],hbl⟩
theorem ane (s:ByteArray) (w:World) (hs:s.size<=1100000):Calls prog 151 #[.string s] w (aom (aam s.data.toList) w):=by
 by_cases h0:0<s.size
 ·by_cases h:s.size<=6
  ·exact asg s w hs h0 om
  ·exact avp s w hs h0 om
 ·obtain⟨⟨l⟩⟩:=s;cases l with
  | nil=>exact avq w
  | cons a l=>exact absurd (b4y _) h0
abbrev ama (b:Bool) (d m y:Int):Obj:=.cells #[.bool b,.int .i64 d,.int .i64 m,.int .i64 y] 46
def au6 (x:Dat×Int) (w:World) (e:Ending) (w':World):Prop:=
 e=.returned (.tuple #[baq x.1.1 x.1.2.1 x.1.2.2.1 x.1.2.2.2,.int .i64 x.2])/\Below w.1.size w w'
theorem bnk {W:World} {g:Nat} {a b c d:Value} (h:∀o,o<4->∃v,W.cell? ⟨g,o,none⟩=some v) :
 ∀o,o<4 ->((((W.setCell ⟨g,0,none⟩ a).setCell ⟨g,1,none⟩ b).setCell ⟨g,2,none⟩ c).setCell ⟨g,3,none⟩ d).cell? ⟨g,o,none⟩=(#[a,b,c,d]:Array Value)[o]?:=by
 have n:∀(i j:Nat),i≠j ->(⟨g,i,none⟩:Addr) ≠⟨g,j,none⟩:=λi j hn q=>by injection q with _ q;exact hn q
 intro o ho;obtain⟨v,hv⟩:=h o ho;rcases(by omega:o=0\/o=1\/o=2\/o=3)with rfl|rfl|rfl|rfl
 ·rw[a9 _ _ _ _ (n 3 0 om),a9 _ _ _ _ (n 2 0 om),a9 _ _ _ _ (n 1 0 om),b0f _ _ _ (by rw[hv];rfl)];rfl
 ·rw[a9 _ _ _ _ (n 3 1 om),a9 _ _ _ _ (n 2 1 om),b0f _ _ _ (by rw[a9 _ _ _ _ (n 0 1 om),hv];rfl)];rfl
 ·rw[a9 _ _ _ _ (n 3 2 om),b0f _ _ _ (by rw[a9 _ _ _ _ (n 1 2 om),a9 _ _ _ _ (n 0 2 om),hv];rfl)];rfl
 ·rw[b0f _ _ _ (by rw[a9 _ _ _ _ (n 2 3 om),a9 _ _ _ _ (n 1 3 om),a9 _ _ _ _ (n 0 3 om),hv];rfl)];rfl
theorem akd {B:Nat} {w0 W:World} {g:Nat} {a b c d:Value} (h:Below B w0 W) (hg:B<=g):Below B w0 ((((W.setCell ⟨g,0,none⟩ a).setCell ⟨g,1,none⟩ b).setCell ⟨g,2,none⟩ c).setCell ⟨g,3,none⟩ d):=
 (((h.setCell hg _).setCell hg _).setCell hg _).setCell hg _
theorem a26 {l:List UInt8} {a b c:Int} (h:ab2 l=some (a,b,c)):0<=c/\c<=99:=by
 unfold ab2 at h
 split at h
 ·split at h
  ·next q=>
   injection h with h
   injection h with _ h
   injection h with _ h
   simp only[b0g]at q;rw[<- h];exact bjq q.1.2 q.2
  ·cases h
 ·cases h
theorem be1 {l:List UInt8} (hl:l≠[]) {a b c:Int} {k:Bool} (h:ab2 l=if k=true then some (a,b,c)else none) :
 acl l=if k=true then(if asi (true,a,b,2000+c)=true then((true,a,b,2000+c),0)else(zD,5))else(zD,3):=by
 unfold acl;rw[if_neg hl,h];cases k<;>rfl
theorem avv (w:World):Calls prog 162 #[.string ⟨#[]⟩] w (au6 (zD,0) w):=by
 go_enter func162,ntmps162;go_wp2_with fail;exact b9 (v:=.tuple #[baq false 0 0 0,.int .i64 0]) (by simp[results,results162,go_sem]) rfl ⟨rfl,qa _ _⟩
theorem avw (s:ByteArray) (w:World) (hs:s.size<=1100000) (h0:0<s.size):Calls prog 162 #[.string s] w (au6 (acl s.data.toList) w):=by
 obtain⟨f1,f2⟩:=za h0;have HNE:Q_ (s.data.toList≠[]):=λq=>by have:=ael q;omega
 have HR0:Q_ (∀o,(w.alloc (ama false 0 0 0)).cell? ⟨w.1.size,o,none⟩=(#[Value.bool false,.int .i64 0,.int .i64 0,.int .i64 0]:Array Value)[o]?):=λo=>b8 _ _ _ _ rfl
 have HF0:Q_ (∀o,(w.alloc (ama false 0 0 0)).frozen? ⟨w.1.size,o,none⟩=false):=λo=>by rw[l6];exact qk _ _ _ (a8 _)
 have HB0:=q_ (qa w (ama false 0 0 0));have HZ0:Q_ (w.1.size<(w.alloc (ama false 0 0 0)).1.size):=by show _<_;simp
 go_enter func162,ntmps162;go_wp2_with fail;refine(aj2 _ _ hs).mono ?_;rintro e w1 ⟨a,b,c,k,rfl,h1,hb1⟩;have hbo:=qa w1 (.cells #[.int .i64 a,.int .i64 b,.int .i64 c] 343);have HW:=q_ (be1 HNE.o h1);have HC9:Q_ (k=true->0<=c/\c<=99):=λq=>a26 (by rw[h1,if_pos q])
 have HR1:Q_ (∀o,(w1.alloc (.cells #[.int .i64 a,.int .i64 b,.int .i64 c] 343)).cell? ⟨w.1.size,o,none⟩=(#[Value.bool false,.int .i64 0,.int .i64 0,.int .i64 0]:Array Value)[o]?):=λo=>((qy hbo).1 _ o (i9 HZ0.o hb1.size)).trans (((qy hb1).1 _ o HZ0.o).trans (HR0.o o))
 have HF1:Q_ (∀o,(w1.alloc (.cells #[.int .i64 a,.int .i64 b,.int .i64 c] 343)).frozen? ⟨w.1.size,o,none⟩=false):=λo=>((qy hbo).2 _ o (i9 HZ0.o hb1.size)).trans (((qy hb1).2 _ o HZ0.o).trans (HF0.o o))
 have HO1:Q_ (∀o,(w1.alloc (.cells #[.int .i64 a,.int .i64 b,.int .i64 c] 343)).cell? ⟨w1.1.size,o,none⟩=(#[Value.int .i64 a,.int .i64 b,.int .i64 c]:Array Value)[o]?):=λo=>b8 _ _ _ _ rfl
 have HB1:=q_ (qb (qb HB0.o hb1) hbo);have HZ1:Q_ (w.1.size<w1.1.size/\w1.1.size<(w1.alloc (.cells #[.int .i64 a,.int .i64 b,.int .i64 c] 343)).1.size):=⟨i9 HZ0.o hb1.size,by simp⟩;clear h1 hbo hb1 HR0 HF0 HB0 HZ0 HNE;cases k with
 | false=>
  have HX:Q_ (acl s.data.toList=(zD,3)):=HW.o;have r0:=HR1.o 0;have r1:=HR1.o 1;have r2:=HR1.o 2;have r3:=HR1.o 3;have fz:=HF1.o;have HOLD:Q_ (∀o,o<4->∃v,(w1.alloc (.cells #[.int .i64 a,.int .i64 b,.int .i64 c] 343)).cell? ⟨w.1.size,o,none⟩=some v):=λo ho=>by rw[HR1.o o];rcases(by omega:o=0\/o=1\/o=2\/o=3)with rfl|rfl|rfl|rfl<;>exact⟨_,rfl⟩
  clear HW HC9
  try dsimp only
  repeat (fail_if_success (show Code.wp _ (Code.seq (Code.region 2 _ _) _) _ _ _)
          first|go_values|go_skip|go_guarded|go_step|go_upon|go_back|(simp only[b3a,b3b]at *;go_simp)|(go_ite<;>go_prune<;>(try go_simp)))
  generalize w1.alloc (.cells #[.int .i64 a,.int .i64 b,.int .i64 c] 343)=W1 at *;go_wp2_with fail;have hd:=bnk (W:=W1) (g:=w.1.size) (a:=.bool false) (b:=.int .i64 0) (c:=.int .i64 0) (d:=.int .i64 0) HOLD.o;have d0:=hd 0 om;have d1:=hd 1 om;have d2:=hd 2 om;have d3:=hd 3 om;have hbl:=akd (a:=.bool false) (b:=.int .i64 0) (c:=.int .i64 0) (d:=.int .i64 0) HB1.o (a8 _);generalize (((W1.setCell ⟨w.1.size,0,none⟩ (.bool false)).setCell ⟨w.1.size,1,none⟩ (.int .i64 0)).setCell ⟨w.1.size,2,none⟩ (.int .i64 0)).setCell ⟨w.1.size,3,none⟩ (.int .i64 0)=w9 at *;simp at d0 d1 d2 d3;exact b9 (v:=.tuple #[baq false 0 0 0,.int .i64 3]) (by simp[results,results162,go_sem,d0,d1,d2,d3]) rfl ⟨by rw[HX.o];rfl,hbl⟩
 | true=>
  obtain⟨c0,c9⟩:=HC9.o rfl;have HM:=λW=>q_ (avr true a b (2000+c) W)
  obtain⟨Y,hY⟩:∃Y,asi (true,a,b,2000+c)=Y:=⟨_,rfl⟩;have HW2:Q_ (acl s.data.toList=if Y=true then((true,a,b,2000+c),0)else(zD,5)):=by rw[<- hY];exact HW.o
  rw[hY]at HM;have hwr:IntKind.i64.wrap (2000+c)=2000+c:=b05 _ om;have HZE:Q_ ((w1.alloc (.cells #[.int .i64 a,.int .i64 b,.int .i64 c] 343)).1.size=w1.1.size+1):=by show _=_;simp
  have o0:=HO1.o 0;have o1:=HO1.o 1;have o2:=HO1.o 2;clear hY HW HC9
  try dsimp only
  repeat (fail_if_success (show Code.wp _ (Code.seq (Code.region 3 _ _) _) _ _ _)
          first|go_values|go_skip|go_guarded|go_step|go_upon|go_back|(simp only[b3a,b3b]at *;go_simp)|(go_ite<;>go_prune<;>(try go_simp)))
  generalize w1.alloc (.cells #[.int .i64 a,.int .i64 b,.int .i64 c] 343)=W1 at *;have hbc:=qa W1 (ama true a b (2000+c));have HB3:=q_ (qb HB1.o hbc);have HR3:Q_ (∀o,(W1.alloc (ama true a b (2000+c))).cell? ⟨w.1.size,o,none⟩=(#[Value.bool false,.int .i64 0,.int .i64 0,.int .i64 0]:Array Value)[o]?):=λo=>((qy hbc).1 _ o (b1b HZ1.o.1 HZ1.o.2)).trans (HR1.o o)
  have HF3:Q_ (∀o,(W1.alloc (ama true a b (2000+c))).frozen? ⟨w.1.size,o,none⟩=false):=λo=>((qy hbc).2 _ o (b1b HZ1.o.1 HZ1.o.2)).trans (HF1.o o)
  have HC3:Q_ (∀o,(W1.alloc (ama true a b (2000+c))).cell? ⟨W1.1.size,o,none⟩=(#[Value.bool true,.int .i64 a,.int .i64 b,.int .i64 (2000+c)]:Array Value)[o]?):=λo=>b8 _ _ _ _ rfl
  have HZ3:Q_ (w.1.size<(W1.alloc (ama true a b (2000+c))).1.size/\W1.1.size<(W1.alloc (ama true a b (2000+c))).1.size):=⟨i9 (b1b HZ1.o.1 HZ1.o.2) hbc.size,by simp⟩;clear hbc;go_wp2_with fail;refine(HM _).o.mono ?_;rintro e w4 ⟨rfl,hb4⟩;have HR4:Q_ (∀o,w4.cell? ⟨w.1.size,o,none⟩=(#[Value.bool false,.int .i64 0,.int .i64 0,.int .i64 0]:Array Value)[o]?):=λo=>((qy hb4).1 _ o HZ3.o.1).trans (HR3.o o)
  have HF4:Q_ (∀o,w4.frozen? ⟨w.1.size,o,none⟩=false):=λo=>((qy hb4).2 _ o HZ3.o.1).trans (HF3.o o)
  have HC4:Q_ (∀o,w4.cell? ⟨W1.1.size,o,none⟩=(#[Value.bool true,.int .i64 a,.int .i64 b,.int .i64 (2000+c)]:Array Value)[o]?):=λo=>((qy hb4).1 _ o HZ3.o.2).trans (HC3.o o)
  rw[HZE.o]at HC4;have HB4:=q_ (qb HB3.o hb4);clear hb4 HR3 HF3 HC3 HB3 HR1 HF1 HB1 o0 o1 o2 HZ3 HO1 hwr;generalize 2000+c=yy at *;have r0:=HR4.o 0;have r1:=HR4.o 1;have r2:=HR4.o 2;have r3:=HR4.o 3;have fz:=HF4.o;have m0:=HC4.o 0;have m1:=HC4.o 1;have m2:=HC4.o 2;have m3:=HC4.o 3;have HOLD:Q_ (∀o,o<4->∃v,w4.cell? ⟨w.1.size,o,none⟩=some v):=λo ho=>by rw[HR4.o o];rcases(by omega:o=0\/o=1\/o=2\/o=3)with rfl|rfl|rfl|rfl<;>exact⟨_,rfl⟩
  cases Y with
  | false=>
   have HX:Q_ (acl s.data.toList=(zD,5)):=HW2.o;clear HW2;go_wp2_with fail;have hd:=bnk (W:=w4) (g:=w.1.size) (a:=.bool false) (b:=.int .i64 0) (c:=.int .i64 0) (d:=.int .i64 0) HOLD.o;have d0:=hd 0 om;have d1:=hd 1 om;have d2:=hd 2 om;have d3:=hd 3 om;have hbl:=akd (a:=.bool false) (b:=.int .i64 0) (c:=.int .i64 0) (d:=.int .i64 0) HB4.o (a8 _);generalize (((w4.setCell ⟨w.1.size,0,none⟩ (.bool false)).setCell ⟨w.1.size,1,none⟩ (.int .i64 0)).setCell ⟨w.1.size,2,none⟩ (.int .i64 0)).setCell ⟨w.1.size,3,none⟩ (.int .i64 0)=w9 at *;simp at d0 d1 d2 d3;exact b9 (v:=.tuple #[baq false 0 0 0,.int .i64 5]) (by simp[results,results162,go_sem,d0,d1,d2,d3]) rfl ⟨by rw[HX.o];rfl,hbl⟩
  | true=>
   have HX:Q_ (acl s.data.toList=((true,a,b,yy),0)):=HW2.o;clear HW2;go_wp2_with fail;have hd:=bnk (W:=w4) (g:=w.1.size) (a:=.bool true) (b:=.int .i64 a) (c:=.int .i64 b) (d:=.int .i64 yy) HOLD.o;have d0:=hd 0 om;have d1:=hd 1 om;have d2:=hd 2 om;have d3:=hd 3 om;have hbl:=akd (a:=.bool true) (b:=.int .i64 a) (c:=.int .i64 b) (d:=.int .i64 yy) HB4.o (a8 _);generalize (((w4.setCell ⟨w.1.size,0,none⟩ (.bool true)).setCell ⟨w.1.size,1,none⟩ (.int .i64 a)).setCell ⟨w.1.size,2,none⟩ (.int .i64 b)).setCell ⟨w.1.size,3,none⟩ (.int .i64 yy)=w9 at *;simp at d0 d1 d2 d3;exact b9 (v:=.tuple #[baq true a b yy,.int .i64 0]) (by simp[results,results162,go_sem,d0,d1,d2,d3]) rfl ⟨by rw[HX.o],hbl⟩
theorem azt (s:ByteArray) (w:World) (hs:s.size<=1100000):Calls prog 162 #[.string s] w (au6 (acl s.data.toList) w):=by
 by_cases h0:0<s.size
 ·exact avw s w hs h0
 ·obtain⟨⟨l⟩⟩:=s;cases l with
  | nil=>exact avv w
  | cons a l=>exact absurd (b4y _) h0
