/- Parts. -/
import Derived.Test.YtdkhlkfleggbaaaGreatV00
import Derived.Laws.BitsAllLaws
import Derived.Deep.RegionLaw
import Derived.Deep.CutBlock
import Derived.RegionTactic
import Derived.Lib.SlBuf
import Derived.Deep.RegionHeld3
import Derived.Lib.SliceRun
import Derived.OwnWalk
import Derived.Deep.RegionWith
import Derived.Laws.OwnMore
import Derived.Stop.BytesEq
import Derived.WalkMore
import Derived.ScopeJumps
namespace Go.Proofs.YtdkhlkfleggbaaaGreat
set_option maxHeartbeats 4000000
set_option maxRecDepth 8000
open Tryz
set_option linter.unusedVariables false
open Go.RowKit
def xv {α:Type} (D:List α) (o:Nat) (xs:List α):List α:=D.take o++xs++D.drop (o+xs.length)
theorem agu {α:Type} {D:List α} {o:Nat} {xs:List α} (h:o+xs.length<=D.length):(xv D o xs).length=D.length:=by
 unfold xv;simp only[e9,l8,n5];omega
theorem agt {α:Type} {D:List α} {o:Nat} {xs:List α} (h:o+xs.length<=D.length) (j:Nat):(xv D o xs)[j]?=if o<=j/\j<o+xs.length then xs[j-o]? else D[j]?:=by
 unfold xv;have hl:(D.take o).length=o:=by rw[l8];omega
 by_cases h1:j<o
 ·rw[if_neg om,b0s,b0e om,b16 h1]
 ·by_cases h2:j<o+xs.length
  ·rw[if_pos ⟨by omega,h2⟩,b0e (by rw[e9];omega),b0a om,hl]
  ·rw[if_neg om,b0a (by rw[e9];omega),e9,hl,b3q]
   congr 1;omega
def a9x (D:List UInt8) (a:Nat) (l:List UInt8):Prop:=∀i (h:i<l.length),D[(a+i)%1024]?=some l[i]
theorem bg4 {D l xs:List UInt8} {a E K1:Nat} (h:a9x D a l) (hD:D.length=1024) (ha:a<1024) (hl:l.length+xs.length<=1024) (hE:E=(a+l.length)%1024) (hK:K1=min xs.length (1024-E)) :
 a9x (xv (xv D E (xs.take K1)) 0 (xs.drop K1)) a (l++xs):=by
 intro i hi;have l1:(xs.take K1).length=K1:=by rw[l8];omega
 have l2:(xs.drop K1).length=xs.length-K1:=n5;have s1:(xv D E (xs.take K1)).length=1024:=by rw[agu (by rw[l1];omega),hD]
 rw[e9]at hi;rw[agt (by rw[l2,s1];omega),agt (by rw[l1];omega),l1,l2]
 by_cases q:i<l.length
 ·rw[if_neg om,if_neg om,h i q,b2g q]
 ·rw[b2s om]
  by_cases r:i-l.length<K1
  ·have e:(a+i)%1024=E +(i-l.length):=by omega
   rw[if_neg om,if_pos om,e,b16 om,show E +(i-l.length)-E=i-l.length from by omega];exact d7 om
  ·have e:(a+i)%1024=i-l.length-K1:=by omega
   rw[if_pos om,b3q,show K1 +((a+i)%1024-0)=i-l.length from by omega];exact d7 om
theorem bcb {D l:List UInt8} {a k:Nat} (h:a9x D a l) (hk:k<=l.length):a9x D ((a+k)%1024) (l.drop k):=by
 intro i hi;rw[n5]at hi;have:=h (k+i) om;rw[show ((a+k)%1024+i)%1024=(a +(k+i))%1024 from by omega,this,b38]
theorem bcc {D l:List UInt8} {a K1:Nat} (h:a9x D a l) (hD:D.length=1024) (ha:a<1024) (hl:l.length<=1024) (hK:K1=min l.length (1024-a)) :
 (D.drop a).take K1++D.take (l.length-K1)=l:=by
 apply b24;intro i
 by_cases q:i<l.length
 ·rw[d7 q,<- h i q]
  by_cases r:i<K1
  ·rw[b0e (by rw[l8,n5];omega),b16 r,b3q]
   congr 1;omega
  ·rw[b0a (by rw[l8,n5];omega),b16 (by rw[l8,n5];omega)]
   congr 1
   rw[l8,n5];omega
 ·rw[b0c (l:=l) om,b0c];rw[e9,l8,l8,n5];omega
def bV (c:UInt8):Value:=.int .u8 (c.toNat:Int)
def bsV (l:List UInt8):List Value:=l.map bV
theorem xm (l:List UInt8):(bsV l).length=l.length:=b0o _
theorem adi (l m:List UInt8):bsV (l++m)=bsV l++bsV m:=b17
theorem ys (l:List UInt8) (n:Nat):(bsV l).take n=bsV (l.take n):=(List.map_take ..).symm
theorem abs (l:List UInt8) (n:Nat):(bsV l).drop n=bsV (l.drop n):=(List.map_drop ..).symm
theorem v9 {l:List UInt8} {k:Nat} (h:k<l.length):(bsV l)[k]?=some (bV l[k]):=by
 unfold bsV;rw[b0l,d7 h];rfl
theorem agc (l:List UInt8):∀v∈bsV l,v.oneCell'=true:=by
 intro v hv;obtain⟨c,-,rfl⟩:=b2f.1 hv;rfl
def abr (D:List UInt8) (at_ n:Int):List Value:=[.bool true]++bsV D++[.int .i64 at_,.int .i64 n]
theorem aib {D:List UInt8} (h:D.length=1024) (a n:Int):(abr D a n).length=1027:=by
 unfold abr;simp[xm,h]
theorem alz {D:List UInt8} (h:D.length=1024) (a n:Int):(abr D a n)[1025]?=some (.int .i64 a):=by
 unfold abr;rw[b0a (by simp[xm,h])];simp[xm,h]
theorem aki {D:List UInt8} (h:D.length=1024) (a n:Int):(abr D a n)[1026]?=some (.int .i64 n):=by
 unfold abr;rw[b0a (by simp[xm,h])];simp[xm,h]
theorem bnp {D:List UInt8} (h:D.length=1024) (a n:Int) {k:Nat} (hk:k<1024):(abr D a n)[1+k]?=some (bV (D[k]'(by omega))):=by
 unfold abr;rw[b0e (by simp[xm,h];omega),b0a sm];rw[show 1+k-[Value.bool true].length=k from by simp];exact v9 om
structure avh (W:World) (b:Nat) (D:List UInt8) (a:Nat) (l:List UInt8):Prop where
 blk:Blk W b (abr D a l.length)
 len:D.length=1024
 at_:a<1024
 max:l.length<=1024
 ring:a9x D a l
def v7 (W:World) (b:Nat) (l:List UInt8):Prop:=∃D a,avh W b D a l
theorem avh.on {W W':World} {b:Nat} {D:List UInt8} {a:Nat} {l:List UInt8} (h:avh W b D a l) (hb:Below W.1.size W W'):avh W' b D a l:=⟨h.blk.on hb,h.len,h.at_,h.max,h.ring⟩
theorem avh.kept {W W':World} {b:Nat} {D:List UInt8} {a:Nat} {l:List UInt8} (h:avh W b D a l) (hk:W'.heap[b]?=W.heap[b]?) (hz:W.1.size<=W'.1.size):avh W' b D a l:=⟨h.blk.kept hk hz,h.len,h.at_,h.max,h.ring⟩
theorem v7.on {W W':World} {b:Nat} {l:List UInt8} (h:v7 W b l) (hb:Below W.1.size W W'):v7 W' b l:=by
 obtain⟨D,a,h⟩:=h;exact⟨D,a,h.on hb⟩
theorem v7.kept {W W':World} {b:Nat} {l:List UInt8} (h:v7 W b l) (hk:W'.heap[b]?=W.heap[b]?) (hz:W.1.size<=W'.1.size):v7 W' b l:=by
 obtain⟨D,a,h⟩:=h;exact⟨D,a,h.kept hk hz⟩
theorem v7.lt {W:World} {b:Nat} {l:List UInt8} (h:v7 W b l):b<W.1.size:=by
 obtain⟨D,a,h⟩:=h;exact h.blk.lt
def bdz:List UInt8:=List.replicate 1024 0
def bnr:Array Value:=(abr bdz 0 0).toArray
theorem bd2:bnr.toList=abr bdz 0 0:=rfl
set_option maxRecDepth 100000 in
theorem bah (w:World):(Instr.build 138 #[(0,.bool true)]).run prog w=.ok (.agg bnr) w:=by kernel_rfl
theorem bd0:abr bdz ((0:Nat):Int) ((([]:List UInt8).length:Nat):Int)=abr bdz 0 0:=by rw[b0z,Int.natCast_zero]
theorem a8n (w:World):Calls prog 36 #[] w λe w'=>e=.returned (.pointer (some ⟨w.1.size,0,none⟩))/\v7 w' w.1.size []/\Below w.1.size w w'/\w'.1.size=w.1.size+1:=by
 have HB:=λW=>q_ (bah W)
 go_enter func36,ntmps36
 go_wp2_with (first
  | refine zf (u:=.bool true) rfl 138 0 _ rfl rfl (HB _).o ?_
  | (refine qr rfl _ _ rfl bnr rfl ?_;intro W1 hW1;have HK1:=q_ (Blk.newL (L:=abr bdz 0 0) hW1 bd2);have HB1:=q_ hW1.bel;have HS1:=q_ hW1.sz;clear hW1))
 go_ret;exact⟨rfl,⟨bdz,0,bd0▸HK1.o,b1r,by omega,by simp,λi h=>absurd h (b04 _)⟩,HB1.o,HS1.o⟩
theorem ag2 {w:World} {b:Nat} {l:List UInt8} (h:v7 w b l):Calls prog 59 #[.pointer (some ⟨b,0,none⟩)] w λe w'=>e=.returned (.bool true)/\w=w':=by
 obtain⟨D,a,h⟩:=h;have c0:=h.blk.cell 0 (v:=.bool true) rfl;clear h;go_enter func59,ntmps59;go_wp2;go_ret;exact⟨rfl,rfl⟩
theorem ag1 {w:World} {b:Nat} {l:List UInt8} (h:v7 w b l):Calls prog 72 #[.pointer (some ⟨b,0,none⟩)] w λe w'=>e=.returned (.int .i64 l.length)/\w=w':=by
 have H:=q_ h;obtain⟨D,a,h⟩:=h;have c3:=h.blk.cell 1026 (aki h.len _ _);clear h;go_enter func72,ntmps72;go_wp2_with (refine(ag2 H.o).mono ?_;rintro e w' ⟨rfl,rfl⟩);go_ret;exact⟨rfl,rfl⟩
theorem an4 {w:World} {b:Nat} {l:List UInt8} (h:v7 w b l):Calls prog 55 #[.pointer (some ⟨b,0,none⟩)] w λe w'=>e=.returned (.int .i64 (1024-l.length))/\w=w':=by
 have H:=q_ h;obtain⟨D,a,h⟩:=h;have c3:=h.blk.cell 1026 (aki h.len _ _);have hm:=h.max;clear h;go_enter func55,ntmps55;go_wp2_with (refine(ag2 H.o).mono ?_;rintro e w' ⟨rfl,rfl⟩);go_ret;exact⟨rfl,rfl⟩
def jg:List UInt8->Nat
 | []=>0
 | x::l=>x.toNat+256*jg l
theorem aio:∀l:List UInt8,jg l<256^l.length
 | []=>by simp[jg]
 | x::l=>by
  have h:=aio l;have hx:=x.toNat_lt;simp only[jg,n6,b22];omega
theorem aua:∀(l:List UInt8) (x:UInt8),jg (l++[x])=jg l+x.toNat*256^l.length
 | [],x=>by simp[jg]
 | y::l,x=>by
  simp only[b0u,jg,aua l x,n6,b22];rw[Nat.mul_add,b3c,b3r 256 (x.toNat*_),b47]
theorem aqp (l:List UInt8) (k:Nat) (h:k<l.length):jg (l.take (k+1))=jg (l.take k)+l[k].toNat*256^k:=by
 rw[o9 h,aua,l8,b1m (b2h h)]
theorem bgh (l:List UInt8) (h:l.length<=8):jg l<2^64:=by
 have h1:=aio l;have h2:256^l.length<=256^8:=b06 dc h;omega
def a9g (n u:Nat):Int:=if u<2^(8*n-1)then(u:Int)else(u:Int)-(2^(8*n):Nat)
theorem bgp {k a c:Nat} (ha:a<2^k):a ||| (c*2^k)=a+c*2^k:=by
 rw[Nat.or_comm,b3r c,<- Nat.two_pow_add_eq_or_of_lt ha,Nat.add_comm]
theorem bgu (k:Nat):256^k=2^(8*k):=by rw[show (256:Nat)=2^8 from rfl,<- Nat.pow_mul]
theorem bmn (l:List UInt8) (k:Nat) (h:k<l.length) (h8:l.length<=8):bits .or .u64 (jg (l.take k):Int) (IntKind.u64.wrap (IntKind.u64.wrap (l[k].toNat:Int)*2^(8*k)))=(jg (l.take (k+1)):Int):=by
 have h1:jg (l.take k)<2^(8*k):=by
  have:=aio (l.take k)
  rwa [l8,b1m (b2h h),bgu]at this
 have hx:=l[k].toNat_lt
 have h2:l[k].toNat*2^(8*k)<18446744073709551616:=by
  have:2^(8*k)<=2^56:=b06 dc om;have:=b4b (Nat.le_of_lt_succ (show l[k].toNat<255+1 from hx)) this;omega
 have h3:2^(8*k)<=2^56:=b06 dc om;have e1:IntKind.u64.wrap (l[k].toNat:Int)=(l[k].toNat:Int):=b3w _ om;have e2:IntKind.u64.wrap (((l[k].toNat*2^(8*k):Nat)):Int)=((l[k].toNat*2^(8*k):Nat):Int):=b3w _ om;have e3:(l[k].toNat:Int)*2^(8*k)=((l[k].toNat*2^(8*k):Nat):Int):=by rw[b2a,Int.natCast_pow];rfl
 rw[e1,e3,e2,u64_or_nat _ _ om h2,bgp h1,aqp l k h,bgu]
theorem a7k (n u:Nat) (h1:1<=n) (h8:n<=8) (hu:u<256^n):IntKind.i64.wrap (IntKind.u64.wrap ((u:Int)*2^(8*(8-n)))) / 2^(8*(8-n))=a9g n u:=by
 have:n=1\/n=2\/n=3\/n=4\/n=5\/n=6\/n=7\/n=8:=by omega
 unfold a9g;rcases this with rfl|rfl|rfl|rfl|rfl|rfl|rfl|rfl<;>simp only[IntKind.wrap,IntKind.bits,IntKind.signed]at *<;>(try simp at *)<;>split<;>omega
structure Fld where
 sz:Nat
 sg:Bool
 lo:Int
 hi:Int
deriving DecidableEq
def az6 (f:Fld):List Value:=[.int .i64 f.sz,.bool f.sg,.int .i64 f.lo,.int .i64 f.hi]
def acp (l:List Fld):List Value:=l.flatMap az6
theorem aij {α:Type} (g:α->List Value) (m:Nat) (hg:∀x,(g x).length=m):∀(l:List α) (k:Nat) (h:k<l.length) (j:Nat),j<m ->(l.flatMap g)[k*m+j]?=(g l[k])[j]?
 | [],k,h,_,_=>absurd h (b04 _)
 | x::l,0,_,j,hj=>by
  rw[b2i,Nat.zero_mul,b0j,b0e (by rw[hg];exact hj)];rfl
 | x::l,k+1,h,j,hj=>by
  rw[b2i,b0a (by rw[hg,b4s];omega),hg,show (k+1)*m+j-m=k*m+j from by rw[b4s];omega];exact aij g m hg l k (by simpa using h) j hj
theorem atv {α:Type} (g:α->List Value) (m:Nat) (hg:∀x,(g x).length=m) (l:List α):(l.flatMap g).length=l.length*m:=by
 induction l with
 | nil=>simp
 | cons f l ih=>rw[b2i,e9,ih,hg,n6,b4s];omega
def bbm (n:Nat) (s:Bool):Int:=if s=true\/n=8 then(2^(8*n-1):Nat)-1 else(2^(8*n):Nat)-1
def bbn (n:Nat) (s:Bool):Int:=if s then -((2^(8*n-1):Nat):Int)else 0
def af9 (n:Nat) (s:Bool):Fld:=⟨n,s,bbn n s,bbm n s⟩
def aaa (f:Fld):Bool:=decide (1<=f.sz) && (decide (f.sz<=8) && (decide (f.lo<=f.hi) && (decide (bbn f.sz f.sg<=f.lo) && (decide (f.lo<=bbm f.sz f.sg) && (decide (bbn f.sz f.sg<=f.hi) && decide (f.hi<=bbm f.sz f.sg))))))
def aoj (f:Fld) (b:List UInt8):Int:=if f.sg then a9g f.sz (jg b)else IntKind.i64.wrap (jg b)
def yj (l:List Fld):Nat:=(l.map (·.sz)).sum
def aar:List Fld->List UInt8->Option (List Int)
 | [],_=>some []
 | f::l,b=>if f.lo<=aoj f (b.take f.sz)/\aoj f (b.take f.sz)<=f.hi then(aar l (b.drop f.sz)).map (aoj f (b.take f.sz)::·)else none
def xl (l:List Fld) (b:List UInt8):Int×List Int:=
 if b.length<yj l then(2,[])else if yj l<b.length then(7,[])else
  match aar l b with
  | some v=>(0,v)
  | none=>(5,[])
def qt (v:List Int):List Value:=v.map (Value.int .i64)
theorem jn (v:List Int):(qt v).length=v.length:=b0o _
theorem am0:∀(l:List Fld) (b:List UInt8) {v:List Int},aar l b=some v->v.length=l.length
 | [],_,v,h=>by cases h;rfl
 | f::l,b,v,h=>by
  unfold aar at h
  split at h
  ·obtain⟨v',h',rfl⟩:=b27.1 h;simp[am0 l _ h']
  ·cases h
theorem qq.nil (w:World) (b o:Nat):qq w w b o []:=
 ⟨rfl,rfl,rfl,rfl,λ_ _=>rfl,λ_=>rfl,λj v hv=>by simp at hv,λ_ _ h _=>h,λ_ _ _ h=>h⟩
section
variable {P : Program}
theorem abx (w:World) (dT sT ty elem:TypeId) (hu:P.underlying dT=some (.slice elem)) (hs:(P.info? elem).map (·.size)=some 1) {R:Nat->Prop} (b o dLen dCap:Nat) (X:Option Addr) (sLen sCap:Nat) (xs:List Value)
 (hx:qf R w X xs) (hl:xs.length=sLen) (h1:∀v∈xs,v.oneCell'=true) (ht:w.there b o (Nat.min sLen dLen)) :
 ∃W,(Builtin.copy_ #[dT,sT] ty #[.slice (some ⟨b,o,none⟩) dLen dCap,.slice X sLen sCap]).run P w=.ok (goInt (Nat.min sLen dLen)) W/\qq w W b o (xs.take (Nat.min sLen dLen)):=by
 by_cases h0:Nat.min sLen dLen=0
 ·refine⟨w,?_,?_⟩
  ·rw[h0];exact run_copy_none w dT sT ty elem _ _ dLen dCap sLen sCap hu hs h0
  ·rw[h0,b2b];exact qq.nil w b o
 ·have hlen:(xs.take (Nat.min sLen dLen)).length=Nat.min sLen dLen:=by
   rw[l8,hl];exact b1m (b5d _ _)
  have hpos:0<xs.length:=by have:Nat.min sLen dLen<=sLen:=b5d _ _;omega
  obtain⟨xb,xo,hX,-,-⟩:=hx 0 xs[0] (d7 hpos);subst hX
  have hr:=run_copy_cells (P:=P) w dT sT ty elem b o dLen dCap ⟨xb,xo,none⟩ sLen sCap (xs.take (Nat.min sLen dLen)) hu hs hlen (λj v hv=>by
   have hj:j<(xs.take (Nat.min sLen dLen)).length:=by
    rcases b08 j (xs.take (Nat.min sLen dLen)).length with q|q
    ·exact q
    ·rw[b0c q]at hv;cases hv
   rw[b16 om]at hv;obtain⟨b',off,e1,-,e3⟩:=hx j v hv;injection e1 with e1
   injection e1 with e1 e2
   subst e1 e2;rw[ads];exact e3) (λj hj=>by rw[hlen]at hj;exact(ht j hj).1) (λj hj=>by rw[hlen]at hj;exact(ht j hj).2) (λv hv=>h1 v (b3g hv))
  rw[hlen]at hr;exact⟨_,hr,qo (by rw[hlen];exact ht)⟩
theorem kx {w W:World} {ops:Array Oper} {o:Oper} {a:Act} {K:Act->World->Prop} {Q:Exit->Act->World->Prop} {E:Prop} (hgd:o.guard=none) (d s:Operand) (t t':TypeId)
 (ho:o.op=.call {callee:=.builtin .copy,args:=#[d,s],argTypes:=#[t,t']}) (v u r:Value) (hd:a.eval d=v) (hs:a.eval s=u)
 (hr:(Builtin.copy_ #[t,t'] o.type #[v,u]).run P w=.ok r W) (h:K (a.put o.dst r) W):if Region.wanted o (yielded ops a.tmps)=true then Oper.wp P o a w K Q else E:=by
 have hw:Region.wanted o (yielded ops a.tmps)=true:=by simp[Region.wanted,hgd]
 rw[if_pos hw];exact Lib.wp_copy_run w d s t t' ho v u hd hs hr h
end
theorem als:(prog.info? 5).map (·.size)=some 1:=by kernel_rfl
theorem au5 {w W:World} {b o:Nat} {D xs:List UInt8} {a n:Int} (h:Blk w b (abr D a n)) (hs:qq w W b (1+o) (bsV xs)) (hD:D.length=1024) (hf:o+xs.length<=1024):Blk W b (abr (xv D o xs) a n):=by
 have e1:abr D a n=([.bool true]++bsV (D.take o))++bsV ((D.drop o).take xs.length) ++(bsV (D.drop (o+xs.length))++[.int .i64 a,.int .i64 n]):=by
  unfold abr
  have:D=D.take o ++((D.drop o).take xs.length++D.drop (o+xs.length)):=by
   rw[<- b10,b0t,b0t]
  conv=>lhs;rw[this]
  rw[adi,adi];simp only[b0s]
 have e2:abr (xv D o xs) a n=([.bool true]++bsV (D.take o))++bsV xs ++(bsV (D.drop (o+xs.length))++[.int .i64 a,.int .i64 n]):=by
  unfold abr xv;rw[adi,adi];simp only[b0s]
 rw[e1]at h;rw[e2];refine h.put hs ?_ ?_
 ·rw[e9,xm,l8];simp only[n6,b0z];omega
 ·rw[xm,xm,l8,n5];omega
theorem bl2 {w W:World} {b:Nat} {D:List UInt8} {a n n':Int} (h:Blk w b (abr D a n)) (hs:qq w W b 1026 [.int .i64 n']) (hD:D.length=1024):Blk W b (abr D a n'):=by
 have e:∀m:Int,abr D a m=([.bool true]++bsV D++[.int .i64 a])++[.int .i64 m]++[]:=λm=>by unfold abr;simp only[b0s,b0p];rfl
 rw[e]at h;rw[e];exact h.put hs (by rw[e9,e9,xm,hD];rfl) rfl
theorem boq {w W:World} {b:Nat} {D:List UInt8} {a a' n:Int} (h:Blk w b (abr D a n)) (hs:qq w W b 1025 [.int .i64 a']) (hD:D.length=1024):Blk W b (abr D a' n):=by
 have e:∀m:Int,abr D m n=([.bool true]++bsV D)++[.int .i64 m]++[.int .i64 n]:=λm=>by unfold abr;simp only[b0s];rfl
 rw[e]at h;rw[e];exact h.put hs (by rw[e9,xm,hD];rfl) rfl
theorem qi.stored {S:Nat->Prop} {w w1 w2:World} {b o:Nat} {cs:List Value} (h:qi S w w1) (hs:qq w1 w2 b o cs) (hb:¬S b):qi S w w2:=
 h.trans ⟨hs.os,hs.tape,hs.output,by rw[hs.sz];exact a8 _,λk hk=>hs.far k (λe=>hb (e▸hk))⟩
theorem qf.part {Q:Nat->Prop} {w:World} {b o:Nat} {xs:List Value} (h:qf Q w (some ⟨b,o,none⟩) xs) (k:Nat):qf Q w (some ⟨b,o+k,none⟩) (xs.drop k):=λj u hu=>by
 rw[b3q]at hu;obtain⟨b',off,e1,e2,e3⟩:=h _ u hu;injection e1 with e1
 injection e1 with e1 e1'
 subst e1 e1';exact⟨b,o+k,rfl,e2,by rw[b3c];exact e3⟩
theorem qf.first {Q:Nat->Prop} {w:World} {A:Option Addr} {xs:List Value} (h:qf Q w A xs) (k:Nat):qf Q w A (xs.take k):=λj u hu=>by
 have hj:j<k:=by
  rcases b08 j k with q|q
  ·exact q
  ·rw[b0c (by rw[l8];omega)]at hu;cases hu
 rw[b16 hj]at hu;exact h j u hu
theorem a3s {w:World} {b:Nat} {l:List UInt8} (A:Option Addr) (m c:Nat) (h:v7 w b l) (h0:m=0\/l.length=1024) (hm:m<=maxLen) :
 Calls prog 38 #[.pointer (some ⟨b,0,none⟩),.slice A m c] w λe w'=>e=.returned (.int .i64 0)/\w=w':=by
 unfold maxLen at hm;have H:=q_ h;have hn:l.length<=1024:=by obtain⟨D,a,h⟩:=h;exact h.max
 clear h;generalize hN:l.length=N at *;have hk:min (m:Int) (1024-(N:Int))=0:=by omega
 have HL:∀W,Q_ (v7 W b l->Calls prog 55 #[.pointer (some ⟨b,0,none⟩)] W λe w'=>e=.returned (.int .i64 (1024-N))/\W=w'):=λW=>q_ (λq=>by have:=an4 q;rwa [hN]at this)
 clear hN h0;go_enter func38,ntmps38;go_wp2_with (refine((HL _).o H.o).mono ?_;rintro e w' ⟨rfl,rfl⟩);go_ret;exact⟨rfl,rfl⟩
theorem a3t {w:World} {b:Nat} {l bs:List UInt8} (b' off m c K:Nat) (h:v7 w b l) (hbs:qf (λk=>k≠b) w (some ⟨b',off,none⟩) (bsV bs)) (hl:bs.length=m) (hK:min (m:Int) (1024-(l.length:Int))=(K:Int)) (h0:0<K) (hm:m<=maxLen) (hc:m<=c) :
 Calls prog 38 #[.pointer (some ⟨b,0,none⟩),.slice (some ⟨b',off,none⟩) m c] w λe w'=>e=.returned (.int .i64 K)/\v7 w' b (l++bs.take K)/\qi (λk=>k≠b) w w':=by
 unfold maxLen at hm;have H:=q_ h;obtain⟨D,a,h⟩:=h;have hn:=h.max;have ha:=h.at_;have HW:=q_ h;have c2:=h.blk.cell 1025 (alz h.len _ _);have c3:=h.blk.cell 1026 (aki h.len _ _);generalize hN:l.length=N at *;have HL:∀W,Q_ (v7 W b l->Calls prog 55 #[.pointer (some ⟨b,0,none⟩)] W λe w'=>e=.returned (.int .i64 (1024-N))/\W=w'):=λW=>q_ (λq=>by have:=an4 q;rwa [hN]at this)
 have HN:=q_ hN;clear h hN;have hb1:((K:Int)==0)=false:=by rw[l7];omega
 have e1:IntKind.i64.wrap ((a:Int) +(N:Int))=(a:Int) +(N:Int):=b05 _ om;have e2:(0:Int) <=(a:Int) +(N:Int):=by omega
 obtain⟨E,hE,hEl,hEe⟩:∃E:Nat,((a:Int) +(N:Int))%1024=(E:Int)/\E<1024/\E=(a+N)%1024:=⟨(a+N)%1024,by omega,by omega,rfl⟩;have f1:(E:Int)<=1024:=by omega
 have f2:(K:Int)<=c:=by omega
 have f3:(K:Int)<=m:=by omega
 have hKl:N+K<=1024:=by omega
 have HE:=q_ hEe;clear hEe;obtain⟨K1,hK1,k1,k2⟩:∃K1,Nat.min K (1024-E)=K1/\K1<=K/\E+K1<=1024:=⟨_,rfl,b5d _ _,by have:Nat.min K (1024-E)<=1024-E:=Nat.min_le_right _ _;omega⟩;have HK1:=q_ hK1;have hxl:(bsV (bs.take K)).length=K:=by rw[xm,l8];omega
 have hsrc:∀W,qi (λk=>k≠b) w W->qf (λk=>k≠b) W (some ⟨b',off,none⟩) (bsV (bs.take K)):=λW hk=>by
  rw[<- ys];exact(hbs.kept hk (λ_ q=>q)).first K
 have HR1:∀nq,∃W,(Builtin.copy_ #[22,22] 3 #[.slice (some ⟨b,1+E,none⟩) (1024-E) (1024-E),.slice (some ⟨b',off,none⟩) K c]).run prog (w.drewN (nq+1))=.ok (goInt K1) W/\qq w W b (1+E) (bsV ((bs.take K).take K1)):=λnq=>by
  obtain⟨W,q1,q2⟩:=abx (P:=prog) (w.drewN (nq+1)) 22 22 3 5 underlying22 als b (1+E) (1024-E) (1024-E) (some ⟨b',off,none⟩) K c (bsV (bs.take K)) (hsrc _ ((qi.refl _ _).drewN (nq+1))) hxl (agc _) (by rw[hK1];exact(HW.o.blk.there (1+E) K1 (by rw[aib HW.o.len];omega)));rw[hK1]at q1 q2;rw[ys]at q2;exact⟨W,q1,⟨q2.os,q2.tape,q2.output,q2.sz,q2.far,q2.fz,q2.rg,q2.apart,q2.there⟩⟩
 have HSR:=q_ hsrc;have HXL:=q_ hxl;have HBS:=q_ hbs;have HLB:=q_ hl;clear hK1 hsrc hxl hbs hl;go_enter func38,ntmps38;go_wp2_with (refine((HL _).o H.o).mono ?_;rintro e w' ⟨rfl,rfl⟩)
 go_cut [6] (λs wx=>s=.int .i64 E/\∃nq,wx=w.drewN nq)
 case first=>
  go_quiet (fail)
  go_wp2_with fail
  go_meet
  exact⟨by rw[hE],_,rfl⟩
 case rest=>
 obtain⟨rfl,nq,rfl⟩:=hcut;clear c2 c3 e1 e2 hK hE hb1 f3;obtain⟨W1,hr1,hs1⟩:=HR1 nq;have HR:=q_ hr1;have HS1:=q_ hs1;clear hr1 hs1 HR1;go_wp2_with fail
 go_cut [7] (λs wx=>s=.int .i64 K1/\wx=W1)
 case first=>
  have f4:¬1024=E:=by omega
  have f5:¬(1024:Int)=(E:Int):=by omega
  go_region_law ((refine kx kr (.tmp 29) (.tmp 32) 22 22 kr (.slice (some ⟨b,1+E,none⟩) (1024-E) (1024-E)) (.slice (some ⟨b',off,none⟩) K c) (goInt K1) kr kr HR.o ?_))
  go_wp2_with fail
  go_meet
  exact⟨rfl,rfl⟩
 case rest=>
 obtain⟨rfl,rfl⟩:=hcut;clear HR;have HB1:Q_ (Blk wc b (abr (xv D E ((bs.take K).take K1)) a N)):=q_ (au5 (by have q:=HW.o.blk;rw[HN.o]at q;exact q) HS1.o HW.o.len (by rw[l8,<- xm,HXL.o];omega));have HLS:Q_ ((xv D E ((bs.take K).take K1)).length=1024):=q_ (by rw[agu (by rw[l8,<- xm,HXL.o,HW.o.len];omega)];exact HW.o.len);have HKE:Q_ (qi (λk=>k≠b) w wc):=q_ ((qi.refl _ w).stored HS1.o (λq=>q rfl))
 have HR2:Q_ (∀X c',qf (λk=>k≠b) wc X (bsV ((bs.take K).drop K1))->∃W,(Builtin.copy_ #[22,22] 3 #[.slice (some ⟨b,1,none⟩) 1024 1024,.slice X (K-K1) c']).run prog wc.drew=.ok (goInt (K-K1:Nat)) W/\qq wc W b 1 (bsV ((bs.take K).drop K1))):=q_ λX c' hX=>by
  have hl2:(bsV ((bs.take K).drop K1)).length=K-K1:=by rw[xm,n5,<- xm,HXL.o]
  have hmin:Nat.min (K-K1) 1024=K-K1:=b1m om;obtain⟨W,q1,q2⟩:=abx (P:=prog) wc.drew 22 22 3 5 underlying22 als b 1 1024 1024 X (K-K1) c' (bsV ((bs.take K).drop K1)) (hX.keep λ_ _=>rfl) hl2 (agc _) (by rw[hmin];exact(HB1.o.there 1 (K-K1) (by rw[aib HLS.o];omega)));rw[hmin]at q1 q2;rw[b1h om]at q2;exact⟨W,q1,⟨q2.os,q2.tape,q2.output,q2.sz,q2.far,q2.fz,q2.rg,q2.apart,q2.there⟩⟩
 have f6:(K1:Int)<=K:=by omega
 have f7:(K1:Int)<=c:=by omega
 go_upto_region 6 with fail
 go_cut [] (λwx=>Q_ (qq wc wx b 1 (bsV ((bs.take K).drop K1))))
 case first=>
  by_cases hcK:c=K1
  ·obtain rfl:K=K1:=by omega
   subst hcK;obtain⟨W2,q1,q2⟩:=HR2.o (some ⟨b',off,none⟩) 0 (by rw[b19 (by rw[<- xm,HXL.o];exact a8 _)];exact qf.nil _ _ _);rw[b23]at q1;have HR:=q_ q1;have HQ:=q_ q2;clear q1 q2 HR2
   go_region_law ((refine kx kr (.tmp 37) (.tmp 41) 22 22 kr (.slice (some ⟨b,1,none⟩) 1024 1024) (.slice (some ⟨b',off,none⟩) 0 0) (goInt (0:Nat)) kr kr HR.o ?_))
   go_wp2_with fail
   go_meet
   exact HQ
  ·obtain⟨W2,q1,q2⟩:=HR2.o (some ⟨b',off+K1,none⟩) (c-K1) (by rw[<- abs];exact(HSR.o _ HKE.o).part K1);have HR:=q_ q1;have HQ:=q_ q2;clear q1 q2 HR2;have hcK':¬(c:Int)=K1:=by omega
   go_region_law ((refine kx kr (.tmp 37) (.tmp 41) 22 22 kr (.slice (some ⟨b,1,none⟩) 1024 1024) (.slice (some ⟨b',off+K1,none⟩) (K-K1) (c-K1)) (goInt (K-K1:Nat)) kr kr HR.o ?_))
   go_wp2_with fail
   go_meet
   exact HQ
 case rest=>
 have HXK:Q_ ((bs.take K).length=K):=q_ (by rw[<- xm,HXL.o]);have HL2:Q_ ((xv (xv D E ((bs.take K).take K1)) 0 ((bs.take K).drop K1)).length=1024):=q_ (by rw[agu (by rw[n5,HXK.o,HLS.o];omega)];exact HLS.o);have HB2:Q_ (Blk wc b (abr (xv (xv D E ((bs.take K).take K1)) 0 ((bs.take K).drop K1)) a N)):=q_ (au5 (o:=0) HB1.o hcut.o HLS.o (by rw[n5,HXK.o];omega));have HKF:Q_ (qi (λk=>k≠b) w wc):=q_ (HKE.o.stored hcut.o (λq=>q rfl));have g3:=HB2.o.cell 1026 (aki HL2.o _ _);have z3:=HB2.o.fz 1026
 have HF:Q_ (v7 (wc.setCell ⟨b,1026,none⟩ (.int .i64 ((N:Int) +(K:Int)))) b (l++bs.take K)/\qi (λk=>k≠b) w (wc.setCell ⟨b,1026,none⟩ (.int .i64 ((N:Int) +(K:Int))))):=q_ (by
  have hst:qq wc (wc.setCell ⟨b,1026,none⟩ (.int .i64 ((N:Int) +(K:Int)))) b 1026 [.int .i64 ((N:Int) +(K:Int))]:=zm (HB2.o.there 1026 1 (by rw[aib HL2.o];omega));have e:(((l++bs.take K).length:Nat):Int)=(N:Int) +(K:Int):=by rw[e9,HXK.o,HN.o];omega
  refine⟨⟨_,a,by rw[e];exact bl2 HB2.o hst HL2.o,HL2.o,ha,by rw[e9,HXK.o,HN.o];omega,?_⟩,HKF.o.stored hst (λq=>q rfl)⟩;exact bg4 HW.o.ring HW.o.len ha (by rw[HXK.o,HN.o];omega) (by rw[HN.o];exact HE.o) (by rw[HXK.o];exact HK1.o.symm))
 clear hcut HB2 HKF HL2 HXK HR2 HB1 HLS HKE HS1;go_wp2_with fail;go_ret;exact⟨rfl,HF.o.1,HF.o.2⟩
theorem a8o {w:World} {b:Nat} {l bs:List UInt8} (A:Option Addr) (c:Nat) (h:v7 w b l) (hbs:qf (λk=>k≠b) w A (bsV bs)) (hm:bs.length<=maxLen) (hc:bs.length<=c) :
 Calls prog 38 #[.pointer (some ⟨b,0,none⟩),.slice A bs.length c] w λe w'=>e=.returned (.int .i64 (min bs.length (1024-l.length):Nat))/\v7 w' b (l++bs.take (min bs.length (1024-l.length)))/\qi (λk=>k≠b) w w':=by
 have hmx:l.length<=1024:=by obtain⟨D,a,h⟩:=h;exact h.max
 by_cases h0:bs.length=0\/l.length=1024
 ·have e:min bs.length (1024-l.length)=0:=by omega
  rw[e];refine(a3s A _ c h h0 hm).mono ?_;rintro e w' ⟨rfl,rfl⟩;exact⟨rfl,by rw[b2b,b0p];exact h,qi.refl _ _⟩
 ·have hp:0<(bsV bs).length:=by rw[xm];omega
  obtain⟨b',off,rfl,-,-⟩:=hbs 0 _ (d7 hp);exact a3t b' off bs.length c (min bs.length (1024-l.length)) h hbs rfl om om hm hc
theorem atc {w:World} {b:Nat} (h:v7 w b []):Calls prog 71 #[.pointer (some ⟨b,0,none⟩)] w λe w'=>e=.returned (.tuple #[.int .u8 0,.bool false])/\w=w':=by
 have H:=q_ h;clear h;have HL:∀W,Q_ (v7 W b []->Calls prog 72 #[.pointer (some ⟨b,0,none⟩)] W λe w'=>e=.returned (.int .i64 0)/\W=w'):=λW=>q_ λq=>ag1 q
 go_enter func71,ntmps71;go_wp2_with (refine((HL _).o H.o).mono ?_;rintro e w' ⟨rfl,rfl⟩)
 go_ret2
 exact⟨rfl,rfl⟩
theorem atd {w:World} {b:Nat} {c:UInt8} {l:List UInt8} (h:v7 w b (c::l)):Calls prog 71 #[.pointer (some ⟨b,0,none⟩)] w λe w'=>e=.returned (.tuple #[bV c,.bool true])/\∃n,w'=w.drewN n:=by
 have H:=q_ h;obtain⟨D,a,h⟩:=h;have hn:((c::l).length:Int)<=1024:=by have:=h.max;omega
 have hp:(0:Int)<((c::l).length:Int):=by simp only[n6];omega
 have ha:=h.at_;have c2:=h.blk.cell 1025 (alz h.len _ _)
 have c1:w.cell? ⟨b,1+a,none⟩=some (bV c):=h.blk.cell (1+a) (by
  rw[bnp h.len _ _ ha];have:=h.ring 0 (by simp only[n6];omega);rw[b3d,b29 ha,d7 (by rw[h.len];exact ha)]at this;rw[Option.some.inj this];rfl)
 clear h;have HL:∀W,Q_ (v7 W b (c::l)->Calls prog 72 #[.pointer (some ⟨b,0,none⟩)] W λe w'=>e=.returned (.int .i64 (c::l).length)/\W=w'):=λW=>q_ λq=>ag1 q
 generalize ((c::l).length:Int)=n at *;have hb1:(n==0)=false:=by rw[l7];omega
 have f1:(0:Int) <=(a:Int):=o5 _;have f2:(a:Int)<1024:=by omega
 unfold bV at *;go_enter func71,ntmps71;go_wp2_with (refine((HL _).o H.o).mono ?_;rintro e w' ⟨rfl,rfl⟩)
 go_quiet (fail)
 go_wp2_with fail
 go_ret2
 exact⟨rfl,_,rfl⟩
theorem ays (c:Nat) (w:World):Calls prog 92 #[.slice none 0 c] w λe w'=>e=.returned (.slice none 0 0)/\Below w.1.size w w':=by
 go_enter func92,ntmps92;go_wp2_with fail;rw[Lib.run_eql_slice_nil _ _ _ _ _ _ _ _ underlying22];go_wp2_with fail;go_ret;exact⟨rfl,n9 _ _⟩
set_option maxRecDepth 100000 in
theorem a4t:∃i,prog.info? 5=some i/\i.zero=some (.int .u8 0)/\i.size=1/\i.bytes=1:=⟨_,rfl,rfl,rfl,rfl⟩
theorem ao4 {Q:Nat->Prop} (A:Option Addr) (l:List UInt8) (c:Nat) (w:World) (hs:qf Q w A (bsV l)) (hn:l.length<=1100000) :
 Calls prog 92 #[.slice A l.length c] w λe w'=>∃B d,e=.returned (.slice B l.length d)/\qf (λb=>w.1.size<=b/\b<w'.1.size) w' B (bsV l)/\l.length<=d/\Below w.1.size w w':=by
 cases A with
 | none=>
  have h0:l=[]:=by
   cases l with
   | nil=>rfl
   | cons x l=>obtain⟨b,off,h,-⟩:=hs 0 _ rfl;cases h
  subst h0;refine(ays c w).mono ?_;rintro e w' ⟨rfl,h⟩;exact⟨none,0,rfl,qf.nil _ _ _,a8 _,h⟩
 | some a=>
  obtain⟨i0,hi,hz0,hz1,hz2⟩:=a4t;obtain⟨n,hln⟩:∃n,l.length=n:=⟨_,rfl⟩;have hown:(w.alloc (.cells #[] 5)).ownsRow w.1.size 5 1 (.slice (some ⟨w.1.size,0,none⟩) 0 0) 0 []:=b32 w #[] 0 (a8 _) dc rfl;obtain⟨v',w2,hrun,h8,h9,-⟩:=j6 (P:=prog) (w.alloc (.cells #[] 5)) 22 22 5 i0 _ 1 1 underlying22 hi hz0 hz1 hz2 rfl dc w.1.size _ 0 [] hown (some a) n c (bsV l) (by rw[xm,hln,b4j]) (hs.lt.below (qa w _) (λb h=>h.2)) (agc l) (by unfold maxLen;omega) om sm;rw[b0j,b0y]at h8
  have HE:Q_ (∃B d,v'=.slice B n d/\qf (λb=>w.1.size<=b/\b<w2.1.size) w2 B (bsV l)/\n<=d/\Below w.1.size w w2):=by
   obtain⟨B,d,h1,hd,h2,-⟩:=zt h8;refine⟨B,d,h1,h2,hd,(qa w _).trans ⟨h9.os,h9.tape,h9.output,h9.size,λb hb=>h9.block b (by simp;omega) (λe=>by simp[Value.ownBlock]at e;omega)⟩⟩
  have HR:=q_ hrun;rw[hln]at hn ⊢;clear hs hln hown hrun h8 h9;have EQ:∀W:World,(binOp .eql 22 (.slice (some a) n c) (.slice none 0 0)).run prog W=.ok (.bool false) W:=λW=>Lib.run_eql_slice_nil W 22 5 (some a) n c 0 0 underlying22
  go_enter func92,ntmps92;go_wp2_with (at_builtin;refine q9 rfl _ _ 22 rfl _ _ _ rfl rfl HR.o ?_);go_ret;obtain⟨B,d,h1,h2,h3,h4⟩:=HE.o;exact⟨B,d,by rw[h1];rfl,h2,h3,h4⟩
def RdI (Q:Nat->Prop) (w:World) (a:Nat):Option (List UInt8)->Prop
 | some l=>Q a/\∃A c,Blk w a [.slice A l.length c,.bool true,.bool false]/\qf (λb=>Q b/\b≠a) w A (bsV l)/\l.length<=c/\l.length<=1100000
 | none=>Q a/\Blk w a [.slice none 0 0,.bool true,.bool true]
theorem RdI.keep {Q:Nat->Prop} {w w':World} {a:Nat} {s:Option (List UInt8)} (h:RdI Q w a s) (hk:∀b,Q b->w'.heap[b]?=w.heap[b]?) (hz:w.1.size<=w'.1.size):RdI Q w' a s:=by
 cases s with
 | none=>exact⟨h.1,h.2.kept (hk a h.1) hz⟩
 | some l=>
  obtain⟨hq,A,c,h1,h2,h3⟩:=h;exact⟨hq,A,c,h1.kept (hk a hq) hz,h2.keep λb hb=>hk b hb.1,h3⟩
theorem RdI.below {Q:Nat->Prop} {w w':World} {a B:Nat} {s:Option (List UInt8)} (h:RdI Q w a s) (hb:Below B w w') (hq:∀b,Q b->b<B):RdI Q w' a s:=h.keep (λb q=>hb.block b (hq b q)) hb.size
theorem RdI.drew {Q:Nat->Prop} {w:World} {a:Nat} {s:Option (List UInt8)} (h:RdI Q w a s):RdI Q w.drew a s:=h.keep (λ_ _=>rfl) (a8 _)
theorem aj5 {Q:Nat->Prop} (A:Option Addr) (l:List UInt8) (c:Nat) (w:World) (hs:qf Q w A (bsV l)) (hn:l.length<=1100000) :
 Calls prog 74 #[.slice A l.length c] w λe w'=>∃g,e=.returned (.pointer (some ⟨g,0,none⟩))/\RdI (λb=>w.1.size<=b/\b<w'.1.size) w' g (some l)/\Below w.1.size w w':=by
 have HC:=q_ (ao4 A l c w hs hn);generalize hL:l.length=L at *;have HL:=q_ hL;clear hs hL;go_enter func74,ntmps74;go_wp2_with (refine HC.o.mono ?_;rintro e w1 ⟨B,d,rfl,hf,hd,hb⟩;have HF:=q_ (o3 hf (o3 hd hb));clear hf hd hb);go_ret;refine⟨w1.1.size,rfl,?_,?_⟩
 ·refine⟨⟨HF.o.2.2.size,by simp⟩,B,d,?_,?_,by rw[HL.o];exact HF.o.2.1,by rw[HL.o];exact hn⟩
  ·rw[HL.o];exact Blk.newL (qg w1 _ _) rfl
  ·exact((HF.o.1.below (qa w1 _) (λb q=>q.2))).less λb q=>⟨⟨q.1,by simp;omega⟩,by omega⟩
 ·exact qb HF.o.2.2 (qa _ _)
theorem aey {Q:Nat->Prop} {w:World} {a:Nat} {s:Option (List UInt8)} (h:RdI Q w a s) :
 Calls prog 127 #[.pointer (some ⟨a,0,none⟩)] w λe w'=>e=.returned (.bool s.isSome)/\w=w':=by
 cases s with
 | none=>
  have c1:=h.2.cell 1 (v:=.bool true) rfl;have c2:=h.2.cell 2 (v:=.bool true) rfl;clear h;go_enter func127,ntmps127;go_wp2;go_ret;exact⟨rfl,rfl⟩
 | some l=>
  obtain⟨hq,A,c,h,-⟩:=h;have c1:=h.cell 1 (v:=.bool true) rfl;have c2:=h.cell 2 (v:=.bool false) rfl;clear h;go_enter func127,ntmps127;go_wp2;go_ret;exact⟨rfl,rfl⟩
theorem a1a {Q:Nat->Prop} {w:World} {a:Nat} {s:Option (List UInt8)} (h:RdI Q w a s) :
 Calls prog 128 #[.pointer (some ⟨a,0,none⟩)] w λe w'=>e=.returned (.tuple #[])/\RdI Q w' a none/\qi (λk=>k≠a) w w':=by
 have h0:Q a/\∃v b2,Blk w a [v,.bool true,.bool b2]:=by
  cases s with
  | none=>exact⟨h.1,_,_,h.2⟩
  | some l=>obtain⟨hq,A,c,h,-⟩:=h;exact⟨hq,_,_,h⟩
 obtain⟨hq,v,b2,hb⟩:=h0;clear h;have c0:=hb.cell 0 (v:=v) rfl;have c2:=hb.cell 2 (v:=.bool b2) rfl;have z0:=hb.fz 0;have z2:=hb.fz 2;have s1:qq w (w.setCell ⟨a,0,none⟩ (.slice none 0 0)) a 0 [.slice none 0 0]:=zm (hb.there 0 1 sm);have k1:Blk (w.setCell ⟨a,0,none⟩ (.slice none 0 0)) a [.slice none 0 0,.bool true,.bool b2]:=Blk.put (A:=[]) (M:=[v]) (D:=[.bool true,.bool b2]) hb s1 rfl rfl;have s2:qq (w.setCell ⟨a,0,none⟩ (.slice none 0 0)) ((w.setCell ⟨a,0,none⟩ (.slice none 0 0)).setCell ⟨a,2,none⟩ (.bool true)) a 2 [.bool true]:=zm (k1.there 2 1 sm);have k2:Blk ((w.setCell ⟨a,0,none⟩ (.slice none 0 0)).setCell ⟨a,2,none⟩ (.bool true)) a [.slice none 0 0,.bool true,.bool true]:=Blk.put (A:=[.slice none 0 0,.bool true]) (M:=[.bool b2]) (D:=[]) k1 s2 rfl rfl;have HF:Q_ (RdI Q ((w.setCell ⟨a,0,none⟩ (.slice none 0 0)).setCell ⟨a,2,none⟩ (.bool true)) a none/\qi (λk=>k≠a) w ((w.setCell ⟨a,0,none⟩ (.slice none 0 0)).setCell ⟨a,2,none⟩ (.bool true))):=q_ ⟨⟨hq,k2⟩,((qi.refl _ w).stored s1 (λq=>q rfl)).stored s2 (λq=>q rfl)⟩
 clear s1 k1 s2 k2 hb hq;go_enter func128,ntmps128;go_wp2_with fail;refine b4t (v:=.tuple #[]) (by simp[results,results128,go_sem]) rfl ⟨rfl,HF.o⟩
theorem RdI.cut {Q:Nat->Prop} {w:World} {a b off c:Nat} {l:List UInt8} {n:Nat} (hq:Q a) (h:Blk w a [.slice (some ⟨b,off,none⟩) l.length c,.bool true,.bool false]) (hf:qf (λb=>Q b/\b≠a) w (some ⟨b,off,none⟩) (bsV l)) (hn:n<=l.length) (hc:l.length<=c) (hm:l.length<=1100000) (o':Nat) (ho:o'=off+n\/c=n) :
 RdI Q (w.setCell ⟨a,0,none⟩ (.slice (some ⟨b,o',none⟩) (l.length-n) (c-n))) a (some (l.drop n))/\qi (λk=>k≠a) w (w.setCell ⟨a,0,none⟩ (.slice (some ⟨b,o',none⟩) (l.length-n) (c-n))):=by
 have s1:qq w (w.setCell ⟨a,0,none⟩ (.slice (some ⟨b,o',none⟩) (l.length-n) (c-n))) a 0 [.slice (some ⟨b,o',none⟩) (l.length-n) (c-n)]:=zm (h.there 0 1 sm);have k1:Blk (w.setCell ⟨a,0,none⟩ (.slice (some ⟨b,o',none⟩) (l.length-n) (c-n))) a [.slice (some ⟨b,o',none⟩) (l.length-n) (c-n),.bool true,.bool false]:=Blk.put (A:=[]) (M:=[.slice (some ⟨b,off,none⟩) l.length c]) (D:=[.bool true,.bool false]) h s1 rfl rfl;refine⟨⟨hq,some ⟨b,o',none⟩,c-n,by rw[n5];exact k1,?_,by rw[n5];omega,by rw[n5];omega⟩,(qi.refl _ w).stored s1 (λq=>q rfl)⟩;rcases ho with rfl|rfl
 ·have:=hf.part n;rw[abs]at this;exact this.keep λb' hb'=>s1.far b' hb'.2
 ·rw[b19 om];exact qf.nil _ _ _
theorem awn {Q:Nat->Prop} {w:World} {a:Nat} {l:List UInt8} (n:Nat) (h:RdI Q w a (some l)) (h0:0<n) (hn:n<=l.length) :
 Calls prog 93 #[.pointer (some ⟨a,0,none⟩),.int .i64 n] w λe w'=>∃b off,e=.returned (.slice (some ⟨b,off,none⟩) n n)/\qf (λb=>Q b/\b≠a) w' (some ⟨b,off,none⟩) (bsV (l.take n))/\RdI Q w' a (some (l.drop n))/\qi (λk=>k≠a) w w':=by
 have HI:=q_ (aey h);obtain⟨hq,A,c,hb,hf,hc,hm⟩:=h;obtain⟨b,off,rfl,-,-⟩:=hf 0 (bV (l[0]'(by omega))) (v9 om);have HF:=q_ (RdI.cut hq hb hf hn hc hm);have HT:Q_ (qf (λb=>Q b/\b≠a) w (some ⟨b,off,none⟩) (bsV (l.take n))):=q_ (by have:=hf.first n;rwa [ys]at this);have c0:=hb.cell 0 (v:=.slice (some ⟨b,off,none⟩) l.length c) rfl;have z0:=hb.fz 0;generalize hL:l.length=L at *;clear hb hf;have g1:(n:Int)<=L:=by omega
 have g2:(L:Int)<=c:=by omega
 have g3:(0:Int)<n:=by omega
 go_enter func93,ntmps93;go_wp2_with (refine HI.o.mono ?_;rintro e w' ⟨rfl,rfl⟩)
 ·have e1:=h;have HF:=HF.o off (.inr e1);rw[e1,b23]at HF;go_ret;exact⟨b,off,rfl,HT.o.keep λk hk=>HF.2.block k hk.2,HF⟩
 ·have HF:=HF.o (off+n) (.inl rfl);go_ret;exact⟨b,off,rfl,HT.o.keep λk hk=>HF.2.block k hk.2,HF⟩
theorem awm {Q:Nat->Prop} {w:World} {a:Nat} (n:Int) (h:RdI Q w a none) :
 Calls prog 93 #[.pointer (some ⟨a,0,none⟩),.int .i64 n] w λe w'=>e=.returned (.slice none 0 0)/\w=w':=by
 have HI:=q_ (aey h);go_enter func93,ntmps93;go_wp2_with (refine HI.o.mono ?_;rintro e w' ⟨rfl,rfl⟩);go_ret;exact⟨rfl,rfl⟩
theorem a1b {Q:Nat->Prop} {w:World} {a:Nat} {l:List UInt8} (n:Int) (h:RdI Q w a (some l)) (hn:n<0 \/(l.length:Int)<n) :
 Calls prog 93 #[.pointer (some ⟨a,0,none⟩),.int .i64 n] w λe w'=>e=.returned (.slice none 0 0)/\RdI Q w' a none/\qi (λk=>k≠a) w w':=by
 have HI:=q_ (aey h);have HX:=q_ (a1a h);obtain⟨hq,A,c,hb,hf,hc,hm⟩:=h;have c0:=hb.cell 0 (v:=.slice A l.length c) rfl;generalize hL:l.length=L at *;clear hb hf
 by_cases h1:n<0
 ·clear hn;go_enter func93,ntmps93;go_wp2_with (first|(refine HI.o.mono ?_;rintro e w' ⟨rfl,rfl⟩)|(refine HX.o.mono ?_;rintro e w' ⟨rfl,hr,hk⟩;have HF:=q_ (o3 hr hk);clear hr hk));go_ret;exact⟨rfl,HF.o⟩
 ·have h2:(L:Int)<n:=by omega
  clear hn;go_enter func93,ntmps93;go_wp2_with (first|(refine HI.o.mono ?_;rintro e w' ⟨rfl,rfl⟩)|(refine HX.o.mono ?_;rintro e w' ⟨rfl,hr,hk⟩;have HF:=q_ (o3 hr hk);clear hr hk));go_ret;exact⟨rfl,HF.o⟩
theorem ak8 {Q:Nat->Prop} {w:World} {a:Nat} {l:List UInt8} (h:RdI Q w a (some l)) :
 Calls prog 291 #[.pointer (some ⟨a,0,none⟩)] w λe w'=>e=.returned (.int .i64 l.length)/\w=w':=by
 obtain⟨hq,A,c,hb,hf,hc,hm⟩:=h;have c0:=hb.cell 0 (v:=.slice A l.length c) rfl;clear hb hf hq;go_enter func291,ntmps291;go_wp2;go_ret;exact⟨rfl,rfl⟩
theorem ak9 {Q:Nat->Prop} {w:World} {a:Nat} {s:Option (List UInt8)} (h:RdI Q w a s) :
 Calls prog 293 #[.pointer (some ⟨a,0,none⟩)] w λe w'=>e=.returned (.bool (!s.isSome))/\w=w':=by
 have HI:=q_ (aey h);generalize s.isSome=b at *;clear h;cases b
 ·go_enter func293,ntmps293;go_wp2_with (refine HI.o.mono ?_;rintro e w' ⟨rfl,rfl⟩);go_ret;exact⟨rfl,rfl⟩
 ·go_enter func293,ntmps293;go_wp2_with (refine HI.o.mono ?_;rintro e w' ⟨rfl,rfl⟩);go_ret;exact⟨rfl,rfl⟩
theorem acs {Q:Nat->Prop} {w:World} {a:Nat} {l:List UInt8} (n:Nat) (h:RdI Q w a (some l)) (h1:1<=n) (h8:n<=8) (hn:n<=l.length) :
 Calls prog 75 #[.pointer (some ⟨a,0,none⟩),.int .i64 n] w λe w'=>e=.returned (.int .u64 (jg (l.take n):Int))/\RdI Q w' a (some (l.drop n))/\qi (λk=>k≠a) w w':=by
 have HN:=q_ (awn n h om hn);have hl:(l.take n).length=n:=by rw[l8];omega
 generalize l.take n=T at *;have HL:=q_ hl;have b1:¬(n:Int)<1:=by omega
 have b2:¬(n:Int) > 8:=by omega
 clear h hn hl;go_enter func75,ntmps75;go_wp2_with (refine HN.o.mono ?_;rintro e w' ⟨b,off,rfl,hf,hr,hk⟩;have HF:=q_ hf;have HR:=q_ (o3 hr hk);clear hf hr hk)
 go_loopg [5,18] n (λg s5 s18 wr=>∃k:Nat,k<=n/\n-k<=g/\s18=.int .i64 k/\s5=.int .u64 (jg (T.take k):Int)/\wr=w')
 case atStart=>exact⟨0,b0d _,by omega,rfl,rfl,rfl⟩
 case round=>
  obtain⟨k,hk,hg,rfl,rfl,rfl⟩:=hrel
  by_cases hlt:k<n
  ·have hkT:k<T.length:=by rw[HL.o];exact hlt
   obtain⟨b',o',e1,-,hc⟩:=HF.o k (bV (T[k]'hkT)) (v9 hkT);injection e1 with e1
   injection e1 with e1 e2
   subst e1 e2;have i1:(k:Int)<n:=by omega
   have i2:(0:Int) <=(k:Int):=o5 _;have HO:=q_ (bmn T k hkT (by rw[HL.o];exact h8));unfold bV at hc;generalize T[k]=x at *;go_wp2_with fail
   go_roundg (n-(k+1))
   case measure=>omega
   case rel=>exact⟨k+1,by omega,by omega,by go_num,congrArg (Value.int .u64) HO.o,rfl⟩
  ·obtain rfl:k=n:=by omega
   go_wp2_with fail;go_ret;refine⟨?_,HR.o⟩;rw[b1h (by rw[HL.o];exact a8 _)];rfl
theorem bgi {Q:Nat->Prop} {w:World} {a:Nat} {s:Option (List UInt8)} (n:Nat) (h:RdI Q w a s) (h1:1<=n) (h8:n<=8) (hs:∀l,s=some l->l.length<n) :
 Calls prog 75 #[.pointer (some ⟨a,0,none⟩),.int .i64 n] w λe w'=>e=.returned (.int .u64 0)/\RdI Q w' a none/\qi (λk=>k≠a) w w':=by
 have HN:Q_ (Calls prog 93 #[.pointer (some ⟨a,0,none⟩),.int .i64 n] w λe w'=>e=.returned (.slice none 0 0)/\RdI Q w' a none/\qi (λk=>k≠a) w w'):=by
  cases s with
  | none=>
   refine(awm n h).mono ?_;rintro e w' ⟨rfl,rfl⟩;exact⟨rfl,h,qi.refl _ _⟩
  | some l=>exact a1b n h (.inr (by have:=hs l rfl;omega))
 have b1:¬(n:Int)<1:=by omega
 have b2:¬(n:Int) > 8:=by omega
 clear h hs;go_enter func75,ntmps75;go_wp2_with (refine HN.o.mono ?_;rintro e w' ⟨rfl,hr,hk⟩;have HR:=q_ (o3 hr hk);clear hr hk)
 go_loopg [5,18] 0 (λg s5 s18 wr=>s18=.int .i64 0/\s5=.int .u64 0/\wr=w')
 case atStart=>exact⟨rfl,rfl,rfl⟩
 case round=>
  obtain⟨rfl,rfl,rfl⟩:=hrel;go_wp2_with fail;go_ret;exact⟨rfl,HR.o⟩
theorem bbt {Q:Nat->Prop} {w:World} {a:Nat} {l:List UInt8} (n:Nat) (h:RdI Q w a (some l)) (h1:1<=n) (h8:n<=8) (hn:n<=l.length) :
 Calls prog 200 #[.pointer (some ⟨a,0,none⟩),.int .i64 n] w λe w'=>e=.returned (.int .i64 (a9g n (jg (l.take n))))/\RdI Q w' a (some (l.drop n))/\qi (λk=>k≠a) w w':=by
 have HN:=q_ (acs n h h1 h8 hn);have hu:jg (l.take n)<256^n:=by have:=aio (l.take n);rwa [l8,b1m hn]at this
 have HS:=q_ (a7k n _ h1 h8 hu);generalize jg (l.take n)=u at *;have b1:¬(n:Int)<1:=by omega
 have b2:¬(n:Int) > 8:=by omega
 clear h hu hn;go_enter func200,ntmps200;go_wp2_with (refine HN.o.mono ?_;rintro e w' ⟨rfl,hr,hk⟩;have HR:=q_ (o3 hr hk);clear hr hk);go_ret;refine⟨?_,HR.o⟩;have e:=HS.o;rw[b49]at e;exact congrArg (λx=>Ending.returned (.int .i64 x)) e
theorem zw (n:Int) (w:World):Calls prog 197 #[.int .i64 n] w λe w'=>e=.returned (.bool (decide (1<=n) && decide (n<=8)))/\w=w':=by
 by_cases h1:1<=n
 ·by_cases h2:n<=8
  ·go_enter func197,ntmps197;go_wp2;go_ret;exact⟨by simp[h1,h2],rfl⟩
  ·have h2':8<n:=by omega
   go_enter func197,ntmps197;go_wp2;go_ret;exact⟨by simp;omega,rfl⟩
 ·have h1':n<1:=by omega
  go_enter func197,ntmps197;go_wp2;go_ret;exact⟨by simp;omega,rfl⟩
def ab0 (f:Fld):Value:=.agg #[.int .i64 f.sz,.bool f.sg,.int .i64 f.lo,.int .i64 f.hi]
theorem qm {fn:Func} {p:Tmp} {ty:TypeId} (h:fn.results=#[.cell p ty]) (tmps:Array Value) (P:Program) (w:World) :
 (results fn tmps).run P w=((asAddr (tmps.getD p undef)).run P w).andThen λa w₁=>(loadVar ty a).run P w₁:=by
 simp only[results,h];simp[Result.andThen]
theorem j8 {W:World} {b:Nat} {f:Fld} (h:Blk W b (az6 f)):(loadVar 270 ⟨b,0,none⟩).run prog W=.ok (ab0 f) W:=
 t9 (P:=prog) W b 0 270 (az6 f) _ h.rg underlying270 rfl kr
theorem ky (w:World) (C:Array Value) (C':Array Value) (t t':TypeId):Blk ((w.alloc (.cells C t)).alloc (.cells C' t')) w.1.size C.toList/\Below w.1.size w ((w.alloc (.cells C t)).alloc (.cells C' t')):=
 ⟨(Blk.newL (qg w C t) rfl).on (qa _ _),qb (qa _ _) (qa _ _)⟩
def yl (f:Fld) (w:World) (e:Ending) (w':World):Prop:=e=.returned (ab0 f)/\Below w.1.size w w'
theorem afv (w:World):Calls prog 122 #[.int .i64 1,.bool false] w (yl ⟨1,false,0,255⟩ w):=by
 have HF:=λW=>q_ (zw 1 W)
 go_enter func122,ntmps122;go_wp2_with (refine(HF _).o.mono ?_;rintro e w' ⟨rfl,rfl⟩);have H2:=ky w #[.int .i64 1,.bool false,.int .i64 0,.int .i64 255] #[.int .i64 1,.bool false,.int .i64 0,.int .i64 255] 270 270;have HLD:=q_ (j8 (f:=⟨1,false,0,255⟩) H2.1);refine b9 (v:=ab0 ⟨1,false,0,255⟩) (by rw[qm rfl];simp[asAddr,Result.andThen,HLD.o]) rfl ⟨rfl,H2.2⟩
theorem bcp (w:World):Calls prog 122 #[.int .i64 1,.bool true] w (yl ⟨1,true,(-128),127⟩ w):=by
 have HF:=λW=>q_ (zw 1 W)
 have hx:bits BinOp.xor IntKind.i64 (-1) 127=-128:=by decide
 go_enter func122,ntmps122;go_wp2_with (refine(HF _).o.mono ?_;rintro e w' ⟨rfl,rfl⟩);have H2:=ky w #[.int .i64 1,.bool true,.int .i64 (-128),.int .i64 127] #[.int .i64 1,.bool true,.int .i64 (-128),.int .i64 127] 270 270;have HLD:=q_ (j8 (f:=⟨1,true,(-128),127⟩) H2.1);refine b9 (v:=ab0 ⟨1,true,(-128),127⟩) (by rw[qm rfl];simp[asAddr,Result.andThen,HLD.o]) rfl ⟨rfl,H2.2⟩
theorem amv (w:World):Calls prog 122 #[.int .i64 2,.bool false] w (yl ⟨2,false,0,65535⟩ w):=by
 have HF:=λW=>q_ (zw 2 W)
 go_enter func122,ntmps122;go_wp2_with (refine(HF _).o.mono ?_;rintro e w' ⟨rfl,rfl⟩);have H2:=ky w #[.int .i64 2,.bool false,.int .i64 0,.int .i64 65535] #[.int .i64 2,.bool false,.int .i64 0,.int .i64 65535] 270 270;have HLD:=q_ (j8 (f:=⟨2,false,0,65535⟩) H2.1);refine b9 (v:=ab0 ⟨2,false,0,65535⟩) (by rw[qm rfl];simp[asAddr,Result.andThen,HLD.o]) rfl ⟨rfl,H2.2⟩
theorem aur (w:World):Calls prog 122 #[.int .i64 2,.bool true] w (yl ⟨2,true,(-32768),32767⟩ w):=by
 have HF:=λW=>q_ (zw 2 W)
 have hx:bits BinOp.xor IntKind.i64 (-1) 32767=-32768:=by decide
 go_enter func122,ntmps122;go_wp2_with (refine(HF _).o.mono ?_;rintro e w' ⟨rfl,rfl⟩);have H2:=ky w #[.int .i64 2,.bool true,.int .i64 (-32768),.int .i64 32767] #[.int .i64 2,.bool true,.int .i64 (-32768),.int .i64 32767] 270 270;have HLD:=q_ (j8 (f:=⟨2,true,(-32768),32767⟩) H2.1);refine b9 (v:=ab0 ⟨2,true,(-32768),32767⟩) (by rw[qm rfl];simp[asAddr,Result.andThen,HLD.o]) rfl ⟨rfl,H2.2⟩
theorem bcq (w:World):Calls prog 122 #[.int .i64 3,.bool false] w (yl ⟨3,false,0,16777215⟩ w):=by
 have HF:=λW=>q_ (zw 3 W)
 go_enter func122,ntmps122;go_wp2_with (refine(HF _).o.mono ?_;rintro e w' ⟨rfl,rfl⟩);have H2:=ky w #[.int .i64 3,.bool false,.int .i64 0,.int .i64 16777215] #[.int .i64 3,.bool false,.int .i64 0,.int .i64 16777215] 270 270;have HLD:=q_ (j8 (f:=⟨3,false,0,16777215⟩) H2.1);refine b9 (v:=ab0 ⟨3,false,0,16777215⟩) (by rw[qm rfl];simp[asAddr,Result.andThen,HLD.o]) rfl ⟨rfl,H2.2⟩
theorem bcr (w:World):Calls prog 122 #[.int .i64 3,.bool true] w (yl ⟨3,true,(-8388608),8388607⟩ w):=by
 have HF:=λW=>q_ (zw 3 W)
 have hx:bits BinOp.xor IntKind.i64 (-1) 8388607=-8388608:=by decide
 go_enter func122,ntmps122;go_wp2_with (refine(HF _).o.mono ?_;rintro e w' ⟨rfl,rfl⟩);have H2:=ky w #[.int .i64 3,.bool true,.int .i64 (-8388608),.int .i64 8388607] #[.int .i64 3,.bool true,.int .i64 (-8388608),.int .i64 8388607] 270 270;have HLD:=q_ (j8 (f:=⟨3,true,(-8388608),8388607⟩) H2.1);refine b9 (v:=ab0 ⟨3,true,(-8388608),8388607⟩) (by rw[qm rfl];simp[asAddr,Result.andThen,HLD.o]) rfl ⟨rfl,H2.2⟩
theorem amw (w:World):Calls prog 122 #[.int .i64 4,.bool false] w (yl ⟨4,false,0,4294967295⟩ w):=by
 have HF:=λW=>q_ (zw 4 W)
 go_enter func122,ntmps122;go_wp2_with (refine(HF _).o.mono ?_;rintro e w' ⟨rfl,rfl⟩);have H2:=ky w #[.int .i64 4,.bool false,.int .i64 0,.int .i64 4294967295] #[.int .i64 4,.bool false,.int .i64 0,.int .i64 4294967295] 270 270;have HLD:=q_ (j8 (f:=⟨4,false,0,4294967295⟩) H2.1);refine b9 (v:=ab0 ⟨4,false,0,4294967295⟩) (by rw[qm rfl];simp[asAddr,Result.andThen,HLD.o]) rfl ⟨rfl,H2.2⟩
theorem aus (w:World):Calls prog 122 #[.int .i64 4,.bool true] w (yl ⟨4,true,(-2147483648),2147483647⟩ w):=by
 have HF:=λW=>q_ (zw 4 W)
 have hx:bits BinOp.xor IntKind.i64 (-1) 2147483647=-2147483648:=by decide
 go_enter func122,ntmps122;go_wp2_with (refine(HF _).o.mono ?_;rintro e w' ⟨rfl,rfl⟩);have H2:=ky w #[.int .i64 4,.bool true,.int .i64 (-2147483648),.int .i64 2147483647] #[.int .i64 4,.bool true,.int .i64 (-2147483648),.int .i64 2147483647] 270 270;have HLD:=q_ (j8 (f:=⟨4,true,(-2147483648),2147483647⟩) H2.1);refine b9 (v:=ab0 ⟨4,true,(-2147483648),2147483647⟩) (by rw[qm rfl];simp[asAddr,Result.andThen,HLD.o]) rfl ⟨rfl,H2.2⟩
theorem bcs (w:World):Calls prog 122 #[.int .i64 5,.bool false] w (yl ⟨5,false,0,1099511627775⟩ w):=by
 have HF:=λW=>q_ (zw 5 W)
 go_enter func122,ntmps122;go_wp2_with (refine(HF _).o.mono ?_;rintro e w' ⟨rfl,rfl⟩);have H2:=ky w #[.int .i64 5,.bool false,.int .i64 0,.int .i64 1099511627775] #[.int .i64 5,.bool false,.int .i64 0,.int .i64 1099511627775] 270 270;have HLD:=q_ (j8 (f:=⟨5,false,0,1099511627775⟩) H2.1);refine b9 (v:=ab0 ⟨5,false,0,1099511627775⟩) (by rw[qm rfl];simp[asAddr,Result.andThen,HLD.o]) rfl ⟨rfl,H2.2⟩
theorem bct (w:World):Calls prog 122 #[.int .i64 5,.bool true] w (yl ⟨5,true,(-549755813888),549755813887⟩ w):=by
 have HF:=λW=>q_ (zw 5 W)
 have hx:bits BinOp.xor IntKind.i64 (-1) 549755813887=-549755813888:=by decide
 go_enter func122,ntmps122;go_wp2_with (refine(HF _).o.mono ?_;rintro e w' ⟨rfl,rfl⟩);have H2:=ky w #[.int .i64 5,.bool true,.int .i64 (-549755813888),.int .i64 549755813887] #[.int .i64 5,.bool true,.int .i64 (-549755813888),.int .i64 549755813887] 270 270;have HLD:=q_ (j8 (f:=⟨5,true,(-549755813888),549755813887⟩) H2.1);refine b9 (v:=ab0 ⟨5,true,(-549755813888),549755813887⟩) (by rw[qm rfl];simp[asAddr,Result.andThen,HLD.o]) rfl ⟨rfl,H2.2⟩
theorem bcu (w:World):Calls prog 122 #[.int .i64 6,.bool false] w (yl ⟨6,false,0,281474976710655⟩ w):=by
 have HF:=λW=>q_ (zw 6 W)
 go_enter func122,ntmps122;go_wp2_with (refine(HF _).o.mono ?_;rintro e w' ⟨rfl,rfl⟩);have H2:=ky w #[.int .i64 6,.bool false,.int .i64 0,.int .i64 281474976710655] #[.int .i64 6,.bool false,.int .i64 0,.int .i64 281474976710655] 270 270;have HLD:=q_ (j8 (f:=⟨6,false,0,281474976710655⟩) H2.1);refine b9 (v:=ab0 ⟨6,false,0,281474976710655⟩) (by rw[qm rfl];simp[asAddr,Result.andThen,HLD.o]) rfl ⟨rfl,H2.2⟩
theorem bcv (w:World):Calls prog 122 #[.int .i64 6,.bool true] w (yl ⟨6,true,(-140737488355328),140737488355327⟩ w):=by
 have HF:=λW=>q_ (zw 6 W)
 have hx:bits BinOp.xor IntKind.i64 (-1) 140737488355327=-140737488355328:=by decide
 go_enter func122,ntmps122;go_wp2_with (refine(HF _).o.mono ?_;rintro e w' ⟨rfl,rfl⟩);have H2:=ky w #[.int .i64 6,.bool true,.int .i64 (-140737488355328),.int .i64 140737488355327] #[.int .i64 6,.bool true,.int .i64 (-140737488355328),.int .i64 140737488355327] 270 270;have HLD:=q_ (j8 (f:=⟨6,true,(-140737488355328),140737488355327⟩) H2.1);refine b9 (v:=ab0 ⟨6,true,(-140737488355328),140737488355327⟩) (by rw[qm rfl];simp[asAddr,Result.andThen,HLD.o]) rfl ⟨rfl,H2.2⟩
theorem bcw (w:World):Calls prog 122 #[.int .i64 7,.bool false] w (yl ⟨7,false,0,72057594037927935⟩ w):=by
 have HF:=λW=>q_ (zw 7 W)
 go_enter func122,ntmps122;go_wp2_with (refine(HF _).o.mono ?_;rintro e w' ⟨rfl,rfl⟩);have H2:=ky w #[.int .i64 7,.bool false,.int .i64 0,.int .i64 72057594037927935] #[.int .i64 7,.bool false,.int .i64 0,.int .i64 72057594037927935] 270 270;have HLD:=q_ (j8 (f:=⟨7,false,0,72057594037927935⟩) H2.1);refine b9 (v:=ab0 ⟨7,false,0,72057594037927935⟩) (by rw[qm rfl];simp[asAddr,Result.andThen,HLD.o]) rfl ⟨rfl,H2.2⟩
theorem bcx (w:World):Calls prog 122 #[.int .i64 7,.bool true] w (yl ⟨7,true,(-36028797018963968),36028797018963967⟩ w):=by
 have HF:=λW=>q_ (zw 7 W)
 have hx:bits BinOp.xor IntKind.i64 (-1) 36028797018963967=-36028797018963968:=by decide
 go_enter func122,ntmps122;go_wp2_with (refine(HF _).o.mono ?_;rintro e w' ⟨rfl,rfl⟩);have H2:=ky w #[.int .i64 7,.bool true,.int .i64 (-36028797018963968),.int .i64 36028797018963967] #[.int .i64 7,.bool true,.int .i64 (-36028797018963968),.int .i64 36028797018963967] 270 270;have HLD:=q_ (j8 (f:=⟨7,true,(-36028797018963968),36028797018963967⟩) H2.1);refine b9 (v:=ab0 ⟨7,true,(-36028797018963968),36028797018963967⟩) (by rw[qm rfl];simp[asAddr,Result.andThen,HLD.o]) rfl ⟨rfl,H2.2⟩
theorem bcy (w:World):Calls prog 122 #[.int .i64 8,.bool false] w (yl ⟨8,false,0,9223372036854775807⟩ w):=by
 have HF:=λW=>q_ (zw 8 W)
 go_enter func122,ntmps122;go_wp2_with (refine(HF _).o.mono ?_;rintro e w' ⟨rfl,rfl⟩);have H2:=ky w #[.int .i64 8,.bool false,.int .i64 0,.int .i64 9223372036854775807] #[.int .i64 8,.bool false,.int .i64 0,.int .i64 9223372036854775807] 270 270;have HLD:=q_ (j8 (f:=⟨8,false,0,9223372036854775807⟩) H2.1);refine b9 (v:=ab0 ⟨8,false,0,9223372036854775807⟩) (by rw[qm rfl];simp[asAddr,Result.andThen,HLD.o]) rfl ⟨rfl,H2.2⟩
theorem bcz (w:World):Calls prog 122 #[.int .i64 8,.bool true] w (yl ⟨8,true,(-9223372036854775808),9223372036854775807⟩ w):=by
 have HF:=λW=>q_ (zw 8 W)
 have hx:bits BinOp.xor IntKind.i64 (-1) 9223372036854775807=-9223372036854775808:=by decide
 go_enter func122,ntmps122;go_wp2_with (refine(HF _).o.mono ?_;rintro e w' ⟨rfl,rfl⟩);have H2:=ky w #[.int .i64 8,.bool true,.int .i64 (-9223372036854775808),.int .i64 9223372036854775807] #[.int .i64 8,.bool true,.int .i64 (-9223372036854775808),.int .i64 9223372036854775807] 270 270;have HLD:=q_ (j8 (f:=⟨8,true,(-9223372036854775808),9223372036854775807⟩) H2.1);refine b9 (v:=ab0 ⟨8,true,(-9223372036854775808),9223372036854775807⟩) (by rw[qm rfl];simp[asAddr,Result.andThen,HLD.o]) rfl ⟨rfl,H2.2⟩
theorem arf (n:Nat) (s:Bool) (w:World) (h1:1<=n) (h8:n<=8):Calls prog 122 #[.int .i64 n,.bool s] w (yl (af9 n s) w):=by
 have:n=1\/n=2\/n=3\/n=4\/n=5\/n=6\/n=7\/n=8:=by omega
 rcases this with rfl|rfl|rfl|rfl|rfl|rfl|rfl|rfl<;>cases s
 ·exact afv w
 ·exact bcp w
 ·exact amv w
 ·exact aur w
 ·exact bcq w
 ·exact bcr w
 ·exact amw w
 ·exact aus w
 ·exact bcs w
 ·exact bct w
 ·exact bcu w
 ·exact bcv w
 ·exact bcw w
 ·exact bcx w
 ·exact bcy w
 ·exact bcz w
theorem jy (n:Nat) (hi:Int) (w:World) (h1:1<=n) (h8:n<=8):Calls prog 261 #[.int .i64 n,.int .i64 hi] w (yl ⟨n,false,0,hi⟩ w):=by
 have e:(decide (1 <=(n:Int)) && decide ((n:Int)<=8))=true:=by simp;omega
 have HF:=λW=>q_ (e▸zw (n:Int) W)
 clear e;go_enter func261,ntmps261;go_wp2_with (refine(HF _).o.mono ?_;rintro e w' ⟨rfl,rfl⟩);have HLD:=q_ (j8 (f:=⟨n,false,0,hi⟩) (Blk.newL (qg w #[.int .i64 n,.bool false,.int .i64 0,.int .i64 hi] 270) rfl));refine b9 (v:=ab0 ⟨n,false,0,hi⟩) (by rw[qm rfl];simp[asAddr,Result.andThen,HLD.o]) rfl ⟨rfl,qa _ _⟩
theorem aej (n:Nat) (lo hi:Int) (w:World) (h1:1<=n) (h8:n<=8):Calls prog 260 #[.int .i64 n,.int .i64 lo,.int .i64 hi] w (yl ⟨n,true,lo,hi⟩ w):=by
 have e:(decide (1 <=(n:Int)) && decide ((n:Int)<=8))=true:=by simp;omega
 have HF:=λW=>q_ (e▸zw (n:Int) W)
 clear e;go_enter func260,ntmps260;go_wp2_with (refine(HF _).o.mono ?_;rintro e w' ⟨rfl,rfl⟩);have HLD:=q_ (j8 (f:=⟨n,true,lo,hi⟩) (Blk.newL (qg w #[.int .i64 n,.bool true,.int .i64 lo,.int .i64 hi] 270) rfl));refine b9 (v:=ab0 ⟨n,true,lo,hi⟩) (by rw[qm rfl];simp[asAddr,Result.andThen,HLD.o]) rfl ⟨rfl,qa _ _⟩
theorem amx (f:Fld) (n:Int) (w:World):Calls prog 126 #[ab0 f,.int .i64 n] w λe w'=>e=.returned (.bool (decide (f.lo<=n/\n<=f.hi)))/\Below w.1.size w w':=by
 obtain⟨z,s,lo,hi⟩:=f;unfold ab0;dsimp only
 by_cases h1:lo<=n
 ·by_cases h2:n<=hi
  ·go_enter func126,ntmps126;go_wp2;go_ret;exact⟨by simp[h1,h2],qa _ _⟩
  ·have h2':hi<n:=by omega
   go_enter func126,ntmps126;go_wp2;go_ret;exact⟨by simp[h2],qa _ _⟩
 ·have h1':n<lo:=by omega
  go_enter func126,ntmps126;go_wp2;go_ret;exact⟨by simp;omega,qa _ _⟩
theorem axz (f:Fld) (h:aaa f=true) (w:World):Calls prog 198 #[ab0 f] w λe w'=>e=.returned (.bool true)/\Below w.1.size w w':=by
 have h':1<=f.sz/\f.sz<=8/\f.lo<=f.hi /\(bbn f.sz f.sg<=f.lo/\f.lo<=bbm f.sz f.sg)/\bbn f.sz f.sg<=f.hi/\f.hi<=bbm f.sz f.sg:=by simp[aaa]at h;omega
 have HA:=λW=>q_ (arf f.sz f.sg W h'.1 h'.2.1)
 have HF:∀W,Q_ (Calls prog 197 #[.int .i64 f.sz] W λe w'=>e=.returned (.bool true)/\W=w'):=λW=>q_ (by
  have:=zw (f.sz:Int) W
  rwa [show (decide (1 <=(f.sz:Int)) && decide ((f.sz:Int)<=8))=true from by simp;omega]at this)
 have HL:∀W,Q_ (Calls prog 126 #[ab0 (af9 f.sz f.sg),.int .i64 f.lo] W λe w'=>e=.returned (.bool true)/\Below W.1.size W w'):=λW=>q_ (by
  have:=amx (af9 f.sz f.sg) f.lo W
  rwa [t8 (show (af9 f.sz f.sg).lo<=f.lo/\f.lo <=(af9 f.sz f.sg).hi from h'.2.2.2.1)]at this)
 have HH:∀W,Q_ (Calls prog 126 #[ab0 (af9 f.sz f.sg),.int .i64 f.hi] W λe w'=>e=.returned (.bool true)/\Below W.1.size W w'):=λW=>q_ (by
  have:=amx (af9 f.sz f.sg) f.hi W
  rwa [t8 (show (af9 f.sz f.sg).lo<=f.hi/\f.hi <=(af9 f.sz f.sg).hi from h'.2.2.2.2)]at this)
 have h3:=h'.2.2.1;unfold yl at HA;generalize af9 f.sz f.sg=g at *;obtain⟨z,s,lo,hi⟩:=f;obtain⟨z',s',lo',hi'⟩:=g;unfold ab0 at *;dsimp only at *;clear h h';go_enter func198,ntmps198;go_wp2_with fail;refine(HA _).o.mono ?_;rintro e w1 ⟨rfl,hb⟩;have HK:Q_ (Blk w1 w.1.size (az6 ⟨z,s,lo,hi⟩)):=q_ ((Blk.newL (qg w _ _) rfl).on hb);have HB:Q_ (Below w.1.size w w1):=q_ (qb (qa _ _) hb);have a0:=HK.o.cell 0 (v:=.int .i64 z) rfl;have a2:=HK.o.cell 2 (v:=.int .i64 lo) rfl;have a3:=HK.o.cell 3 (v:=.int .i64 hi) rfl;have hlt:=HK.o.lt;clear hb;go_wp2_with fail;refine((HF _).o).mono ?_;rintro e w2 ⟨rfl,rfl⟩;go_wp2_with fail;refine((HL _).o).mono ?_;rintro e w2 ⟨rfl,hb⟩;have HK2:Q_ (Blk w2 w.1.size (az6 ⟨z,s,lo,hi⟩)):=q_ ((HK.o.on (qa _ _)).on hb);have HG2:Q_ (Blk w2 w1.1.size (az6 ⟨z',s',lo',hi'⟩)):=q_ ((Blk.newL (qg w1 _ _) rfl).on hb);have HB2:Q_ (Below w.1.size w w2):=q_ (qb (qb HB.o (qa _ _)) hb)
 have a3':=HK2.o.cell 3 (v:=.int .i64 hi) rfl;have g0:=HG2.o.cell 0 (v:=.int .i64 z') rfl;have g1:=HG2.o.cell 1 (v:=.bool s') rfl;have g2:=HG2.o.cell 2 (v:=.int .i64 lo') rfl;have g3:=HG2.o.cell 3 (v:=.int .i64 hi') rfl;clear hb a0 a2 a3;go_wp2_with fail;refine((HH _).o).mono ?_;rintro e w3 ⟨rfl,hb⟩;have HB3:=q_ (qb HB2.o hb);clear hb;go_wp2_with fail;go_ret;exact⟨rfl,HB3.o⟩
def akm (w:World) (A:Option Addr) (l:List Fld):Prop:=qf (λb=>b<w.1.size) w A (acp l)
theorem akm.on {w w':World} {A:Option Addr} {l:List Fld} (h:akm w A l) (hb:Below w.1.size w w'):akm w' A l:=(qf.below h hb λ_ q=>q).less λb q=>i9 q hb.size
theorem akm.cells {w:World} {A:Option Addr} {l:List Fld} (h:akm w A l) (k:Nat) (hk:k<l.length):∃b off,A=some ⟨b,off,none⟩/\b<w.1.size/\w.cell? ⟨b,off+k*4,none⟩=some (.int .i64 (l[k].sz:Int))/\w.cell? ⟨b,off+k*4+1,none⟩=some (.bool l[k].sg)/\w.cell? ⟨b,off+k*4+2,none⟩=some (.int .i64 l[k].lo)/\w.cell? ⟨b,off+k*4+3,none⟩=some (.int .i64 l[k].hi):=by
 have e:=λj hj=>aij az6 4 (λ_=>rfl) l k hk j hj
 obtain⟨b,off,hA,hb,h0⟩:=h _ _ (e 0 om);refine⟨b,off,hA,hb,h0,?_,?_,?_⟩
 ·obtain⟨b',off',hA',-,h1⟩:=h _ _ (e 1 om);rw[hA]at hA';injection hA' with hA';injection hA' with q1 q2;subst q1 q2
  exact h1
 ·obtain⟨b',off',hA',-,h1⟩:=h _ _ (e 2 om);rw[hA]at hA';injection hA' with hA';injection hA' with q1 q2;subst q1 q2
  exact h1
 ·obtain⟨b',off',hA',-,h1⟩:=h _ _ (e 3 om);rw[hA]at hA';injection hA' with hA';injection hA' with q1 q2;subst q1 q2
  exact h1
theorem ajl (A:Option Addr) (c:Nat) (l:List Fld) (w:World) (h:akm w A l) (hr:l.all aaa=true) (hn:l.length<=1100000) :
 Calls prog 124 #[.slice A l.length c] w λe w'=>e=.returned (.bool true)/\Below w.1.size w w':=by
 have HI:=q_ h;have HR:=q_ hr;generalize hL:l.length=n at *;have HL:=q_ hL;clear h hr hL;go_enter func124,ntmps124;go_wp2_with fail
 go_loopg [7] n (λg s7 wr=>∃k:Nat,k<=n/\n-k<=g/\s7=.int .i64 k/\Q_ (Below w.1.size w wr))
 case atStart=>exact⟨0,b0d _,by omega,rfl,n9 _ _⟩
 case round=>
  obtain⟨k,hk,hg,rfl,HB⟩:=hrel
  by_cases hlt:k<n
  ·have hkl:k<l.length:=by rw[HL.o];exact hlt
   have HY:=λW=>q_ (axz l[k] (b2c.1 HR.o _ (b1j hkl)) W)
   obtain⟨b,off,rfl,-,x0,x1,x2,x3⟩:=(HI.o.on HB.o).cells k hkl;generalize l[k]=f at *;obtain⟨z,s,lo,hi⟩:=f;unfold ab0 at HY;dsimp only at *;have i1:(k:Int)<n:=by omega
   have i2:(0:Int) <=(k:Int):=o5 _;go_wp2_with fail;refine((HY _).o).mono ?_;rintro e w2 ⟨rfl,hb⟩;have HB2:Q_ (Below w.1.size w w2):=q_ (qb (qb HB.o (qa _ _)) hb);clear hb x0 x1 x2 x3;go_wp2_with fail
   go_roundg (n-(k+1))
   case measure=>omega
   case rel=>exact⟨k+1,by omega,by omega,by go_num,HB2⟩
  ·obtain rfl:k=n:=by omega
   go_wp2_with fail;go_ret;exact⟨rfl,HB.o⟩
theorem am6 (l:List Fld) (k:Nat) (h:k<l.length):yj (l.take (k+1))=yj (l.take k)+l[k].sz:=by
 rw[o9 h];unfold yj;rw[b17,b3s];simp only[b2y,b5c,List.sum_cons,List.sum_nil,b3d]
theorem a9n (l:List Fld) (hr:l.all aaa=true):yj l<=8*l.length:=by
 induction l with
 | nil=>simp[yj]
 | cons f l ih=>
  rw[List.all_cons,b0g]at hr;have h1:=ih hr.2;have h2:f.sz<=8:=by have:=hr.1;simp[aaa]at this;omega
  simp only[yj,b2y,List.sum_cons,n6]at *;omega
theorem ben {α:Type} {p:α->Bool} {l:List α} (h:l.all p=true) (k:Nat):(l.take k).all p=true:=by
 rw[b2c]at *;exact λx hx=>h x (b3g hx)
theorem ax1 (A:Option Addr) (c:Nat) (l:List Fld) (w:World) (h:akm w A l) (hr:l.all aaa=true) (hn:l.length<=1100000) :
 Calls prog 123 #[.slice A l.length c] w λe w'=>e=.returned (.int .i64 (yj l:Int))/\Below w.1.size w w':=by
 have HY:=q_ (ajl A c l w h hr hn);have HI:=q_ h;have HR:=q_ hr;have HE:Q_ (yj (l.take l.length)=yj l):=q_ (by rw[b0v]);generalize hL:l.length=n at *;have HL:=q_ hL;clear h hr hL;go_enter func123,ntmps123;go_wp2_with fail;refine(HY.o).mono ?_;rintro e w1 ⟨rfl,hb⟩;have HB1:=q_ hb;clear hb;go_wp2_with fail
 go_loopg [3,11] n (λg s3 s11 wr=>∃k:Nat,k<=n/\n-k<=g/\s11=.int .i64 k/\s3=.int .i64 (yj (l.take k):Int)/\Q_ (Below w.1.size w wr))
 case atStart=>exact⟨0,b0d _,by omega,rfl,rfl,HB1⟩
 case round=>
  obtain⟨k,hk,hg,rfl,rfl,HB⟩:=hrel
  by_cases hlt:k<n
  ·have hkl:k<l.length:=by rw[HL.o];exact hlt
   have hw:=a9n _ (ben HR.o (k+1));have hlen:(l.take (k+1)).length<=1100000:=by rw[l8];omega
   rw[am6 l k hkl]at hw;have HW:=q_ (am6 l k hkl);obtain⟨b,off,rfl,-,x0,x1,x2,x3⟩:=(HI.o.on HB.o).cells k hkl;generalize l[k]=f at *;obtain⟨z,s,lo,hi⟩:=f;dsimp only at *;generalize hv:yj (l.take k)=v at *;have i1:(k:Int)<n:=by omega
   have i2:(0:Int) <=(k:Int):=o5 _;have i3:IntKind.i64.wrap ((v:Int) +(z:Int))=(v:Int) +(z:Int):=b05 _ om;clear hv;go_wp2_with fail;have HB2:Q_ (Below w.1.size w (wr.alloc (.cells #[.int .i64 (z:Int),.bool s,.int .i64 lo,.int .i64 hi] 270))):=q_ (qb HB.o (qa _ _))
   go_roundg (n-(k+1))
   case measure=>omega
   case rel=>exact⟨k+1,by omega,by omega,by go_num,by rw[HW.o];go_num,HB2⟩
  ·obtain rfl:k=n:=by omega
   go_wp2_with fail;go_ret;exact⟨by rw[HE.o];rfl,HB.o⟩
theorem ayk {w:World} {b:Nat} {l:List UInt8} (n:Int) (h:v7 w b l) (h0:n<=0\/l=[]) (hn:-9223372036854775808<=n/\n<=9223372036854775807) :
 Calls prog 57 #[.pointer (some ⟨b,0,none⟩),.int .i64 n] w λe w'=>e=.returned (.int .i64 0)/\w=w':=by
 have H:=q_ h;have hm:l.length<=1024:=by obtain⟨D,a,h⟩:=h;exact h.max
 clear h;have h0':n<=0\/l.length=0:=h0.imp id λq=>by rw[q];rfl
 clear h0;generalize hN:l.length=N at *;have hk:max 0 (min n (N:Int))=0:=by omega
 have HL:∀W,Q_ (v7 W b l->Calls prog 72 #[.pointer (some ⟨b,0,none⟩)] W λe w'=>e=.returned (.int .i64 N)/\W=w'):=λW=>q_ (λq=>by have:=ag1 q;rwa [hN]at this)
 clear hN h0';go_enter func57,ntmps57;go_wp2_with (refine((HL _).o H.o).mono ?_;rintro e w' ⟨rfl,rfl⟩);go_ret;exact⟨rfl,rfl⟩
theorem ayl {w:World} {b:Nat} {l:List UInt8} (n:Int) (k:Nat) (h:v7 w b l) (hk:max 0 (min n (l.length:Int))=(k:Int)) (h0:0<k) (hn:-9223372036854775808<=n/\n<=9223372036854775807) :
 Calls prog 57 #[.pointer (some ⟨b,0,none⟩),.int .i64 n] w λe w'=>e=.returned (.int .i64 k)/\v7 w' b (l.drop k)/\qi (λj=>j≠b) w w':=by
 have H:=q_ h;obtain⟨D,a,h⟩:=h;have hm:=h.max;have ha:=h.at_;have HW:=q_ h;have c2:=h.blk.cell 1025 (alz h.len _ _);have c3:=h.blk.cell 1026 (aki h.len _ _);have z2:=h.blk.fz 1025;have z3:=h.blk.fz 1026;have hkl:k<=l.length:=by omega
 have HF:Q_ (v7 ((w.setCell ⟨b,1025,none⟩ (.int .i64 (((a:Int) +(k:Int))%1024))).setCell ⟨b,1026,none⟩ (.int .i64 ((l.length:Int)-(k:Int)))) b (l.drop k)/\qi (λj=>j≠b) w ((w.setCell ⟨b,1025,none⟩ (.int .i64 (((a:Int) +(k:Int))%1024))).setCell ⟨b,1026,none⟩ (.int .i64 ((l.length:Int)-(k:Int))))):=q_ (by
  have s1:qq w (w.setCell ⟨b,1025,none⟩ (.int .i64 (((a:Int) +(k:Int))%1024))) b 1025 [.int .i64 (((a:Int) +(k:Int))%1024)]:=zm (h.blk.there 1025 1 (by rw[aib h.len];omega));have b1:=boq h.blk s1 h.len;have s2:qq _ ((w.setCell ⟨b,1025,none⟩ (.int .i64 (((a:Int) +(k:Int))%1024))).setCell ⟨b,1026,none⟩ (.int .i64 ((l.length:Int)-(k:Int)))) b 1026 [.int .i64 ((l.length:Int)-(k:Int))]:=zm (b1.there 1026 1 (by rw[aib h.len];omega));have b2:=bl2 b1 s2 h.len;refine⟨⟨D,(a+k)%1024,?_,h.len,by omega,by rw[n5];omega,bcb h.ring hkl⟩,((qi.refl _ w).stored s1 (λq=>q rfl)).stored s2 (λq=>q rfl)⟩;have e1:(((a+k)%1024:Nat):Int)=((a:Int) +(k:Int))%1024:=by omega
  have e2:(((l.drop k).length:Nat):Int)=(l.length:Int)-(k:Int):=by rw[n5];omega
  rw[e1,e2];exact b2)
 clear h;generalize hN:l.length=N at *;have HL:∀W,Q_ (v7 W b l->Calls prog 72 #[.pointer (some ⟨b,0,none⟩)] W λe w'=>e=.returned (.int .i64 N)/\W=w'):=λW=>q_ (λq=>by have:=ag1 q;rwa [hN]at this)
 clear hN;have hb:¬(k:Int)<=0:=by omega
 have hb1:(0:Int)<(k:Int):=by omega
 go_enter func57,ntmps57;go_wp2_with (refine((HL _).o H.o).mono ?_;rintro e w' ⟨rfl,rfl⟩);go_ret;exact⟨rfl,HF.o.1,HF.o.2⟩
theorem aia {w:World} {b:Nat} {l:List UInt8} (n:Int) (h:v7 w b l) (hn:-9223372036854775808<=n/\n<=9223372036854775807) :
 Calls prog 57 #[.pointer (some ⟨b,0,none⟩),.int .i64 n] w λe w'=>e=.returned (.int .i64 ((max 0 (min n (l.length:Int))).toNat:Nat))/\v7 w' b (l.drop (max 0 (min n (l.length:Int))).toNat)/\qi (λj=>j≠b) w w':=by
 by_cases h0:n<=0\/l=[]
 ·have e:(max 0 (min n (l.length:Int))).toNat=0:=by
   rcases h0 with q|rfl
   ·omega
   ·rw[b0z];omega
  rw[e];refine(ayk n h h0 hn).mono ?_;rintro e w' ⟨rfl,rfl⟩;exact⟨rfl,h,qi.refl _ _⟩
 ·have hl:0<l.length:=b2q.2 (λq=>h0 (.inr q));exact ayl n _ h om om hn
section
variable {P : Program} {ops : Array Oper} {rest : List Oper} {o : Oper} {a : Act} {w : World} {Q : Exit -> Act -> World -> Prop}
theorem aae (hgd:o.guard=none) (l c:Operand) (t e:TypeId) (ho:o.op=.makeSlice t l c) (i:TypeInfo) (z:Value) (ht:P.underlying t=some (.slice e)) (hi:P.info? e=some i) (hz:i.zero=some z)
 (kl kc:IntKind) (n:Nat) (hl:a.eval l=.int kl (n:Int)) (hc:a.eval c=.int kc (n:Int)) (hb:i.bytes*n<=281474976710656) (h63:(n:Int)<=9223372036854775807)
 (h:∀W,ayy w W (madeCells z.cells (n*i.size))->wpList P ops Q rest (a.put o.dst (.slice (some ⟨w.1.size,0,none⟩) n n)) W):wpList P ops Q (o::rest) a w:=
 aba hgd (W:=w.alloc (.cells (madeCells z.cells (n*i.size)) e)) (by
  have hb':((i.bytes*n:Nat):Int)<=281474976710656:=by omega
  rw[b2a]at hb';have hr:=run_make (P:=P) w t e i z ht hi hz kl kc (n:Int) (n:Int) om (Int.le_refl _) hb' h63;unfold execOp;rw[ho];simp only[hl,hc];simp only[b1v]at hr;rw[b1k,hr];rfl) (h _ (qg w _ e))
end
theorem bhw:(prog.info? 5).map (λi=>(i.zero,i.size,i.bytes))=some (some (.int .u8 0),1,1):=by kernel_rfl
theorem bim (n:Nat):(madeCells (Value.int .u8 0).cells (n*1)).toList=bsV (List.replicate n 0):=by
 rw[b4j];show (madeCells #[Value.int .u8 0] n).toList=_;rw[toList_madeCells_one];unfold bsV;rw[List.map_replicate];rfl
theorem aku {w W:World} {b o:Nat} {D xs:List UInt8} (h:Blk w b (bsV D)) (hs:qq w W b o (bsV xs)) (hf:o+xs.length<=D.length):Blk W b (bsV (xv D o xs)):=by
 have e1:bsV D=bsV (D.take o)++bsV ((D.drop o).take xs.length)++bsV (D.drop (o+xs.length)):=by
  have:D=D.take o ++((D.drop o).take xs.length++D.drop (o+xs.length)):=by
   rw[<- b10,b0t,b0t]
  conv=>lhs;rw[this]
  rw[adi,adi,b0s]
 have e2:bsV (xv D o xs)=bsV (D.take o)++bsV xs++bsV (D.drop (o+xs.length)):=by
  unfold xv;rw[adi,adi]
 rw[e1]at h;rw[e2];refine h.put hs ?_ ?_
 ·rw[xm,l8];omega
 ·rw[xm,xm,l8,n5];omega
theorem aro {α:Type} (D:List α) (o:Nat):xv D o []=D:=by
 unfold xv;rw[b0p,b0z,b3d,b0t]
theorem Blk.flat {w:World} {b:Nat} {L:List Value} (h:Blk w b L) {Q:Nat->Prop} (hq:Q b):qf Q w (some ⟨b,0,none⟩) L:=λj u hu=>⟨b,0,rfl,hq,h.cell (0+j) (by rw[b0j];exact hu)⟩
theorem a3u {w:World} {b:Nat} {D:List UInt8} {a n:Int} (h:Blk w b (abr D a n)) {Q:Nat->Prop} (hq:Q b):qf Q w (some ⟨b,1,none⟩) (bsV D):=λj u hu=>⟨b,1,rfl,hq,h.cell (1+j) (by
 have hj:j<(bsV D).length:=by
  rcases b08 j (bsV D).length with q|q
  ·exact q
  ·rw[b0c q]at hu;cases hu
 unfold abr;rw[b0e (by rw[e9];simp only[n6,b0z];omega),b0a sm];rw[show 1+j-[Value.bool true].length=j from by simp];exact hu)⟩
theorem an3 {w:World} {b:Nat} {l:List UInt8} (h:v7 w b l) :
 Calls prog 40 #[.pointer (some ⟨b,0,none⟩)] w λe w'=>e=.returned (.slice (some ⟨w.1.size,0,none⟩) l.length l.length)/\Blk w' w.1.size (bsV l)/\v7 w' b l/\Below w.1.size w w'/\w'.1.size=w.1.size+1:=by
 have H:=q_ h;obtain⟨D,a,h⟩:=h;have hm:=h.max;have ha:=h.at_;have HW:=q_ h;have c2:=h.blk.cell 1025 (alz h.len _ _);have c3:=h.blk.cell 1026 (aki h.len _ _);have hblt:=h.blk.lt;clear h;generalize hN:l.length=N at *;have HN:=q_ hN;clear hN;obtain⟨i0,hi,hz0,hz1,hz2⟩:=info_parts bhw;have HI:=q_ hi;have HZ:=q_ (o3 hz0 (o3 hz1 hz2));clear hi hz0 hz1 hz2;go_enter func40,ntmps40
 go_upto_region 4 with(first
  | (refine(ag2 H.o).mono ?_;rintro e w' ⟨rfl,rfl⟩)
  | (refine aae rfl _ _ 22 5 rfl i0 _ underlying22 HI.o HZ.o.1 .i64 .i64 N rfl rfl (by rw[HZ.o.2.2];omega) om ?_;intro W1 hG;have HG:=q_ hG;clear hG))
 have e0:(madeCells (Value.int .u8 0).cells (N*i0.size)).toList=bsV (List.replicate N 0):=by rw[HZ.o.2.1];exact bim N
 have HS1:=q_ HG.o.sz;have HK1:Q_ (Blk W1 w.1.size (bsV (List.replicate N 0))):=q_ (Blk.newL HG.o e0);have HW1:Q_ (avh W1 b D a l):=q_ (HW.o.on HG.o.bel);have HB1:=q_ HG.o.bel;clear HG HI HZ e0 c2 c3;have c2:=HW1.o.blk.cell 1025 (alz HW1.o.len _ _);obtain⟨K1,hK1,k1,k2⟩:∃K1,K1=min N (1024-a)/\K1<=N/\a+K1<=1024:=⟨_,rfl,by omega,by omega⟩;have hm1:Nat.min (1024-a) N=K1:=by show min (1024-a) N=K1;omega
 have HD1:Q_ (Blk W1.drew b (abr D a (l.length:Int))):=q_ HW1.o.blk.drew
 obtain⟨W2,q1,q2⟩:=abx (P:=prog) W1.drew 22 22 3 5 underlying22 als w.1.size 0 N N (some ⟨b,1+a,none⟩) (1024-a) (1024-a) (bsV (D.drop a)) (by
  have:=(a3u HD1.o (Q:=λ_=>True) trivial).part a
  rwa [abs]at this) (by rw[xm,n5,HW1.o.len]) (agc _) (by rw[hm1];exact(HK1.o.drew.there 0 K1 (by rw[xm,b1r];omega)))
 rw[hm1,ys]at q2;rw[hm1]at q1;have q2':qq W1 W2 w.1.size 0 (bsV ((D.drop a).take K1)):=⟨q2.os,q2.tape,q2.output,q2.sz,q2.far,q2.fz,q2.rg,q2.apart,q2.there⟩;have hlx:((D.drop a).take K1).length=K1:=by rw[l8,n5,HW1.o.len];omega
 have HK2:Q_ (Blk W2 w.1.size (bsV (xv (List.replicate N 0) 0 ((D.drop a).take K1)))):=q_ (aku HK1.o q2' (by rw[hlx,b1r];omega));have HW2:Q_ (avh W2 b D a l):=q_ (HW1.o.kept (q2'.far b om) (b1e q2'.sz.symm));have HB2:Q_ (Below w.1.size w W2):=q_ (HB1.o.trans (q2'.below (a8 _)));have HS2:Q_ (W2.1.size=w.1.size+1):=q_ (q2'.sz.trans HS1.o);have hls:(xv (List.replicate N (0:UInt8)) 0 ((D.drop a).take K1)).length=N:=by rw[agu (by rw[hlx,b1r];omega),b1r]
 have HR:=q_ q1;have HLX:=q_ hlx;have HLS:=q_ hls;have HKE:=q_ hK1;clear q1 q2 q2' hlx hls hm1 hK1 HD1;have f1:¬(1024:Nat)=a:=by omega
 have f2:¬(1024:Int)=(a:Int):=by omega
 have f3:(a:Int)<=1024:=by omega
 go_cut [4] (λs wx=>s=.int .i64 K1/\wx=W2)
 case first=>
  go_region_law ((refine kx kr (.tmp 13) (.tmp 21) 22 22 kr (.slice (some ⟨w.1.size,0,none⟩) N N) (.slice (some ⟨b,1+a,none⟩) (1024-a) (1024-a)) (goInt K1) kr kr HR.o ?_))
  go_wp2_with fail
  go_meet
  exact⟨rfl,rfl⟩
 case rest=>
 obtain⟨rfl,rfl⟩:=hcut;clear HR
 have HPE:Q_ (xv (xv (List.replicate N (0:UInt8)) 0 ((D.drop a).take K1)) K1 (D.take (N-K1))=l):=q_ (by
  have e:=bcc (K1:=K1) HW.o.ring HW.o.len ha (by rw[HN.o];exact hm) (by rw[HN.o];exact HKE.o);rw[HN.o]at e;have l2:(D.take (N-K1)).length=N-K1:=by rw[l8,HW.o.len];omega
  have e1:xv (List.replicate N (0:UInt8)) 0 ((D.drop a).take K1)=(D.drop a).take K1++List.replicate (N-K1) 0:=by
   unfold xv;rw[b2b,b0y,b0j,HLX.o,List.drop_replicate]
  conv=>rhs;rw[<- e]
  rw[e1];unfold xv;rw[b5e HLX.o,l2,show K1 +(N-K1)=N from by omega,show (((D.drop a).take K1++List.replicate (N-K1) (0:UInt8)).drop N)=[]from b19 (by rw[e9,HLX.o,b1r];omega),b0p])
 have hm2:Nat.min 1024 (N-K1)=N-K1:=by show min 1024 (N-K1)=N-K1;omega
 have HR2:Q_ (∀o,o=K1 \/(o=0/\N-K1=0)->∃W,(Builtin.copy_ #[22,22] 3 #[.slice (some ⟨w.1.size,o,none⟩) (N-K1) (N-K1),.slice (some ⟨b,1,none⟩) 1024 1024]).run prog wc.drew=.ok (goInt (N-K1:Nat)) W/\Blk W w.1.size (bsV l)/\v7 W b l/\Below w.1.size w W/\W.1.size=w.1.size+1):=q_ λo ho=>by
  have hth:wc.drew.there w.1.size o (Nat.min 1024 (N-K1)):=by
   rw[hm2];rcases ho with rfl|⟨rfl,h0⟩
   ·exact HK2.o.drew.there o (N-o) (by rw[xm,HLS.o];omega)
   ·rw[h0];intro j hj;exact absurd hj (b04 _)
  obtain⟨W,q1,q2⟩:=abx (P:=prog) wc.drew 22 22 3 5 underlying22 als w.1.size o (N-K1) (N-K1) (some ⟨b,1,none⟩) 1024 1024 (bsV D) (a3u HW2.o.blk.drew (Q:=λ_=>True) trivial) (by rw[xm,HW2.o.len]) (agc _) hth;rw[hm2,ys]at q2;rw[hm2]at q1;have q2':qq wc W w.1.size o (bsV (D.take (N-K1))):=⟨q2.os,q2.tape,q2.output,q2.sz,q2.far,q2.fz,q2.rg,q2.apart,q2.there⟩;refine⟨W,q1,?_,⟨D,a,HW2.o.kept (q2'.far b om) (b1e q2'.sz.symm)⟩,HB2.o.trans (q2'.below (a8 _)),q2'.sz.trans HS2.o⟩;have l2:(D.take (N-K1)).length=N-K1:=by rw[l8,HW.o.len];omega
  rcases ho with rfl|⟨rfl,h0⟩
  ·have:=aku HK2.o q2' (by rw[l2,HLS.o];omega)
   rwa [HPE.o]at this
  ·have e2:=HPE.o;rw[h0,b2b,aro]at e2;rw[h0,b2b]at q2';have:=aku (xs:=[]) HK2.o q2' (by rw[b0z];omega);rw[aro,e2]at this;exact this
 have HNN:=q_ (o3 HN.o hm2);clear hm2;go_upto_region 5 with fail
 go_cut [] (λwx=>Q_ (Blk wx w.1.size (bsV l)/\v7 wx b l/\Below w.1.size w wx/\wx.1.size=w.1.size+1))
 case first=>
  by_cases hcK:N=K1
  ·subst hcK;obtain⟨W,q1,q2⟩:=HR2.o 0 (.inr ⟨rfl,b23 _⟩);rw[b23]at q1;have HR:=q_ q1;have HQ:=q_ q2;clear q1 q2 HR2
   go_region_law ((refine kx kr (.tmp 25) (.tmp 29) 22 22 kr (.slice (some ⟨w.1.size,0,none⟩) 0 0) (.slice (some ⟨b,1,none⟩) 1024 1024) (goInt (0:Nat)) kr kr HR.o ?_))
   go_wp2_with fail
   go_meet
   exact HQ
  ·obtain⟨W,q1,q2⟩:=HR2.o K1 (.inl rfl);have HR:=q_ q1;have HQ:=q_ q2;clear q1 q2 HR2;have hcK':¬(N:Int)=K1:=by omega
   have f6:(K1:Int)<=N:=by omega
   go_region_law ((refine kx kr (.tmp 25) (.tmp 29) 22 22 kr (.slice (some ⟨w.1.size,K1,none⟩) (N-K1) (N-K1)) (.slice (some ⟨b,1,none⟩) 1024 1024) (goInt (N-K1:Nat)) kr kr HR.o ?_))
   go_wp2_with fail
   go_meet
   exact HQ
 case rest=>
 clear HR2 HW2 HK2 HB2 HS2;go_wp2_with fail;go_ret;exact⟨rfl,hcut.o.1,hcut.o.2.1,hcut.o.2.2.1,hcut.o.2.2.2⟩
theorem ag5 {P:Program} {w:World} {a:Addr} {m:Mode} (f:_) (x:_) (y:_):(store a (.func f x y) m).run P w=stored P w a (.func f x y) m:=run_store P w a _ m rfl
theorem axy (w:World):Calls prog 201 #[] w λe w'=>e=.returned (.agg #[.func (Fn.func 216) #[] #[],.func (Fn.func 218) #[] #[]])/\Below w.1.size w w':=by
 have hsf:=@ag5 prog;go_enter func201,ntmps201;go_wp2_with fail;exact b9 (v:=.agg #[.func (Fn.func 216) #[] #[],.func (Fn.func 218) #[] #[]]) (by simp[results,results201,go_sem]) rfl ⟨rfl,qa _ _⟩
theorem bku {w1:World} {b:Nat} {x y:Value} (hk:Blk w1 b [x,y]) (p q:Value):(loadVar 277 ⟨b,0,none⟩).run prog ((w1.setCell ⟨b,0,none⟩ p).setCell ⟨b,1,none⟩ q)=.ok (.agg #[p,q]) ((w1.setCell ⟨b,0,none⟩ p).setCell ⟨b,1,none⟩ q)/\Below b w1 ((w1.setCell ⟨b,0,none⟩ p).setCell ⟨b,1,none⟩ q):=by
 have hs:qq w1 ((w1.setCell ⟨b,0,none⟩ p).setCell ⟨b,1,none⟩ q) b 0 [p,q]:=qo (cs:=[p,q]) (hk.there 0 2 (a8 _));exact⟨t9 (P:=prog) _ b 0 277 [p,q] _ (hk.all hs rfl).rg underlying277 rfl kr,hs.below (a8 _)⟩
def am1 (s:Bool):Nat:=if s then 200 else 218
def bl0 (s:Bool):Nat:=if s then 199 else 216
theorem bc0 (f:Fld) (w:World):Calls prog 125 #[ab0 f] w λe w'=>e=.returned (.agg #[.func (Fn.func (bl0 f.sg)) #[] #[],.func (Fn.func (am1 f.sg)) #[] #[]])/\Below w.1.size w w':=by
 have hsf:=@ag5 prog;have HP:=λW=>q_ (axy W)
 obtain⟨z,s,lo,hi⟩:=f;unfold ab0;dsimp only;cases s
 ·show Calls prog _ _ w λe w'=>e=.returned (.agg #[.func (Fn.func 216) #[] #[],.func (Fn.func 218) #[] #[]])/\Below w.1.size w w'
  go_enter func125,ntmps125;go_wp2_with fail;refine(HP _).o.mono ?_;rintro e w1 ⟨rfl,hb⟩;have HB1:Q_ (Below w.1.size w w1):=q_ (qb (qb (qa _ _) (qa _ _)) hb)
  have HK1:Q_ (Blk w1 (w.1.size+1) [.nilFunc,.nilFunc]):=q_ (by
   have:=(Blk.newL (qg (w.alloc (.cells #[.int .i64 (z:Int),.bool false,.int .i64 lo,.int .i64 hi] 270)) #[.nilFunc,.nilFunc] 277) rfl).on hb
   simpa using this)
  have c0:=HK1.o.cell 0 (v:=.nilFunc) rfl;have c1:=HK1.o.cell 1 (v:=.nilFunc) rfl;have z0:=HK1.o.fz 0;have z1:=HK1.o.fz 1;clear hb;go_wp2_with fail;have HRS:=bku HK1.o (.func (Fn.func 216) #[] #[]) (.func (Fn.func 218) #[] #[]);exact b9 (v:=.agg #[.func (Fn.func 216) #[] #[],.func (Fn.func 218) #[] #[]]) (by rw[qm rfl];simp[asAddr,Result.andThen];exact HRS.1) rfl ⟨rfl,HB1.o.trans (HRS.2.mono (by have:=HB1.o.size;omega))⟩
 ·show Calls prog _ _ w λe w'=>e=.returned (.agg #[.func (Fn.func 199) #[] #[],.func (Fn.func 200) #[] #[]])/\Below w.1.size w w'
  go_enter func125,ntmps125;go_wp2_with fail;exact b9 (v:=.agg #[.func (Fn.func 199) #[] #[],.func (Fn.func 200) #[] #[]]) (by simp[results,results125,go_sem]) rfl ⟨rfl,qb (qa _ _) (qa _ _)⟩
theorem ax0 {Q:Nat->Prop} {w:World} {a:Nat} {l:List UInt8} (n:Nat) (h:RdI Q w a (some l)) (h1:1<=n) (h8:n<=8) (hn:n<=l.length) :
 Calls prog 218 #[.pointer (some ⟨a,0,none⟩),.int .i64 n] w λe w'=>e=.returned (.int .i64 (IntKind.i64.wrap (jg (l.take n):Int)))/\RdI Q w' a (some (l.drop n))/\qi (λk=>k≠a) w w':=by
 have HN:=q_ (acs n h h1 h8 hn);generalize jg (l.take n)=u at *;rw[b49];clear h hn;go_enter func218,ntmps218;go_wp2_with (refine HN.o.mono ?_;rintro e w' ⟨rfl,hr,hk⟩;have HR:=q_ (o3 hr hk);clear hr hk);go_ret;exact⟨rfl,HR.o⟩
theorem as5 {Q:Nat->Prop} {w:World} {a:Nat} {l:List UInt8} (f:Fld) (h:RdI Q w a (some l)) (h1:1<=f.sz) (h8:f.sz<=8) (hn:f.sz<=l.length) :
 Calls prog (am1 f.sg) #[.pointer (some ⟨a,0,none⟩),.int .i64 f.sz] w λe w'=>e=.returned (.int .i64 (aoj f (l.take f.sz)))/\RdI Q w' a (some (l.drop f.sz))/\qi (λk=>k≠a) w w':=by
 unfold am1 aoj;cases f.sg
 ·exact ax0 f.sz h h1 h8 hn
 ·exact bbt f.sz h h1 h8 hn
theorem bev (s:Bool) (x y:Value) (W:World):(callFunc (am1 s) #[x,y]).run prog W=.ok (.enter (am1 s) #[x,y]) W:=by
 cases s
 ·kernel_rfl
 ·kernel_rfl
theorem bay (F G:Nat) (W:World):(Instr.field 277 (.agg #[.func (Fn.func F) #[] #[],.func (Fn.func G) #[] #[]]) 1).run prog W=.ok (.func (Fn.func G) #[] #[]) W:=by kernel_rfl
theorem akf:∀(l:List Fld) (f:Fld) (b:List UInt8),aar (l++[f]) b=(aar l b).bind λv=>if f.lo<=aoj f ((b.drop (yj l)).take f.sz)/\aoj f ((b.drop (yj l)).take f.sz)<=f.hi then some (v++[aoj f ((b.drop (yj l)).take f.sz)])else none
 | [],f,b=>by simp[aar,yj]
 | g::l,f,b=>by
  simp only[b0u,aar]
  split
  ·rw[akf l f (b.drop g.sz)]
   have e:(b.drop g.sz).drop (yj l)=b.drop (yj (g::l)):=by
    rw[b10];simp[yj]
   rw[e];generalize (b.drop (yj (g::l))).take f.sz=t;cases aar l (b.drop g.sz)with
   | none=>rfl
   | some v=>
    simp only[b26,Option.bind_some]
    split<;>simp
  ·rfl
theorem ax5 (l m:List Fld) (b:List UInt8) (h:aar l b=none):aar (l++m) b=none:=by
 induction m generalizing l with
 | nil=>rwa [b0p]
 | cons f m ih=>
  rw[show l++f::m=(l++[f])++m from by simp];exact ih _ (by rw[akf,h];rfl)
theorem bh5 (l m:List Fld):yj (l++m)=yj l+yj m:=by unfold yj;rw[b17,b3s]
def vc (x:Int×List Int) (w:World) (e:Ending) (w':World):Prop:=
 ∃A c,e=.returned (.tuple #[.slice A x.2.length c,.int .i64 x.1])/\qf (λb=>w.1.size<=b/\b<w'.1.size) w' A (qt x.2)/\Below w.1.size w w'
theorem a2s:(prog.info? 2).map (λi=>(i.zero,i.size,i.bytes))=some (some (.int .i64 0),1,8):=by kernel_rfl
theorem kq {P:Program} {t:TypeId} {z:Option Value} {s b:Nat} (h:(P.info? t).map (λi=>(i.zero,i.size,i.bytes))=some (z,s,b)):∃i,P.info? t=some i/\i.zero=z/\i.size=s/\i.bytes=b:=by
 cases hi:P.info? t with
 | none=>rw[hi]at h;cases h
 | some i=>rw[hi]at h;simp at h;exact⟨i,rfl,h.1,h.2.1,h.2.2⟩
theorem a87 (n:Nat):(madeCells (Value.int .i64 0).cells (n*1)).toList=qt (List.replicate n 0):=by
 rw[b4j];show (madeCells #[Value.int .i64 0] n).toList=_;rw[toList_madeCells_one];unfold qt;rw[List.map_replicate]
theorem bc9 {W:World} {g n k:Nat} {u:List Int} (h:Blk W g (qt (u++List.replicate (n-k) 0))) (hu:u.length=k) (hk:(k:Int)<n) (x:Int) :
 W.cell? ⟨g,k,none⟩=some (.int .i64 0)/\Blk (W.setCell ⟨g,k,none⟩ (.int .i64 x)) g (qt ((u++[x])++List.replicate (n-(k+1)) 0))/\∀b,b≠g ->(W.setCell ⟨g,k,none⟩ (.int .i64 x)).heap[b]?=W.heap[b]?:=by
 have e:qt (u++List.replicate (n-k) 0)=qt u++[Value.int .i64 0]++qt (List.replicate (n-(k+1)) 0):=by
  rw[show n-k=(n-(k+1))+1 from by omega,b4k];simp[qt]
 rw[e]at h
 have hc:W.cell? ⟨g,k,none⟩=some (.int .i64 0):=h.cell k (by
  rw[b0s,b0a (by rw[jn,hu];exact a8 _),jn,hu,b23];rfl)
 have s1:qq W (W.setCell ⟨g,k,none⟩ (.int .i64 x)) g k [.int .i64 x]:=zm (h.there k 1 (by simp[jn,hu]));refine⟨hc,?_,λb hb=>s1.far b hb⟩;have:=h.put s1 (by rw[jn,hu]) rfl;have e2:qt ((u++[x])++List.replicate (n-(k+1)) 0)=qt u++[Value.int .i64 x]++qt (List.replicate (n-(k+1)) 0):=by simp[qt]
 rw[e2];exact this
theorem anv {Q0:Nat->Prop} {w:World} (A X:Option Addr) (c d:Nat) (fs:List Fld) (b:List UInt8) (hF:akm w A fs) (hr:fs.all aaa=true) (hn:fs.length<=1000) (hB:qf Q0 w X (bsV b)) (hm:b.length<=1100000) :
 Calls prog 91 #[.slice A fs.length c,.slice X b.length d] w (vc (xl fs b) w):=by
 have HW:∀W,Below w.1.size w W->Q_ (Calls prog 123 #[.slice A fs.length c] W λe w'=>e=.returned (.int .i64 (yj fs:Int))/\Below W.1.size W w'):=λW hW=>q_ (ax1 A c fs W (hF.on hW) hr om)
 have HR:∀W,Below w.1.size w W->Q_ (Calls prog 124 #[.slice A fs.length c] W λe w'=>e=.returned (.bool true)/\Below W.1.size W w'):=λW hW=>q_ (ajl A c fs W (hF.on hW) hr om)
 have hwl:=a9n fs hr;rcases Nat.lt_trichotomy b.length (yj fs)with hlt|heq|hgt
 ·have e0:xl fs b=(2,[]):=by unfold xl;rw[if_pos hlt]
  rw[e0];generalize yj fs=v at *;generalize fs.length=n at *;generalize b.length=m at *;have g1:(m:Int)<v:=by omega
  clear hB hF e0;go_enter func91,ntmps91;go_wp2_with fail;refine((HW _ (n9 _ _)).o).mono ?_;rintro e w1 ⟨rfl,hb⟩;have HB1:=q_ hb;clear hb;go_wp2_with fail;refine((HR _ HB1.o).o).mono ?_;rintro e w2 ⟨rfl,hb⟩;have HB2:=q_ (qb HB1.o hb);clear hb;go_wp2_with fail
  go_ret2
  exact⟨none,0,rfl,qf.nil _ _ _,HB2.o⟩
 ·have e0:xl fs b=match aar fs b with|some v=>(0,v)|none=>(5,[]):=by unfold xl;rw[if_neg om,if_neg om];all_goals rfl
  rw[e0];clear e0;obtain⟨res,hres⟩:∃r,r=(match aar fs b with|some v=>((0:Int),v)|none=>(5,[])):=⟨_,rfl⟩;rw[<- hres];have HRES:=q_ hres;clear hres;have HNW:∀W,Below w.1.size w W->Q_ (Calls prog 74 #[.slice X b.length d] W λe w'=>∃g,e=.returned (.pointer (some ⟨g,0,none⟩))/\RdI (λb=>W.1.size<=b/\b<w'.1.size) w' g (some b)/\Below W.1.size W w'):=λW hW=>q_ (aj5 X b d W (hB.lt.below hW (λb q=>q.2)) hm)
  have HFI:=q_ hF;have HRI:=q_ hr;have HEQ:=q_ heq;have HWL:Q_ (b.length=yj fs):=q_ heq;clear hB hF hr;generalize hL:fs.length=n at *;generalize hM:b.length=m at *;have HL:=q_ hL;have HM:=q_ hM;obtain⟨i0,hi,hz0,hz1,hz2⟩:=kq a2s;have HI:=q_ hi;have HZ:=q_ (o3 hz0 (o3 hz1 hz2));clear hi hz0 hz1 hz2 hL hM;generalize hv:yj fs=v at *;have HV:=q_ hv;subst heq;clear hv;go_enter func91,ntmps91;go_wp2_with fail;refine((HW _ (n9 _ _)).o).mono ?_;rintro e w1 ⟨rfl,hb⟩;have HB1:=q_ hb;clear hb;go_wp2_with fail;refine((HR _ HB1.o).o).mono ?_;rintro e w2 ⟨rfl,hb⟩;have HB2:=q_ (qb HB1.o hb);clear hb HB1;go_wp2_with fail;refine((HNW _ HB2.o).o).mono ?_;rintro e w3 ⟨a,rfl,hrd,hb⟩;have HRD:=q_ hrd;have HB3:=q_ (qb HB2.o hb);have HQ:=q_ HB2.o.size;clear hrd hb HR HW HNW;go_wp2_with (refine aae rfl _ _ 49 2 rfl i0 _ underlying49 HI.o HZ.o.1 .i64 .i64 n rfl rfl (by rw[HZ.o.2.2];omega) om ?_;intro W1 hG;have HG:=q_ hG;clear hG)
  have e0:(madeCells (Value.int .i64 0).cells (n*i0.size)).toList=qt (List.replicate n 0):=by rw[HZ.o.2.1];exact a87 n
  have HK1:Q_ (Blk W1 w3.1.size (qt ([]++List.replicate (n-0) 0))):=q_ (Blk.newL HG.o (by rw[b0y,b5f];exact e0));have HBX:Q_ (Below w.1.size w W1):=q_ (qb HB3.o HG.o.bel)
  have HRX:Q_ (RdI (λb=>w2.1.size<=b/\b<w3.1.size) W1 a (some (b.drop (yj (fs.take 0))))):=q_ (by
   rw[b2b];exact HRD.o.below HG.o.bel (λ_ q=>q.2))
  have ha:=HRD.o.1.2;have HA1:=q_ HRD.o.1;clear HG HI HZ e0 HRD HB3;generalize w3.1.size=g at *
  go_loopg [34] n (λh s34 wr=>∃k:Nat,k<=n/\n-k<=h/\s34=.int .i64 k/\Q_ (∃u,aar (fs.take k) b=some u/\u.length=k/\Blk wr g (qt (u++List.replicate (n-k) 0)))/\Q_ (RdI (λb=>w2.1.size<=b/\b<g) wr a (some (b.drop (yj (fs.take k)))))/\Q_ (Below w.1.size w wr))
  case atStart=>exact⟨0,b0d _,by omega,rfl,⟨[],rfl,rfl,HK1.o⟩,HRX,HBX⟩
  case round=>
   obtain⟨k,hk,hg,rfl,HK,HRK,HB⟩:=hrel
   by_cases hlt:k<n
   ·have hkl:k<fs.length:=by rw[HL.o];exact hlt
    obtain⟨u,hu,hul,hkb⟩:=HK.o;have hright:=b2c.1 HRI.o _ (b1j hkl)
    have HSN:Q_ (aar (fs.take (k+1)) b=if(fs[k]).lo<=aoj fs[k] ((b.drop (yj (fs.take k))).take fs[k].sz)/\aoj fs[k] ((b.drop (yj (fs.take k))).take fs[k].sz)<=fs[k].hi then some (u++[aoj fs[k] ((b.drop (yj (fs.take k))).take fs[k].sz)])else none):=q_ (by
     rw[o9 hkl,akf,hu];rfl)
    have hwk:=am6 fs k hkl
    have hwm:yj (fs.take (k+1))<=yj fs:=by
     conv=>rhs;rw[<- b0t (k+1) fs]
     rw[bh5];omega
    have HPN:Q_ (aar (fs.take (k+1)) b=none->aar fs b=none):=q_ (λq=>by
     have:=ax5 (fs.take (k+1)) (fs.drop (k+1)) b q
     rwa [b0t]at this)
    have h18:1 <=(fs[k]).sz /\(fs[k]).sz<=8 /\(fs[k]).sz <=(b.drop (yj (fs.take k))).length:=by
     simp[aaa]at hright;rw[n5,HM.o];have:=HV.o;omega
    have HTK:=λW=>q_ (fun(q:RdI (λb=>w2.1.size<=b/\b<g) W a (some (b.drop (yj (fs.take k)))))=>as5 fs[k] q h18.1 h18.2.1 h18.2.2)
    have HDR:Q_ ((b.drop (yj (fs.take k))).drop fs[k].sz=b.drop (yj (fs.take (k+1)))):=q_ (by rw[b10,hwk]);have HOF:=λW=>q_ (bc0 fs[k] W)
    have HIN:=λx W=>q_ (amx fs[k] x W)
    obtain⟨fb,off,rfl,hfb,x0,x1,x2,x3⟩:=(HFI.o.on HB.o).cells k hkl;generalize (b.drop (yj (fs.take k)))=R at *;generalize fs[k]=f at *;generalize hvx:aoj f (R.take f.sz)=x at *;obtain⟨z,s,lo,hi⟩:=f;unfold ab0 at HOF HIN;dsimp only at *;have HCL:=λx y W=>bev s x y W
    generalize am1 s=G at *;generalize bl0 s=F at *;have HFW:=λW=>q_ (bay F G W)
    have i1:(k:Int)<n:=by omega
    have i2:(0:Int) <=(k:Int):=o5 _;have HUL:=q_ hul;have HU:=q_ hu;have HKB:=q_ hkb;clear hright hwk hwm hvx hul hu hkb h18;go_upto_region 13 with fail;have HF1:Q_ (Blk (wr.alloc (.cells #[.int .i64 (z:Int),.bool s,.int .i64 lo,.int .i64 hi] 270)) wr.1.size [.int .i64 (z:Int),.bool s,.int .i64 lo,.int .i64 hi]):=q_ (Blk.newL (qg _ _ _) rfl);have HB2:Q_ (Below w.1.size w (wr.alloc (.cells #[.int .i64 (z:Int),.bool s,.int .i64 lo,.int .i64 hi] 270))):=q_ (qb HB.o (qa _ _));have HK2:Q_ (Blk (wr.alloc (.cells #[.int .i64 (z:Int),.bool s,.int .i64 lo,.int .i64 hi] 270)) g (qt (u++List.replicate (n-k) 0))):=q_ (HKB.o.on (qa _ _));have HR2:Q_ (RdI (λb=>w2.1.size<=b/\b<g) (wr.alloc (.cells #[.int .i64 (z:Int),.bool s,.int .i64 lo,.int .i64 hi] 270)) a (some R)):=q_ (HRK.o.below (qa _ _) (λb q=>i9 q.2 (b2h HKB.o.lt)));have hga:g<wr.1.size:=HKB.o.lt
    clear x0 x1 x2 x3 HB HK HRK HKB;generalize wr.alloc (.cells #[.int .i64 (z:Int),.bool s,.int .i64 lo,.int .i64 hi] 270)=Wf at *;generalize wr.1.size=fbk at *
    try (apply b1q;intro K_ HK_)
    have HNE:Q_ (fbk<Wf.1.size/\fbk≠a/\fbk≠g/\a≠g/\a<Wf.1.size):=q_ (by have:=HF1.o.lt;omega);have HGL:=q_ HK2.o.lt;have HBIN:∃bb,Q_ (decide (lo<=x/\x<=hi)=bb)/\∀W,Q_ (Calls prog 126 #[.agg #[.int .i64 (z:Int),.bool s,.int .i64 lo,.int .i64 hi],.int .i64 x] W λe w'=>e=.returned (.bool bb)/\Below W.1.size W w'):=⟨_,rfl,λW=>HIN x W⟩;obtain⟨bb,HBB,HIX⟩:=HBIN;clear HIN;have hS0:qi (λk=>k<Wf.1.size/\k≠a/\k≠g) Wf Wf.drew:=(qi.refl _ _).drew;refine t6 (S:=λw'=>qi (λk=>k<Wf.1.size/\k≠a/\k≠g) Wf w') kr hS0 (λhHeld0=>?_);refine tkA 0 39 rfl ?_;go_frame;refine tkA 1 40 rfl ?_;go_frame;refine tkQ (i:=2) (oi:=⟨some 41,_,_,_,_,_⟩) (v:=_) rfl (o4 (by rfl) 270 _ rfl fbk 0 rfl [.int .i64 (z:Int),.bool s,.int .i64 lo,.int .i64 hi] _ (λw' hSw=>(aa6 HF1.o.rg (hSw.block fbk ⟨HNE.o.1,HNE.o.2.1,HNE.o.2.2.1⟩))) underlying270 rfl kr) ?_
    go_frame;refine tkA 5 44 rfl ?_;go_frame;refine tkA 6 45 rfl ?_;go_frame;refine tkQ (i:=7) (oi:=⟨some 46,_,_,_,_,_⟩) (v:=?_) rfl (Or.inl ⟨by rfl,?_⟩) ?_;rotate_left
    ·intro w' hSw;have q:w'.cell? ⟨fbk,0,none⟩=some (.int .i64 (z:Int)):=(hSw.cell ⟨HNE.o.1,HNE.o.2.1,HNE.o.2.2.1⟩).trans (HF1.o.cell 0 rfl);go_simp
     try with_reducible rfl
    try go_frame
    refine rdB 3 42 rfl λK hK=>?_
    go_step;refine(HOF _).o.mono ?_;rintro e w5 ⟨rfl,hb⟩;have HS5:Q_ (qi (λk=>k<Wf.1.size/\k≠a/\k≠g) Wf w5):=q_ (hHeld0.trans (qi.of_below hb (λk q=>q.1)));have HR5:=q_ (HR2.o.drew.below hb (λb q=>b1b q.2 HGL.o));have HK5:=q_ (HK2.o.drew.on hb);have HZ5:Q_ (Wf.1.size<=w5.1.size):=q_ hb.size;clear hb
    try go_frame
    refine hK.out _ _ (HS5.o) (λhHeld=>?_);clear hK K
    try go_frame
    refine tkQ (i:=4) (oi:=⟨some 43,_,_,_,_,_⟩) (v:=?_) rfl (Or.inl ⟨by rfl,?_⟩) ?_;rotate_left
    ·intro w' hSw;have q:=(HFW w').o;go_simp
     try with_reducible rfl
    try go_frame
    refine rdB 8 47 rfl λK hK=>?_
    go_step;refine((HTK _).o HR5.o).mono ?_;rintro e w6 ⟨rfl,hr,hk⟩;have HS6:Q_ (qi (λk=>k<Wf.1.size/\k≠a/\k≠g) Wf w6):=q_ (HS5.o.trans (hk.less (λk q=>q.2.1)));have HR6:=q_ hr;have HK6:=q_ (HK5.o.kept (hk.block g (λe=>HNE.o.2.2.2.1 e.symm)) hk.size);clear hr hk
    try go_frame
    refine hK.out _ _ (HS6.o) (λhHeld=>?_);clear hK K
    try go_frame
    refine tkA 9 48 rfl ?_;go_frame;have HST:=q_ (bc9 HK6.o HUL.o i1 x);have ck:=HST.o.1;have zk:=HK6.o.fz k;refine b1a (rs:=[10]) kr sm ?_;refine b0i (o:=⟨none,_,_,_,_,_⟩) rfl (λK hK=>?_) b01;rw[if_pos (by rfl)];go_step
    try go_frame
    have HS7:Q_ (qi (λk=>k<Wf.1.size/\k≠a/\k≠g) Wf (w6.setCell ⟨g,k,none⟩ (.int .i64 x))):=q_ (HS6.o.set (λq=>q.2.2 rfl) _ _);have HK7:=q_ HST.o.2.1;have HR7:=q_ (HR6.o.keep (w':=w6.setCell ⟨g,k,none⟩ (.int .i64 x)) (λb q=>HST.o.2.2 b (b09 q.2)) sm);refine hK.out _ _ HS7.o (λhHeld=>?_);clear hK K ck zk HK6 HR6 HK5 HR5 HST
    try go_frame
    refine b0m kr ?_ _
    try go_frame
    have HF7:Q_ (Blk (w6.setCell ⟨g,k,none⟩ (.int .i64 x)) fbk [.int .i64 (z:Int),.bool s,.int .i64 lo,.int .i64 hi]):=q_ (HF1.o.kept (HS7.o.block fbk ⟨HNE.o.1,HNE.o.2.1,HNE.o.2.2.1⟩) HS7.o.size);have HB7:Q_ (Below w.1.size w (w6.setCell ⟨g,k,none⟩ (.int .i64 x))):=q_ (HB2.o.trans (HS7.o.below (λj hj=>⟨i9 hj HB2.o.size,by have:=HA1.o.1;have:=HQ.o;omega,by have:=HA1.o;have:=HQ.o;omega⟩)))
    have HN7:Q_ ((w6.setCell ⟨g,k,none⟩ (.int .i64 x)).cell? ⟨g,k,none⟩=some (.int .i64 x)):=q_ (HK7.o.cell k (by
     have:(u++[x]++List.replicate (n-(k+1)) 0)[k]?=some x:=by
      rw[b0s,b0a (by rw[HUL.o];exact a8 _),HUL.o,b23];rfl
     unfold qt;rw[b0l,this];rfl))
    clear HS7 HS6 HS5 HB2 HF1 HK2 HR2 HZ5 hHeld hHeld0 hS0;generalize w6.setCell ⟨g,k,none⟩ (.int .i64 x)=W7 at *;go_upto_region 14 with fail
    try (apply b1q;intro K_ HK_)
    have hS0:Below W7.1.size W7 W7.drew:=(n9 _ _).drew;refine t6 (S:=λw'=>Below W7.1.size W7 w') kr hS0 (λhHeld0=>?_);refine tkQ (i:=0) (oi:=⟨some 49,_,_,_,_,_⟩) (v:=_) rfl (o4 (by rfl) 270 _ rfl fbk 0 rfl [.int .i64 (z:Int),.bool s,.int .i64 lo,.int .i64 hi] _ (λw' hSw=>(HF7.o.on hSw).rg) underlying270 rfl kr) ?_;go_frame;refine tkA 1 50 rfl ?_;go_frame;refine tkA 2 51 rfl ?_;go_frame;refine tkA 3 52 rfl ?_;go_frame;refine tkQ (i:=4) (oi:=⟨some 53,_,_,_,_,_⟩) (v:=?_) rfl (Or.inl ⟨by rfl,?_⟩) ?_;rotate_left
    ·intro w' hSw;have q:w'.cell? ⟨g,k,none⟩=some (.int .i64 x):=(hSw.cell HK7.o.lt).trans HN7.o;go_simp
     try with_reducible rfl
    try go_frame
    refine rdB 5 54 rfl λK hK=>?_
    go_step;refine(HIX _).o.mono ?_;rintro e w8 ⟨rfl,hb⟩;have HB8:Q_ (Below W7.1.size W7 w8):=q_ (hHeld0.trans (hb.mono hHeld0.size));clear hb
    try go_frame
    refine hK.out _ _ (HB8.o) (λhHeld=>?_);clear hK K
    try go_frame
    refine tkA 6 55 rfl ?_;go_frame;refine b0m kr ?_ _
    try go_frame
    have HB9:=q_ (HB7.o.trans (HB8.o.mono HB7.o.size));clear hHeld hHeld0 hS0;cases bb
    ·have hre:=HRES.o;have hx:¬(lo<=x/\x<=hi):=of_decide_eq_false HBB.o;rw[HPN.o (by rw[HSN.o,if_neg hx])]at hre;subst hre;go_wp2_with fail
     go_ret2
     exact⟨none,0,rfl,qf.nil _ _ _,HB9.o⟩
    ·have hx:lo<=x/\x<=hi:=b1g HBB.o;have HKN:Q_ (∃u',aar (fs.take (k+1)) b=some u'/\u'.length=k+1/\Blk w8 g (qt (u'++List.replicate (n-(k+1)) 0))):=q_ ⟨u++[x],by rw[HSN.o,if_pos hx],by rw[e9,HUL.o];rfl,HK7.o.on HB8.o⟩
     have HRN:Q_ (RdI (λb=>w2.1.size<=b/\b<g) w8 a (some (b.drop (yj (fs.take (k+1)))))):=q_ (by
      rw[<- HDR.o];exact HR7.o.below HB8.o (λb q=>b1b q.2 HK7.o.lt))
     clear hx;go_wp2_with fail
     go_roundg (n-(k+1))
     case measure=>omega
     case rel=>exact⟨k+1,by omega,by omega,by go_num,HKN,HRN,HB9⟩
   ·obtain rfl:k=n:=by omega
    obtain⟨u,hu,hul,hkb⟩:=HK.o;rw[b1h (by rw[HL.o];exact a8 _)]at hu;rw[b23,List.replicate_zero,b0p]at hkb;have hre:=HRES.o;rw[hu]at hre;subst hre;have HUK:=q_ (o3 hul hkb);clear hu hul hkb;go_wp2_with fail
    go_ret2
    refine⟨some ⟨g,0,none⟩,k,?_,HUK.o.2.flat ⟨?_,HUK.o.2.lt⟩,HB.o⟩
    ·show _=Ending.returned (.tuple #[.slice _ u.length _,_]);rw[HUK.o.1];rfl
    ·have:=HQ.o;have:=HA1.o.1;omega
 ·have e0:xl fs b=(7,[]):=by unfold xl;rw[if_neg om,if_pos hgt]
  rw[e0];generalize yj fs=v at *;generalize fs.length=n at *;generalize b.length=m at *;have g1:(v:Int)<m:=by omega
  clear hB hF e0;go_enter func91,ntmps91;go_wp2_with fail;refine((HW _ (n9 _ _)).o).mono ?_;rintro e w1 ⟨rfl,hb⟩;have HB1:=q_ hb;clear hb;go_wp2_with fail;refine((HR _ HB1.o).o).mono ?_;rintro e w2 ⟨rfl,hb⟩;have HB2:=q_ (qb HB1.o hb);clear hb;go_wp2_with fail
  go_ret2
  exact⟨none,0,rfl,qf.nil _ _ _,HB2.o⟩
def vi:List Fld:=[⟨4,false,0,604799999⟩,⟨1,false,1,1⟩,⟨1,false,0,64⟩,⟨2,false,0,0⟩]
theorem a17:vi.all aaa=true:=by decide +kernel
def aka:List Fld:=[⟨1,false,0,7⟩,⟨1,false,0,255⟩,⟨1,false,0,63⟩,⟨1,true,(-90),90⟩,⟨2,true,0,360⟩,⟨2,true,(-32768),32767⟩,⟨4,false,0,4294967295⟩]
theorem aq7:aka.all aaa=true:=by decide +kernel
def ai9:List Fld:=[⟨1,false,0,0⟩,⟨1,false,0,7⟩,⟨2,false,0,0⟩]
theorem a8i:ai9.all aaa=true:=by decide +kernel
def ay6:List Fld:=[⟨1,false,0,255⟩,⟨1,false,0,255⟩]
theorem api:ay6.all aaa=true:=by decide +kernel
def alb:List Fld:=[⟨4,false,0,604799999⟩,⟨2,false,0,65535⟩,⟨1,false,0,12⟩,⟨1,false,0,31⟩,⟨1,false,0,23⟩,⟨1,false,0,59⟩,⟨1,false,0,60⟩,⟨1,false,0,15⟩,⟨4,false,0,4294967295⟩,⟨4,true,(-1000000000),1000000000⟩,⟨1,false,0,5⟩,⟨1,false,0,255⟩,⟨1,false,0,255⟩,⟨1,false,0,255⟩,⟨4,true,(-1800000000),1800000000⟩,⟨4,true,(-900000000),900000000⟩,⟨4,true,(-2147483648),2147483647⟩,⟨4,true,(-2147483648),2147483647⟩,⟨4,false,0,4294967295⟩,⟨4,false,0,4294967295⟩,⟨4,true,(-2147483648),2147483647⟩,⟨4,true,(-2147483648),2147483647⟩,⟨4,true,(-2147483648),2147483647⟩,⟨4,true,(-2147483648),2147483647⟩,⟨4,true,0,36000000⟩,⟨4,false,0,4294967295⟩,⟨4,false,0,4294967295⟩,⟨2,false,0,65535⟩,⟨2,false,0,31⟩,⟨4,false,0,0⟩,⟨4,true,0,36000000⟩,⟨2,true,(-18000),18000⟩,⟨2,false,0,65535⟩]
theorem aqw:alb.all aaa=true:=by decide +kernel
def amf:List Fld:=[⟨4,false,0,604799999⟩,⟨2,false,0,65535⟩,⟨2,false,0,65535⟩,⟨2,false,0,65535⟩,⟨2,false,0,65535⟩,⟨2,false,0,65535⟩,⟨2,false,0,65535⟩,⟨2,false,0,65535⟩]
theorem aqa:amf.all aaa=true:=by decide +kernel
def ac9 (l:List Fld) (w:World) (e:Ending) (w':World):Prop:=∃A c,e=.returned (.slice A l.length c)/\qf (λb=>w.1.size<=b/\b<w'.1.size) w' A (acp l)/\Below w.1.size w w'
theorem a18 (w:World):Calls prog 270 #[] w (ac9 vi w):=by
 have H0:∀W,Q_ (Calls prog 261 #[.int .i64 4,.int .i64 604799999] W λe w'=>e=.returned (.agg #[.int .i64 4,.bool false,.int .i64 0,.int .i64 604799999])/\Below W.1.size W w'):=λW=>q_ (jy 4 604799999 W dc dc)
 have H1:∀W,Q_ (Calls prog 261 #[.int .i64 1,.int .i64 64] W λe w'=>e=.returned (.agg #[.int .i64 1,.bool false,.int .i64 0,.int .i64 64])/\Below W.1.size W w'):=λW=>q_ (jy 1 64 W dc dc)
 have H2:∀W,Q_ (Calls prog 261 #[.int .i64 2,.int .i64 0] W λe w'=>e=.returned (.agg #[.int .i64 2,.bool false,.int .i64 0,.int .i64 0])/\Below W.1.size W w'):=λW=>q_ (jy 2 0 W dc dc)
 go_enter func270,ntmps270;go_wp2_with fail;refine((H0 _).o).mono ?_;rintro e w1 ⟨rfl,hb⟩;have HB1:Q_ (Below w.1.size w w1):=q_ (hb);clear hb;go_wp2_with fail;refine((H1 _).o).mono ?_;rintro e w2 ⟨rfl,hb⟩;have HB2:Q_ (Below w.1.size w w2):=q_ (qb HB1.o hb);clear hb HB1;go_wp2_with fail;refine((H2 _).o).mono ?_;rintro e w3 ⟨rfl,hb⟩;have HB3:Q_ (Below w.1.size w w3):=q_ (qb HB2.o hb);clear hb HB2;go_wp2_with fail;go_ret;exact⟨some ⟨w3.1.size,0,none⟩,4,rfl,(Blk.newL (qg w3 _ _) rfl).flat ⟨HB3.o.size,by simp⟩,qb HB3.o (qa _ _)⟩
theorem axd (w:World):Calls prog 271 #[] w (ac9 aka w):=by
 have H0:∀W,Q_ (Calls prog 261 #[.int .i64 1,.int .i64 7] W λe w'=>e=.returned (.agg #[.int .i64 1,.bool false,.int .i64 0,.int .i64 7])/\Below W.1.size W w'):=λW=>q_ (jy 1 7 W dc dc)
 have H1:∀W,Q_ (Calls prog 122 #[.int .i64 1,.bool false] W λe w'=>e=.returned (.agg #[.int .i64 1,.bool false,.int .i64 0,.int .i64 255])/\Below W.1.size W w'):=λW=>q_ (afv W)
 have H2:∀W,Q_ (Calls prog 261 #[.int .i64 1,.int .i64 63] W λe w'=>e=.returned (.agg #[.int .i64 1,.bool false,.int .i64 0,.int .i64 63])/\Below W.1.size W w'):=λW=>q_ (jy 1 63 W dc dc)
 have H3:∀W,Q_ (Calls prog 260 #[.int .i64 1,.int .i64 (-90),.int .i64 90] W λe w'=>e=.returned (.agg #[.int .i64 1,.bool true,.int .i64 (-90),.int .i64 90])/\Below W.1.size W w'):=λW=>q_ (aej 1 (-90) 90 W dc dc)
 have H4:∀W,Q_ (Calls prog 260 #[.int .i64 2,.int .i64 0,.int .i64 360] W λe w'=>e=.returned (.agg #[.int .i64 2,.bool true,.int .i64 0,.int .i64 360])/\Below W.1.size W w'):=λW=>q_ (aej 2 0 360 W dc dc)
 have H5:∀W,Q_ (Calls prog 122 #[.int .i64 2,.bool true] W λe w'=>e=.returned (.agg #[.int .i64 2,.bool true,.int .i64 (-32768),.int .i64 32767])/\Below W.1.size W w'):=λW=>q_ (aur W)
 have H6:∀W,Q_ (Calls prog 122 #[.int .i64 4,.bool false] W λe w'=>e=.returned (.agg #[.int .i64 4,.bool false,.int .i64 0,.int .i64 4294967295])/\Below W.1.size W w'):=λW=>q_ (amw W)
 go_enter func271,ntmps271;go_wp2_with fail;refine((H0 _).o).mono ?_;rintro e w1 ⟨rfl,hb⟩;have HB1:Q_ (Below w.1.size w w1):=q_ (hb);clear hb;go_wp2_with fail;refine((H1 _).o).mono ?_;rintro e w2 ⟨rfl,hb⟩;have HB2:Q_ (Below w.1.size w w2):=q_ (qb HB1.o hb);clear hb HB1;go_wp2_with fail;refine((H2 _).o).mono ?_;rintro e w3 ⟨rfl,hb⟩;have HB3:Q_ (Below w.1.size w w3):=q_ (qb HB2.o hb);clear hb HB2;go_wp2_with fail;refine((H3 _).o).mono ?_;rintro e w4 ⟨rfl,hb⟩;have HB4:Q_ (Below w.1.size w w4):=q_ (qb HB3.o hb);clear hb HB3;go_wp2_with fail;refine((H4 _).o).mono ?_;rintro e w5 ⟨rfl,hb⟩;have HB5:Q_ (Below w.1.size w w5):=q_ (qb HB4.o hb);clear hb HB4;go_wp2_with fail;refine((H5 _).o).mono ?_;rintro e w6 ⟨rfl,hb⟩;have HB6:Q_ (Below w.1.size w w6):=q_ (qb HB5.o hb);clear hb HB5;go_wp2_with fail;refine((H6 _).o).mono ?_;rintro e w7 ⟨rfl,hb⟩
 have HB7:Q_ (Below w.1.size w w7):=q_ (qb HB6.o hb);clear hb HB6;go_wp2_with fail;go_ret;exact⟨some ⟨w7.1.size,0,none⟩,7,rfl,(Blk.newL (qg w7 _ _) rfl).flat ⟨HB7.o.size,by simp⟩,qb HB7.o (qa _ _)⟩
theorem ayh (w:World):Calls prog 290 #[] w (ac9 ai9 w):=by
 have H0:∀W,Q_ (Calls prog 261 #[.int .i64 1,.int .i64 0] W λe w'=>e=.returned (.agg #[.int .i64 1,.bool false,.int .i64 0,.int .i64 0])/\Below W.1.size W w'):=λW=>q_ (jy 1 0 W dc dc)
 have H1:∀W,Q_ (Calls prog 261 #[.int .i64 1,.int .i64 7] W λe w'=>e=.returned (.agg #[.int .i64 1,.bool false,.int .i64 0,.int .i64 7])/\Below W.1.size W w'):=λW=>q_ (jy 1 7 W dc dc)
 have H2:∀W,Q_ (Calls prog 261 #[.int .i64 2,.int .i64 0] W λe w'=>e=.returned (.agg #[.int .i64 2,.bool false,.int .i64 0,.int .i64 0])/\Below W.1.size W w'):=λW=>q_ (jy 2 0 W dc dc)
 go_enter func290,ntmps290;go_wp2_with fail;refine((H0 _).o).mono ?_;rintro e w1 ⟨rfl,hb⟩;have HB1:Q_ (Below w.1.size w w1):=q_ (hb);clear hb;go_wp2_with fail;refine((H1 _).o).mono ?_;rintro e w2 ⟨rfl,hb⟩;have HB2:Q_ (Below w.1.size w w2):=q_ (qb HB1.o hb);clear hb HB1;go_wp2_with fail;refine((H2 _).o).mono ?_;rintro e w3 ⟨rfl,hb⟩;have HB3:Q_ (Below w.1.size w w3):=q_ (qb HB2.o hb);clear hb HB2;go_wp2_with fail;go_ret;exact⟨some ⟨w3.1.size,0,none⟩,3,rfl,(Blk.newL (qg w3 _ _) rfl).flat ⟨HB3.o.size,by simp⟩,qb HB3.o (qa _ _)⟩
theorem ase (w:World):Calls prog 284 #[] w (ac9 ay6 w):=by
 have H0:∀W,Q_ (Calls prog 122 #[.int .i64 1,.bool false] W λe w'=>e=.returned (.agg #[.int .i64 1,.bool false,.int .i64 0,.int .i64 255])/\Below W.1.size W w'):=λW=>q_ (afv W)
 have H1:∀W,Q_ (Calls prog 122 #[.int .i64 1,.bool false] W λe w'=>e=.returned (.agg #[.int .i64 1,.bool false,.int .i64 0,.int .i64 255])/\Below W.1.size W w'):=λW=>q_ (afv W)
 go_enter func284,ntmps284;go_wp2_with fail;refine((H0 _).o).mono ?_;rintro e w1 ⟨rfl,hb⟩;have HB1:Q_ (Below w.1.size w w1):=q_ (hb);clear hb;go_wp2_with fail;refine((H1 _).o).mono ?_;rintro e w2 ⟨rfl,hb⟩;have HB2:Q_ (Below w.1.size w w2):=q_ (qb HB1.o hb);clear hb HB1;go_wp2_with fail;go_ret;exact⟨some ⟨w2.1.size,0,none⟩,2,rfl,(Blk.newL (qg w2 _ _) rfl).flat ⟨HB2.o.size,by simp⟩,qb HB2.o (qa _ _)⟩
theorem az7:(prog.info? 270).map (λi=>(i.zero,i.size,i.bytes))=some (some (.agg #[.int .i64 0,.bool false,.int .i64 0,.int .i64 0]),4,32):=by kernel_rfl
theorem aty (l:List Fld):∀v∈acp l,v.oneCell'=true:=by
 intro v hv;obtain⟨p,-,h⟩:=b4d.1 hv;simp only[az6,b03,b2o,b4u]at h;rcases h with rfl|rfl|rfl|rfl<;>rfl
theorem atx (l m:List Fld):acp (l++m)=acp l++acp m:=b4l
theorem ask (w:World):Calls prog 278 #[] w (ac9 amf w):=by
 have H0:∀W,Q_ (Calls prog 261 #[.int .i64 4,.int .i64 604799999] W λe w'=>e=.returned (.agg #[.int .i64 4,.bool false,.int .i64 0,.int .i64 604799999])/\Below W.1.size W w'):=λW=>q_ (jy 4 604799999 W dc dc)
 have H1:∀W,Q_ (Calls prog 122 #[.int .i64 2,.bool false] W λe w'=>e=.returned (.agg #[.int .i64 2,.bool false,.int .i64 0,.int .i64 65535])/\Below W.1.size W w'):=λW=>q_ (amv W)
 obtain⟨i0,hi,hz0,hz1,hz2⟩:=kq az7;have HI:=q_ (o3 hi (o3 hz0 (o3 hz1 hz2)));clear hi hz0 hz1 hz2;go_enter func278,ntmps278;go_wp2_with fail;refine((H0 _).o).mono ?_;rintro e w1 ⟨rfl,hb⟩;have HB1:=q_ hb;clear hb;go_wp2_with fail;have HO2:Q_ (aa0 w 270 4 (.slice (some ⟨w1.1.size,0,none⟩) 1 1) 1 (acp (amf.take 1)) (w1.alloc (.cells #[.int .i64 4,.bool false,.int .i64 0,.int .i64 604799999] 270))):=q_ ⟨World.ownsRow_lit w1 #[.int .i64 4,.bool false,.int .i64 0,.int .i64 604799999] 1 HB1.o.size dc rfl,qb HB1.o (qa _ _)⟩;clear HB1
 go_loopg [1,4] 7 (λg s1 s4 wr=>∃k:Nat,k<=7/\7-k<=g/\s4=.int .i64 k/\Q_ (aa0 w 270 4 s1 (k+1) (acp (amf.take (k+1))) wr))
 case atStart=>exact⟨0,by omega,by omega,rfl,HO2⟩
 case round=>
  rename_i s1;obtain⟨k,hk,hg,rfl,HO⟩:=hrel
  by_cases hlt:k<7
  ·have i1:(k:Int)<7:=by omega
   have i2:(0:Int) <=(k:Int):=o5 _;obtain⟨A,c,hs1,-,-⟩:=HO.o.flat;subst hs1;go_wp2_with fail;refine((H1 _).o).mono ?_;rintro e w2 ⟨rfl,hb⟩;obtain⟨v',w3,hrun,ho⟩:=aa0.app (P:=prog) (t:=203) (ty:=203) ((HO.o.on hb).on (qa w2 (.cells #[.int .i64 2,.bool false,.int .i64 0,.int .i64 65535] 270))) HI.o underlying203 rfl dc (R:=λ_=>True) (some ⟨w2.1.size,0,none⟩) 1 1 [.int .i64 2,.bool false,.int .i64 0,.int .i64 65535] rfl ((Blk.newL (qg w2 _ _) rfl).flat trivial) (aty [⟨2,false,0,65535⟩]) (by unfold maxLen;omega) om;have HRUN:=q_ hrun
   have HO3:Q_ (aa0 w 270 4 v' (k+1+1) (acp (amf.take (k+1+1))) w3):=q_ (by
    have e:amf.take (k+1+1)=amf.take (k+1)++[⟨2,false,0,65535⟩]:=by
     have:k=0\/k=1\/k=2\/k=3\/k=4\/k=5\/k=6:=by omega
     rcases this with rfl|rfl|rfl|rfl|rfl|rfl|rfl<;>rfl
    rw[e,atx];exact ho)
   clear hb hrun ho;go_wp2_with (at_builtin;refine q9 rfl _ _ 203 rfl _ _ _ rfl rfl HRUN.o ?_)
   go_roundg (7-(k+1))
   case measure=>omega
   case rel=>exact⟨k+1,by omega,by omega,by go_num,HO3⟩
  ·obtain rfl:k=7:=by omega
   obtain⟨A,c,hs1,hcap,hfl⟩:=HO.o.flat;subst hs1;have HFL:=q_ (o3 hfl HO.o.2);clear hfl HO;go_wp2_with fail;go_ret;exact⟨A,c,rfl,HFL.o.1,HFL.o.2⟩
set_option maxRecDepth 20000 in
theorem aww (w:World):Calls prog 258 #[] w (ac9 alb w):=by
 have Hp0:∀W,Q_ (Calls prog 122 #[.int .i64 1,.bool false] W λe w'=>e=.returned (.agg #[.int .i64 1,.bool false,.int .i64 0,.int .i64 255])/\Below W.1.size W w'):=λW=>q_ (afv W)
 have Hp1:∀W,Q_ (Calls prog 122 #[.int .i64 2,.bool false] W λe w'=>e=.returned (.agg #[.int .i64 2,.bool false,.int .i64 0,.int .i64 65535])/\Below W.1.size W w'):=λW=>q_ (amv W)
 have Hp2:∀W,Q_ (Calls prog 122 #[.int .i64 4,.bool false] W λe w'=>e=.returned (.agg #[.int .i64 4,.bool false,.int .i64 0,.int .i64 4294967295])/\Below W.1.size W w'):=λW=>q_ (amw W)
 have Hp3:∀W,Q_ (Calls prog 122 #[.int .i64 4,.bool true] W λe w'=>e=.returned (.agg #[.int .i64 4,.bool true,.int .i64 (-2147483648),.int .i64 2147483647])/\Below W.1.size W w'):=λW=>q_ (aus W)
 have Hp4:∀W,Q_ (Calls prog 260 #[.int .i64 4,.int .i64 0,.int .i64 36000000] W λe w'=>e=.returned (.agg #[.int .i64 4,.bool true,.int .i64 0,.int .i64 36000000])/\Below W.1.size W w'):=λW=>q_ (aej 4 0 36000000 W dc dc)
 have H0:∀W,Q_ (Calls prog 261 #[.int .i64 4,.int .i64 604799999] W λe w'=>e=.returned (.agg #[.int .i64 4,.bool false,.int .i64 0,.int .i64 604799999])/\Below W.1.size W w'):=λW=>q_ (jy 4 604799999 W dc dc)
 have H2:∀W,Q_ (Calls prog 261 #[.int .i64 1,.int .i64 12] W λe w'=>e=.returned (.agg #[.int .i64 1,.bool false,.int .i64 0,.int .i64 12])/\Below W.1.size W w'):=λW=>q_ (jy 1 12 W dc dc)
 have H3:∀W,Q_ (Calls prog 261 #[.int .i64 1,.int .i64 31] W λe w'=>e=.returned (.agg #[.int .i64 1,.bool false,.int .i64 0,.int .i64 31])/\Below W.1.size W w'):=λW=>q_ (jy 1 31 W dc dc)
 have H4:∀W,Q_ (Calls prog 261 #[.int .i64 1,.int .i64 23] W λe w'=>e=.returned (.agg #[.int .i64 1,.bool false,.int .i64 0,.int .i64 23])/\Below W.1.size W w'):=λW=>q_ (jy 1 23 W dc dc)
 have H5:∀W,Q_ (Calls prog 261 #[.int .i64 1,.int .i64 59] W λe w'=>e=.returned (.agg #[.int .i64 1,.bool false,.int .i64 0,.int .i64 59])/\Below W.1.size W w'):=λW=>q_ (jy 1 59 W dc dc)
 have H6:∀W,Q_ (Calls prog 261 #[.int .i64 1,.int .i64 60] W λe w'=>e=.returned (.agg #[.int .i64 1,.bool false,.int .i64 0,.int .i64 60])/\Below W.1.size W w'):=λW=>q_ (jy 1 60 W dc dc)
 have H7:∀W,Q_ (Calls prog 261 #[.int .i64 1,.int .i64 15] W λe w'=>e=.returned (.agg #[.int .i64 1,.bool false,.int .i64 0,.int .i64 15])/\Below W.1.size W w'):=λW=>q_ (jy 1 15 W dc dc)
 have H9:∀W,Q_ (Calls prog 260 #[.int .i64 4,.int .i64 (-1000000000),.int .i64 1000000000] W λe w'=>e=.returned (.agg #[.int .i64 4,.bool true,.int .i64 (-1000000000),.int .i64 1000000000])/\Below W.1.size W w'):=λW=>q_ (aej 4 (-1000000000) 1000000000 W dc dc)
 have H10:∀W,Q_ (Calls prog 261 #[.int .i64 1,.int .i64 5] W λe w'=>e=.returned (.agg #[.int .i64 1,.bool false,.int .i64 0,.int .i64 5])/\Below W.1.size W w'):=λW=>q_ (jy 1 5 W dc dc)
 have H14:∀W,Q_ (Calls prog 260 #[.int .i64 4,.int .i64 (-1800000000),.int .i64 1800000000] W λe w'=>e=.returned (.agg #[.int .i64 4,.bool true,.int .i64 (-1800000000),.int .i64 1800000000])/\Below W.1.size W w'):=λW=>q_ (aej 4 (-1800000000) 1800000000 W dc dc)
 have H15:∀W,Q_ (Calls prog 260 #[.int .i64 4,.int .i64 (-900000000),.int .i64 900000000] W λe w'=>e=.returned (.agg #[.int .i64 4,.bool true,.int .i64 (-900000000),.int .i64 900000000])/\Below W.1.size W w'):=λW=>q_ (aej 4 (-900000000) 900000000 W dc dc)
 have H28:∀W,Q_ (Calls prog 261 #[.int .i64 2,.int .i64 31] W λe w'=>e=.returned (.agg #[.int .i64 2,.bool false,.int .i64 0,.int .i64 31])/\Below W.1.size W w'):=λW=>q_ (jy 2 31 W dc dc)
 have H29:∀W,Q_ (Calls prog 261 #[.int .i64 4,.int .i64 0] W λe w'=>e=.returned (.agg #[.int .i64 4,.bool false,.int .i64 0,.int .i64 0])/\Below W.1.size W w'):=λW=>q_ (jy 4 0 W dc dc)
 have H31:∀W,Q_ (Calls prog 260 #[.int .i64 2,.int .i64 (-18000),.int .i64 18000] W λe w'=>e=.returned (.agg #[.int .i64 2,.bool true,.int .i64 (-18000),.int .i64 18000])/\Below W.1.size W w'):=λW=>q_ (aej 2 (-18000) 18000 W dc dc)
 go_enter func258,ntmps258;go_wp2_with fail;refine((Hp0 _).o).mono ?_;rintro e w1 ⟨rfl,hb⟩;have HB1:Q_ (Below w.1.size w w1):=q_ (hb);clear hb;go_wp2_with fail;refine((Hp1 _).o).mono ?_;rintro e w2 ⟨rfl,hb⟩;have HB2:Q_ (Below w.1.size w w2):=q_ (qb HB1.o hb);clear hb HB1;go_wp2_with fail;refine((Hp2 _).o).mono ?_;rintro e w3 ⟨rfl,hb⟩;have HB3:Q_ (Below w.1.size w w3):=q_ (qb HB2.o hb);clear hb HB2;have h31:(w3.alloc (.cells #[.int .i64 1,.bool false,.int .i64 0,.int .i64 255] 270)).1.size=w3.1.size+1:=by simp
 have h32:((w3.alloc (.cells #[.int .i64 1,.bool false,.int .i64 0,.int .i64 255] 270)).alloc (.cells #[.int .i64 2,.bool false,.int .i64 0,.int .i64 65535] 270)).1.size=w3.1.size+2:=by simp
 have HX1:Q_ (Blk (((w3.alloc (.cells #[.int .i64 1,.bool false,.int .i64 0,.int .i64 255] 270)).alloc (.cells #[.int .i64 2,.bool false,.int .i64 0,.int .i64 65535] 270)).alloc (.cells #[.int .i64 4,.bool false,.int .i64 0,.int .i64 4294967295] 270)) w3.1.size [.int .i64 1,.bool false,.int .i64 0,.int .i64 255]):=q_ (((Blk.newL (qg w3 _ _) rfl).on (qa _ _)).on (qa _ _))
 have HX2:Q_ (Blk (((w3.alloc (.cells #[.int .i64 1,.bool false,.int .i64 0,.int .i64 255] 270)).alloc (.cells #[.int .i64 2,.bool false,.int .i64 0,.int .i64 65535] 270)).alloc (.cells #[.int .i64 4,.bool false,.int .i64 0,.int .i64 4294967295] 270)) (w3.1.size+1) [.int .i64 2,.bool false,.int .i64 0,.int .i64 65535]):=q_ (by
  have:=(Blk.newL (L:=[.int .i64 2,.bool false,.int .i64 0,.int .i64 65535]) (qg (w3.alloc (.cells #[.int .i64 1,.bool false,.int .i64 0,.int .i64 255] 270)) #[.int .i64 2,.bool false,.int .i64 0,.int .i64 65535] 270) rfl).on (qa _ (.cells #[.int .i64 4,.bool false,.int .i64 0,.int .i64 4294967295] 270))
  rwa [h31]at this)
 have HX3:Q_ (Blk (((w3.alloc (.cells #[.int .i64 1,.bool false,.int .i64 0,.int .i64 255] 270)).alloc (.cells #[.int .i64 2,.bool false,.int .i64 0,.int .i64 65535] 270)).alloc (.cells #[.int .i64 4,.bool false,.int .i64 0,.int .i64 4294967295] 270)) (w3.1.size+2) [.int .i64 4,.bool false,.int .i64 0,.int .i64 4294967295]):=q_ (by
  have:=Blk.newL (L:=[.int .i64 4,.bool false,.int .i64 0,.int .i64 4294967295]) (qg ((w3.alloc (.cells #[.int .i64 1,.bool false,.int .i64 0,.int .i64 255] 270)).alloc (.cells #[.int .i64 2,.bool false,.int .i64 0,.int .i64 65535] 270)) #[.int .i64 4,.bool false,.int .i64 0,.int .i64 4294967295] 270) rfl
  rwa [h32]at this)
 have HB4:Q_ (Below w.1.size w (((w3.alloc (.cells #[.int .i64 1,.bool false,.int .i64 0,.int .i64 255] 270)).alloc (.cells #[.int .i64 2,.bool false,.int .i64 0,.int .i64 65535] 270)).alloc (.cells #[.int .i64 4,.bool false,.int .i64 0,.int .i64 4294967295] 270))):=q_ (qb (qb (qb HB3.o (qa _ _)) (qa _ _)) (qa _ _));clear h31 h32 HB3;go_wp2_with fail;refine((Hp3 _).o).mono ?_;rintro e w4 ⟨rfl,hb⟩;have HY1:=q_ ((HX1.o.on hb).on (qa w4 (.cells #[.int .i64 4,.bool true,.int .i64 (-2147483648),.int .i64 2147483647] 270)));have HY2:=q_ ((HX2.o.on hb).on (qa w4 (.cells #[.int .i64 4,.bool true,.int .i64 (-2147483648),.int .i64 2147483647] 270)));have HY3:=q_ ((HX3.o.on hb).on (qa w4 (.cells #[.int .i64 4,.bool true,.int .i64 (-2147483648),.int .i64 2147483647] 270)));have HY4:Q_ (Blk (w4.alloc (.cells #[.int .i64 4,.bool true,.int .i64 (-2147483648),.int .i64 2147483647] 270)) w4.1.size [.int .i64 4,.bool true,.int .i64 (-2147483648),.int .i64 2147483647]):=q_ (Blk.newL (qg w4 _ _) rfl)
 have HB5:=q_ (qb (qb HB4.o hb) (qa w4 (.cells #[.int .i64 4,.bool true,.int .i64 (-2147483648),.int .i64 2147483647] 270)));clear hb HX1 HX2 HX3 HB4;go_wp2_with fail;refine((Hp4 _).o).mono ?_;rintro e w5 ⟨rfl,hb⟩;have HZ1:=q_ ((HY1.o.on hb).on (qa w5 (.cells #[.int .i64 4,.bool true,.int .i64 0,.int .i64 36000000] 270)));have HZ2:=q_ ((HY2.o.on hb).on (qa w5 (.cells #[.int .i64 4,.bool true,.int .i64 0,.int .i64 36000000] 270)));have HZ3:=q_ ((HY3.o.on hb).on (qa w5 (.cells #[.int .i64 4,.bool true,.int .i64 0,.int .i64 36000000] 270)));have HZ4:=q_ ((HY4.o.on hb).on (qa w5 (.cells #[.int .i64 4,.bool true,.int .i64 0,.int .i64 36000000] 270)));have HZ5:Q_ (Blk (w5.alloc (.cells #[.int .i64 4,.bool true,.int .i64 0,.int .i64 36000000] 270)) w5.1.size [.int .i64 4,.bool true,.int .i64 0,.int .i64 36000000]):=q_ (Blk.newL (qg w5 _ _) rfl);have HB6:=q_ (qb (qb HB5.o hb) (qa w5 (.cells #[.int .i64 4,.bool true,.int .i64 0,.int .i64 36000000] 270)))
 clear hb HY1 HY2 HY3 HY4 HB5;go_upto_region 4 with fail;generalize w5.alloc (.cells #[.int .i64 4,.bool true,.int .i64 0,.int .i64 36000000] 270)=W at *
 try (apply b1q;intro K_ HK_)
 have hS0:Below W.1.size W W.drew:=(n9 _ _).drew;refine t6 (S:=λw'=>Below W.1.size W w') kr hS0 (λhHeld0=>?_);have HS:Q_ (Below W.1.size W W.drew):=q_ hS0;refine tkQ (i:=1) (oi:=⟨some 12,_,_,_,_,_⟩) (v:=_) rfl (o4 (by rfl) 270 _ rfl (w3.1.size+1) 0 rfl [.int .i64 2,.bool false,.int .i64 0,.int .i64 65535] _ (λw' hSw=>(HZ2.o.on hSw).rg) underlying270 rfl kr) ?_;go_frame;refine tkQ (i:=8) (oi:=⟨some 19,_,_,_,_,_⟩) (v:=_) rfl (o4 (by rfl) 270 _ rfl (w3.1.size+2) 0 rfl [.int .i64 4,.bool false,.int .i64 0,.int .i64 4294967295] _ (λw' hSw=>(HZ3.o.on hSw).rg) underlying270 rfl kr) ?_;go_frame;refine tkQ (i:=11) (oi:=⟨some 22,_,_,_,_,_⟩) (v:=_) rfl (o4 (by rfl) 270 _ rfl w3.1.size 0 rfl [.int .i64 1,.bool false,.int .i64 0,.int .i64 255] _ (λw' hSw=>(HZ1.o.on hSw).rg) underlying270 rfl kr) ?_
 go_frame;refine tkQ (i:=12) (oi:=⟨some 23,_,_,_,_,_⟩) (v:=_) rfl (o4 (by rfl) 270 _ rfl w3.1.size 0 rfl [.int .i64 1,.bool false,.int .i64 0,.int .i64 255] _ (λw' hSw=>(HZ1.o.on hSw).rg) underlying270 rfl kr) ?_;go_frame;refine tkQ (i:=13) (oi:=⟨some 24,_,_,_,_,_⟩) (v:=_) rfl (o4 (by rfl) 270 _ rfl w3.1.size 0 rfl [.int .i64 1,.bool false,.int .i64 0,.int .i64 255] _ (λw' hSw=>(HZ1.o.on hSw).rg) underlying270 rfl kr) ?_;go_frame;refine tkQ (i:=16) (oi:=⟨some 27,_,_,_,_,_⟩) (v:=_) rfl (o4 (by rfl) 270 _ rfl w4.1.size 0 rfl [.int .i64 4,.bool true,.int .i64 (-2147483648),.int .i64 2147483647] _ (λw' hSw=>(HZ4.o.on hSw).rg) underlying270 rfl kr) ?_;go_frame;refine tkQ (i:=17) (oi:=⟨some 28,_,_,_,_,_⟩) (v:=_) rfl (o4 (by rfl) 270 _ rfl w4.1.size 0 rfl [.int .i64 4,.bool true,.int .i64 (-2147483648),.int .i64 2147483647] _ (λw' hSw=>(HZ4.o.on hSw).rg) underlying270 rfl kr) ?_
 go_frame;refine tkQ (i:=18) (oi:=⟨some 29,_,_,_,_,_⟩) (v:=_) rfl (o4 (by rfl) 270 _ rfl (w3.1.size+2) 0 rfl [.int .i64 4,.bool false,.int .i64 0,.int .i64 4294967295] _ (λw' hSw=>(HZ3.o.on hSw).rg) underlying270 rfl kr) ?_;go_frame;refine tkQ (i:=19) (oi:=⟨some 30,_,_,_,_,_⟩) (v:=_) rfl (o4 (by rfl) 270 _ rfl (w3.1.size+2) 0 rfl [.int .i64 4,.bool false,.int .i64 0,.int .i64 4294967295] _ (λw' hSw=>(HZ3.o.on hSw).rg) underlying270 rfl kr) ?_;go_frame;refine tkQ (i:=20) (oi:=⟨some 31,_,_,_,_,_⟩) (v:=_) rfl (o4 (by rfl) 270 _ rfl w4.1.size 0 rfl [.int .i64 4,.bool true,.int .i64 (-2147483648),.int .i64 2147483647] _ (λw' hSw=>(HZ4.o.on hSw).rg) underlying270 rfl kr) ?_;go_frame;refine tkQ (i:=21) (oi:=⟨some 32,_,_,_,_,_⟩) (v:=_) rfl (o4 (by rfl) 270 _ rfl w4.1.size 0 rfl [.int .i64 4,.bool true,.int .i64 (-2147483648),.int .i64 2147483647] _ (λw' hSw=>(HZ4.o.on hSw).rg) underlying270 rfl kr) ?_
 go_frame;refine tkQ (i:=22) (oi:=⟨some 33,_,_,_,_,_⟩) (v:=_) rfl (o4 (by rfl) 270 _ rfl w4.1.size 0 rfl [.int .i64 4,.bool true,.int .i64 (-2147483648),.int .i64 2147483647] _ (λw' hSw=>(HZ4.o.on hSw).rg) underlying270 rfl kr) ?_;go_frame;refine tkQ (i:=23) (oi:=⟨some 34,_,_,_,_,_⟩) (v:=_) rfl (o4 (by rfl) 270 _ rfl w4.1.size 0 rfl [.int .i64 4,.bool true,.int .i64 (-2147483648),.int .i64 2147483647] _ (λw' hSw=>(HZ4.o.on hSw).rg) underlying270 rfl kr) ?_;go_frame;refine tkQ (i:=24) (oi:=⟨some 35,_,_,_,_,_⟩) (v:=_) rfl (o4 (by rfl) 270 _ rfl w5.1.size 0 rfl [.int .i64 4,.bool true,.int .i64 0,.int .i64 36000000] _ (λw' hSw=>(HZ5.o.on hSw).rg) underlying270 rfl kr) ?_;go_frame;refine tkQ (i:=25) (oi:=⟨some 36,_,_,_,_,_⟩) (v:=_) rfl (o4 (by rfl) 270 _ rfl (w3.1.size+2) 0 rfl [.int .i64 4,.bool false,.int .i64 0,.int .i64 4294967295] _ (λw' hSw=>(HZ3.o.on hSw).rg) underlying270 rfl kr) ?_
 go_frame;refine tkQ (i:=26) (oi:=⟨some 37,_,_,_,_,_⟩) (v:=_) rfl (o4 (by rfl) 270 _ rfl (w3.1.size+2) 0 rfl [.int .i64 4,.bool false,.int .i64 0,.int .i64 4294967295] _ (λw' hSw=>(HZ3.o.on hSw).rg) underlying270 rfl kr) ?_;go_frame;refine tkQ (i:=27) (oi:=⟨some 38,_,_,_,_,_⟩) (v:=_) rfl (o4 (by rfl) 270 _ rfl (w3.1.size+1) 0 rfl [.int .i64 2,.bool false,.int .i64 0,.int .i64 65535] _ (λw' hSw=>(HZ2.o.on hSw).rg) underlying270 rfl kr) ?_;go_frame;refine tkQ (i:=30) (oi:=⟨some 41,_,_,_,_,_⟩) (v:=_) rfl (o4 (by rfl) 270 _ rfl w5.1.size 0 rfl [.int .i64 4,.bool true,.int .i64 0,.int .i64 36000000] _ (λw' hSw=>(HZ5.o.on hSw).rg) underlying270 rfl kr) ?_;go_frame;refine tkQ (i:=32) (oi:=⟨some 43,_,_,_,_,_⟩) (v:=_) rfl (o4 (by rfl) 270 _ rfl (w3.1.size+1) 0 rfl [.int .i64 2,.bool false,.int .i64 0,.int .i64 65535] _ (λw' hSw=>(HZ2.o.on hSw).rg) underlying270 rfl kr) ?_
 go_frame;refine rdB 0 11 rfl λK hK=>?_
 go_step;refine(H0 _).o.mono ?_;rintro e Q0 ⟨rfl,hb⟩;replace HS:=q_ (HS.o.trans (hb.mono HS.o.size));clear hb
 try go_frame
 refine hK.out _ _ (HS.o) (λhHeld=>?_);clear hK K
 try go_frame
 refine rdB 2 13 rfl λK hK=>?_
 go_step;refine(H2 _).o.mono ?_;rintro e Q2 ⟨rfl,hb⟩;replace HS:=q_ (HS.o.trans (hb.mono HS.o.size));clear hb
 try go_frame
 refine hK.out _ _ (HS.o) (λhHeld=>?_);clear hK K
 try go_frame
 refine rdB 3 14 rfl λK hK=>?_
 go_step;refine(H3 _).o.mono ?_;rintro e Q3 ⟨rfl,hb⟩;replace HS:=q_ (HS.o.trans (hb.mono HS.o.size));clear hb
 try go_frame
 refine hK.out _ _ (HS.o) (λhHeld=>?_);clear hK K
 try go_frame
 refine rdB 4 15 rfl λK hK=>?_
 go_step;refine(H4 _).o.mono ?_;rintro e Q4 ⟨rfl,hb⟩;replace HS:=q_ (HS.o.trans (hb.mono HS.o.size));clear hb
 try go_frame
 refine hK.out _ _ (HS.o) (λhHeld=>?_);clear hK K
 try go_frame
 refine rdB 5 16 rfl λK hK=>?_
 go_step;refine(H5 _).o.mono ?_;rintro e Q5 ⟨rfl,hb⟩;replace HS:=q_ (HS.o.trans (hb.mono HS.o.size));clear hb
 try go_frame
 refine hK.out _ _ (HS.o) (λhHeld=>?_);clear hK K
 try go_frame
 refine rdB 6 17 rfl λK hK=>?_
 go_step;refine(H6 _).o.mono ?_;rintro e Q6 ⟨rfl,hb⟩;replace HS:=q_ (HS.o.trans (hb.mono HS.o.size));clear hb
 try go_frame
 refine hK.out _ _ (HS.o) (λhHeld=>?_);clear hK K
 try go_frame
 refine rdB 7 18 rfl λK hK=>?_
 go_step;refine(H7 _).o.mono ?_;rintro e Q7 ⟨rfl,hb⟩;replace HS:=q_ (HS.o.trans (hb.mono HS.o.size));clear hb
 try go_frame
 refine hK.out _ _ (HS.o) (λhHeld=>?_);clear hK K
 try go_frame
 refine rdB 9 20 rfl λK hK=>?_
 go_step;refine(H9 _).o.mono ?_;rintro e Q9 ⟨rfl,hb⟩;replace HS:=q_ (HS.o.trans (hb.mono HS.o.size));clear hb
 try go_frame
 refine hK.out _ _ (HS.o) (λhHeld=>?_);clear hK K
 try go_frame
 refine rdB 10 21 rfl λK hK=>?_
 go_step;refine(H10 _).o.mono ?_;rintro e Q10 ⟨rfl,hb⟩;replace HS:=q_ (HS.o.trans (hb.mono HS.o.size));clear hb
 try go_frame
 refine hK.out _ _ (HS.o) (λhHeld=>?_);clear hK K
 try go_frame
 refine rdB 14 25 rfl λK hK=>?_
 go_step;refine(H14 _).o.mono ?_;rintro e Q14 ⟨rfl,hb⟩;replace HS:=q_ (HS.o.trans (hb.mono HS.o.size));clear hb
 try go_frame
 refine hK.out _ _ (HS.o) (λhHeld=>?_);clear hK K
 try go_frame
 refine rdB 15 26 rfl λK hK=>?_
 go_step;refine(H15 _).o.mono ?_;rintro e Q15 ⟨rfl,hb⟩;replace HS:=q_ (HS.o.trans (hb.mono HS.o.size));clear hb
 try go_frame
 refine hK.out _ _ (HS.o) (λhHeld=>?_);clear hK K
 try go_frame
 refine rdB 28 39 rfl λK hK=>?_
 go_step;refine(H28 _).o.mono ?_;rintro e Q28 ⟨rfl,hb⟩;replace HS:=q_ (HS.o.trans (hb.mono HS.o.size));clear hb
 try go_frame
 refine hK.out _ _ (HS.o) (λhHeld=>?_);clear hK K
 try go_frame
 refine rdB 29 40 rfl λK hK=>?_
 go_step;refine(H29 _).o.mono ?_;rintro e Q29 ⟨rfl,hb⟩;replace HS:=q_ (HS.o.trans (hb.mono HS.o.size));clear hb
 try go_frame
 refine hK.out _ _ (HS.o) (λhHeld=>?_);clear hK K
 try go_frame
 refine rdB 31 42 rfl λK hK=>?_
 go_step;refine(H31 _).o.mono ?_;rintro e Q31 ⟨rfl,hb⟩;replace HS:=q_ (HS.o.trans (hb.mono HS.o.size));clear hb
 try go_frame
 refine hK.out _ _ (HS.o) (λhHeld=>?_);clear hK K
 try go_frame
 refine rdB 33 44 rfl λK hK=>?_
 go_step
 try go_frame
 have HSL:=q_ HS.o.size;have HN:Q_ (Blk (Q31.alloc (.cells #[.int .i64 4,.bool false,.int .i64 0,.int .i64 604799999,.int .i64 2,.bool false,.int .i64 0,.int .i64 65535,.int .i64 1,.bool false,.int .i64 0,.int .i64 12,.int .i64 1,.bool false,.int .i64 0,.int .i64 31,.int .i64 1,.bool false,.int .i64 0,.int .i64 23,.int .i64 1,.bool false,.int .i64 0,.int .i64 59,.int .i64 1,.bool false,.int .i64 0,.int .i64 60,.int .i64 1,.bool false,.int .i64 0,.int .i64 15,.int .i64 4,.bool false,.int .i64 0,.int .i64 4294967295,.int .i64 4,.bool true,.int .i64 (-1000000000),.int .i64 1000000000,.int .i64 1,.bool false,.int .i64 0,.int .i64 5,.int .i64 1,.bool false,.int .i64 0,.int .i64 255,.int .i64 1,.bool false,.int .i64 0,.int .i64 255,.int .i64 1,.bool false,.int .i64 0,.int .i64 255,.int .i64 4,.bool true,.int .i64 (-1800000000),.int .i64 1800000000,.int .i64 4,.bool true,.int .i64 (-900000000),.int .i64 900000000,.int .i64 4,.bool true,.int .i64 (-2147483648),.int .i64 2147483647,.int .i64 4,.bool true,.int .i64 (-2147483648),.int .i64 2147483647,.int .i64 4,.bool false,.int .i64 0,.int .i64 4294967295,.int .i64 4,.bool false,.int .i64 0,.int .i64 4294967295,.int .i64 4,.bool true,.int .i64 (-2147483648),.int .i64 2147483647,.int .i64 4,.bool true,.int .i64 (-2147483648),.int .i64 2147483647,.int .i64 4,.bool true,.int .i64 (-2147483648),.int .i64 2147483647,.int .i64 4,.bool true,.int .i64 (-2147483648),.int .i64 2147483647,.int .i64 4,.bool true,.int .i64 0,.int .i64 36000000,.int .i64 4,.bool false,.int .i64 0,.int .i64 4294967295,.int .i64 4,.bool false,.int .i64 0,.int .i64 4294967295,.int .i64 2,.bool false,.int .i64 0,.int .i64 65535,.int .i64 2,.bool false,.int .i64 0,.int .i64 31,.int .i64 4,.bool false,.int .i64 0,.int .i64 0,.int .i64 4,.bool true,.int .i64 0,.int .i64 36000000,.int .i64 2,.bool true,.int .i64 (-18000),.int .i64 18000,.int .i64 2,.bool false,.int .i64 0,.int .i64 65535] 270)) Q31.1.size (acp alb)):=q_ (Blk.newL (qg Q31 _ _) rfl)
 replace HS:=q_ (HS.o.trans ((qa Q31 (.cells #[.int .i64 4,.bool false,.int .i64 0,.int .i64 604799999,.int .i64 2,.bool false,.int .i64 0,.int .i64 65535,.int .i64 1,.bool false,.int .i64 0,.int .i64 12,.int .i64 1,.bool false,.int .i64 0,.int .i64 31,.int .i64 1,.bool false,.int .i64 0,.int .i64 23,.int .i64 1,.bool false,.int .i64 0,.int .i64 59,.int .i64 1,.bool false,.int .i64 0,.int .i64 60,.int .i64 1,.bool false,.int .i64 0,.int .i64 15,.int .i64 4,.bool false,.int .i64 0,.int .i64 4294967295,.int .i64 4,.bool true,.int .i64 (-1000000000),.int .i64 1000000000,.int .i64 1,.bool false,.int .i64 0,.int .i64 5,.int .i64 1,.bool false,.int .i64 0,.int .i64 255,.int .i64 1,.bool false,.int .i64 0,.int .i64 255,.int .i64 1,.bool false,.int .i64 0,.int .i64 255,.int .i64 4,.bool true,.int .i64 (-1800000000),.int .i64 1800000000,.int .i64 4,.bool true,.int .i64 (-900000000),.int .i64 900000000,.int .i64 4,.bool true,.int .i64 (-2147483648),.int .i64 2147483647,.int .i64 4,.bool true,.int .i64 (-2147483648),.int .i64 2147483647,.int .i64 4,.bool false,.int .i64 0,.int .i64 4294967295,.int .i64 4,.bool false,.int .i64 0,.int .i64 4294967295,.int .i64 4,.bool true,.int .i64 (-2147483648),.int .i64 2147483647,.int .i64 4,.bool true,.int .i64 (-2147483648),.int .i64 2147483647,.int .i64 4,.bool true,.int .i64 (-2147483648),.int .i64 2147483647,.int .i64 4,.bool true,.int .i64 (-2147483648),.int .i64 2147483647,.int .i64 4,.bool true,.int .i64 0,.int .i64 36000000,.int .i64 4,.bool false,.int .i64 0,.int .i64 4294967295,.int .i64 4,.bool false,.int .i64 0,.int .i64 4294967295,.int .i64 2,.bool false,.int .i64 0,.int .i64 65535,.int .i64 2,.bool false,.int .i64 0,.int .i64 31,.int .i64 4,.bool false,.int .i64 0,.int .i64 0,.int .i64 4,.bool true,.int .i64 0,.int .i64 36000000,.int .i64 2,.bool true,.int .i64 (-18000),.int .i64 18000,.int .i64 2,.bool false,.int .i64 0,.int .i64 65535] 270)).mono HS.o.size));refine hK.out _ _ HS.o (λhHeld=>?_)
 clear hK K
 try go_frame
 refine tkA 34 0 rfl ?_;go_frame;refine b0m kr ?_ _
 try go_frame
 have HE:=q_ (o3 HN.o (o3 (qb HB6.o HS.o) (p9 HB6.o.size (HSL.o))));clear hHeld hHeld0 hS0 HN HS HSL HB6;generalize Q31.alloc (.cells #[.int .i64 4,.bool false,.int .i64 0,.int .i64 604799999,.int .i64 2,.bool false,.int .i64 0,.int .i64 65535,.int .i64 1,.bool false,.int .i64 0,.int .i64 12,.int .i64 1,.bool false,.int .i64 0,.int .i64 31,.int .i64 1,.bool false,.int .i64 0,.int .i64 23,.int .i64 1,.bool false,.int .i64 0,.int .i64 59,.int .i64 1,.bool false,.int .i64 0,.int .i64 60,.int .i64 1,.bool false,.int .i64 0,.int .i64 15,.int .i64 4,.bool false,.int .i64 0,.int .i64 4294967295,.int .i64 4,.bool true,.int .i64 (-1000000000),.int .i64 1000000000,.int .i64 1,.bool false,.int .i64 0,.int .i64 5,.int .i64 1,.bool false,.int .i64 0,.int .i64 255,.int .i64 1,.bool false,.int .i64 0,.int .i64 255,.int .i64 1,.bool false,.int .i64 0,.int .i64 255,.int .i64 4,.bool true,.int .i64 (-1800000000),.int .i64 1800000000,.int .i64 4,.bool true,.int .i64 (-900000000),.int .i64 900000000,.int .i64 4,.bool true,.int .i64 (-2147483648),.int .i64 2147483647,.int .i64 4,.bool true,.int .i64 (-2147483648),.int .i64 2147483647,.int .i64 4,.bool false,.int .i64 0,.int .i64 4294967295,.int .i64 4,.bool false,.int .i64 0,.int .i64 4294967295,.int .i64 4,.bool true,.int .i64 (-2147483648),.int .i64 2147483647,.int .i64 4,.bool true,.int .i64 (-2147483648),.int .i64 2147483647,.int .i64 4,.bool true,.int .i64 (-2147483648),.int .i64 2147483647,.int .i64 4,.bool true,.int .i64 (-2147483648),.int .i64 2147483647,.int .i64 4,.bool true,.int .i64 0,.int .i64 36000000,.int .i64 4,.bool false,.int .i64 0,.int .i64 4294967295,.int .i64 4,.bool false,.int .i64 0,.int .i64 4294967295,.int .i64 2,.bool false,.int .i64 0,.int .i64 65535,.int .i64 2,.bool false,.int .i64 0,.int .i64 31,.int .i64 4,.bool false,.int .i64 0,.int .i64 0,.int .i64 4,.bool true,.int .i64 0,.int .i64 36000000,.int .i64 2,.bool true,.int .i64 (-18000),.int .i64 18000,.int .i64 2,.bool false,.int .i64 0,.int .i64 65535] 270)=WE at *
 go_wp2_with fail;go_ret;exact⟨some ⟨Q31.1.size,0,none⟩,33,rfl,HE.o.1.flat ⟨HE.o.2.2,HE.o.1.lt⟩,HE.o.2.1⟩
def vu:List UInt8->Bool
 | []=>true
 | [x]=>decide (x.toNat=181)
 | x::y::_=>decide (x.toNat=181) && decide (y.toNat=98)
def bnx:List UInt8->List UInt8
 | []=>[181,98]
 | [x]=>[x,98]
 | x::y::_=>[x,y]
theorem bii (l:List UInt8):∃x y,bnx l=[x,y] /\([x,y]==[181,98])=vu l:=by
 have e:∀x y:UInt8,([x,y]==[181,98])=(decide (x.toNat=181) && decide (y.toNat=98)):=λx y=>by
  rw[b4i,b0g,b4r,b4r,b1w];simp only[b5g,and_true,<- b1y];rfl
 rcases l with _|⟨x,_|⟨y,l⟩⟩
 ·exact⟨181,98,rfl,rfl⟩
 ·refine⟨x,98,rfl,?_⟩;rw[e];show (decide (x.toNat=181) && true)=_;rw[Bool.and_true];rfl
 ·exact⟨x,y,rfl,e x y⟩
theorem bi8 (x y:UInt8) (w:World):(binOp .eql 211 (.agg #[.int .u8 (x.toNat:Int),.int .u8 (y.toNat:Int)]) (.agg #[.int .u8 181,.int .u8 98])).run prog w=.ok (.bool ([x,y]==[181,98])) w:=
 run_eql_bytes w 211 5 2 underlying211 underlying5 (λw=>by kernel_rfl) [x,y] [181,98] rfl rfl
theorem a7u (l:List UInt8):xv [181,98] 0 (l.take (min l.length 2))=bnx l:=by
 rcases l with _|⟨x,_|⟨y,l⟩⟩
 ·rfl
 ·rfl
 ·have:min (x::y::l).length 2=2:=by simp only[n6];omega
  rw[this];rfl
theorem ajb {Q:Nat->Prop} {w:World} (A:Option Addr) (c:Nat) (l:List UInt8) (h:qf Q w A (bsV l)) (hm:l.length<=maxLen) (hc:l.length<=c) :
 Calls prog 73 #[.slice A l.length c] w λe w'=>e=.returned (.bool (vu l))/\Below w.1.size w w':=by
 unfold maxLen at hm;obtain⟨n,hn,hn2,hn3⟩:∃n:Nat,min (l.length:Int) 2=(n:Int)/\n<=2/\n=min l.length 2:=⟨min l.length 2,by omega,by omega,rfl⟩;have hw0:Below w.1.size w ((w.alloc (.cells #[.int .u8 181,.int .u8 98] 211)).alloc (.cells #[.int .u8 181,.int .u8 98] 211)):=qb (qa _ _) (qa _ _);have hb1:Blk ((w.alloc (.cells #[.int .u8 181,.int .u8 98] 211)).alloc (.cells #[.int .u8 181,.int .u8 98] 211)) w.1.size (bsV [181,98]):=(Blk.newL (qg w _ _) rfl).on (qa _ _)
 have hb2:Blk ((w.alloc (.cells #[.int .u8 181,.int .u8 98] 211)).alloc (.cells #[.int .u8 181,.int .u8 98] 211)) (w.1.size+1) (bsV [181,98]):=by
  have:=Blk.newL (L:=bsV [181,98]) (qg (w.alloc (.cells #[.int .u8 181,.int .u8 98] 211)) #[.int .u8 181,.int .u8 98] 211) rfl
  rwa [show (w.alloc (.cells #[.int .u8 181,.int .u8 98] 211)).1.size=w.1.size+1 from by simp]at this
 have hsz:(bsV (l.take n)).length=n:=by rw[xm,l8];omega
 obtain⟨W',q1,q2⟩:=abx (P:=prog) (World.drew ((w.alloc (.cells #[.int .u8 181,.int .u8 98] 211)).alloc (.cells #[.int .u8 181,.int .u8 98] 211))) 22 22 3 5 underlying22 als (w.1.size+1) 0 2 2 A n c (bsV (l.take n)) (by
  rw[<- ys];exact((h.lt.below hw0 (λb q=>q.2)).keep (w':=World.drew _) λ_ _=>rfl).first n) hsz (agc _) (by rw[show Nat.min n 2=n from b1m hn2];exact hb2.drew.there 0 n (by rw[xm];simp;omega))
 rw[show Nat.min n 2=n from b1m hn2]at q1 q2;rw[b1h om]at q2;have hk2:=aku hb2.drew q2 (by rw[l8];simp only[n6,b0z];omega);rw[hn3,a7u]at hk2;obtain⟨x,y,e1,e2⟩:=bii l;rw[e1]at hk2;have hk1:Blk W' w.1.size (bsV [181,98]):=hb1.drew.far q2 om;have c1:=hk1.cell 0 (v:=.int .u8 181) rfl;have c2:=hk1.cell 1 (v:=.int .u8 98) rfl;have c3:=hk2.cell 0 (v:=.int .u8 (x.toNat:Int)) rfl;have c4:=hk2.cell 1 (v:=.int .u8 (y.toNat:Int)) rfl;have HB:=q_ (o3 e2 (hw0.drew.trans (q2.below (b2r _))));have HR:=q_ q1;generalize hL:l.length=L at *;have f1:(n:Int)<=c:=by omega
 clear q1 q2 hk1 hk2 hb1 hb2 hw0 hsz e1 e2 hn3 h hL;have EQ:=λW=>bi8 x y W
 go_enter func73,ntmps73;go_wp2_with fail
 go_cut [] (λwx=>wx=W')
 case first=>
  go_region_law ((refine kx kr (.tmp 11) (.tmp 14) 22 22 kr (.slice (some ⟨w.1.size+1,0,none⟩) 2 2) (.slice A n c) (goInt n) kr kr HR.o ?_))
  go_wp2_with fail
  go_meet
  rfl
 case rest=>
 subst hcut;clear HR;go_wp2_with fail;go_ret;refine⟨?_,HB.o.2⟩;rw[<- HB.o.1];show Ending.returned (.bool (x==181 && y==98))=_;rw[show ([x,y]==[181,98])=(x==181 && y==98)from by simp]
def xz (c:UInt8):Int:=if c.toNat=181 then 1 else if c.toNat=36 then 2 else if c.toNat=254 then 3 else 0
theorem amp (c:UInt8) (w:World):Calls prog 13 #[bV c] w λe w'=>e=.returned (.int .i64 (xz c))/\w=w':=by
 unfold bV xz;generalize c.toNat=n
 by_cases h1:n=181
 ·subst h1;go_enter func13,ntmps13;go_wp2;go_ret;exact⟨rfl,rfl⟩
 by_cases h2:n=36
 ·subst h2;go_enter func13,ntmps13;go_wp2;go_ret;exact⟨rfl,rfl⟩
 by_cases h3:n=254
 ·subst h3;go_enter func13,ntmps13;go_wp2;go_ret;exact⟨rfl,rfl⟩
 have b1:((n:Int)==181)=false:=by rw[l7];omega
 have b2:((n:Int)==36)=false:=by rw[l7];omega
 have b3:((n:Int)==254)=false:=by rw[l7];omega
 rw[if_neg h1,if_neg h2,if_neg h3];clear h1 h2 h3;go_enter func13,ntmps13;go_wp2;go_ret;exact⟨rfl,rfl⟩
def asj (b:Nat) (C:List Int):List Value:=.pointer (some ⟨b,0,none⟩)::C.map (Value.int .i64)
structure jr (W:World) (g b:Nat) (C:List Int) (l:List UInt8):Prop where
 blk:Blk W g (asj b C)
 len:C.length=13
 win:v7 W b l
 ne:b≠g
theorem jr.on {W W':World} {g b:Nat} {C:List Int} {l:List UInt8} (h:jr W g b C l) (hb:Below W.1.size W W'):jr W' g b C l:=⟨h.blk.on hb,h.len,h.win.on hb,h.ne⟩
theorem jr.c0 {W:World} {g b:Nat} {C:List Int} {l:List UInt8} (h:jr W g b C l):W.cell? ⟨g,0,none⟩=some (.pointer (some ⟨b,0,none⟩)):=h.blk.cell 0 rfl
theorem jr.ck {W:World} {g b:Nat} {C:List Int} {l:List UInt8} (h:jr W g b C l) (k:Nat) (hk:k<C.length):W.cell? ⟨g,k+1,none⟩=some (.int .i64 C[k]):=h.blk.cell (k+1) (by
 unfold asj;rw[b2m,b0l,d7 hk];rfl)
theorem azu (b:Nat) (C:List Int):(asj b C).length=C.length+1:=by unfold asj;simp
theorem jr.moved {W W':World} {g b:Nat} {C:List Int} {l l':List UInt8} (h:jr W g b C l) (hw:v7 W' b l') (hk:qi (λj=>j≠b) W W'):jr W' g b C l':=
 ⟨h.blk.kept (hk.block g (λe=>h.ne e.symm)) hk.size,h.len,hw,h.ne⟩
theorem jr.set {W:World} {g b:Nat} {C:List Int} {l:List UInt8} (h:jr W g b C l) (k:Nat) (v:Int) (hk:k<13):jr (W.setCell ⟨g,k+1,none⟩ (.int .i64 v)) g b (C.set k v) l:=by
 have hlen:=h.len;have hs:qq W (W.setCell ⟨g,k+1,none⟩ (.int .i64 v)) g (k+1) [.int .i64 v]:=zm (h.blk.there (k+1) 1 (by rw[azu];omega));refine⟨?_,by rw[b3t];exact hlen,h.win.kept (hs.far b h.ne) (b1e hs.sz.symm),h.ne⟩
 have e1:∀x,asj b (C.set k x)=(.pointer (some ⟨b,0,none⟩)::(C.take k).map (Value.int .i64))++[.int .i64 x] ++(C.drop (k+1)).map (Value.int .i64):=λx=>by
  unfold asj;rw[b31,if_pos om];simp
 have e2:C.set k (C[k]'(by omega))=C:=List.set_getElem_self _;have h1:=h.blk;rw[<- e2,e1]at h1;rw[e1];exact h1.put hs (by simp;omega) rfl
theorem jr.keptS {W:World} {g b:Nat} {C:List Int} {l:List UInt8} (h:jr W g b C l) (k:Nat) (v:Int):qi (λj=>j≠b/\j≠g) W (W.setCell ⟨g,k+1,none⟩ (.int .i64 v)):=
 (qi.refl _ _).set (λq=>q.2 rfl) _ _
theorem bag (b:Nat) (w:World):(Instr.build 115 #[(0,.pointer (some ⟨b,0,none⟩))]).run prog w=.ok (.agg (asj b [0,0,0,0,0,0,0,0,0,0,0,0,0]).toArray) w:=by kernel_rfl
theorem a62 (w:World):Calls prog 21 #[] w λe w'=>e=.returned (.pointer (some ⟨w.1.size+1,0,none⟩))/\jr w' (w.1.size+1) w.1.size [0,0,0,0,0,0,0,0,0,0,0,0,0] []/\Below w.1.size w w'/\w'.1.size=w.1.size+2:=by
 have HB:=λW=>q_ (bag w.1.size W)
 go_enter func21,ntmps21;go_wp2_with fail;refine(a8n _).mono ?_;rintro e w1 ⟨rfl,hw,hb,hs⟩;have HW:=q_ hw;have HB1:=q_ hb;have HS:=q_ hs;clear hw hb hs
 go_wp2_with (first
  | refine zf (u:=.pointer (some ⟨w.1.size,0,none⟩)) rfl 115 0 _ rfl rfl (HB _).o ?_
  | (refine qr rfl _ _ rfl (asj w.1.size [0,0,0,0,0,0,0,0,0,0,0,0,0]).toArray rfl ?_;intro W1 hW1;have HK1:=q_ (Blk.newL (L:=asj w.1.size [0,0,0,0,0,0,0,0,0,0,0,0,0]) hW1 b1d);have HG:=q_ hW1;clear hW1))
 go_ret;have e:=HS.o;refine⟨by rw[<- e];rfl,⟨by rw[<- e];exact HK1.o,rfl,HW.o.on HG.o.bel,by omega⟩,qb HB1.o HG.o.bel,by rw[HG.o.sz,e]⟩
theorem adn {W:World} {g b:Nat} {C:List Int} {l:List UInt8} (h:jr W g b C l):Calls prog 37 #[.pointer (some ⟨g,0,none⟩)] W λe w'=>e=.returned (.bool true)/\W=w':=by
 have c0:=h.c0;clear h;go_enter func37,ntmps37;go_wp2;go_ret;exact⟨rfl,rfl⟩
theorem a15 {W:World} {g b:Nat} {C:List Int} {l:List UInt8} (h:jr W g b C l):Calls prog 25 #[.pointer (some ⟨g,0,none⟩)] W λe w'=>e=.returned (.slice (some ⟨W.1.size,0,none⟩) l.length l.length)/\Blk w' W.1.size (bsV l)/\jr w' g b C l/\Below W.1.size W w'/\w'.1.size=W.1.size+1:=by
 have c0:=h.c0;have H:=q_ h;clear h;go_enter func25,ntmps25;go_wp2_with (refine(adn H.o).mono ?_;rintro e w' ⟨rfl,rfl⟩);refine(an3 H.o.win).mono ?_;rintro e w1 ⟨rfl,hk,hw,hb,hs⟩;have HD:=q_ (H.o.on hb);have HH:=q_ (o3 hk (o3 hb hs));clear hk hw hb hs H c0;go_wp2_with fail;go_ret;exact⟨rfl,HH.o.1,HD.o,HH.o.2.1,HH.o.2.2⟩
theorem aoh {P:Program} {w:World} {a:Addr} {m:Mode} (f:_) (x:_) (y:_):(store a (.func f x y) m).run P w=stored P w a (.func f x y) m:=run_store P w a _ m rfl
def ki:List Value:=[.int .i64 0,.int .i64 0,.int .i64 0,.int .i64 0,.int .i64 0,.int .i64 0,.int .i64 0,.int .i64 0,.int .i64 0,.int .i64 0,.int .i64 0,.int .i64 0,.int .i64 0,.int .i64 0,.int .i64 0,.int .i64 0,.int .i64 0,.int .i64 0,.int .i64 0,.int .i64 0,.int .i64 0,.int .i64 0,.int .i64 0,.int .i64 0,.int .i64 0,.int .i64 0,.int .i64 0,.int .i64 0,.int .i64 0,.int .i64 0,.int .i64 0,.int .i64 0,.int .i64 0,.int .i64 0,.slice none 0 0,.int .i64 0,.int .i64 0,.int .i64 0,.int .i64 0,.int .i64 0,.int .i64 0,.int .i64 0,.int .i64 0,.bool false,.int .i64 0,.int .i64 0,.int .i64 0,.slice none 0 0]
def acm:List Value:=[.int .i64 0,.string ByteArray.empty,.bool false,.int .i64 0,.int .i64 0,.int .i64 0,.int .i64 0,.bool false,.int .i64 0,.bool false,.int .i64 0,.int .i64 0,.bool false,.int .i64 0,.bool false,.int .i64 0,.bool false,.int .i64 0,.bool false,.int .i64 0,.bool false,.int .i64 0,.bool false,.int .i64 0,.bool false,.int .i64 0,.int .i64 0,.int .i64 0,.int .i64 0,.bool false,.bool false,.int .i64 0,.bool false,.int .i64 0,.bool false,.int .i64 0,.bool false,.int .i64 0,.bool false,.int .i64 0,.bool false,.int .i64 0,.int .i64 0,.int .i64 0,.bool false,.int .i64 0,.slice none 0 0,.bool false,.int .i64 0,.bool false,.int .i64 0,.bool false,.int .i64 0,.bool false,.int .i64 0,.bool false,.int .i64 0,.bool false,.int .i64 0,.bool false,.int .i64 0,.int .i64 0,.int .i64 0,.int .i64 0,.slice none 0 0]
def ac8:List Value:=[.int .i64 0,.int .i64 0,.int .i64 0,.int .i64 0,.slice none 0 0]
def itL (p:Int) (o:Bool) (U N T:List Value):List Value:=.int .i64 p::.bool o::(U ++(N++T))
def ac7:List Value:=itL 0 false ki acm ac8
def al3:Array Value:=ac7.toArray
def aer:Array Value:=ki.toArray
def veL (d p n e:Int) (L:List Value):List Value:=.int .i64 d::.int .i64 p::.int .i64 n::.int .i64 e::L
def veA (d p n e:Int):Array Value:=(veL d p n e ac7).toArray
theorem bkq (d p n e:Int):(veA d p n e).toList=veL d p n e ac7:=rfl
theorem bnn (d p n e:Int):(veL d p n e ac7).length=124:=rfl
theorem adr (w:World):(zeroValue 64).run prog w=.ok (.agg al3) w:=by kernel_rfl
theorem al5 (w:World):(zeroValue 38).run prog w=.ok (.agg aer) w:=by kernel_rfl
theorem ag3 (w:World):(zeroValue 66).run prog w=.ok (.agg (veA 0 0 0 0)) w:=by kernel_rfl
theorem ajv (w:World):(Instr.build 38 #[]).run prog w=.ok (.agg aer) w:=by kernel_rfl
theorem baf (w:World):(Instr.build 66 #[]).run prog w=.ok (.agg (veA 0 0 0 0)) w:=by kernel_rfl
theorem a4r (w:World):(Instr.build 66 #[(0,.int .i64 1),(3,.int .i64 3)]).run prog w=.ok (.agg (veA 1 0 0 3)) w:=by kernel_rfl
theorem a4q (d p:Int) (w:World):(Instr.build 66 #[(0,.int .i64 d),(1,.int .i64 p)]).run prog w=.ok (.agg (veA d p 0 0)) w:=by kernel_rfl
theorem azb (d p e:Int) (w:World):(Instr.build 66 #[(0,.int .i64 d),(1,.int .i64 p),(3,.int .i64 e)]).run prog w=.ok (.agg (veA d p 0 e)) w:=by kernel_rfl
theorem ao1 (d p n e:Int):(veA d p n e).all (·.oneCell')=true:=by
 refine kf λv hv=>?_
 rw[bkq]at hv;unfold veL at hv;rcases b03.1 hv with rfl|hv
 ·rfl
 rcases b03.1 hv with rfl|hv
 ·rfl
 rcases b03.1 hv with rfl|hv
 ·rfl
 rcases b03.1 hv with rfl|hv
 ·rfl
 have h:∀v∈ac7,v.oneCell'=true:=by decide +kernel
 exact h v hv
theorem ao2 (d p n e:Int):(prog.info? 66).map (·.size)=some (veA d p n e).size:=by kernel_rfl
def a1c (p:Int):Nat:=if p=1 then 41 else if p=2 then 43 else 45
def ofV (p:Int):Value:=.func (Fn.func (a1c p)) #[] #[]
theorem bb2 (p:Int) (w:World):Calls prog 26 #[.int .i64 p] w λe w'=>e=.returned (.agg #[ofV p])/\Below w.1.size w w':=by
 have hsf:=@aoh prog;unfold ofV a1c
 by_cases h1:p=1
 ·subst h1;go_enter func26,ntmps26;go_wp2_with fail;exact b9 (v:=.agg #[.func (Fn.func 41) #[] #[]]) (by simp[results,results26,go_sem]) rfl ⟨rfl,qa _ _⟩
 by_cases h2:p=2
 ·subst h2;go_enter func26,ntmps26;go_wp2_with fail;exact b9 (v:=.agg #[.func (Fn.func 43) #[] #[]]) (by simp[results,results26,go_sem]) rfl ⟨rfl,qa _ _⟩
 rw[if_neg h1,if_neg h2];have b1:(p==1)=false:=by rw[l7];exact h1
 have b2:(p==2)=false:=by rw[l7];exact h2
 clear h1 h2;go_enter func26,ntmps26;go_wp2_with fail;exact b9 (v:=.agg #[.func (Fn.func 45) #[] #[]]) (by simp[results,results26,go_sem]) rfl ⟨rfl,qa _ _⟩
def ae5:Value:=.agg #[.int .i64 0,.int .i64 0,.slice none 0 0]
theorem zq {fn:Func} {p u v:Tmp} {ty:TypeId} (h:fn.results=#[.cell p ty,.tmp u,.tmp v]) (tmps:Array Value) (P:Program) (w:World) :
 (results fn tmps).run P w =
  ((asAddr (tmps.getD p undef)).run P w).andThen λa w₁=>((loadVar ty a).run P w₁).andThen λv' w₂=>.ok (.tuple #[v',tmps.getD u undef,tmps.getD v undef]) w₂:=by
 simp only[results,h];simp[Result.andThen]
theorem aa7 {fn:Func} {p:Tmp} {ty:TypeId} (h:fn.results=#[.cell p ty]) (tmps:Array Value) (P:Program) (w:World) :
 (results fn tmps).run P w=((asAddr (tmps.getD p undef)).run P w).andThen λa w₁=>(loadVar ty a).run P w₁:=by
 simp only[results,h];simp[Result.andThen]
theorem awb {w1:World} {b:Nat} {x y z:Value} (hk:Blk w1 b [x,y,z]) (p q r:Value):(loadVar 143 ⟨b,0,none⟩).run prog (((w1.setCell ⟨b,0,none⟩ p).setCell ⟨b,1,none⟩ q).setCell ⟨b,2,none⟩ r)=.ok (.agg #[p,q,r]) (((w1.setCell ⟨b,0,none⟩ p).setCell ⟨b,1,none⟩ q).setCell ⟨b,2,none⟩ r)/\Below b w1 (((w1.setCell ⟨b,0,none⟩ p).setCell ⟨b,1,none⟩ q).setCell ⟨b,2,none⟩ r):=by
 have hs:qq w1 (((w1.setCell ⟨b,0,none⟩ p).setCell ⟨b,1,none⟩ q).setCell ⟨b,2,none⟩ r) b 0 [p,q,r]:=qo (cs:=[p,q,r]) (hk.there 0 3 (a8 _));exact⟨t9 (P:=prog) _ b 0 143 [p,q,r] _ (hk.all hs rfl).rg underlying143 rfl kr,hs.below (a8 _)⟩
theorem asl {Q:Nat->Prop} {w:World} (A:Option Addr) (c:Nat) (l:List UInt8) (h:qf Q w A (bsV l)) (hm:l.length<6) (hc:l.length<=c) :
 Calls prog 60 #[.slice A l.length c] w λe w'=>e=.returned (.tuple #[ae5,.int .i64 0,.int .i64 (if vu l then 2 else 3)])/\Below w.1.size w w':=by
 have hb:=ajb (w:=w.alloc (.cells #[.int .i64 0,.int .i64 0,.slice none 0 0] 143)) A c l (h.lt.below (qa _ _) (λb q=>q.2)) (by unfold maxLen;omega) hc;have HB:=q_ hb;have HK:=q_ (Blk.newL (L:=[.int .i64 0,.int .i64 0,.slice none 0 0]) (qg w #[.int .i64 0,.int .i64 0,.slice none 0 0] 143) rfl);clear hb h;have hl:(l.length:Int)<6:=by omega
 generalize l.length=L at *;cases hbg:vu l
 all_goals
  rw[hbg]at HB;go_enter func60,ntmps60;go_wp2_with fail;refine HB.o.mono ?_;rintro e w1 ⟨rfl,hb⟩;have HK1:=q_ (HK.o.on hb);have HB1:=q_ (qb (qa w _) hb);have g0:=HK1.o.cell 0 rfl;have g1:=HK1.o.cell 1 rfl;have g2:=HK1.o.cell 2 rfl;have z0:=HK1.o.fz 0;have z1:=HK1.o.fz 1;have z2:=HK1.o.fz 2;clear hb HB HK;go_wp2_with fail;obtain⟨r1,r2⟩:=awb HK1.o (.int .i64 0) (.int .i64 0) (.slice none 0 0)
 ·exact b9 (v:=.tuple #[ae5,.int .i64 0,.int .i64 3]) (by rw[zq rfl];simp[asAddr,Result.andThen,r1,ae5]) rfl ⟨rfl,HB1.o.trans r2⟩
 ·exact b9 (v:=.tuple #[ae5,.int .i64 0,.int .i64 2]) (by rw[zq rfl];simp[asAddr,Result.andThen,r1,ae5]) rfl ⟨rfl,HB1.o.trans r2⟩
theorem are:∀(xs:List Value) (off j:Nat) (L:List Value),off+j+xs.length<=L.length ->(xs.zipIdx j).foldl (λcs (p:Value×Nat)=>cs.set (off+p.2) p.1) L=xv L (off+j) xs
 | [],off,j,L,h=>by
  unfold xv;simp
 | x::xs,off,j,L,h=>by
  rw[n6]at h;rw[List.zipIdx_cons,b2l,are xs off (j+1) _ (by rw[b3t];omega)];apply b24;intro k;rw[agt (by rw[b3t];omega),agt (by rw[n6];omega),n6]
  by_cases h1:off +(j+1)<=k/\k<off +(j+1)+xs.length
  ·rw[if_pos h1,if_pos om,show k-(off+j)=(k-(off +(j+1)))+1 from by omega,b2m]
  ·rw[if_neg h1];dsimp only
   by_cases h2:k=off+j
   ·subst h2;rw[if_pos om,b23,b36 om];rfl
   ·rw[if_neg om,b4f om]
theorem a0a (l:List (Value×Nat)) (off:Nat):∀C:Array Value,(l.foldl (λcs (p:Value×Nat)=>cs.setIfInBounds (off+p.2) p.1) C).toList=l.foldl (λcs (p:Value×Nat)=>cs.set (off+p.2) p.1) C.toList:=by
 induction l with
 | nil=>intro C;rfl
 | cons p l ih=>
  intro C;rw[b2l,b2l,ih,Array.toList_setIfInBounds]
theorem yu {place:Nat->Option (Nat×Nat)} {C:Array Value} {i off:Nat} {v:Value} {L:List Value} {rest:List (Nat×Value)} (hL:v.cells=L.toArray) (hp:place i=some (off,L.length)) (hb:off+L.length<=C.size) :
 Instr.fill place C ((i,v)::rest)=Instr.fill place (xv C.toList off L).toArray rest:=by
 rw[Instr.fill];simp only[hp,hL,o6];rw[if_neg (by simp;omega)]
 congr 1
 apply Array.toList_inj.1
 have e:(L.toArray.zipIdx).foldl (λcs (x:Value×Nat)=>cs.setIfInBounds (off+x.2) x.1) C=(L.zipIdx).foldl (λcs (p:Value×Nat)=>cs.setIfInBounds (off+p.2) p.1) C:=by
  rw[<- Array.foldl_toList];simp
 show ((L.toArray.zipIdx).foldl (λcs (x:Value×Nat)=>cs.setIfInBounds (off+x.2) x.1) C).toList=_;rw[e,a0a,are L off 0 C.toList (by simpa using hb)];rfl
theorem acu {α:Type} (A M D xs:List α) (h:xs.length=M.length):xv (A ++(M++D)) A.length xs=A ++(xs++D):=by
 unfold xv;rw[b5e rfl,h,<- b10,b5h rfl,b5h rfl,b0s]
theorem acr {P:Program} {w:World} {t:TypeId} {fs:Array Field} {z:Array Value} {pl:Array (Nat×Nat)} {parts:Array (Nat×Value)} {C:Array Value} (hu:P.underlying t=some (.struct fs)) (hz:(zeroValue t).run P w=.ok (.agg z) w)
 (hp:(fs.mapM λf=>do pure (f.offset,<- sizeOf f.type):Sem (Array (Nat×Nat))).run P w=.ok pl w) (hf:Instr.fill (λi=>pl[i]?) z parts.toList=some C):(Instr.build t parts).run P w=.ok (.agg C) w:=by
 have hun:(underlying t).run P w=.ok (.struct fs) w:=b3f hu w;unfold Instr.build;simp only[b1k,hz,b1f,hun,hp];have h2:Instr.fill (λx=>pl[x]?) (Value.agg z).cells parts.toList=some C:=hf;simp[h2]
