/- Parts. -/
import Derived.Test.YtdkhlkfleggbaaaGreatU00
import Derived.Laws.BitsAllLaws
import Derived.Deep.RegionLaw
import Derived.Deep.CutBlock
import Derived.RegionTactic
import Derived.Lib.SlBuf
import Derived.Deep.RegionHeld3
import Derived.Lib.SliceRun
import Derived.OwnWalk
import Derived.Deep.RegionWith
import Derived.Laws.OwnMore
import Derived.Stop.BytesEq
import Derived.WalkMore
import Derived.ScopeJumps
namespace Go.Proofs.YtdkhlkfleggbaaaGreat
set_option maxHeartbeats 4000000
set_option maxRecDepth 8000
open Lib (hid)
open Tryz
set_option linter.unusedVariables false
open Go.RowKit
def jg {α:Type} (D:List α) (o:Nat) (xs:List α):List α:=D.take o++xs++D.drop (o+xs.length)
theorem agl {α:Type} {D:List α} {o:Nat} {xs:List α} (h:o+xs.length≤D.length):(jg D o xs).length=D.length:=by
 unfold jg;simp only[d7,l7,l8];omega
theorem agk {α:Type} {D:List α} {o:Nat} {xs:List α} (h:o+xs.length≤D.length) (j:Nat):(jg D o xs)[j]?=if o≤j∧j<o+xs.length then xs[j-o]? else D[j]?:=by
 unfold jg;have hl:(D.take o).length=o:=by rw[l7];omega
 by_cases h1:j<o
 ·rw[if_neg om,b0l,b0a om,b1t h1]
 ·by_cases h2:j<o+xs.length
  ·rw[if_pos ⟨by omega,h2⟩,b0a (by rw[d7];omega),t8 om,hl]
  ·rw[if_neg om,t8 (by rw[d7];omega),d7,hl,b3g]
   congr 1;omega
def a8p (D:List UInt8) (a:Nat) (l:List UInt8):Prop:=∀i (h:i<l.length),D[(a+i)%1024]?=some l[i]
theorem bfx {D l xs:List UInt8} {a E K1:Nat} (h:a8p D a l) (hD:D.length=1024) (ha:a<1024) (hl:l.length+xs.length≤1024) (hE:E=(a+l.length)%1024) (hK:K1=min xs.length (1024-E)) :
 a8p (jg (jg D E (xs.take K1)) 0 (xs.drop K1)) a (l++xs):=by
 intro i hi;have l1:(xs.take K1).length=K1:=by rw[l7];omega
 have l2:(xs.drop K1).length=xs.length-K1:=l8;have s1:(jg D E (xs.take K1)).length=1024:=by rw[agl (by rw[l1];omega),hD]
 rw[d7]at hi;rw[agk (by rw[l2,s1];omega),agk (by rw[l1];omega),l1,l2]
 by_cases q:i<l.length
 ·rw[if_neg om,if_neg om,h i q,b13 q]
 ·rw[b2i om]
  by_cases r:i-l.length<K1
  ·have e:(a+i)%1024=E +(i-l.length):=by omega
   rw[if_neg om,if_pos om,e,b1t om,show E +(i-l.length)-E=i-l.length from by omega];exact c8 om
  ·have e:(a+i)%1024=i-l.length-K1:=by omega
   rw[if_pos om,b3g,show K1 +((a+i)%1024-0)=i-l.length from by omega];exact c8 om
theorem ba2 {D l:List UInt8} {a k:Nat} (h:a8p D a l) (hk:k≤l.length):a8p D ((a+k)%1024) (l.drop k):=by
 intro i hi;rw[l8]at hi;have:=h (k+i) om;rw[show ((a+k)%1024+i)%1024=(a +(k+i))%1024 from by omega,this,b31]
theorem ba3 {D l:List UInt8} {a K1:Nat} (h:a8p D a l) (hD:D.length=1024) (ha:a<1024) (hl:l.length≤1024) (hK:K1=min l.length (1024-a)) :
 (D.drop a).take K1++D.take (l.length-K1)=l:=by
 apply b2r;intro i
 by_cases q:i<l.length
 ·rw[c8 q,← h i q]
  by_cases r:i<K1
  ·rw[b0a (by rw[l7,l8];omega),b1t r,b3g]
   congr 1;omega
  ·rw[t8 (by rw[l7,l8];omega),b1t (by rw[l7,l8];omega)]
   congr 1
   rw[l7,l8];omega
 ·rw[t9 (l:=l) om,t9];rw[d7,l7,l7,l8];omega
def bV (c:UInt8):Value:=.int .u8 (c.toNat:Int)
def bsV (l:List UInt8):List Value:=l.map bV
theorem xl (l:List UInt8):(bsV l).length=l.length:=b0s _
theorem ade (l m:List UInt8):bsV (l++m)=bsV l++bsV m:=b1y
theorem v6 (l:List UInt8) (n:Nat):(bsV l).take n=bsV (l.take n):=(List.map_take ..).symm
theorem abp (l:List UInt8) (n:Nat):(bsV l).drop n=bsV (l.drop n):=(List.map_drop ..).symm
theorem vz {l:List UInt8} {k:Nat} (h:k<l.length):(bsV l)[k]?=some (bV l[k]):=by
 unfold bsV;rw[b0m,c8 h];rfl
theorem af0 (l:List UInt8):∀v∈bsV l,v.oneCell'=true:=by
 intro v hv;obtain⟨c,-,rfl⟩:=b2c.1 hv;rfl
def abn (D:List UInt8) (at_ n:Int):List Value:=[.bool true]++bsV D++[.int .i64 at_,.int .i64 n]
theorem ah5 {D:List UInt8} (h:D.length=1024) (a n:Int):(abn D a n).length=1027:=by
 unfold abn;simp[xl,h]
theorem alo {D:List UInt8} (h:D.length=1024) (a n:Int):(abn D a n)[1025]?=some (.int .i64 a):=by
 unfold abn;rw[t8 (by simp[xl,h])];simp[xl,h]
theorem akb {D:List UInt8} (h:D.length=1024) (a n:Int):(abn D a n)[1026]?=some (.int .i64 n):=by
 unfold abn;rw[t8 (by simp[xl,h])];simp[xl,h]
theorem bmd {D:List UInt8} (h:D.length=1024) (a n:Int) {k:Nat} (hk:k<1024):(abn D a n)[1+k]?=some (bV (D[k]'(by omega))):=by
 unfold abn;rw[b0a (by simp[xl,h];omega),t8 sm];rw[show 1+k-[Value.bool true].length=k from by simp];exact vz om
structure auu (W:World) (b:Nat) (D:List UInt8) (a:Nat) (l:List UInt8):Prop where
 blk:Blk W b (abn D a l.length)
 len:D.length=1024
 at_:a<1024
 max:l.length≤1024
 ring:a8p D a l
def vy (W:World) (b:Nat) (l:List UInt8):Prop:=∃D a,auu W b D a l
theorem auu.on {W W':World} {b:Nat} {D:List UInt8} {a:Nat} {l:List UInt8} (h:auu W b D a l) (hb:Below W.1.size W W'):auu W' b D a l:=⟨h.blk.on hb,h.len,h.at_,h.max,h.ring⟩
theorem auu.kept {W W':World} {b:Nat} {D:List UInt8} {a:Nat} {l:List UInt8} (h:auu W b D a l) (hk:W'.heap[b]?=W.heap[b]?) (hz:W.1.size≤W'.1.size):auu W' b D a l:=⟨h.blk.kept hk hz,h.len,h.at_,h.max,h.ring⟩
theorem vy.on {W W':World} {b:Nat} {l:List UInt8} (h:vy W b l) (hb:Below W.1.size W W'):vy W' b l:=by
 obtain⟨D,a,h⟩:=h;exact⟨D,a,h.on hb⟩
theorem vy.kept {W W':World} {b:Nat} {l:List UInt8} (h:vy W b l) (hk:W'.heap[b]?=W.heap[b]?) (hz:W.1.size≤W'.1.size):vy W' b l:=by
 obtain⟨D,a,h⟩:=h;exact⟨D,a,h.kept hk hz⟩
theorem vy.lt {W:World} {b:Nat} {l:List UInt8} (h:vy W b l):b<W.1.size:=by
 obtain⟨D,a,h⟩:=h;exact h.blk.lt
def bcs:List UInt8:=List.replicate 1024 0
def bmf:Array Value:=(abn bcs 0 0).toArray
theorem bcv:bmf.toList=abn bcs 0 0:=rfl
set_option maxRecDepth 100000 in
theorem a89 (w:World):(Instr.build 138 #[(0,.bool true)]).run prog w=.ok (.agg bmf) w:=by kernel_rfl
theorem bct:abn bcs ((0:Nat):Int) ((([]:List UInt8).length:Nat):Int)=abn bcs 0 0:=by rw[b04,Int.natCast_zero]
theorem a7h (w:World):Calls prog 36 #[] w fun e w'=>e=.returned (.pointer (some ⟨w.1.size,0,none⟩))∧vy w' w.1.size []∧Below w.1.size w w'∧w'.1.size=w.1.size+1:=by
 have HB:=fun W=>hid (a89 W)
 go_enter func36,ntmps36
 go_wp2_with (first
  | refine zh (u:=.bool true) rfl 138 0 _ rfl rfl (HB _).out ?_
  | (refine qu rfl _ _ rfl bmf rfl ?_;intro W1 hW1;have HK1:=hid (Blk.newL (L:=abn bcs 0 0) hW1 bcv);have HB1:=hid hW1.bel;have HS1:=hid hW1.sz;clear hW1))
 go_ret;exact⟨rfl,⟨bcs,0,bct▸HK1.out,b1h,by omega,by simp,fun i h=>absurd h (b0v _)⟩,HB1.out,HS1.out⟩
theorem agw {w:World} {b:Nat} {l:List UInt8} (h:vy w b l):Calls prog 59 #[.pointer (some ⟨b,0,none⟩)] w fun e w'=>e=.returned (.bool true)∧w=w':=by
 obtain⟨D,a,h⟩:=h;have c0:=h.blk.cell 0 (v:=.bool true) rfl;clear h;go_enter func59,ntmps59;go_wp2;go_ret;exact⟨rfl,rfl⟩
theorem agv {w:World} {b:Nat} {l:List UInt8} (h:vy w b l):Calls prog 72 #[.pointer (some ⟨b,0,none⟩)] w fun e w'=>e=.returned (.int .i64 l.length)∧w=w':=by
 have H:=hid h;obtain⟨D,a,h⟩:=h;have c3:=h.blk.cell 1026 (akb h.len _ _);clear h;go_enter func72,ntmps72;go_wp2_with (refine(agw H.out).mono ?_;rintro e w' ⟨rfl,rfl⟩);go_ret;exact⟨rfl,rfl⟩
theorem ann {w:World} {b:Nat} {l:List UInt8} (h:vy w b l):Calls prog 55 #[.pointer (some ⟨b,0,none⟩)] w fun e w'=>e=.returned (.int .i64 (1024-l.length))∧w=w':=by
 have H:=hid h;obtain⟨D,a,h⟩:=h;have c3:=h.blk.cell 1026 (akb h.len _ _);have hm:=h.max;clear h;go_enter func55,ntmps55;go_wp2_with (refine(agw H.out).mono ?_;rintro e w' ⟨rfl,rfl⟩);go_ret;exact⟨rfl,rfl⟩
def je:List UInt8→Nat
 | []=>0
 | x::l=>x.toNat+256*je l
theorem aig:∀l:List UInt8,je l<256^l.length
 | []=>by simp[je]
 | x::l=>by
  have h:=aig l;have hx:=x.toNat_lt;simp only[je,n7,b2o];omega
theorem ats:∀(l:List UInt8) (x:UInt8),je (l++[x])=je l+x.toNat*256^l.length
 | [],x=>by simp[je]
 | y::l,x=>by
  simp only[b02,je,ats l x,n7,b2o];rw[Nat.mul_add,b20,b3i 256 (x.toNat*_),b4y]
theorem aqb (l:List UInt8) (k:Nat) (h:k<l.length):je (l.take (k+1))=je (l.take k)+l[k].toNat*256^k:=by
 rw[o5 h,ats,l7,b1d (b14 h)]
theorem be7 (l:List UInt8) (h:l.length≤8):je l<2^64:=by
 have h1:=aig l;have h2:256^l.length≤256^8:=b0w dc h;omega
def a8a (n u:Nat):Int:=if u<2^(8*n-1)then(u:Int)else(u:Int)-(2^(8*n):Nat)
theorem bff {k a c:Nat} (ha:a<2^k):a ||| (c*2^k)=a+c*2^k:=by
 rw[Nat.or_comm,b3i c,← Nat.two_pow_add_eq_or_of_lt ha,Nat.add_comm]
theorem bfm (k:Nat):256^k=2^(8*k):=by rw[show (256:Nat)=2^8 from rfl,← Nat.pow_mul]
theorem blb (l:List UInt8) (k:Nat) (h:k<l.length) (h8:l.length≤8):bits .or .u64 (je (l.take k):Int) (IntKind.u64.wrap (IntKind.u64.wrap (l[k].toNat:Int)*2^(8*k)))=(je (l.take (k+1)):Int):=by
 have h1:je (l.take k)<2^(8*k):=by
  have:=aig (l.take k)
  rwa [l7,b1d (b14 h),bfm]at this
 have hx:=l[k].toNat_lt
 have h2:l[k].toNat*2^(8*k)<18446744073709551616:=by
  have:2^(8*k)≤2^56:=b0w dc om;have:=b34 (Nat.le_of_lt_succ (show l[k].toNat<255+1 from hx)) this;omega
 have h3:2^(8*k)≤2^56:=b0w dc om;have e1:IntKind.u64.wrap (l[k].toNat:Int)=(l[k].toNat:Int):=b3m _ om;have e2:IntKind.u64.wrap (((l[k].toNat*2^(8*k):Nat)):Int)=((l[k].toNat*2^(8*k):Nat):Int):=b3m _ om;have e3:(l[k].toNat:Int)*2^(8*k)=((l[k].toNat*2^(8*k):Nat):Int):=by rw[b1z,Int.natCast_pow];rfl
 rw[e1,e3,e2,u64_or_nat _ _ om h2,bff h1,aqb l k h,bfm]
theorem a6g (n u:Nat) (h1:1≤n) (h8:n≤8) (hu:u<256^n):IntKind.i64.wrap (IntKind.u64.wrap ((u:Int)*2^(8*(8-n)))) / 2^(8*(8-n))=a8a n u:=by
 have:n=1∨n=2∨n=3∨n=4∨n=5∨n=6∨n=7∨n=8:=by omega
 unfold a8a;rcases this with rfl|rfl|rfl|rfl|rfl|rfl|rfl|rfl<;>simp only[IntKind.wrap,IntKind.bits,IntKind.signed]at *<;>(try simp at *)<;>split<;>omega
structure Fld where
 sz:Nat
 sg:Bool
 lo:Int
 hi:Int
deriving DecidableEq
def azg (f:Fld):List Value:=[.int .i64 f.sz,.bool f.sg,.int .i64 f.lo,.int .i64 f.hi]
def acl (l:List Fld):List Value:=l.flatMap azg
theorem aib {α:Type} (g:α→List Value) (m:Nat) (hg:∀x,(g x).length=m):∀(l:List α) (k:Nat) (h:k<l.length) (j:Nat),j<m →(l.flatMap g)[k*m+j]?=(g l[k])[j]?
 | [],k,h,_,_=>absurd h (b0v _)
 | x::l,0,_,j,hj=>by
  rw[b15,Nat.zero_mul,b0e,b0a (by rw[hg];exact hj)];rfl
 | x::l,k+1,h,j,hj=>by
  rw[b15,t8 (by rw[hg,b4m];omega),hg,show (k+1)*m+j-m=k*m+j from by rw[b4m];omega];exact aib g m hg l k (by simpa using h) j hj
theorem ate {α:Type} (g:α→List Value) (m:Nat) (hg:∀x,(g x).length=m) (l:List α):(l.flatMap g).length=l.length*m:=by
 induction l with
 | nil=>simp
 | cons f l ih=>rw[b15,d7,ih,hg,n7,b4m];omega
def bab (n:Nat) (s:Bool):Int:=if s=true∨n=8 then(2^(8*n-1):Nat)-1 else(2^(8*n):Nat)-1
def bac (n:Nat) (s:Bool):Int:=if s then -((2^(8*n-1):Nat):Int)else 0
def afy (n:Nat) (s:Bool):Fld:=⟨n,s,bac n s,bab n s⟩
def yu (f:Fld):Bool:=decide (1≤f.sz) && (decide (f.sz≤8) && (decide (f.lo≤f.hi) && (decide (bac f.sz f.sg≤f.lo) && (decide (f.lo≤bab f.sz f.sg) && (decide (bac f.sz f.sg≤f.hi) && decide (f.hi≤bab f.sz f.sg))))))
def an3 (f:Fld) (b:List UInt8):Int:=if f.sg then a8a f.sz (je b)else IntKind.i64.wrap (je b)
def yh (l:List Fld):Nat:=(l.map (·.sz)).sum
def aan:List Fld→List UInt8→Option (List Int)
 | [],_=>some []
 | f::l,b=>if f.lo≤an3 f (b.take f.sz)∧an3 f (b.take f.sz)≤f.hi then(aan l (b.drop f.sz)).map (an3 f (b.take f.sz)::·)else none
def xk (l:List Fld) (b:List UInt8):Int×List Int:=
 if b.length<yh l then(2,[])else if yh l<b.length then(7,[])else
  match aan l b with
  | some v=>(0,v)
  | none=>(5,[])
def qr (v:List Int):List Value:=v.map (Value.int .i64)
theorem jm (v:List Int):(qr v).length=v.length:=b0s _
theorem ami:∀(l:List Fld) (b:List UInt8) {v:List Int},aan l b=some v→v.length=l.length
 | [],_,v,h=>by cases h;rfl
 | f::l,b,v,h=>by
  unfold aan at h
  split at h
  ·obtain⟨v',h',rfl⟩:=b2u.1 h;simp[ami l _ h']
  ·cases h
theorem qp.nil (w:World) (b o:Nat):qp w w b o []:=
 ⟨rfl,rfl,rfl,rfl,fun _ _=>rfl,fun _=>rfl,fun j v hv=>by simp at hv,fun _ _ h _=>h,fun _ _ _ h=>h⟩
section
variable {P : Program}
theorem abu (w:World) (dT sT ty elem:TypeId) (hu:P.underlying dT=some (.slice elem)) (hs:(P.info? elem).map (·.size)=some 1) {R:Nat→Prop} (b o dLen dCap:Nat) (X:Option Addr) (sLen sCap:Nat) (xs:List Value)
 (hx:qf R w X xs) (hl:xs.length=sLen) (h1:∀v∈xs,v.oneCell'=true) (ht:w.there b o (Nat.min sLen dLen)) :
 ∃W,(Builtin.copy_ #[dT,sT] ty #[.slice (some ⟨b,o,none⟩) dLen dCap,.slice X sLen sCap]).run P w=.ok (goInt (Nat.min sLen dLen)) W∧qp w W b o (xs.take (Nat.min sLen dLen)):=by
 by_cases h0:Nat.min sLen dLen=0
 ·refine⟨w,?_,?_⟩
  ·rw[h0];exact run_copy_none w dT sT ty elem _ _ dLen dCap sLen sCap hu hs h0
  ·rw[h0,b10];exact qp.nil w b o
 ·have hlen:(xs.take (Nat.min sLen dLen)).length=Nat.min sLen dLen:=by
   rw[l7,hl];exact b1d (b45 _ _)
  have hpos:0<xs.length:=by have:Nat.min sLen dLen≤sLen:=b45 _ _;omega
  obtain⟨xb,xo,hX,-,-⟩:=hx 0 xs[0] (c8 hpos);subst hX
  have hr:=run_copy_cells (P:=P) w dT sT ty elem b o dLen dCap ⟨xb,xo,none⟩ sLen sCap (xs.take (Nat.min sLen dLen)) hu hs hlen (fun j v hv=>by
   have hj:j<(xs.take (Nat.min sLen dLen)).length:=by
    rcases b01 j (xs.take (Nat.min sLen dLen)).length with q|q
    ·exact q
    ·rw[t9 q]at hv;cases hv
   rw[b1t om]at hv;obtain⟨b',off,e1,-,e3⟩:=hx j v hv;injection e1 with e1
   injection e1 with e1 e2
   subst e1 e2;rw[adn];exact e3) (fun j hj=>by rw[hlen]at hj;exact(ht j hj).1) (fun j hj=>by rw[hlen]at hj;exact(ht j hj).2) (fun v hv=>h1 v (b25 hv))
  rw[hlen]at hr;exact⟨_,hr,qo (by rw[hlen];exact ht)⟩
theorem kt {w W:World} {ops:Array Oper} {o:Oper} {a:Act} {K:Act→World→Prop} {Q:Exit→Act→World→Prop} {E:Prop} (hgd:o.guard=none) (d s:Operand) (t t':TypeId)
 (ho:o.op=.call {callee:=.builtin .copy,args:=#[d,s],argTypes:=#[t,t']}) (v u r:Value) (hd:a.eval d=v) (hs:a.eval s=u)
 (hr:(Builtin.copy_ #[t,t'] o.type #[v,u]).run P w=.ok r W) (h:K (a.put o.dst r) W):if Region.wanted o (yielded ops a.tmps)=true then Oper.wp P o a w K Q else E:=by
 have hw:Region.wanted o (yielded ops a.tmps)=true:=by simp[Region.wanted,hgd]
 rw[if_pos hw];exact Lib.wp_copy_run w d s t t' ho v u hd hs hr h
end
theorem alj:(prog.info? 5).map (·.size)=some 1:=by kernel_rfl
theorem auj {w W:World} {b o:Nat} {D xs:List UInt8} {a n:Int} (h:Blk w b (abn D a n)) (hs:qp w W b (1+o) (bsV xs)) (hD:D.length=1024) (hf:o+xs.length≤1024):Blk W b (abn (jg D o xs) a n):=by
 have e1:abn D a n=([.bool true]++bsV (D.take o))++bsV ((D.drop o).take xs.length) ++(bsV (D.drop (o+xs.length))++[.int .i64 a,.int .i64 n]):=by
  unfold abn
  have:D=D.take o ++((D.drop o).take xs.length++D.drop (o+xs.length)):=by
   rw[← b1v,b0p,b0p]
  conv=>lhs;rw[this]
  rw[ade,ade];simp only[b0l]
 have e2:abn (jg D o xs) a n=([.bool true]++bsV (D.take o))++bsV xs ++(bsV (D.drop (o+xs.length))++[.int .i64 a,.int .i64 n]):=by
  unfold abn jg;rw[ade,ade];simp only[b0l]
 rw[e1]at h;rw[e2];refine h.put hs ?_ ?_
 ·rw[d7,xl,l7];simp only[n7,b04];omega
 ·rw[xl,xl,l7,l8];omega
theorem bkq {w W:World} {b:Nat} {D:List UInt8} {a n n':Int} (h:Blk w b (abn D a n)) (hs:qp w W b 1026 [.int .i64 n']) (hD:D.length=1024):Blk W b (abn D a n'):=by
 have e:∀m:Int,abn D a m=([.bool true]++bsV D++[.int .i64 a])++[.int .i64 m]++[]:=fun m=>by unfold abn;simp only[b0l,b0k];rfl
 rw[e]at h;rw[e];exact h.put hs (by rw[d7,d7,xl,hD];rfl) rfl
theorem bnd {w W:World} {b:Nat} {D:List UInt8} {a a' n:Int} (h:Blk w b (abn D a n)) (hs:qp w W b 1025 [.int .i64 a']) (hD:D.length=1024):Blk W b (abn D a' n):=by
 have e:∀m:Int,abn D m n=([.bool true]++bsV D)++[.int .i64 m]++[.int .i64 n]:=fun m=>by unfold abn;simp only[b0l];rfl
 rw[e]at h;rw[e];exact h.put hs (by rw[d7,xl,hD];rfl) rfl
theorem qj.stored {S:Nat→Prop} {w w1 w2:World} {b o:Nat} {cs:List Value} (h:qj S w w1) (hs:qp w1 w2 b o cs) (hb:¬S b):qj S w w2:=
 h.trans ⟨hs.os,hs.tape,hs.output,by rw[hs.sz];exact a8 _,fun k hk=>hs.far k (fun e=>hb (e▸hk))⟩
theorem qf.part {Q:Nat→Prop} {w:World} {b o:Nat} {xs:List Value} (h:qf Q w (some ⟨b,o,none⟩) xs) (k:Nat):qf Q w (some ⟨b,o+k,none⟩) (xs.drop k):=fun j u hu=>by
 rw[b3g]at hu;obtain⟨b',off,e1,e2,e3⟩:=h _ u hu;injection e1 with e1
 injection e1 with e1 e1'
 subst e1 e1';exact⟨b,o+k,rfl,e2,by rw[b20];exact e3⟩
theorem qf.first {Q:Nat→Prop} {w:World} {A:Option Addr} {xs:List Value} (h:qf Q w A xs) (k:Nat):qf Q w A (xs.take k):=fun j u hu=>by
 have hj:j<k:=by
  rcases b01 j k with q|q
  ·exact q
  ·rw[t9 (by rw[l7];omega)]at hu;cases hu
 rw[b1t hj]at hu;exact h j u hu
theorem a2u {w:World} {b:Nat} {l:List UInt8} (A:Option Addr) (m c:Nat) (h:vy w b l) (h0:m=0∨l.length=1024) (hm:m≤maxLen) :
 Calls prog 38 #[.pointer (some ⟨b,0,none⟩),.slice A m c] w fun e w'=>e=.returned (.int .i64 0)∧w=w':=by
 unfold maxLen at hm;have H:=hid h;have hn:l.length≤1024:=by obtain⟨D,a,h⟩:=h;exact h.max
 clear h;generalize hN:l.length=N at *;have hk:min (m:Int) (1024-(N:Int))=0:=by omega
 have HL:∀W,Hid (vy W b l→Calls prog 55 #[.pointer (some ⟨b,0,none⟩)] W fun e w'=>e=.returned (.int .i64 (1024-N))∧W=w'):=fun W=>hid (fun q=>by have:=ann q;rwa [hN]at this)
 clear hN h0;go_enter func38,ntmps38;go_wp2_with (refine((HL _).out H.out).mono ?_;rintro e w' ⟨rfl,rfl⟩);go_ret;exact⟨rfl,rfl⟩
theorem a2v {w:World} {b:Nat} {l bs:List UInt8} (b' off m c K:Nat) (h:vy w b l) (hbs:qf (fun k=>k≠b) w (some ⟨b',off,none⟩) (bsV bs)) (hl:bs.length=m) (hK:min (m:Int) (1024-(l.length:Int))=(K:Int)) (h0:0<K) (hm:m≤maxLen) (hc:m≤c) :
 Calls prog 38 #[.pointer (some ⟨b,0,none⟩),.slice (some ⟨b',off,none⟩) m c] w fun e w'=>e=.returned (.int .i64 K)∧vy w' b (l++bs.take K)∧qj (fun k=>k≠b) w w':=by
 unfold maxLen at hm;have H:=hid h;obtain⟨D,a,h⟩:=h;have hn:=h.max;have ha:=h.at_;have HW:=hid h;have c2:=h.blk.cell 1025 (alo h.len _ _);have c3:=h.blk.cell 1026 (akb h.len _ _);generalize hN:l.length=N at *;have HL:∀W,Hid (vy W b l→Calls prog 55 #[.pointer (some ⟨b,0,none⟩)] W fun e w'=>e=.returned (.int .i64 (1024-N))∧W=w'):=fun W=>hid (fun q=>by have:=ann q;rwa [hN]at this)
 have HN:=hid hN;clear h hN;have hb1:((K:Int)==0)=false:=by rw[l6];omega
 have e1:IntKind.i64.wrap ((a:Int) +(N:Int))=(a:Int) +(N:Int):=b00 _ om;have e2:(0:Int) ≤(a:Int) +(N:Int):=by omega
 obtain⟨E,hE,hEl,hEe⟩:∃E:Nat,((a:Int) +(N:Int))%1024=(E:Int)∧E<1024∧E=(a+N)%1024:=⟨(a+N)%1024,by omega,by omega,rfl⟩;have f1:(E:Int)≤1024:=by omega
 have f2:(K:Int)≤c:=by omega
 have f3:(K:Int)≤m:=by omega
 have hKl:N+K≤1024:=by omega
 have HE:=hid hEe;clear hEe;obtain⟨K1,hK1,k1,k2⟩:∃K1,Nat.min K (1024-E)=K1∧K1≤K∧E+K1≤1024:=⟨_,rfl,b45 _ _,by have:Nat.min K (1024-E)≤1024-E:=Nat.min_le_right _ _;omega⟩;have HK1:=hid hK1;have hxl:(bsV (bs.take K)).length=K:=by rw[xl,l7];omega
 have hsrc:∀W,qj (fun k=>k≠b) w W→qf (fun k=>k≠b) W (some ⟨b',off,none⟩) (bsV (bs.take K)):=fun W hk=>by
  rw[← v6];exact(hbs.kept hk (fun _ q=>q)).first K
 have HR1:∀nq,∃W,(Builtin.copy_ #[22,22] 3 #[.slice (some ⟨b,1+E,none⟩) (1024-E) (1024-E),.slice (some ⟨b',off,none⟩) K c]).run prog (w.drewN (nq+1))=.ok (goInt K1) W∧qp w W b (1+E) (bsV ((bs.take K).take K1)):=fun nq=>by
  obtain⟨W,q1,q2⟩:=abu (P:=prog) (w.drewN (nq+1)) 22 22 3 5 underlying22 alj b (1+E) (1024-E) (1024-E) (some ⟨b',off,none⟩) K c (bsV (bs.take K)) (hsrc _ ((qj.refl _ _).drewN (nq+1))) hxl (af0 _) (by rw[hK1];exact(HW.out.blk.there (1+E) K1 (by rw[ah5 HW.out.len];omega)));rw[hK1]at q1 q2;rw[v6]at q2;exact⟨W,q1,⟨q2.os,q2.tape,q2.output,q2.sz,q2.far,q2.fz,q2.rg,q2.apart,q2.there⟩⟩
 have HSR:=hid hsrc;have HXL:=hid hxl;have HBS:=hid hbs;have HLB:=hid hl;clear hK1 hsrc hxl hbs hl;go_enter func38,ntmps38;go_wp2_with (refine((HL _).out H.out).mono ?_;rintro e w' ⟨rfl,rfl⟩)
 go_cut [6] (fun s wx=>s=.int .i64 E∧∃nq,wx=w.drewN nq)
 case first=>
  go_quiet (fail)
  go_wp2_with fail
  go_meet
  exact⟨by rw[hE],_,rfl⟩
 case rest=>
 obtain⟨rfl,nq,rfl⟩:=hcut;clear c2 c3 e1 e2 hK hE hb1 f3;obtain⟨W1,hr1,hs1⟩:=HR1 nq;have HR:=hid hr1;have HS1:=hid hs1;clear hr1 hs1 HR1;go_wp2_with fail
 go_cut [7] (fun s wx=>s=.int .i64 K1∧wx=W1)
 case first=>
  have f4:¬1024=E:=by omega
  have f5:¬(1024:Int)=(E:Int):=by omega
  go_region_law ((refine kt kr (.tmp 29) (.tmp 32) 22 22 kr (.slice (some ⟨b,1+E,none⟩) (1024-E) (1024-E)) (.slice (some ⟨b',off,none⟩) K c) (goInt K1) kr kr HR.out ?_))
  go_wp2_with fail
  go_meet
  exact⟨rfl,rfl⟩
 case rest=>
 obtain⟨rfl,rfl⟩:=hcut;clear HR;have HB1:Hid (Blk wc b (abn (jg D E ((bs.take K).take K1)) a N)):=hid (auj (by have q:=HW.out.blk;rw[HN.out]at q;exact q) HS1.out HW.out.len (by rw[l7,← xl,HXL.out];omega));have HLS:Hid ((jg D E ((bs.take K).take K1)).length=1024):=hid (by rw[agl (by rw[l7,← xl,HXL.out,HW.out.len];omega)];exact HW.out.len);have HKE:Hid (qj (fun k=>k≠b) w wc):=hid ((qj.refl _ w).stored HS1.out (fun q=>q rfl))
 have HR2:Hid (∀X c',qf (fun k=>k≠b) wc X (bsV ((bs.take K).drop K1))→∃W,(Builtin.copy_ #[22,22] 3 #[.slice (some ⟨b,1,none⟩) 1024 1024,.slice X (K-K1) c']).run prog wc.drew=.ok (goInt (K-K1:Nat)) W∧qp wc W b 1 (bsV ((bs.take K).drop K1))):=hid fun X c' hX=>by
  have hl2:(bsV ((bs.take K).drop K1)).length=K-K1:=by rw[xl,l8,← xl,HXL.out]
  have hmin:Nat.min (K-K1) 1024=K-K1:=b1d om;obtain⟨W,q1,q2⟩:=abu (P:=prog) wc.drew 22 22 3 5 underlying22 alj b 1 1024 1024 X (K-K1) c' (bsV ((bs.take K).drop K1)) (hX.keep fun _ _=>rfl) hl2 (af0 _) (by rw[hmin];exact(HB1.out.there 1 (K-K1) (by rw[ah5 HLS.out];omega)));rw[hmin]at q1 q2;rw[b08 om]at q2;exact⟨W,q1,⟨q2.os,q2.tape,q2.output,q2.sz,q2.far,q2.fz,q2.rg,q2.apart,q2.there⟩⟩
 have f6:(K1:Int)≤K:=by omega
 have f7:(K1:Int)≤c:=by omega
 go_upto_region 6 with fail
 go_cut [] (fun wx=>Hid (qp wc wx b 1 (bsV ((bs.take K).drop K1))))
 case first=>
  by_cases hcK:c=K1
  ·obtain rfl:K=K1:=by omega
   subst hcK;obtain⟨W2,q1,q2⟩:=HR2.out (some ⟨b',off,none⟩) 0 (by rw[b1x (by rw[← xl,HXL.out];exact a8 _)];exact qf.nil _ _ _);rw[b2p]at q1;have HR:=hid q1;have HQ:=hid q2;clear q1 q2 HR2
   go_region_law ((refine kt kr (.tmp 37) (.tmp 41) 22 22 kr (.slice (some ⟨b,1,none⟩) 1024 1024) (.slice (some ⟨b',off,none⟩) 0 0) (goInt (0:Nat)) kr kr HR.out ?_))
   go_wp2_with fail
   go_meet
   exact HQ
  ·obtain⟨W2,q1,q2⟩:=HR2.out (some ⟨b',off+K1,none⟩) (c-K1) (by rw[← abp];exact(HSR.out _ HKE.out).part K1);have HR:=hid q1;have HQ:=hid q2;clear q1 q2 HR2;have hcK':¬(c:Int)=K1:=by omega
   go_region_law ((refine kt kr (.tmp 37) (.tmp 41) 22 22 kr (.slice (some ⟨b,1,none⟩) 1024 1024) (.slice (some ⟨b',off+K1,none⟩) (K-K1) (c-K1)) (goInt (K-K1:Nat)) kr kr HR.out ?_))
   go_wp2_with fail
   go_meet
   exact HQ
 case rest=>
 have HXK:Hid ((bs.take K).length=K):=hid (by rw[← xl,HXL.out]);have HL2:Hid ((jg (jg D E ((bs.take K).take K1)) 0 ((bs.take K).drop K1)).length=1024):=hid (by rw[agl (by rw[l8,HXK.out,HLS.out];omega)];exact HLS.out);have HB2:Hid (Blk wc b (abn (jg (jg D E ((bs.take K).take K1)) 0 ((bs.take K).drop K1)) a N)):=hid (auj (o:=0) HB1.out hcut.out HLS.out (by rw[l8,HXK.out];omega));have HKF:Hid (qj (fun k=>k≠b) w wc):=hid (HKE.out.stored hcut.out (fun q=>q rfl));have g3:=HB2.out.cell 1026 (akb HL2.out _ _);have z3:=HB2.out.fz 1026
 have HF:Hid (vy (wc.setCell ⟨b,1026,none⟩ (.int .i64 ((N:Int) +(K:Int)))) b (l++bs.take K)∧qj (fun k=>k≠b) w (wc.setCell ⟨b,1026,none⟩ (.int .i64 ((N:Int) +(K:Int))))):=hid (by
  have hst:qp wc (wc.setCell ⟨b,1026,none⟩ (.int .i64 ((N:Int) +(K:Int)))) b 1026 [.int .i64 ((N:Int) +(K:Int))]:=ze (HB2.out.there 1026 1 (by rw[ah5 HL2.out];omega));have e:(((l++bs.take K).length:Nat):Int)=(N:Int) +(K:Int):=by rw[d7,HXK.out,HN.out];omega
  refine⟨⟨_,a,by rw[e];exact bkq HB2.out hst HL2.out,HL2.out,ha,by rw[d7,HXK.out,HN.out];omega,?_⟩,HKF.out.stored hst (fun q=>q rfl)⟩;exact bfx HW.out.ring HW.out.len ha (by rw[HXK.out,HN.out];omega) (by rw[HN.out];exact HE.out) (by rw[HXK.out];exact HK1.out.symm))
 clear hcut HB2 HKF HL2 HXK HR2 HB1 HLS HKE HS1;go_wp2_with fail;go_ret;exact⟨rfl,HF.out.1,HF.out.2⟩
theorem arp {w:World} {b:Nat} {l bs:List UInt8} (A:Option Addr) (c:Nat) (h:vy w b l) (hbs:qf (fun k=>k≠b) w A (bsV bs)) (hm:bs.length≤maxLen) (hc:bs.length≤c) :
 Calls prog 38 #[.pointer (some ⟨b,0,none⟩),.slice A bs.length c] w fun e w'=>e=.returned (.int .i64 (min bs.length (1024-l.length):Nat))∧vy w' b (l++bs.take (min bs.length (1024-l.length)))∧qj (fun k=>k≠b) w w':=by
 have hmx:l.length≤1024:=by obtain⟨D,a,h⟩:=h;exact h.max
 by_cases h0:bs.length=0∨l.length=1024
 ·have e:min bs.length (1024-l.length)=0:=by omega
  rw[e];refine(a2u A _ c h h0 hm).mono ?_;rintro e w' ⟨rfl,rfl⟩;exact⟨rfl,by rw[b10,b0k];exact h,qj.refl _ _⟩
 ·have hp:0<(bsV bs).length:=by rw[xl];omega
  obtain⟨b',off,rfl,-,-⟩:=hbs 0 _ (c8 hp);exact a2v b' off bs.length c (min bs.length (1024-l.length)) h hbs rfl om om hm hc
theorem asx {w:World} {b:Nat} (h:vy w b []):Calls prog 71 #[.pointer (some ⟨b,0,none⟩)] w fun e w'=>e=.returned (.tuple #[.int .u8 0,.bool false])∧w=w':=by
 have H:=hid h;clear h;have HL:∀W,Hid (vy W b []→Calls prog 72 #[.pointer (some ⟨b,0,none⟩)] W fun e w'=>e=.returned (.int .i64 0)∧W=w'):=fun W=>hid fun q=>agv q
 go_enter func71,ntmps71;go_wp2_with (refine((HL _).out H.out).mono ?_;rintro e w' ⟨rfl,rfl⟩)
 go_ret2
 exact⟨rfl,rfl⟩
theorem asy {w:World} {b:Nat} {c:UInt8} {l:List UInt8} (h:vy w b (c::l)):Calls prog 71 #[.pointer (some ⟨b,0,none⟩)] w fun e w'=>e=.returned (.tuple #[bV c,.bool true])∧∃n,w'=w.drewN n:=by
 have H:=hid h;obtain⟨D,a,h⟩:=h;have hn:((c::l).length:Int)≤1024:=by have:=h.max;omega
 have hp:(0:Int)<((c::l).length:Int):=by simp only[n7];omega
 have ha:=h.at_;have c2:=h.blk.cell 1025 (alo h.len _ _)
 have c1:w.cell? ⟨b,1+a,none⟩=some (bV c):=h.blk.cell (1+a) (by
  rw[bmd h.len _ _ ha];have:=h.ring 0 (by simp only[n7];omega);rw[b21,b2x ha,c8 (by rw[h.len];exact ha)]at this;rw[Option.some.inj this];rfl)
 clear h;have HL:∀W,Hid (vy W b (c::l)→Calls prog 72 #[.pointer (some ⟨b,0,none⟩)] W fun e w'=>e=.returned (.int .i64 (c::l).length)∧W=w'):=fun W=>hid fun q=>agv q
 generalize ((c::l).length:Int)=n at *;have hb1:(n==0)=false:=by rw[l6];omega
 have f1:(0:Int) ≤(a:Int):=n8 _;have f2:(a:Int)<1024:=by omega
 unfold bV at *;go_enter func71,ntmps71;go_wp2_with (refine((HL _).out H.out).mono ?_;rintro e w' ⟨rfl,rfl⟩)
 go_quiet (fail)
 go_wp2_with fail
 go_ret2
 exact⟨rfl,_,rfl⟩
theorem ax6 (c:Nat) (w:World):Calls prog 92 #[.slice none 0 c] w fun e w'=>e=.returned (.slice none 0 0)∧Below w.1.size w w':=by
 go_enter func92,ntmps92;go_wp2_with fail;rw[Lib.run_eql_slice_nil _ _ _ _ _ _ _ _ underlying22];go_wp2_with fail;go_ret;exact⟨rfl,n6 _ _⟩
set_option maxRecDepth 100000 in
theorem a3x:∃i,prog.info? 5=some i∧i.zero=some (.int .u8 0)∧i.size=1∧i.bytes=1:=⟨_,rfl,rfl,rfl,rfl⟩
theorem aok {Q:Nat→Prop} (A:Option Addr) (l:List UInt8) (c:Nat) (w:World) (hs:qf Q w A (bsV l)) (hn:l.length≤1000000) :
 Calls prog 92 #[.slice A l.length c] w fun e w'=>∃B d,e=.returned (.slice B l.length d)∧qf (fun b=>w.1.size≤b∧b<w'.1.size) w' B (bsV l)∧l.length≤d∧Below w.1.size w w':=by
 cases A with
 | none=>
  have h0:l=[]:=by
   cases l with
   | nil=>rfl
   | cons x l=>obtain⟨b,off,h,-⟩:=hs 0 _ rfl;cases h
  subst h0;refine(ax6 c w).mono ?_;rintro e w' ⟨rfl,h⟩;exact⟨none,0,rfl,qf.nil _ _ _,a8 _,h⟩
 | some a=>
  obtain⟨i0,hi,hz0,hz1,hz2⟩:=a3x;obtain⟨n,hln⟩:∃n,l.length=n:=⟨_,rfl⟩;have hown:(w.alloc (.cells #[] 5)).ownsRow w.1.size 5 1 (.slice (some ⟨w.1.size,0,none⟩) 0 0) 0 []:=b3s w #[] 0 (a8 _) dc rfl;obtain⟨v',w2,hrun,h8,h9,-⟩:=kq (P:=prog) (w.alloc (.cells #[] 5)) 22 22 5 i0 _ 1 1 underlying22 hi hz0 hz1 hz2 rfl dc w.1.size _ 0 [] hown (some a) n c (bsV l) (by rw[xl,hln,b4d]) (hs.lt.below (qa w _) (fun b h=>h.2)) (af0 l) (by unfold maxLen;omega) om sm;rw[b0e,b03]at h8
  have HE:Hid (∃B d,v'=.slice B n d∧qf (fun b=>w.1.size≤b∧b<w2.1.size) w2 B (bsV l)∧n≤d∧Below w.1.size w w2):=by
   obtain⟨B,d,h1,hd,h2,-⟩:=xx h8;refine⟨B,d,h1,h2,hd,(qa w _).trans ⟨h9.os,h9.tape,h9.output,h9.size,fun b hb=>h9.block b (by simp;omega) (fun e=>by simp[Value.ownBlock]at e;omega)⟩⟩
  have HR:=hid hrun;rw[hln]at hn ⊢;clear hs hln hown hrun h8 h9;have EQ:∀W:World,(binOp .eql 22 (.slice (some a) n c) (.slice none 0 0)).run prog W=.ok (.bool false) W:=fun W=>Lib.run_eql_slice_nil W 22 5 (some a) n c 0 0 underlying22
  go_enter func92,ntmps92;go_wp2_with (at_builtin;refine qw rfl _ _ 22 rfl _ _ _ rfl rfl HR.out ?_);go_ret;obtain⟨B,d,h1,h2,h3,h4⟩:=HE.out;exact⟨B,d,by rw[h1];rfl,h2,h3,h4⟩
def RdI (Q:Nat→Prop) (w:World) (a:Nat):Option (List UInt8)→Prop
 | some l=>Q a∧∃A c,Blk w a [.slice A l.length c,.bool true,.bool false]∧qf (fun b=>Q b∧b≠a) w A (bsV l)∧l.length≤c∧l.length≤1000000
 | none=>Q a∧Blk w a [.slice none 0 0,.bool true,.bool true]
theorem RdI.keep {Q:Nat→Prop} {w w':World} {a:Nat} {s:Option (List UInt8)} (h:RdI Q w a s) (hk:∀b,Q b→w'.heap[b]?=w.heap[b]?) (hz:w.1.size≤w'.1.size):RdI Q w' a s:=by
 cases s with
 | none=>exact⟨h.1,h.2.kept (hk a h.1) hz⟩
 | some l=>
  obtain⟨hq,A,c,h1,h2,h3⟩:=h;exact⟨hq,A,c,h1.kept (hk a hq) hz,h2.keep fun b hb=>hk b hb.1,h3⟩
theorem RdI.below {Q:Nat→Prop} {w w':World} {a B:Nat} {s:Option (List UInt8)} (h:RdI Q w a s) (hb:Below B w w') (hq:∀b,Q b→b<B):RdI Q w' a s:=h.keep (fun b q=>hb.block b (hq b q)) hb.size
theorem RdI.drew {Q:Nat→Prop} {w:World} {a:Nat} {s:Option (List UInt8)} (h:RdI Q w a s):RdI Q w.drew a s:=h.keep (fun _ _=>rfl) (a8 _)
theorem ajy {Q:Nat→Prop} (A:Option Addr) (l:List UInt8) (c:Nat) (w:World) (hs:qf Q w A (bsV l)) (hn:l.length≤1000000) :
 Calls prog 74 #[.slice A l.length c] w fun e w'=>∃g,e=.returned (.pointer (some ⟨g,0,none⟩))∧RdI (fun b=>w.1.size≤b∧b<w'.1.size) w' g (some l)∧Below w.1.size w w':=by
 have HC:=hid (aok A l c w hs hn);generalize hL:l.length=L at *;have HL:=hid hL;clear hs hL;go_enter func74,ntmps74;go_wp2_with (refine HC.out.mono ?_;rintro e w1 ⟨B,d,rfl,hf,hd,hb⟩;have HF:=hid (o4 hf (o4 hd hb));clear hf hd hb);go_ret;refine⟨w1.1.size,rfl,?_,?_⟩
 ·refine⟨⟨HF.out.2.2.size,by simp⟩,B,d,?_,?_,by rw[HL.out];exact HF.out.2.1,by rw[HL.out];exact hn⟩
  ·rw[HL.out];exact Blk.newL (qg w1 _ _) rfl
  ·exact((HF.out.1.below (qa w1 _) (fun b q=>q.2))).less fun b q=>⟨⟨q.1,by simp;omega⟩,by omega⟩
 ·exact qb HF.out.2.2 (qa _ _)
theorem aer {Q:Nat→Prop} {w:World} {a:Nat} {s:Option (List UInt8)} (h:RdI Q w a s) :
 Calls prog 127 #[.pointer (some ⟨a,0,none⟩)] w fun e w'=>e=.returned (.bool s.isSome)∧w=w':=by
 cases s with
 | none=>
  have c1:=h.2.cell 1 (v:=.bool true) rfl;have c2:=h.2.cell 2 (v:=.bool true) rfl;clear h;go_enter func127,ntmps127;go_wp2;go_ret;exact⟨rfl,rfl⟩
 | some l=>
  obtain⟨hq,A,c,h,-⟩:=h;have c1:=h.cell 1 (v:=.bool true) rfl;have c2:=h.cell 2 (v:=.bool false) rfl;clear h;go_enter func127,ntmps127;go_wp2;go_ret;exact⟨rfl,rfl⟩
theorem a0h {Q:Nat→Prop} {w:World} {a:Nat} {s:Option (List UInt8)} (h:RdI Q w a s) :
 Calls prog 128 #[.pointer (some ⟨a,0,none⟩)] w fun e w'=>e=.returned (.tuple #[])∧RdI Q w' a none∧qj (fun k=>k≠a) w w':=by
 have h0:Q a∧∃v b2,Blk w a [v,.bool true,.bool b2]:=by
  cases s with
  | none=>exact⟨h.1,_,_,h.2⟩
  | some l=>obtain⟨hq,A,c,h,-⟩:=h;exact⟨hq,_,_,h⟩
 obtain⟨hq,v,b2,hb⟩:=h0;clear h;have c0:=hb.cell 0 (v:=v) rfl;have c2:=hb.cell 2 (v:=.bool b2) rfl;have z0:=hb.fz 0;have z2:=hb.fz 2;have s1:qp w (w.setCell ⟨a,0,none⟩ (.slice none 0 0)) a 0 [.slice none 0 0]:=ze (hb.there 0 1 sm);have k1:Blk (w.setCell ⟨a,0,none⟩ (.slice none 0 0)) a [.slice none 0 0,.bool true,.bool b2]:=Blk.put (A:=[]) (M:=[v]) (D:=[.bool true,.bool b2]) hb s1 rfl rfl;have s2:qp (w.setCell ⟨a,0,none⟩ (.slice none 0 0)) ((w.setCell ⟨a,0,none⟩ (.slice none 0 0)).setCell ⟨a,2,none⟩ (.bool true)) a 2 [.bool true]:=ze (k1.there 2 1 sm);have k2:Blk ((w.setCell ⟨a,0,none⟩ (.slice none 0 0)).setCell ⟨a,2,none⟩ (.bool true)) a [.slice none 0 0,.bool true,.bool true]:=Blk.put (A:=[.slice none 0 0,.bool true]) (M:=[.bool b2]) (D:=[]) k1 s2 rfl rfl;have HF:Hid (RdI Q ((w.setCell ⟨a,0,none⟩ (.slice none 0 0)).setCell ⟨a,2,none⟩ (.bool true)) a none∧qj (fun k=>k≠a) w ((w.setCell ⟨a,0,none⟩ (.slice none 0 0)).setCell ⟨a,2,none⟩ (.bool true))):=hid ⟨⟨hq,k2⟩,((qj.refl _ w).stored s1 (fun q=>q rfl)).stored s2 (fun q=>q rfl)⟩
 clear s1 k1 s2 k2 hb hq;go_enter func128,ntmps128;go_wp2_with fail;refine b4n (v:=.tuple #[]) (by simp[results,results128,go_sem]) rfl ⟨rfl,HF.out⟩
theorem RdI.cut {Q:Nat→Prop} {w:World} {a b off c:Nat} {l:List UInt8} {n:Nat} (hq:Q a) (h:Blk w a [.slice (some ⟨b,off,none⟩) l.length c,.bool true,.bool false]) (hf:qf (fun b=>Q b∧b≠a) w (some ⟨b,off,none⟩) (bsV l)) (hn:n≤l.length) (hc:l.length≤c) (hm:l.length≤1000000) (o':Nat) (ho:o'=off+n∨c=n) :
 RdI Q (w.setCell ⟨a,0,none⟩ (.slice (some ⟨b,o',none⟩) (l.length-n) (c-n))) a (some (l.drop n))∧qj (fun k=>k≠a) w (w.setCell ⟨a,0,none⟩ (.slice (some ⟨b,o',none⟩) (l.length-n) (c-n))):=by
 have s1:qp w (w.setCell ⟨a,0,none⟩ (.slice (some ⟨b,o',none⟩) (l.length-n) (c-n))) a 0 [.slice (some ⟨b,o',none⟩) (l.length-n) (c-n)]:=ze (h.there 0 1 sm);have k1:Blk (w.setCell ⟨a,0,none⟩ (.slice (some ⟨b,o',none⟩) (l.length-n) (c-n))) a [.slice (some ⟨b,o',none⟩) (l.length-n) (c-n),.bool true,.bool false]:=Blk.put (A:=[]) (M:=[.slice (some ⟨b,off,none⟩) l.length c]) (D:=[.bool true,.bool false]) h s1 rfl rfl;refine⟨⟨hq,some ⟨b,o',none⟩,c-n,by rw[l8];exact k1,?_,by rw[l8];omega,by rw[l8];omega⟩,(qj.refl _ w).stored s1 (fun q=>q rfl)⟩;rcases ho with rfl|rfl
 ·have:=hf.part n;rw[abp]at this;exact this.keep fun b' hb'=>s1.far b' hb'.2
 ·rw[b1x om];exact qf.nil _ _ _
theorem avz {Q:Nat→Prop} {w:World} {a:Nat} {l:List UInt8} (n:Nat) (h:RdI Q w a (some l)) (h0:0<n) (hn:n≤l.length) :
 Calls prog 93 #[.pointer (some ⟨a,0,none⟩),.int .i64 n] w fun e w'=>∃b off,e=.returned (.slice (some ⟨b,off,none⟩) n n)∧qf (fun b=>Q b∧b≠a) w' (some ⟨b,off,none⟩) (bsV (l.take n))∧RdI Q w' a (some (l.drop n))∧qj (fun k=>k≠a) w w':=by
 have HI:=hid (aer h);obtain⟨hq,A,c,hb,hf,hc,hm⟩:=h;obtain⟨b,off,rfl,-,-⟩:=hf 0 (bV (l[0]'(by omega))) (vz om);have HF:=hid (RdI.cut hq hb hf hn hc hm);have HT:Hid (qf (fun b=>Q b∧b≠a) w (some ⟨b,off,none⟩) (bsV (l.take n))):=hid (by have:=hf.first n;rwa [v6]at this);have c0:=hb.cell 0 (v:=.slice (some ⟨b,off,none⟩) l.length c) rfl;have z0:=hb.fz 0;generalize hL:l.length=L at *;clear hb hf;have g1:(n:Int)≤L:=by omega
 have g2:(L:Int)≤c:=by omega
 have g3:(0:Int)<n:=by omega
 go_enter func93,ntmps93;go_wp2_with (refine HI.out.mono ?_;rintro e w' ⟨rfl,rfl⟩)
 ·have e1:=h;have HF:=HF.out off (.inr e1);rw[e1,b2p]at HF;go_ret;exact⟨b,off,rfl,HT.out.keep fun k hk=>HF.2.block k hk.2,HF⟩
 ·have HF:=HF.out (off+n) (.inl rfl);go_ret;exact⟨b,off,rfl,HT.out.keep fun k hk=>HF.2.block k hk.2,HF⟩
theorem avy {Q:Nat→Prop} {w:World} {a:Nat} (n:Int) (h:RdI Q w a none) :
 Calls prog 93 #[.pointer (some ⟨a,0,none⟩),.int .i64 n] w fun e w'=>e=.returned (.slice none 0 0)∧w=w':=by
 have HI:=hid (aer h);go_enter func93,ntmps93;go_wp2_with (refine HI.out.mono ?_;rintro e w' ⟨rfl,rfl⟩);go_ret;exact⟨rfl,rfl⟩
theorem a0i {Q:Nat→Prop} {w:World} {a:Nat} {l:List UInt8} (n:Int) (h:RdI Q w a (some l)) (hn:n<0 ∨(l.length:Int)<n) :
 Calls prog 93 #[.pointer (some ⟨a,0,none⟩),.int .i64 n] w fun e w'=>e=.returned (.slice none 0 0)∧RdI Q w' a none∧qj (fun k=>k≠a) w w':=by
 have HI:=hid (aer h);have HX:=hid (a0h h);obtain⟨hq,A,c,hb,hf,hc,hm⟩:=h;have c0:=hb.cell 0 (v:=.slice A l.length c) rfl;generalize hL:l.length=L at *;clear hb hf
 by_cases h1:n<0
 ·clear hn;go_enter func93,ntmps93;go_wp2_with (first|(refine HI.out.mono ?_;rintro e w' ⟨rfl,rfl⟩)|(refine HX.out.mono ?_;rintro e w' ⟨rfl,hr,hk⟩;have HF:=hid (o4 hr hk);clear hr hk));go_ret;exact⟨rfl,HF.out⟩
 ·have h2:(L:Int)<n:=by omega
  clear hn;go_enter func93,ntmps93;go_wp2_with (first|(refine HI.out.mono ?_;rintro e w' ⟨rfl,rfl⟩)|(refine HX.out.mono ?_;rintro e w' ⟨rfl,hr,hk⟩;have HF:=hid (o4 hr hk);clear hr hk));go_ret;exact⟨rfl,HF.out⟩
theorem ak3 {Q:Nat→Prop} {w:World} {a:Nat} {l:List UInt8} (h:RdI Q w a (some l)) :
 Calls prog 291 #[.pointer (some ⟨a,0,none⟩)] w fun e w'=>e=.returned (.int .i64 l.length)∧w=w':=by
 obtain⟨hq,A,c,hb,hf,hc,hm⟩:=h;have c0:=hb.cell 0 (v:=.slice A l.length c) rfl;clear hb hf hq;go_enter func291,ntmps291;go_wp2;go_ret;exact⟨rfl,rfl⟩
theorem ak4 {Q:Nat→Prop} {w:World} {a:Nat} {s:Option (List UInt8)} (h:RdI Q w a s) :
 Calls prog 293 #[.pointer (some ⟨a,0,none⟩)] w fun e w'=>e=.returned (.bool (!s.isSome))∧w=w':=by
 have HI:=hid (aer h);generalize s.isSome=b at *;clear h;cases b
 ·go_enter func293,ntmps293;go_wp2_with (refine HI.out.mono ?_;rintro e w' ⟨rfl,rfl⟩);go_ret;exact⟨rfl,rfl⟩
 ·go_enter func293,ntmps293;go_wp2_with (refine HI.out.mono ?_;rintro e w' ⟨rfl,rfl⟩);go_ret;exact⟨rfl,rfl⟩
theorem aco {Q:Nat→Prop} {w:World} {a:Nat} {l:List UInt8} (n:Nat) (h:RdI Q w a (some l)) (h1:1≤n) (h8:n≤8) (hn:n≤l.length) :
 Calls prog 75 #[.pointer (some ⟨a,0,none⟩),.int .i64 n] w fun e w'=>e=.returned (.int .u64 (je (l.take n):Int))∧RdI Q w' a (some (l.drop n))∧qj (fun k=>k≠a) w w':=by
 have HN:=hid (avz n h om hn);have hl:(l.take n).length=n:=by rw[l7];omega
 generalize l.take n=T at *;have HL:=hid hl;have b1:¬(n:Int)<1:=by omega
 have b2:¬(n:Int) > 8:=by omega
 clear h hn hl;go_enter func75,ntmps75;go_wp2_with (refine HN.out.mono ?_;rintro e w' ⟨b,off,rfl,hf,hr,hk⟩;have HF:=hid hf;have HR:=hid (o4 hr hk);clear hf hr hk)
 go_loopg [5,18] n (fun g s5 s18 wr=>∃k:Nat,k≤n∧n-k≤g∧s18=.int .i64 k∧s5=.int .u64 (je (T.take k):Int)∧wr=w')
 case atStart=>exact⟨0,b0c _,by omega,rfl,rfl,rfl⟩
 case round=>
  obtain⟨k,hk,hg,rfl,rfl,rfl⟩:=hrel
  by_cases hlt:k<n
  ·have hkT:k<T.length:=by rw[HL.out];exact hlt
   obtain⟨b',o',e1,-,hc⟩:=HF.out k (bV (T[k]'hkT)) (vz hkT);injection e1 with e1
   injection e1 with e1 e2
   subst e1 e2;have i1:(k:Int)<n:=by omega
   have i2:(0:Int) ≤(k:Int):=n8 _;have HO:=hid (blb T k hkT (by rw[HL.out];exact h8));unfold bV at hc;generalize T[k]=x at *;go_wp2_with fail
   go_roundg (n-(k+1))
   case measure=>omega
   case rel=>exact⟨k+1,by omega,by omega,by go_num,congrArg (Value.int .u64) HO.out,rfl⟩
  ·obtain rfl:k=n:=by omega
   go_wp2_with fail;go_ret;refine⟨?_,HR.out⟩;rw[b08 (by rw[HL.out];exact a8 _)];rfl
theorem be8 {Q:Nat→Prop} {w:World} {a:Nat} {s:Option (List UInt8)} (n:Nat) (h:RdI Q w a s) (h1:1≤n) (h8:n≤8) (hs:∀l,s=some l→l.length<n) :
 Calls prog 75 #[.pointer (some ⟨a,0,none⟩),.int .i64 n] w fun e w'=>e=.returned (.int .u64 0)∧RdI Q w' a none∧qj (fun k=>k≠a) w w':=by
 have HN:Hid (Calls prog 93 #[.pointer (some ⟨a,0,none⟩),.int .i64 n] w fun e w'=>e=.returned (.slice none 0 0)∧RdI Q w' a none∧qj (fun k=>k≠a) w w'):=by
  cases s with
  | none=>
   refine(avy n h).mono ?_;rintro e w' ⟨rfl,rfl⟩;exact⟨rfl,h,qj.refl _ _⟩
  | some l=>exact a0i n h (.inr (by have:=hs l rfl;omega))
 have b1:¬(n:Int)<1:=by omega
 have b2:¬(n:Int) > 8:=by omega
 clear h hs;go_enter func75,ntmps75;go_wp2_with (refine HN.out.mono ?_;rintro e w' ⟨rfl,hr,hk⟩;have HR:=hid (o4 hr hk);clear hr hk)
 go_loopg [5,18] 0 (fun g s5 s18 wr=>s18=.int .i64 0∧s5=.int .u64 0∧wr=w')
 case atStart=>exact⟨rfl,rfl,rfl⟩
 case round=>
  obtain⟨rfl,rfl,rfl⟩:=hrel;go_wp2_with fail;go_ret;exact⟨rfl,HR.out⟩
theorem baj {Q:Nat→Prop} {w:World} {a:Nat} {l:List UInt8} (n:Nat) (h:RdI Q w a (some l)) (h1:1≤n) (h8:n≤8) (hn:n≤l.length) :
 Calls prog 200 #[.pointer (some ⟨a,0,none⟩),.int .i64 n] w fun e w'=>e=.returned (.int .i64 (a8a n (je (l.take n))))∧RdI Q w' a (some (l.drop n))∧qj (fun k=>k≠a) w w':=by
 have HN:=hid (aco n h h1 h8 hn);have hu:je (l.take n)<256^n:=by have:=aig (l.take n);rwa [l7,b1d hn]at this
 have HS:=hid (a6g n _ h1 h8 hu);generalize je (l.take n)=u at *;have b1:¬(n:Int)<1:=by omega
 have b2:¬(n:Int) > 8:=by omega
 clear h hu hn;go_enter func200,ntmps200;go_wp2_with (refine HN.out.mono ?_;rintro e w' ⟨rfl,hr,hk⟩;have HR:=hid (o4 hr hk);clear hr hk);go_ret;refine⟨?_,HR.out⟩;have e:=HS.out;rw[b42]at e;exact congrArg (fun x=>Ending.returned (.int .i64 x)) e
theorem zv (n:Int) (w:World):Calls prog 197 #[.int .i64 n] w fun e w'=>e=.returned (.bool (decide (1≤n) && decide (n≤8)))∧w=w':=by
 by_cases h1:1≤n
 ·by_cases h2:n≤8
  ·go_enter func197,ntmps197;go_wp2;go_ret;exact⟨by simp[h1,h2],rfl⟩
  ·have h2':8<n:=by omega
   go_enter func197,ntmps197;go_wp2;go_ret;exact⟨by simp;omega,rfl⟩
 ·have h1':n<1:=by omega
  go_enter func197,ntmps197;go_wp2;go_ret;exact⟨by simp;omega,rfl⟩
def aby (f:Fld):Value:=.agg #[.int .i64 f.sz,.bool f.sg,.int .i64 f.lo,.int .i64 f.hi]
theorem qm {fn:Func} {p:Tmp} {ty:TypeId} (h:fn.results=#[.cell p ty]) (tmps:Array Value) (P:Program) (w:World) :
 (results fn tmps).run P w=((asAddr (tmps.getD p undef)).run P w).andThen fun a w₁=>(loadVar ty a).run P w₁:=by
 simp only[results,h];simp[Result.andThen]
theorem j5 {W:World} {b:Nat} {f:Fld} (h:Blk W b (azg f)):(loadVar 270 ⟨b,0,none⟩).run prog W=.ok (aby f) W:=
 t6 (P:=prog) W b 0 270 (azg f) _ h.rg underlying270 rfl kr
theorem ku (w:World) (C:Array Value) (C':Array Value) (t t':TypeId):Blk ((w.alloc (.cells C t)).alloc (.cells C' t')) w.1.size C.toList∧Below w.1.size w ((w.alloc (.cells C t)).alloc (.cells C' t')):=
 ⟨(Blk.newL (qg w C t) rfl).on (qa _ _),qb (qa _ _) (qa _ _)⟩
def yj (f:Fld) (w:World) (e:Ending) (w':World):Prop:=e=.returned (aby f)∧Below w.1.size w w'
theorem afk (w:World):Calls prog 122 #[.int .i64 1,.bool false] w (yj ⟨1,false,0,255⟩ w):=by
 have HF:=fun W=>hid (zv 1 W)
 go_enter func122,ntmps122;go_wp2_with (refine(HF _).out.mono ?_;rintro e w' ⟨rfl,rfl⟩);have H2:=ku w #[.int .i64 1,.bool false,.int .i64 0,.int .i64 255] #[.int .i64 1,.bool false,.int .i64 0,.int .i64 255] 270 270;have HLD:=hid (j5 (f:=⟨1,false,0,255⟩) H2.1);refine b9 (v:=aby ⟨1,false,0,255⟩) (by rw[qm rfl];simp[asAddr,Result.andThen,HLD.out]) rfl ⟨rfl,H2.2⟩
theorem bbi (w:World):Calls prog 122 #[.int .i64 1,.bool true] w (yj ⟨1,true,(-128),127⟩ w):=by
 have HF:=fun W=>hid (zv 1 W)
 have hx:bits BinOp.xor IntKind.i64 (-1) 127=-128:=by decide
 go_enter func122,ntmps122;go_wp2_with (refine(HF _).out.mono ?_;rintro e w' ⟨rfl,rfl⟩);have H2:=ku w #[.int .i64 1,.bool true,.int .i64 (-128),.int .i64 127] #[.int .i64 1,.bool true,.int .i64 (-128),.int .i64 127] 270 270;have HLD:=hid (j5 (f:=⟨1,true,(-128),127⟩) H2.1);refine b9 (v:=aby ⟨1,true,(-128),127⟩) (by rw[qm rfl];simp[asAddr,Result.andThen,HLD.out]) rfl ⟨rfl,H2.2⟩
theorem ame (w:World):Calls prog 122 #[.int .i64 2,.bool false] w (yj ⟨2,false,0,65535⟩ w):=by
 have HF:=fun W=>hid (zv 2 W)
 go_enter func122,ntmps122;go_wp2_with (refine(HF _).out.mono ?_;rintro e w' ⟨rfl,rfl⟩);have H2:=ku w #[.int .i64 2,.bool false,.int .i64 0,.int .i64 65535] #[.int .i64 2,.bool false,.int .i64 0,.int .i64 65535] 270 270;have HLD:=hid (j5 (f:=⟨2,false,0,65535⟩) H2.1);refine b9 (v:=aby ⟨2,false,0,65535⟩) (by rw[qm rfl];simp[asAddr,Result.andThen,HLD.out]) rfl ⟨rfl,H2.2⟩
theorem at6 (w:World):Calls prog 122 #[.int .i64 2,.bool true] w (yj ⟨2,true,(-32768),32767⟩ w):=by
 have HF:=fun W=>hid (zv 2 W)
 have hx:bits BinOp.xor IntKind.i64 (-1) 32767=-32768:=by decide
 go_enter func122,ntmps122;go_wp2_with (refine(HF _).out.mono ?_;rintro e w' ⟨rfl,rfl⟩);have H2:=ku w #[.int .i64 2,.bool true,.int .i64 (-32768),.int .i64 32767] #[.int .i64 2,.bool true,.int .i64 (-32768),.int .i64 32767] 270 270;have HLD:=hid (j5 (f:=⟨2,true,(-32768),32767⟩) H2.1);refine b9 (v:=aby ⟨2,true,(-32768),32767⟩) (by rw[qm rfl];simp[asAddr,Result.andThen,HLD.out]) rfl ⟨rfl,H2.2⟩
theorem bbj (w:World):Calls prog 122 #[.int .i64 3,.bool false] w (yj ⟨3,false,0,16777215⟩ w):=by
 have HF:=fun W=>hid (zv 3 W)
 go_enter func122,ntmps122;go_wp2_with (refine(HF _).out.mono ?_;rintro e w' ⟨rfl,rfl⟩);have H2:=ku w #[.int .i64 3,.bool false,.int .i64 0,.int .i64 16777215] #[.int .i64 3,.bool false,.int .i64 0,.int .i64 16777215] 270 270;have HLD:=hid (j5 (f:=⟨3,false,0,16777215⟩) H2.1);refine b9 (v:=aby ⟨3,false,0,16777215⟩) (by rw[qm rfl];simp[asAddr,Result.andThen,HLD.out]) rfl ⟨rfl,H2.2⟩
theorem bbk (w:World):Calls prog 122 #[.int .i64 3,.bool true] w (yj ⟨3,true,(-8388608),8388607⟩ w):=by
 have HF:=fun W=>hid (zv 3 W)
 have hx:bits BinOp.xor IntKind.i64 (-1) 8388607=-8388608:=by decide
 go_enter func122,ntmps122;go_wp2_with (refine(HF _).out.mono ?_;rintro e w' ⟨rfl,rfl⟩);have H2:=ku w #[.int .i64 3,.bool true,.int .i64 (-8388608),.int .i64 8388607] #[.int .i64 3,.bool true,.int .i64 (-8388608),.int .i64 8388607] 270 270;have HLD:=hid (j5 (f:=⟨3,true,(-8388608),8388607⟩) H2.1);refine b9 (v:=aby ⟨3,true,(-8388608),8388607⟩) (by rw[qm rfl];simp[asAddr,Result.andThen,HLD.out]) rfl ⟨rfl,H2.2⟩
theorem amf (w:World):Calls prog 122 #[.int .i64 4,.bool false] w (yj ⟨4,false,0,4294967295⟩ w):=by
 have HF:=fun W=>hid (zv 4 W)
 go_enter func122,ntmps122;go_wp2_with (refine(HF _).out.mono ?_;rintro e w' ⟨rfl,rfl⟩);have H2:=ku w #[.int .i64 4,.bool false,.int .i64 0,.int .i64 4294967295] #[.int .i64 4,.bool false,.int .i64 0,.int .i64 4294967295] 270 270;have HLD:=hid (j5 (f:=⟨4,false,0,4294967295⟩) H2.1);refine b9 (v:=aby ⟨4,false,0,4294967295⟩) (by rw[qm rfl];simp[asAddr,Result.andThen,HLD.out]) rfl ⟨rfl,H2.2⟩
theorem at7 (w:World):Calls prog 122 #[.int .i64 4,.bool true] w (yj ⟨4,true,(-2147483648),2147483647⟩ w):=by
 have HF:=fun W=>hid (zv 4 W)
 have hx:bits BinOp.xor IntKind.i64 (-1) 2147483647=-2147483648:=by decide
 go_enter func122,ntmps122;go_wp2_with (refine(HF _).out.mono ?_;rintro e w' ⟨rfl,rfl⟩);have H2:=ku w #[.int .i64 4,.bool true,.int .i64 (-2147483648),.int .i64 2147483647] #[.int .i64 4,.bool true,.int .i64 (-2147483648),.int .i64 2147483647] 270 270;have HLD:=hid (j5 (f:=⟨4,true,(-2147483648),2147483647⟩) H2.1);refine b9 (v:=aby ⟨4,true,(-2147483648),2147483647⟩) (by rw[qm rfl];simp[asAddr,Result.andThen,HLD.out]) rfl ⟨rfl,H2.2⟩
theorem bbl (w:World):Calls prog 122 #[.int .i64 5,.bool false] w (yj ⟨5,false,0,1099511627775⟩ w):=by
 have HF:=fun W=>hid (zv 5 W)
 go_enter func122,ntmps122;go_wp2_with (refine(HF _).out.mono ?_;rintro e w' ⟨rfl,rfl⟩);have H2:=ku w #[.int .i64 5,.bool false,.int .i64 0,.int .i64 1099511627775] #[.int .i64 5,.bool false,.int .i64 0,.int .i64 1099511627775] 270 270;have HLD:=hid (j5 (f:=⟨5,false,0,1099511627775⟩) H2.1);refine b9 (v:=aby ⟨5,false,0,1099511627775⟩) (by rw[qm rfl];simp[asAddr,Result.andThen,HLD.out]) rfl ⟨rfl,H2.2⟩
theorem bbm (w:World):Calls prog 122 #[.int .i64 5,.bool true] w (yj ⟨5,true,(-549755813888),549755813887⟩ w):=by
 have HF:=fun W=>hid (zv 5 W)
 have hx:bits BinOp.xor IntKind.i64 (-1) 549755813887=-549755813888:=by decide
 go_enter func122,ntmps122;go_wp2_with (refine(HF _).out.mono ?_;rintro e w' ⟨rfl,rfl⟩);have H2:=ku w #[.int .i64 5,.bool true,.int .i64 (-549755813888),.int .i64 549755813887] #[.int .i64 5,.bool true,.int .i64 (-549755813888),.int .i64 549755813887] 270 270;have HLD:=hid (j5 (f:=⟨5,true,(-549755813888),549755813887⟩) H2.1);refine b9 (v:=aby ⟨5,true,(-549755813888),549755813887⟩) (by rw[qm rfl];simp[asAddr,Result.andThen,HLD.out]) rfl ⟨rfl,H2.2⟩
theorem bbn (w:World):Calls prog 122 #[.int .i64 6,.bool false] w (yj ⟨6,false,0,281474976710655⟩ w):=by
 have HF:=fun W=>hid (zv 6 W)
 go_enter func122,ntmps122;go_wp2_with (refine(HF _).out.mono ?_;rintro e w' ⟨rfl,rfl⟩);have H2:=ku w #[.int .i64 6,.bool false,.int .i64 0,.int .i64 281474976710655] #[.int .i64 6,.bool false,.int .i64 0,.int .i64 281474976710655] 270 270;have HLD:=hid (j5 (f:=⟨6,false,0,281474976710655⟩) H2.1);refine b9 (v:=aby ⟨6,false,0,281474976710655⟩) (by rw[qm rfl];simp[asAddr,Result.andThen,HLD.out]) rfl ⟨rfl,H2.2⟩
theorem bbo (w:World):Calls prog 122 #[.int .i64 6,.bool true] w (yj ⟨6,true,(-140737488355328),140737488355327⟩ w):=by
 have HF:=fun W=>hid (zv 6 W)
 have hx:bits BinOp.xor IntKind.i64 (-1) 140737488355327=-140737488355328:=by decide
 go_enter func122,ntmps122;go_wp2_with (refine(HF _).out.mono ?_;rintro e w' ⟨rfl,rfl⟩);have H2:=ku w #[.int .i64 6,.bool true,.int .i64 (-140737488355328),.int .i64 140737488355327] #[.int .i64 6,.bool true,.int .i64 (-140737488355328),.int .i64 140737488355327] 270 270;have HLD:=hid (j5 (f:=⟨6,true,(-140737488355328),140737488355327⟩) H2.1);refine b9 (v:=aby ⟨6,true,(-140737488355328),140737488355327⟩) (by rw[qm rfl];simp[asAddr,Result.andThen,HLD.out]) rfl ⟨rfl,H2.2⟩
theorem bbp (w:World):Calls prog 122 #[.int .i64 7,.bool false] w (yj ⟨7,false,0,72057594037927935⟩ w):=by
 have HF:=fun W=>hid (zv 7 W)
 go_enter func122,ntmps122;go_wp2_with (refine(HF _).out.mono ?_;rintro e w' ⟨rfl,rfl⟩);have H2:=ku w #[.int .i64 7,.bool false,.int .i64 0,.int .i64 72057594037927935] #[.int .i64 7,.bool false,.int .i64 0,.int .i64 72057594037927935] 270 270;have HLD:=hid (j5 (f:=⟨7,false,0,72057594037927935⟩) H2.1);refine b9 (v:=aby ⟨7,false,0,72057594037927935⟩) (by rw[qm rfl];simp[asAddr,Result.andThen,HLD.out]) rfl ⟨rfl,H2.2⟩
theorem bbq (w:World):Calls prog 122 #[.int .i64 7,.bool true] w (yj ⟨7,true,(-36028797018963968),36028797018963967⟩ w):=by
 have HF:=fun W=>hid (zv 7 W)
 have hx:bits BinOp.xor IntKind.i64 (-1) 36028797018963967=-36028797018963968:=by decide
 go_enter func122,ntmps122;go_wp2_with (refine(HF _).out.mono ?_;rintro e w' ⟨rfl,rfl⟩);have H2:=ku w #[.int .i64 7,.bool true,.int .i64 (-36028797018963968),.int .i64 36028797018963967] #[.int .i64 7,.bool true,.int .i64 (-36028797018963968),.int .i64 36028797018963967] 270 270;have HLD:=hid (j5 (f:=⟨7,true,(-36028797018963968),36028797018963967⟩) H2.1);refine b9 (v:=aby ⟨7,true,(-36028797018963968),36028797018963967⟩) (by rw[qm rfl];simp[asAddr,Result.andThen,HLD.out]) rfl ⟨rfl,H2.2⟩
theorem bbr (w:World):Calls prog 122 #[.int .i64 8,.bool false] w (yj ⟨8,false,0,9223372036854775807⟩ w):=by
 have HF:=fun W=>hid (zv 8 W)
 go_enter func122,ntmps122;go_wp2_with (refine(HF _).out.mono ?_;rintro e w' ⟨rfl,rfl⟩);have H2:=ku w #[.int .i64 8,.bool false,.int .i64 0,.int .i64 9223372036854775807] #[.int .i64 8,.bool false,.int .i64 0,.int .i64 9223372036854775807] 270 270;have HLD:=hid (j5 (f:=⟨8,false,0,9223372036854775807⟩) H2.1);refine b9 (v:=aby ⟨8,false,0,9223372036854775807⟩) (by rw[qm rfl];simp[asAddr,Result.andThen,HLD.out]) rfl ⟨rfl,H2.2⟩
theorem bbs (w:World):Calls prog 122 #[.int .i64 8,.bool true] w (yj ⟨8,true,(-9223372036854775808),9223372036854775807⟩ w):=by
 have HF:=fun W=>hid (zv 8 W)
 have hx:bits BinOp.xor IntKind.i64 (-1) 9223372036854775807=-9223372036854775808:=by decide
 go_enter func122,ntmps122;go_wp2_with (refine(HF _).out.mono ?_;rintro e w' ⟨rfl,rfl⟩);have H2:=ku w #[.int .i64 8,.bool true,.int .i64 (-9223372036854775808),.int .i64 9223372036854775807] #[.int .i64 8,.bool true,.int .i64 (-9223372036854775808),.int .i64 9223372036854775807] 270 270;have HLD:=hid (j5 (f:=⟨8,true,(-9223372036854775808),9223372036854775807⟩) H2.1);refine b9 (v:=aby ⟨8,true,(-9223372036854775808),9223372036854775807⟩) (by rw[qm rfl];simp[asAddr,Result.andThen,HLD.out]) rfl ⟨rfl,H2.2⟩
theorem aq2 (n:Nat) (s:Bool) (w:World) (h1:1≤n) (h8:n≤8):Calls prog 122 #[.int .i64 n,.bool s] w (yj (afy n s) w):=by
 have:n=1∨n=2∨n=3∨n=4∨n=5∨n=6∨n=7∨n=8:=by omega
 rcases this with rfl|rfl|rfl|rfl|rfl|rfl|rfl|rfl<;>cases s
 ·exact afk w
 ·exact bbi w
 ·exact ame w
 ·exact at6 w
 ·exact bbj w
 ·exact bbk w
 ·exact amf w
 ·exact at7 w
 ·exact bbl w
 ·exact bbm w
 ·exact bbn w
 ·exact bbo w
 ·exact bbp w
 ·exact bbq w
 ·exact bbr w
 ·exact bbs w
theorem jx (n:Nat) (hi:Int) (w:World) (h1:1≤n) (h8:n≤8):Calls prog 261 #[.int .i64 n,.int .i64 hi] w (yj ⟨n,false,0,hi⟩ w):=by
 have e:(decide (1 ≤(n:Int)) && decide ((n:Int)≤8))=true:=by simp;omega
 have HF:=fun W=>hid (e▸zv (n:Int) W)
 clear e;go_enter func261,ntmps261;go_wp2_with (refine(HF _).out.mono ?_;rintro e w' ⟨rfl,rfl⟩);have HLD:=hid (j5 (f:=⟨n,false,0,hi⟩) (Blk.newL (qg w #[.int .i64 n,.bool false,.int .i64 0,.int .i64 hi] 270) rfl));refine b9 (v:=aby ⟨n,false,0,hi⟩) (by rw[qm rfl];simp[asAddr,Result.andThen,HLD.out]) rfl ⟨rfl,qa _ _⟩
theorem aed (n:Nat) (lo hi:Int) (w:World) (h1:1≤n) (h8:n≤8):Calls prog 260 #[.int .i64 n,.int .i64 lo,.int .i64 hi] w (yj ⟨n,true,lo,hi⟩ w):=by
 have e:(decide (1 ≤(n:Int)) && decide ((n:Int)≤8))=true:=by simp;omega
 have HF:=fun W=>hid (e▸zv (n:Int) W)
 clear e;go_enter func260,ntmps260;go_wp2_with (refine(HF _).out.mono ?_;rintro e w' ⟨rfl,rfl⟩);have HLD:=hid (j5 (f:=⟨n,true,lo,hi⟩) (Blk.newL (qg w #[.int .i64 n,.bool true,.int .i64 lo,.int .i64 hi] 270) rfl));refine b9 (v:=aby ⟨n,true,lo,hi⟩) (by rw[qm rfl];simp[asAddr,Result.andThen,HLD.out]) rfl ⟨rfl,qa _ _⟩
theorem amg (f:Fld) (n:Int) (w:World):Calls prog 126 #[aby f,.int .i64 n] w fun e w'=>e=.returned (.bool (decide (f.lo≤n∧n≤f.hi)))∧Below w.1.size w w':=by
 obtain⟨z,s,lo,hi⟩:=f;unfold aby;dsimp only
 by_cases h1:lo≤n
 ·by_cases h2:n≤hi
  ·go_enter func126,ntmps126;go_wp2;go_ret;exact⟨by simp[h1,h2],qa _ _⟩
  ·have h2':hi<n:=by omega
   go_enter func126,ntmps126;go_wp2;go_ret;exact⟨by simp[h2],qa _ _⟩
 ·have h1':n<lo:=by omega
  go_enter func126,ntmps126;go_wp2;go_ret;exact⟨by simp;omega,qa _ _⟩
theorem axb (f:Fld) (h:yu f=true) (w:World):Calls prog 198 #[aby f] w fun e w'=>e=.returned (.bool true)∧Below w.1.size w w':=by
 have h':1≤f.sz∧f.sz≤8∧f.lo≤f.hi ∧(bac f.sz f.sg≤f.lo∧f.lo≤bab f.sz f.sg)∧bac f.sz f.sg≤f.hi∧f.hi≤bab f.sz f.sg:=by simp[yu]at h;omega
 have HA:=fun W=>hid (aq2 f.sz f.sg W h'.1 h'.2.1)
 have HF:∀W,Hid (Calls prog 197 #[.int .i64 f.sz] W fun e w'=>e=.returned (.bool true)∧W=w'):=fun W=>hid (by
  have:=zv (f.sz:Int) W
  rwa [show (decide (1 ≤(f.sz:Int)) && decide ((f.sz:Int)≤8))=true from by simp;omega]at this)
 have HL:∀W,Hid (Calls prog 126 #[aby (afy f.sz f.sg),.int .i64 f.lo] W fun e w'=>e=.returned (.bool true)∧Below W.1.size W w'):=fun W=>hid (by
  have:=amg (afy f.sz f.sg) f.lo W
  rwa [p9 (show (afy f.sz f.sg).lo≤f.lo∧f.lo ≤(afy f.sz f.sg).hi from h'.2.2.2.1)]at this)
 have HH:∀W,Hid (Calls prog 126 #[aby (afy f.sz f.sg),.int .i64 f.hi] W fun e w'=>e=.returned (.bool true)∧Below W.1.size W w'):=fun W=>hid (by
  have:=amg (afy f.sz f.sg) f.hi W
  rwa [p9 (show (afy f.sz f.sg).lo≤f.hi∧f.hi ≤(afy f.sz f.sg).hi from h'.2.2.2.2)]at this)
 have h3:=h'.2.2.1;unfold yj at HA;generalize afy f.sz f.sg=g at *;obtain⟨z,s,lo,hi⟩:=f;obtain⟨z',s',lo',hi'⟩:=g;unfold aby at *;dsimp only at *;clear h h';go_enter func198,ntmps198;go_wp2_with fail;refine(HA _).out.mono ?_;rintro e w1 ⟨rfl,hb⟩;have HK:Hid (Blk w1 w.1.size (azg ⟨z,s,lo,hi⟩)):=hid ((Blk.newL (qg w _ _) rfl).on hb);have HB:Hid (Below w.1.size w w1):=hid (qb (qa _ _) hb);have a0:=HK.out.cell 0 (v:=.int .i64 z) rfl;have a2:=HK.out.cell 2 (v:=.int .i64 lo) rfl;have a3:=HK.out.cell 3 (v:=.int .i64 hi) rfl;have hlt:=HK.out.lt;clear hb;go_wp2_with fail;refine((HF _).out).mono ?_;rintro e w2 ⟨rfl,rfl⟩;go_wp2_with fail;refine((HL _).out).mono ?_;rintro e w2 ⟨rfl,hb⟩;have HK2:Hid (Blk w2 w.1.size (azg ⟨z,s,lo,hi⟩)):=hid ((HK.out.on (qa _ _)).on hb);have HG2:Hid (Blk w2 w1.1.size (azg ⟨z',s',lo',hi'⟩)):=hid ((Blk.newL (qg w1 _ _) rfl).on hb);have HB2:Hid (Below w.1.size w w2):=hid (qb (qb HB.out (qa _ _)) hb)
 have a3':=HK2.out.cell 3 (v:=.int .i64 hi) rfl;have g0:=HG2.out.cell 0 (v:=.int .i64 z') rfl;have g1:=HG2.out.cell 1 (v:=.bool s') rfl;have g2:=HG2.out.cell 2 (v:=.int .i64 lo') rfl;have g3:=HG2.out.cell 3 (v:=.int .i64 hi') rfl;clear hb a0 a2 a3;go_wp2_with fail;refine((HH _).out).mono ?_;rintro e w3 ⟨rfl,hb⟩;have HB3:=hid (qb HB2.out hb);clear hb;go_wp2_with fail;go_ret;exact⟨rfl,HB3.out⟩
def ake (w:World) (A:Option Addr) (l:List Fld):Prop:=qf (fun b=>b<w.1.size) w A (acl l)
theorem ake.on {w w':World} {A:Option Addr} {l:List Fld} (h:ake w A l) (hb:Below w.1.size w w'):ake w' A l:=(qf.below h hb fun _ q=>q).less fun b q=>e9 q hb.size
theorem ake.cells {w:World} {A:Option Addr} {l:List Fld} (h:ake w A l) (k:Nat) (hk:k<l.length):∃b off,A=some ⟨b,off,none⟩∧b<w.1.size∧w.cell? ⟨b,off+k*4,none⟩=some (.int .i64 (l[k].sz:Int))∧w.cell? ⟨b,off+k*4+1,none⟩=some (.bool l[k].sg)∧w.cell? ⟨b,off+k*4+2,none⟩=some (.int .i64 l[k].lo)∧w.cell? ⟨b,off+k*4+3,none⟩=some (.int .i64 l[k].hi):=by
 have e:=fun j hj=>aib azg 4 (fun _=>rfl) l k hk j hj
 obtain⟨b,off,hA,hb,h0⟩:=h _ _ (e 0 om);refine⟨b,off,hA,hb,h0,?_,?_,?_⟩
 ·obtain⟨b',off',hA',-,h1⟩:=h _ _ (e 1 om);rw[hA]at hA';injection hA' with hA';injection hA' with q1 q2;subst q1 q2
  exact h1
 ·obtain⟨b',off',hA',-,h1⟩:=h _ _ (e 2 om);rw[hA]at hA';injection hA' with hA';injection hA' with q1 q2;subst q1 q2
  exact h1
 ·obtain⟨b',off',hA',-,h1⟩:=h _ _ (e 3 om);rw[hA]at hA';injection hA' with hA';injection hA' with q1 q2;subst q1 q2
  exact h1
theorem ajf (A:Option Addr) (c:Nat) (l:List Fld) (w:World) (h:ake w A l) (hr:l.all yu=true) (hn:l.length≤1000000) :
 Calls prog 124 #[.slice A l.length c] w fun e w'=>e=.returned (.bool true)∧Below w.1.size w w':=by
 have HI:=hid h;have HR:=hid hr;generalize hL:l.length=n at *;have HL:=hid hL;clear h hr hL;go_enter func124,ntmps124;go_wp2_with fail
 go_loopg [7] n (fun g s7 wr=>∃k:Nat,k≤n∧n-k≤g∧s7=.int .i64 k∧Hid (Below w.1.size w wr))
 case atStart=>exact⟨0,b0c _,by omega,rfl,n6 _ _⟩
 case round=>
  obtain⟨k,hk,hg,rfl,HB⟩:=hrel
  by_cases hlt:k<n
  ·have hkl:k<l.length:=by rw[HL.out];exact hlt
   have HY:=fun W=>hid (axb l[k] (b11.1 HR.out _ (b1c hkl)) W)
   obtain⟨b,off,rfl,-,x0,x1,x2,x3⟩:=(HI.out.on HB.out).cells k hkl;generalize l[k]=f at *;obtain⟨z,s,lo,hi⟩:=f;unfold aby at HY;dsimp only at *;have i1:(k:Int)<n:=by omega
   have i2:(0:Int) ≤(k:Int):=n8 _;go_wp2_with fail;refine((HY _).out).mono ?_;rintro e w2 ⟨rfl,hb⟩;have HB2:Hid (Below w.1.size w w2):=hid (qb (qb HB.out (qa _ _)) hb);clear hb x0 x1 x2 x3;go_wp2_with fail
   go_roundg (n-(k+1))
   case measure=>omega
   case rel=>exact⟨k+1,by omega,by omega,by go_num,HB2⟩
  ·obtain rfl:k=n:=by omega
   go_wp2_with fail;go_ret;exact⟨rfl,HB.out⟩
theorem amp (l:List Fld) (k:Nat) (h:k<l.length):yh (l.take (k+1))=yh (l.take k)+l[k].sz:=by
 rw[o5 h];unfold yh;rw[b1y,b3j];simp only[b2l,b44,List.sum_cons,List.sum_nil,b21]
theorem a8h (l:List Fld) (hr:l.all yu=true):yh l≤8*l.length:=by
 induction l with
 | nil=>simp[yh]
 | cons f l ih=>
  rw[List.all_cons,b0d]at hr;have h1:=ih hr.2;have h2:f.sz≤8:=by have:=hr.1;simp[yu]at this;omega
  simp only[yh,b2l,List.sum_cons,n7]at *;omega
theorem bdd {α:Type} {p:α→Bool} {l:List α} (h:l.all p=true) (k:Nat):(l.take k).all p=true:=by
 rw[b11]at *;exact fun x hx=>h x (b25 hx)
theorem axd (A:Option Addr) (c:Nat) (l:List Fld) (w:World) (h:ake w A l) (hr:l.all yu=true) (hn:l.length≤1000000) :
 Calls prog 123 #[.slice A l.length c] w fun e w'=>e=.returned (.int .i64 (yh l:Int))∧Below w.1.size w w':=by
 have HY:=hid (ajf A c l w h hr hn);have HI:=hid h;have HR:=hid hr;have HE:Hid (yh (l.take l.length)=yh l):=hid (by rw[b0o]);generalize hL:l.length=n at *;have HL:=hid hL;clear h hr hL;go_enter func123,ntmps123;go_wp2_with fail;refine(HY.out).mono ?_;rintro e w1 ⟨rfl,hb⟩;have HB1:=hid hb;clear hb;go_wp2_with fail
 go_loopg [3,11] n (fun g s3 s11 wr=>∃k:Nat,k≤n∧n-k≤g∧s11=.int .i64 k∧s3=.int .i64 (yh (l.take k):Int)∧Hid (Below w.1.size w wr))
 case atStart=>exact⟨0,b0c _,by omega,rfl,rfl,HB1⟩
 case round=>
  obtain⟨k,hk,hg,rfl,rfl,HB⟩:=hrel
  by_cases hlt:k<n
  ·have hkl:k<l.length:=by rw[HL.out];exact hlt
   have hw:=a8h _ (bdd HR.out (k+1));have hlen:(l.take (k+1)).length≤1000000:=by rw[l7];omega
   rw[amp l k hkl]at hw;have HW:=hid (amp l k hkl);obtain⟨b,off,rfl,-,x0,x1,x2,x3⟩:=(HI.out.on HB.out).cells k hkl;generalize l[k]=f at *;obtain⟨z,s,lo,hi⟩:=f;dsimp only at *;generalize hv:yh (l.take k)=v at *;have i1:(k:Int)<n:=by omega
   have i2:(0:Int) ≤(k:Int):=n8 _;have i3:IntKind.i64.wrap ((v:Int) +(z:Int))=(v:Int) +(z:Int):=b00 _ om;clear hv;go_wp2_with fail;have HB2:Hid (Below w.1.size w (wr.alloc (.cells #[.int .i64 (z:Int),.bool s,.int .i64 lo,.int .i64 hi] 270))):=hid (qb HB.out (qa _ _))
   go_roundg (n-(k+1))
   case measure=>omega
   case rel=>exact⟨k+1,by omega,by omega,by go_num,by rw[HW.out];go_num,HB2⟩
  ·obtain rfl:k=n:=by omega
   go_wp2_with fail;go_ret;exact⟨by rw[HE.out];rfl,HB.out⟩
theorem axy {w:World} {b:Nat} {l:List UInt8} (n:Int) (h:vy w b l) (h0:n≤0∨l=[]) (hn:-9223372036854775808≤n∧n≤9223372036854775807) :
 Calls prog 57 #[.pointer (some ⟨b,0,none⟩),.int .i64 n] w fun e w'=>e=.returned (.int .i64 0)∧w=w':=by
 have H:=hid h;have hm:l.length≤1024:=by obtain⟨D,a,h⟩:=h;exact h.max
 clear h;have h0':n≤0∨l.length=0:=h0.imp id fun q=>by rw[q];rfl
 clear h0;generalize hN:l.length=N at *;have hk:max 0 (min n (N:Int))=0:=by omega
 have HL:∀W,Hid (vy W b l→Calls prog 72 #[.pointer (some ⟨b,0,none⟩)] W fun e w'=>e=.returned (.int .i64 N)∧W=w'):=fun W=>hid (fun q=>by have:=agv q;rwa [hN]at this)
 clear hN h0';go_enter func57,ntmps57;go_wp2_with (refine((HL _).out H.out).mono ?_;rintro e w' ⟨rfl,rfl⟩);go_ret;exact⟨rfl,rfl⟩
theorem axz {w:World} {b:Nat} {l:List UInt8} (n:Int) (k:Nat) (h:vy w b l) (hk:max 0 (min n (l.length:Int))=(k:Int)) (h0:0<k) (hn:-9223372036854775808≤n∧n≤9223372036854775807) :
 Calls prog 57 #[.pointer (some ⟨b,0,none⟩),.int .i64 n] w fun e w'=>e=.returned (.int .i64 k)∧vy w' b (l.drop k)∧qj (fun j=>j≠b) w w':=by
 have H:=hid h;obtain⟨D,a,h⟩:=h;have hm:=h.max;have ha:=h.at_;have HW:=hid h;have c2:=h.blk.cell 1025 (alo h.len _ _);have c3:=h.blk.cell 1026 (akb h.len _ _);have z2:=h.blk.fz 1025;have z3:=h.blk.fz 1026;have hkl:k≤l.length:=by omega
 have HF:Hid (vy ((w.setCell ⟨b,1025,none⟩ (.int .i64 (((a:Int) +(k:Int))%1024))).setCell ⟨b,1026,none⟩ (.int .i64 ((l.length:Int)-(k:Int)))) b (l.drop k)∧qj (fun j=>j≠b) w ((w.setCell ⟨b,1025,none⟩ (.int .i64 (((a:Int) +(k:Int))%1024))).setCell ⟨b,1026,none⟩ (.int .i64 ((l.length:Int)-(k:Int))))):=hid (by
  have s1:qp w (w.setCell ⟨b,1025,none⟩ (.int .i64 (((a:Int) +(k:Int))%1024))) b 1025 [.int .i64 (((a:Int) +(k:Int))%1024)]:=ze (h.blk.there 1025 1 (by rw[ah5 h.len];omega));have b1:=bnd h.blk s1 h.len;have s2:qp _ ((w.setCell ⟨b,1025,none⟩ (.int .i64 (((a:Int) +(k:Int))%1024))).setCell ⟨b,1026,none⟩ (.int .i64 ((l.length:Int)-(k:Int)))) b 1026 [.int .i64 ((l.length:Int)-(k:Int))]:=ze (b1.there 1026 1 (by rw[ah5 h.len];omega));have b2:=bkq b1 s2 h.len;refine⟨⟨D,(a+k)%1024,?_,h.len,by omega,by rw[l8];omega,ba2 h.ring hkl⟩,((qj.refl _ w).stored s1 (fun q=>q rfl)).stored s2 (fun q=>q rfl)⟩;have e1:(((a+k)%1024:Nat):Int)=((a:Int) +(k:Int))%1024:=by omega
  have e2:(((l.drop k).length:Nat):Int)=(l.length:Int)-(k:Int):=by rw[l8];omega
  rw[e1,e2];exact b2)
 clear h;generalize hN:l.length=N at *;have HL:∀W,Hid (vy W b l→Calls prog 72 #[.pointer (some ⟨b,0,none⟩)] W fun e w'=>e=.returned (.int .i64 N)∧W=w'):=fun W=>hid (fun q=>by have:=agv q;rwa [hN]at this)
 clear hN;have hb:¬(k:Int)≤0:=by omega
 have hb1:(0:Int)<(k:Int):=by omega
 go_enter func57,ntmps57;go_wp2_with (refine((HL _).out H.out).mono ?_;rintro e w' ⟨rfl,rfl⟩);go_ret;exact⟨rfl,HF.out.1,HF.out.2⟩
theorem ah4 {w:World} {b:Nat} {l:List UInt8} (n:Int) (h:vy w b l) (hn:-9223372036854775808≤n∧n≤9223372036854775807) :
 Calls prog 57 #[.pointer (some ⟨b,0,none⟩),.int .i64 n] w fun e w'=>e=.returned (.int .i64 ((max 0 (min n (l.length:Int))).toNat:Nat))∧vy w' b (l.drop (max 0 (min n (l.length:Int))).toNat)∧qj (fun j=>j≠b) w w':=by
 by_cases h0:n≤0∨l=[]
 ·have e:(max 0 (min n (l.length:Int))).toNat=0:=by
   rcases h0 with q|rfl
   ·omega
   ·rw[b04];omega
  rw[e];refine(axy n h h0 hn).mono ?_;rintro e w' ⟨rfl,rfl⟩;exact⟨rfl,h,qj.refl _ _⟩
 ·have hl:0<l.length:=b2f.2 (fun q=>h0 (.inr q));exact axz n _ h om om hn
section
variable {P : Program} {ops : Array Oper} {rest : List Oper} {o : Oper} {a : Act} {w : World} {Q : Exit → Act → World → Prop}
theorem yz (hgd:o.guard=none) (l c:Operand) (t e:TypeId) (ho:o.op=.makeSlice t l c) (i:TypeInfo) (z:Value) (ht:P.underlying t=some (.slice e)) (hi:P.info? e=some i) (hz:i.zero=some z)
 (kl kc:IntKind) (n:Nat) (hl:a.eval l=.int kl (n:Int)) (hc:a.eval c=.int kc (n:Int)) (hb:i.bytes*n≤281474976710656) (h63:(n:Int)≤9223372036854775807)
 (h:∀W,a28 w W (madeCells z.cells (n*i.size))→wpList P ops Q rest (a.put o.dst (.slice (some ⟨w.1.size,0,none⟩) n n)) W):wpList P ops Q (o::rest) a w:=
 ab7 hgd (W:=w.alloc (.cells (madeCells z.cells (n*i.size)) e)) (by
  have hb':((i.bytes*n:Nat):Int)≤281474976710656:=by omega
  rw[b1z]at hb';have hr:=run_make (P:=P) w t e i z ht hi hz kl kc (n:Int) (n:Int) om (Int.le_refl _) hb' h63;unfold execOp;rw[ho];simp only[hl,hc];simp only[b1n]at hr;rw[b1k,hr];rfl) (h _ (qg w _ e))
end
theorem bgm:(prog.info? 5).map (fun i=>(i.zero,i.size,i.bytes))=some (some (.int .u8 0),1,1):=by kernel_rfl
theorem bhd (n:Nat):(madeCells (Value.int .u8 0).cells (n*1)).toList=bsV (List.replicate n 0):=by
 rw[b4d];show (madeCells #[Value.int .u8 0] n).toList=_;rw[toList_madeCells_one];unfold bsV;rw[List.map_replicate];rfl
theorem akn {w W:World} {b o:Nat} {D xs:List UInt8} (h:Blk w b (bsV D)) (hs:qp w W b o (bsV xs)) (hf:o+xs.length≤D.length):Blk W b (bsV (jg D o xs)):=by
 have e1:bsV D=bsV (D.take o)++bsV ((D.drop o).take xs.length)++bsV (D.drop (o+xs.length)):=by
  have:D=D.take o ++((D.drop o).take xs.length++D.drop (o+xs.length)):=by
   rw[← b1v,b0p,b0p]
  conv=>lhs;rw[this]
  rw[ade,ade,b0l]
 have e2:bsV (jg D o xs)=bsV (D.take o)++bsV xs++bsV (D.drop (o+xs.length)):=by
  unfold jg;rw[ade,ade]
 rw[e1]at h;rw[e2];refine h.put hs ?_ ?_
 ·rw[xl,l7];omega
 ·rw[xl,xl,l7,l8];omega
theorem ara {α:Type} (D:List α) (o:Nat):jg D o []=D:=by
 unfold jg;rw[b0k,b04,b21,b0p]
theorem Blk.flat {w:World} {b:Nat} {L:List Value} (h:Blk w b L) {Q:Nat→Prop} (hq:Q b):qf Q w (some ⟨b,0,none⟩) L:=fun j u hu=>⟨b,0,rfl,hq,h.cell (0+j) (by rw[b0e];exact hu)⟩
theorem a2w {w:World} {b:Nat} {D:List UInt8} {a n:Int} (h:Blk w b (abn D a n)) {Q:Nat→Prop} (hq:Q b):qf Q w (some ⟨b,1,none⟩) (bsV D):=fun j u hu=>⟨b,1,rfl,hq,h.cell (1+j) (by
 have hj:j<(bsV D).length:=by
  rcases b01 j (bsV D).length with q|q
  ·exact q
  ·rw[t9 q]at hu;cases hu
 unfold abn;rw[b0a (by rw[d7];simp only[n7,b04];omega),t8 sm];rw[show 1+j-[Value.bool true].length=j from by simp];exact hu)⟩
theorem ah6 {w:World} {b:Nat} {l:List UInt8} (h:vy w b l) :
 Calls prog 40 #[.pointer (some ⟨b,0,none⟩)] w fun e w'=>e=.returned (.slice (some ⟨w.1.size,0,none⟩) l.length l.length)∧Blk w' w.1.size (bsV l)∧vy w' b l∧Below w.1.size w w'∧w'.1.size=w.1.size+1:=by
 have H:=hid h;obtain⟨D,a,h⟩:=h;have hm:=h.max;have ha:=h.at_;have HW:=hid h;have c2:=h.blk.cell 1025 (alo h.len _ _);have c3:=h.blk.cell 1026 (akb h.len _ _);have hblt:=h.blk.lt;clear h;generalize hN:l.length=N at *;have HN:=hid hN;clear hN;obtain⟨i0,hi,hz0,hz1,hz2⟩:=info_parts bgm;have HI:=hid hi;have HZ:=hid (o4 hz0 (o4 hz1 hz2));clear hi hz0 hz1 hz2;go_enter func40,ntmps40
 go_upto_region 4 with(first
  | (refine(agw H.out).mono ?_;rintro e w' ⟨rfl,rfl⟩)
  | (refine yz rfl _ _ 22 5 rfl i0 _ underlying22 HI.out HZ.out.1 .i64 .i64 N rfl rfl (by rw[HZ.out.2.2];omega) om ?_;intro W1 hG;have HG:=hid hG;clear hG))
 have e0:(madeCells (Value.int .u8 0).cells (N*i0.size)).toList=bsV (List.replicate N 0):=by rw[HZ.out.2.1];exact bhd N
 have HS1:=hid HG.out.sz;have HK1:Hid (Blk W1 w.1.size (bsV (List.replicate N 0))):=hid (Blk.newL HG.out e0);have HW1:Hid (auu W1 b D a l):=hid (HW.out.on HG.out.bel);have HB1:=hid HG.out.bel;clear HG HI HZ e0 c2 c3;have c2:=HW1.out.blk.cell 1025 (alo HW1.out.len _ _);obtain⟨K1,hK1,k1,k2⟩:∃K1,K1=min N (1024-a)∧K1≤N∧a+K1≤1024:=⟨_,rfl,by omega,by omega⟩;have hm1:Nat.min (1024-a) N=K1:=by show min (1024-a) N=K1;omega
 have HD1:Hid (Blk W1.drew b (abn D a (l.length:Int))):=hid HW1.out.blk.drew
 obtain⟨W2,q1,q2⟩:=abu (P:=prog) W1.drew 22 22 3 5 underlying22 alj w.1.size 0 N N (some ⟨b,1+a,none⟩) (1024-a) (1024-a) (bsV (D.drop a)) (by
  have:=(a2w HD1.out (Q:=fun _=>True) trivial).part a
  rwa [abp]at this) (by rw[xl,l8,HW1.out.len]) (af0 _) (by rw[hm1];exact(HK1.out.drew.there 0 K1 (by rw[xl,b1h];omega)))
 rw[hm1,v6]at q2;rw[hm1]at q1;have q2':qp W1 W2 w.1.size 0 (bsV ((D.drop a).take K1)):=⟨q2.os,q2.tape,q2.output,q2.sz,q2.far,q2.fz,q2.rg,q2.apart,q2.there⟩;have hlx:((D.drop a).take K1).length=K1:=by rw[l7,l8,HW1.out.len];omega
 have HK2:Hid (Blk W2 w.1.size (bsV (jg (List.replicate N 0) 0 ((D.drop a).take K1)))):=hid (akn HK1.out q2' (by rw[hlx,b1h];omega));have HW2:Hid (auu W2 b D a l):=hid (HW1.out.kept (q2'.far b om) (b35 q2'.sz.symm));have HB2:Hid (Below w.1.size w W2):=hid (HB1.out.trans (q2'.below (a8 _)));have HS2:Hid (W2.1.size=w.1.size+1):=hid (q2'.sz.trans HS1.out);have hls:(jg (List.replicate N (0:UInt8)) 0 ((D.drop a).take K1)).length=N:=by rw[agl (by rw[hlx,b1h];omega),b1h]
 have HR:=hid q1;have HLX:=hid hlx;have HLS:=hid hls;have HKE:=hid hK1;clear q1 q2 q2' hlx hls hm1 hK1 HD1;have f1:¬(1024:Nat)=a:=by omega
 have f2:¬(1024:Int)=(a:Int):=by omega
 have f3:(a:Int)≤1024:=by omega
 go_cut [4] (fun s wx=>s=.int .i64 K1∧wx=W2)
 case first=>
  go_region_law ((refine kt kr (.tmp 13) (.tmp 21) 22 22 kr (.slice (some ⟨w.1.size,0,none⟩) N N) (.slice (some ⟨b,1+a,none⟩) (1024-a) (1024-a)) (goInt K1) kr kr HR.out ?_))
  go_wp2_with fail
  go_meet
  exact⟨rfl,rfl⟩
 case rest=>
 obtain⟨rfl,rfl⟩:=hcut;clear HR
 have HPE:Hid (jg (jg (List.replicate N (0:UInt8)) 0 ((D.drop a).take K1)) K1 (D.take (N-K1))=l):=hid (by
  have e:=ba3 (K1:=K1) HW.out.ring HW.out.len ha (by rw[HN.out];exact hm) (by rw[HN.out];exact HKE.out);rw[HN.out]at e;have l2:(D.take (N-K1)).length=N-K1:=by rw[l7,HW.out.len];omega
  have e1:jg (List.replicate N (0:UInt8)) 0 ((D.drop a).take K1)=(D.drop a).take K1++List.replicate (N-K1) 0:=by
   unfold jg;rw[b10,b03,b0e,HLX.out,List.drop_replicate]
  conv=>rhs;rw[← e]
  rw[e1];unfold jg;rw[b46 HLX.out,l2,show K1 +(N-K1)=N from by omega,show (((D.drop a).take K1++List.replicate (N-K1) (0:UInt8)).drop N)=[]from b1x (by rw[d7,HLX.out,b1h];omega),b0k])
 have hm2:Nat.min 1024 (N-K1)=N-K1:=by show min 1024 (N-K1)=N-K1;omega
 have HR2:Hid (∀o,o=K1 ∨(o=0∧N-K1=0)→∃W,(Builtin.copy_ #[22,22] 3 #[.slice (some ⟨w.1.size,o,none⟩) (N-K1) (N-K1),.slice (some ⟨b,1,none⟩) 1024 1024]).run prog wc.drew=.ok (goInt (N-K1:Nat)) W∧Blk W w.1.size (bsV l)∧vy W b l∧Below w.1.size w W∧W.1.size=w.1.size+1):=hid fun o ho=>by
  have hth:wc.drew.there w.1.size o (Nat.min 1024 (N-K1)):=by
   rw[hm2];rcases ho with rfl|⟨rfl,h0⟩
   ·exact HK2.out.drew.there o (N-o) (by rw[xl,HLS.out];omega)
   ·rw[h0];intro j hj;exact absurd hj (b0v _)
  obtain⟨W,q1,q2⟩:=abu (P:=prog) wc.drew 22 22 3 5 underlying22 alj w.1.size o (N-K1) (N-K1) (some ⟨b,1,none⟩) 1024 1024 (bsV D) (a2w HW2.out.blk.drew (Q:=fun _=>True) trivial) (by rw[xl,HW2.out.len]) (af0 _) hth;rw[hm2,v6]at q2;rw[hm2]at q1;have q2':qp wc W w.1.size o (bsV (D.take (N-K1))):=⟨q2.os,q2.tape,q2.output,q2.sz,q2.far,q2.fz,q2.rg,q2.apart,q2.there⟩;refine⟨W,q1,?_,⟨D,a,HW2.out.kept (q2'.far b om) (b35 q2'.sz.symm)⟩,HB2.out.trans (q2'.below (a8 _)),q2'.sz.trans HS2.out⟩;have l2:(D.take (N-K1)).length=N-K1:=by rw[l7,HW.out.len];omega
  rcases ho with rfl|⟨rfl,h0⟩
  ·have:=akn HK2.out q2' (by rw[l2,HLS.out];omega)
   rwa [HPE.out]at this
  ·have e2:=HPE.out;rw[h0,b10,ara]at e2;rw[h0,b10]at q2';have:=akn (xs:=[]) HK2.out q2' (by rw[b04];omega);rw[ara,e2]at this;exact this
 have HNN:=hid (o4 HN.out hm2);clear hm2;go_upto_region 5 with fail
 go_cut [] (fun wx=>Hid (Blk wx w.1.size (bsV l)∧vy wx b l∧Below w.1.size w wx∧wx.1.size=w.1.size+1))
 case first=>
  by_cases hcK:N=K1
  ·subst hcK;obtain⟨W,q1,q2⟩:=HR2.out 0 (.inr ⟨rfl,b2p _⟩);rw[b2p]at q1;have HR:=hid q1;have HQ:=hid q2;clear q1 q2 HR2
   go_region_law ((refine kt kr (.tmp 25) (.tmp 29) 22 22 kr (.slice (some ⟨w.1.size,0,none⟩) 0 0) (.slice (some ⟨b,1,none⟩) 1024 1024) (goInt (0:Nat)) kr kr HR.out ?_))
   go_wp2_with fail
   go_meet
   exact HQ
  ·obtain⟨W,q1,q2⟩:=HR2.out K1 (.inl rfl);have HR:=hid q1;have HQ:=hid q2;clear q1 q2 HR2;have hcK':¬(N:Int)=K1:=by omega
   have f6:(K1:Int)≤N:=by omega
   go_region_law ((refine kt kr (.tmp 25) (.tmp 29) 22 22 kr (.slice (some ⟨w.1.size,K1,none⟩) (N-K1) (N-K1)) (.slice (some ⟨b,1,none⟩) 1024 1024) (goInt (N-K1:Nat)) kr kr HR.out ?_))
   go_wp2_with fail
   go_meet
   exact HQ
 case rest=>
 clear HR2 HW2 HK2 HB2 HS2;go_wp2_with fail;go_ret;exact⟨rfl,hcut.out.1,hcut.out.2.1,hcut.out.2.2.1,hcut.out.2.2.2⟩
theorem agx {P:Program} {w:World} {a:Addr} {m:Mode} (f:_) (x:_) (y:_):(store a (.func f x y) m).run P w=stored P w a (.func f x y) m:=run_store P w a _ m rfl
theorem axa (w:World):Calls prog 201 #[] w fun e w'=>e=.returned (.agg #[.func (Fn.func 216) #[] #[],.func (Fn.func 218) #[] #[]])∧Below w.1.size w w':=by
 have hsf:=@agx prog;go_enter func201,ntmps201;go_wp2_with fail;exact b9 (v:=.agg #[.func (Fn.func 216) #[] #[],.func (Fn.func 218) #[] #[]]) (by simp[results,results201,go_sem]) rfl ⟨rfl,qa _ _⟩
theorem bjk {w1:World} {b:Nat} {x y:Value} (hk:Blk w1 b [x,y]) (p q:Value):(loadVar 277 ⟨b,0,none⟩).run prog ((w1.setCell ⟨b,0,none⟩ p).setCell ⟨b,1,none⟩ q)=.ok (.agg #[p,q]) ((w1.setCell ⟨b,0,none⟩ p).setCell ⟨b,1,none⟩ q)∧Below b w1 ((w1.setCell ⟨b,0,none⟩ p).setCell ⟨b,1,none⟩ q):=by
 have hs:qp w1 ((w1.setCell ⟨b,0,none⟩ p).setCell ⟨b,1,none⟩ q) b 0 [p,q]:=qo (cs:=[p,q]) (hk.there 0 2 (a8 _));exact⟨t6 (P:=prog) _ b 0 277 [p,q] _ (hk.all hs rfl).rg underlying277 rfl kr,hs.below (a8 _)⟩
def amj (s:Bool):Nat:=if s then 200 else 218
def bko (s:Bool):Nat:=if s then 199 else 216
theorem bbt (f:Fld) (w:World):Calls prog 125 #[aby f] w fun e w'=>e=.returned (.agg #[.func (Fn.func (bko f.sg)) #[] #[],.func (Fn.func (amj f.sg)) #[] #[]])∧Below w.1.size w w':=by
 have hsf:=@agx prog;have HP:=fun W=>hid (axa W)
 obtain⟨z,s,lo,hi⟩:=f;unfold aby;dsimp only;cases s
 ·show Calls prog _ _ w fun e w'=>e=.returned (.agg #[.func (Fn.func 216) #[] #[],.func (Fn.func 218) #[] #[]])∧Below w.1.size w w'
  go_enter func125,ntmps125;go_wp2_with fail;refine(HP _).out.mono ?_;rintro e w1 ⟨rfl,hb⟩;have HB1:Hid (Below w.1.size w w1):=hid (qb (qb (qa _ _) (qa _ _)) hb)
  have HK1:Hid (Blk w1 (w.1.size+1) [.nilFunc,.nilFunc]):=hid (by
   have:=(Blk.newL (qg (w.alloc (.cells #[.int .i64 (z:Int),.bool false,.int .i64 lo,.int .i64 hi] 270)) #[.nilFunc,.nilFunc] 277) rfl).on hb
   simpa using this)
  have c0:=HK1.out.cell 0 (v:=.nilFunc) rfl;have c1:=HK1.out.cell 1 (v:=.nilFunc) rfl;have z0:=HK1.out.fz 0;have z1:=HK1.out.fz 1;clear hb;go_wp2_with fail;have HRS:=bjk HK1.out (.func (Fn.func 216) #[] #[]) (.func (Fn.func 218) #[] #[]);exact b9 (v:=.agg #[.func (Fn.func 216) #[] #[],.func (Fn.func 218) #[] #[]]) (by rw[qm rfl];simp[asAddr,Result.andThen];exact HRS.1) rfl ⟨rfl,HB1.out.trans (HRS.2.mono (by have:=HB1.out.size;omega))⟩
 ·show Calls prog _ _ w fun e w'=>e=.returned (.agg #[.func (Fn.func 199) #[] #[],.func (Fn.func 200) #[] #[]])∧Below w.1.size w w'
  go_enter func125,ntmps125;go_wp2_with fail;exact b9 (v:=.agg #[.func (Fn.func 199) #[] #[],.func (Fn.func 200) #[] #[]]) (by simp[results,results125,go_sem]) rfl ⟨rfl,qb (qa _ _) (qa _ _)⟩
theorem axc {Q:Nat→Prop} {w:World} {a:Nat} {l:List UInt8} (n:Nat) (h:RdI Q w a (some l)) (h1:1≤n) (h8:n≤8) (hn:n≤l.length) :
 Calls prog 218 #[.pointer (some ⟨a,0,none⟩),.int .i64 n] w fun e w'=>e=.returned (.int .i64 (IntKind.i64.wrap (je (l.take n):Int)))∧RdI Q w' a (some (l.drop n))∧qj (fun k=>k≠a) w w':=by
 have HN:=hid (aco n h h1 h8 hn);generalize je (l.take n)=u at *;rw[b42];clear h hn;go_enter func218,ntmps218;go_wp2_with (refine HN.out.mono ?_;rintro e w' ⟨rfl,hr,hk⟩;have HR:=hid (o4 hr hk);clear hr hk);go_ret;exact⟨rfl,HR.out⟩
theorem asq {Q:Nat→Prop} {w:World} {a:Nat} {l:List UInt8} (f:Fld) (h:RdI Q w a (some l)) (h1:1≤f.sz) (h8:f.sz≤8) (hn:f.sz≤l.length) :
 Calls prog (amj f.sg) #[.pointer (some ⟨a,0,none⟩),.int .i64 f.sz] w fun e w'=>e=.returned (.int .i64 (an3 f (l.take f.sz)))∧RdI Q w' a (some (l.drop f.sz))∧qj (fun k=>k≠a) w w':=by
 unfold amj an3;cases f.sg
 ·exact axc f.sz h h1 h8 hn
 ·exact baj f.sz h h1 h8 hn
theorem bdk (s:Bool) (x y:Value) (W:World):(callFunc (amj s) #[x,y]).run prog W=.ok (.enter (amj s) #[x,y]) W:=by
 cases s
 ·kernel_rfl
 ·kernel_rfl
theorem a9r (F G:Nat) (W:World):(Instr.field 277 (.agg #[.func (Fn.func F) #[] #[],.func (Fn.func G) #[] #[]]) 1).run prog W=.ok (.func (Fn.func G) #[] #[]) W:=by kernel_rfl
theorem aj8:∀(l:List Fld) (f:Fld) (b:List UInt8),aan (l++[f]) b=(aan l b).bind fun v=>if f.lo≤an3 f ((b.drop (yh l)).take f.sz)∧an3 f ((b.drop (yh l)).take f.sz)≤f.hi then some (v++[an3 f ((b.drop (yh l)).take f.sz)])else none
 | [],f,b=>by simp[aan,yh]
 | g::l,f,b=>by
  simp only[b02,aan]
  split
  ·rw[aj8 l f (b.drop g.sz)]
   have e:(b.drop g.sz).drop (yh l)=b.drop (yh (g::l)):=by
    rw[b1v];simp[yh]
   rw[e];generalize (b.drop (yh (g::l))).take f.sz=t;cases aan l (b.drop g.sz)with
   | none=>rfl
   | some v=>
    simp only[b3t,Option.bind_some]
    split<;>simp
  ·rfl
theorem axh (l m:List Fld) (b:List UInt8) (h:aan l b=none):aan (l++m) b=none:=by
 induction m generalizing l with
 | nil=>rwa [b0k]
 | cons f m ih=>
  rw[show l++f::m=(l++[f])++m from by simp];exact ih _ (by rw[aj8,h];rfl)
theorem bgx (l m:List Fld):yh (l++m)=yh l+yh m:=by unfold yh;rw[b1y,b3j]
def ky (x:Int×List Int) (w:World) (e:Ending) (w':World):Prop:=
 ∃A c,e=.returned (.tuple #[.slice A x.2.length c,.int .i64 x.1])∧qf (fun b=>w.1.size≤b∧b<w'.1.size) w' A (qr x.2)∧Below w.1.size w w'
theorem a1u:(prog.info? 2).map (fun i=>(i.zero,i.size,i.bytes))=some (some (.int .i64 0),1,8):=by kernel_rfl
theorem kj {P:Program} {t:TypeId} {z:Option Value} {s b:Nat} (h:(P.info? t).map (fun i=>(i.zero,i.size,i.bytes))=some (z,s,b)):∃i,P.info? t=some i∧i.zero=z∧i.size=s∧i.bytes=b:=by
 cases hi:P.info? t with
 | none=>rw[hi]at h;cases h
 | some i=>rw[hi]at h;simp at h;exact⟨i,rfl,h.1,h.2.1,h.2.2⟩
theorem a70 (n:Nat):(madeCells (Value.int .i64 0).cells (n*1)).toList=qr (List.replicate n 0):=by
 rw[b4d];show (madeCells #[Value.int .i64 0] n).toList=_;rw[toList_madeCells_one];unfold qr;rw[List.map_replicate]
theorem bb1 {W:World} {g n k:Nat} {u:List Int} (h:Blk W g (qr (u++List.replicate (n-k) 0))) (hu:u.length=k) (hk:(k:Int)<n) (x:Int) :
 W.cell? ⟨g,k,none⟩=some (.int .i64 0)∧Blk (W.setCell ⟨g,k,none⟩ (.int .i64 x)) g (qr ((u++[x])++List.replicate (n-(k+1)) 0))∧∀b,b≠g →(W.setCell ⟨g,k,none⟩ (.int .i64 x)).heap[b]?=W.heap[b]?:=by
 have e:qr (u++List.replicate (n-k) 0)=qr u++[Value.int .i64 0]++qr (List.replicate (n-(k+1)) 0):=by
  rw[show n-k=(n-(k+1))+1 from by omega,b4e];simp[qr]
 rw[e]at h
 have hc:W.cell? ⟨g,k,none⟩=some (.int .i64 0):=h.cell k (by
  rw[b0l,t8 (by rw[jm,hu];exact a8 _),jm,hu,b2p];rfl)
 have s1:qp W (W.setCell ⟨g,k,none⟩ (.int .i64 x)) g k [.int .i64 x]:=ze (h.there k 1 (by simp[jm,hu]));refine⟨hc,?_,fun b hb=>s1.far b hb⟩;have:=h.put s1 (by rw[jm,hu]) rfl;have e2:qr ((u++[x])++List.replicate (n-(k+1)) 0)=qr u++[Value.int .i64 x]++qr (List.replicate (n-(k+1)) 0):=by simp[qr]
 rw[e2];exact this
theorem ang {Q0:Nat→Prop} {w:World} (A X:Option Addr) (c d:Nat) (fs:List Fld) (b:List UInt8) (hF:ake w A fs) (hr:fs.all yu=true) (hn:fs.length≤1000) (hB:qf Q0 w X (bsV b)) (hm:b.length≤1000000) :
 Calls prog 91 #[.slice A fs.length c,.slice X b.length d] w (ky (xk fs b) w):=by
 have HW:∀W,Below w.1.size w W→Hid (Calls prog 123 #[.slice A fs.length c] W fun e w'=>e=.returned (.int .i64 (yh fs:Int))∧Below W.1.size W w'):=fun W hW=>hid (axd A c fs W (hF.on hW) hr om)
 have HR:∀W,Below w.1.size w W→Hid (Calls prog 124 #[.slice A fs.length c] W fun e w'=>e=.returned (.bool true)∧Below W.1.size W w'):=fun W hW=>hid (ajf A c fs W (hF.on hW) hr om)
 have hwl:=a8h fs hr;rcases Nat.lt_trichotomy b.length (yh fs)with hlt|heq|hgt
 ·have e0:xk fs b=(2,[]):=by unfold xk;rw[if_pos hlt]
  rw[e0];generalize yh fs=v at *;generalize fs.length=n at *;generalize b.length=m at *;have g1:(m:Int)<v:=by omega
  clear hB hF e0;go_enter func91,ntmps91;go_wp2_with fail;refine((HW _ (n6 _ _)).out).mono ?_;rintro e w1 ⟨rfl,hb⟩;have HB1:=hid hb;clear hb;go_wp2_with fail;refine((HR _ HB1.out).out).mono ?_;rintro e w2 ⟨rfl,hb⟩;have HB2:=hid (qb HB1.out hb);clear hb;go_wp2_with fail
  go_ret2
  exact⟨none,0,rfl,qf.nil _ _ _,HB2.out⟩
 ·have e0:xk fs b=match aan fs b with|some v=>(0,v)|none=>(5,[]):=by unfold xk;rw[if_neg om,if_neg om];all_goals rfl
  rw[e0];clear e0;obtain⟨res,hres⟩:∃r,r=(match aan fs b with|some v=>((0:Int),v)|none=>(5,[])):=⟨_,rfl⟩;rw[← hres];have HRES:=hid hres;clear hres;have HNW:∀W,Below w.1.size w W→Hid (Calls prog 74 #[.slice X b.length d] W fun e w'=>∃g,e=.returned (.pointer (some ⟨g,0,none⟩))∧RdI (fun b=>W.1.size≤b∧b<w'.1.size) w' g (some b)∧Below W.1.size W w'):=fun W hW=>hid (ajy X b d W (hB.lt.below hW (fun b q=>q.2)) hm)
  have HFI:=hid hF;have HRI:=hid hr;have HEQ:=hid heq;have HWL:Hid (b.length=yh fs):=hid heq;clear hB hF hr;generalize hL:fs.length=n at *;generalize hM:b.length=m at *;have HL:=hid hL;have HM:=hid hM;obtain⟨i0,hi,hz0,hz1,hz2⟩:=kj a1u;have HI:=hid hi;have HZ:=hid (o4 hz0 (o4 hz1 hz2));clear hi hz0 hz1 hz2 hL hM;generalize hv:yh fs=v at *;have HV:=hid hv;subst heq;clear hv;go_enter func91,ntmps91;go_wp2_with fail;refine((HW _ (n6 _ _)).out).mono ?_;rintro e w1 ⟨rfl,hb⟩;have HB1:=hid hb;clear hb;go_wp2_with fail;refine((HR _ HB1.out).out).mono ?_;rintro e w2 ⟨rfl,hb⟩;have HB2:=hid (qb HB1.out hb);clear hb HB1;go_wp2_with fail;refine((HNW _ HB2.out).out).mono ?_;rintro e w3 ⟨a,rfl,hrd,hb⟩;have HRD:=hid hrd;have HB3:=hid (qb HB2.out hb);have HQ:=hid HB2.out.size;clear hrd hb HR HW HNW;go_wp2_with (refine yz rfl _ _ 49 2 rfl i0 _ underlying49 HI.out HZ.out.1 .i64 .i64 n rfl rfl (by rw[HZ.out.2.2];omega) om ?_;intro W1 hG;have HG:=hid hG;clear hG)
  have e0:(madeCells (Value.int .i64 0).cells (n*i0.size)).toList=qr (List.replicate n 0):=by rw[HZ.out.2.1];exact a70 n
  have HK1:Hid (Blk W1 w3.1.size (qr ([]++List.replicate (n-0) 0))):=hid (Blk.newL HG.out (by rw[b03,b47];exact e0));have HBX:Hid (Below w.1.size w W1):=hid (qb HB3.out HG.out.bel)
  have HRX:Hid (RdI (fun b=>w2.1.size≤b∧b<w3.1.size) W1 a (some (b.drop (yh (fs.take 0))))):=hid (by
   rw[b10];exact HRD.out.below HG.out.bel (fun _ q=>q.2))
  have ha:=HRD.out.1.2;have HA1:=hid HRD.out.1;clear HG HI HZ e0 HRD HB3;generalize w3.1.size=g at *
  go_loopg [34] n (fun h s34 wr=>∃k:Nat,k≤n∧n-k≤h∧s34=.int .i64 k∧Hid (∃u,aan (fs.take k) b=some u∧u.length=k∧Blk wr g (qr (u++List.replicate (n-k) 0)))∧Hid (RdI (fun b=>w2.1.size≤b∧b<g) wr a (some (b.drop (yh (fs.take k)))))∧Hid (Below w.1.size w wr))
  case atStart=>exact⟨0,b0c _,by omega,rfl,⟨[],rfl,rfl,HK1.out⟩,HRX,HBX⟩
  case round=>
   obtain⟨k,hk,hg,rfl,HK,HRK,HB⟩:=hrel
   by_cases hlt:k<n
   ·have hkl:k<fs.length:=by rw[HL.out];exact hlt
    obtain⟨u,hu,hul,hkb⟩:=HK.out;have hright:=b11.1 HRI.out _ (b1c hkl)
    have HSN:Hid (aan (fs.take (k+1)) b=if(fs[k]).lo≤an3 fs[k] ((b.drop (yh (fs.take k))).take fs[k].sz)∧an3 fs[k] ((b.drop (yh (fs.take k))).take fs[k].sz)≤fs[k].hi then some (u++[an3 fs[k] ((b.drop (yh (fs.take k))).take fs[k].sz)])else none):=hid (by
     rw[o5 hkl,aj8,hu];rfl)
    have hwk:=amp fs k hkl
    have hwm:yh (fs.take (k+1))≤yh fs:=by
     conv=>rhs;rw[← b0p (k+1) fs]
     rw[bgx];omega
    have HPN:Hid (aan (fs.take (k+1)) b=none→aan fs b=none):=hid (fun q=>by
     have:=axh (fs.take (k+1)) (fs.drop (k+1)) b q
     rwa [b0p]at this)
    have h18:1 ≤(fs[k]).sz ∧(fs[k]).sz≤8 ∧(fs[k]).sz ≤(b.drop (yh (fs.take k))).length:=by
     simp[yu]at hright;rw[l8,HM.out];have:=HV.out;omega
    have HTK:=fun W=>hid (fun(q:RdI (fun b=>w2.1.size≤b∧b<g) W a (some (b.drop (yh (fs.take k)))))=>asq fs[k] q h18.1 h18.2.1 h18.2.2)
    have HDR:Hid ((b.drop (yh (fs.take k))).drop fs[k].sz=b.drop (yh (fs.take (k+1)))):=hid (by rw[b1v,hwk]);have HOF:=fun W=>hid (bbt fs[k] W)
    have HIN:=fun x W=>hid (amg fs[k] x W)
    obtain⟨fb,off,rfl,hfb,x0,x1,x2,x3⟩:=(HFI.out.on HB.out).cells k hkl;generalize (b.drop (yh (fs.take k)))=R at *;generalize fs[k]=f at *;generalize hvx:an3 f (R.take f.sz)=x at *;obtain⟨z,s,lo,hi⟩:=f;unfold aby at HOF HIN;dsimp only at *;have HCL:=fun x y W=>bdk s x y W
    generalize amj s=G at *;generalize bko s=F at *;have HFW:=fun W=>hid (a9r F G W)
    have i1:(k:Int)<n:=by omega
    have i2:(0:Int) ≤(k:Int):=n8 _;have HUL:=hid hul;have HU:=hid hu;have HKB:=hid hkb;clear hright hwk hwm hvx hul hu hkb h18;go_upto_region 13 with fail;have HF1:Hid (Blk (wr.alloc (.cells #[.int .i64 (z:Int),.bool s,.int .i64 lo,.int .i64 hi] 270)) wr.1.size [.int .i64 (z:Int),.bool s,.int .i64 lo,.int .i64 hi]):=hid (Blk.newL (qg _ _ _) rfl);have HB2:Hid (Below w.1.size w (wr.alloc (.cells #[.int .i64 (z:Int),.bool s,.int .i64 lo,.int .i64 hi] 270))):=hid (qb HB.out (qa _ _));have HK2:Hid (Blk (wr.alloc (.cells #[.int .i64 (z:Int),.bool s,.int .i64 lo,.int .i64 hi] 270)) g (qr (u++List.replicate (n-k) 0))):=hid (HKB.out.on (qa _ _));have HR2:Hid (RdI (fun b=>w2.1.size≤b∧b<g) (wr.alloc (.cells #[.int .i64 (z:Int),.bool s,.int .i64 lo,.int .i64 hi] 270)) a (some R)):=hid (HRK.out.below (qa _ _) (fun b q=>e9 q.2 (b14 HKB.out.lt)));have hga:g<wr.1.size:=HKB.out.lt
    clear x0 x1 x2 x3 HB HK HRK HKB;generalize wr.alloc (.cells #[.int .i64 (z:Int),.bool s,.int .i64 lo,.int .i64 hi] 270)=Wf at *;generalize wr.1.size=fbk at *
    try (apply b1e;intro K_ HK_)
    have HNE:Hid (fbk<Wf.1.size∧fbk≠a∧fbk≠g∧a≠g∧a<Wf.1.size):=hid (by have:=HF1.out.lt;omega);have HGL:=hid HK2.out.lt;have HBIN:∃bb,Hid (decide (lo≤x∧x≤hi)=bb)∧∀W,Hid (Calls prog 126 #[.agg #[.int .i64 (z:Int),.bool s,.int .i64 lo,.int .i64 hi],.int .i64 x] W fun e w'=>e=.returned (.bool bb)∧Below W.1.size W w'):=⟨_,rfl,fun W=>HIN x W⟩;obtain⟨bb,HBB,HIX⟩:=HBIN;clear HIN;have hS0:qj (fun k=>k<Wf.1.size∧k≠a∧k≠g) Wf Wf.drew:=(qj.refl _ _).drew;refine o7 (S:=fun w'=>qj (fun k=>k<Wf.1.size∧k≠a∧k≠g) Wf w') kr hS0 (fun hHeld0=>?_);refine tkA 0 39 rfl ?_;go_frame;refine tkA 1 40 rfl ?_;go_frame;refine tkQ (i:=2) (oi:=⟨some 41,_,_,_,_,_⟩) (v:=_) rfl (n9 (by rfl) 270 _ rfl fbk 0 rfl [.int .i64 (z:Int),.bool s,.int .i64 lo,.int .i64 hi] _ (fun w' hSw=>(aec HF1.out.rg (hSw.block fbk ⟨HNE.out.1,HNE.out.2.1,HNE.out.2.2.1⟩))) underlying270 rfl kr) ?_
    go_frame;refine tkA 5 44 rfl ?_;go_frame;refine tkA 6 45 rfl ?_;go_frame;refine tkQ (i:=7) (oi:=⟨some 46,_,_,_,_,_⟩) (v:=?_) rfl (Or.inl ⟨by rfl,?_⟩) ?_;rotate_left
    ·intro w' hSw;have q:w'.cell? ⟨fbk,0,none⟩=some (.int .i64 (z:Int)):=(hSw.cell ⟨HNE.out.1,HNE.out.2.1,HNE.out.2.2.1⟩).trans (HF1.out.cell 0 rfl);go_simp
     try with_reducible rfl
    try go_frame
    refine rdB 3 42 rfl fun K hK=>?_
    go_step;refine(HOF _).out.mono ?_;rintro e w5 ⟨rfl,hb⟩;have HS5:Hid (qj (fun k=>k<Wf.1.size∧k≠a∧k≠g) Wf w5):=hid (hHeld0.trans (qj.of_below hb (fun k q=>q.1)));have HR5:=hid (HR2.out.drew.below hb (fun b q=>b05 q.2 HGL.out));have HK5:=hid (HK2.out.drew.on hb);have HZ5:Hid (Wf.1.size≤w5.1.size):=hid hb.size;clear hb
    try go_frame
    refine hK.out _ _ (HS5.out) (fun hHeld=>?_);clear hK K
    try go_frame
    refine tkQ (i:=4) (oi:=⟨some 43,_,_,_,_,_⟩) (v:=?_) rfl (Or.inl ⟨by rfl,?_⟩) ?_;rotate_left
    ·intro w' hSw;have q:=(HFW w').out;go_simp
     try with_reducible rfl
    try go_frame
    refine rdB 8 47 rfl fun K hK=>?_
    go_step;refine((HTK _).out HR5.out).mono ?_;rintro e w6 ⟨rfl,hr,hk⟩;have HS6:Hid (qj (fun k=>k<Wf.1.size∧k≠a∧k≠g) Wf w6):=hid (HS5.out.trans (hk.less (fun k q=>q.2.1)));have HR6:=hid hr;have HK6:=hid (HK5.out.kept (hk.block g (fun e=>HNE.out.2.2.2.1 e.symm)) hk.size);clear hr hk
    try go_frame
    refine hK.out _ _ (HS6.out) (fun hHeld=>?_);clear hK K
    try go_frame
    refine tkA 9 48 rfl ?_;go_frame;have HST:=hid (bb1 HK6.out HUL.out i1 x);have ck:=HST.out.1;have zk:=HK6.out.fz k;refine b1a (rs:=[10]) kr sm ?_;refine b0r (o:=⟨none,_,_,_,_,_⟩) rfl (fun K hK=>?_) b06;rw[if_pos (by rfl)];go_step
    try go_frame
    have HS7:Hid (qj (fun k=>k<Wf.1.size∧k≠a∧k≠g) Wf (w6.setCell ⟨g,k,none⟩ (.int .i64 x))):=hid (HS6.out.set (fun q=>q.2.2 rfl) _ _);have HK7:=hid HST.out.2.1;have HR7:=hid (HR6.out.keep (w':=w6.setCell ⟨g,k,none⟩ (.int .i64 x)) (fun b q=>HST.out.2.2 b (b0y q.2)) sm);refine hK.out _ _ HS7.out (fun hHeld=>?_);clear hK K ck zk HK6 HR6 HK5 HR5 HST
    try go_frame
    refine b0j kr ?_ _
    try go_frame
    have HF7:Hid (Blk (w6.setCell ⟨g,k,none⟩ (.int .i64 x)) fbk [.int .i64 (z:Int),.bool s,.int .i64 lo,.int .i64 hi]):=hid (HF1.out.kept (HS7.out.block fbk ⟨HNE.out.1,HNE.out.2.1,HNE.out.2.2.1⟩) HS7.out.size);have HB7:Hid (Below w.1.size w (w6.setCell ⟨g,k,none⟩ (.int .i64 x))):=hid (HB2.out.trans (HS7.out.below (fun j hj=>⟨e9 hj HB2.out.size,by have:=HA1.out.1;have:=HQ.out;omega,by have:=HA1.out;have:=HQ.out;omega⟩)))
    have HN7:Hid ((w6.setCell ⟨g,k,none⟩ (.int .i64 x)).cell? ⟨g,k,none⟩=some (.int .i64 x)):=hid (HK7.out.cell k (by
     have:(u++[x]++List.replicate (n-(k+1)) 0)[k]?=some x:=by
      rw[b0l,t8 (by rw[HUL.out];exact a8 _),HUL.out,b2p];rfl
     unfold qr;rw[b0m,this];rfl))
    clear HS7 HS6 HS5 HB2 HF1 HK2 HR2 HZ5 hHeld hHeld0 hS0;generalize w6.setCell ⟨g,k,none⟩ (.int .i64 x)=W7 at *;go_upto_region 14 with fail
    try (apply b1e;intro K_ HK_)
    have hS0:Below W7.1.size W7 W7.drew:=(n6 _ _).drew;refine o7 (S:=fun w'=>Below W7.1.size W7 w') kr hS0 (fun hHeld0=>?_);refine tkQ (i:=0) (oi:=⟨some 49,_,_,_,_,_⟩) (v:=_) rfl (n9 (by rfl) 270 _ rfl fbk 0 rfl [.int .i64 (z:Int),.bool s,.int .i64 lo,.int .i64 hi] _ (fun w' hSw=>(HF7.out.on hSw).rg) underlying270 rfl kr) ?_;go_frame;refine tkA 1 50 rfl ?_;go_frame;refine tkA 2 51 rfl ?_;go_frame;refine tkA 3 52 rfl ?_;go_frame;refine tkQ (i:=4) (oi:=⟨some 53,_,_,_,_,_⟩) (v:=?_) rfl (Or.inl ⟨by rfl,?_⟩) ?_;rotate_left
    ·intro w' hSw;have q:w'.cell? ⟨g,k,none⟩=some (.int .i64 x):=(hSw.cell HK7.out.lt).trans HN7.out;go_simp
     try with_reducible rfl
    try go_frame
    refine rdB 5 54 rfl fun K hK=>?_
    go_step;refine(HIX _).out.mono ?_;rintro e w8 ⟨rfl,hb⟩;have HB8:Hid (Below W7.1.size W7 w8):=hid (hHeld0.trans (hb.mono hHeld0.size));clear hb
    try go_frame
    refine hK.out _ _ (HB8.out) (fun hHeld=>?_);clear hK K
    try go_frame
    refine tkA 6 55 rfl ?_;go_frame;refine b0j kr ?_ _
    try go_frame
    have HB9:=hid (HB7.out.trans (HB8.out.mono HB7.out.size));clear hHeld hHeld0 hS0;cases bb
    ·have hre:=HRES.out;have hx:¬(lo≤x∧x≤hi):=of_decide_eq_false HBB.out;rw[HPN.out (by rw[HSN.out,if_neg hx])]at hre;subst hre;go_wp2_with fail
     go_ret2
     exact⟨none,0,rfl,qf.nil _ _ _,HB9.out⟩
    ·have hx:lo≤x∧x≤hi:=b07 HBB.out;have HKN:Hid (∃u',aan (fs.take (k+1)) b=some u'∧u'.length=k+1∧Blk w8 g (qr (u'++List.replicate (n-(k+1)) 0))):=hid ⟨u++[x],by rw[HSN.out,if_pos hx],by rw[d7,HUL.out];rfl,HK7.out.on HB8.out⟩
     have HRN:Hid (RdI (fun b=>w2.1.size≤b∧b<g) w8 a (some (b.drop (yh (fs.take (k+1)))))):=hid (by
      rw[← HDR.out];exact HR7.out.below HB8.out (fun b q=>b05 q.2 HK7.out.lt))
     clear hx;go_wp2_with fail
     go_roundg (n-(k+1))
     case measure=>omega
     case rel=>exact⟨k+1,by omega,by omega,by go_num,HKN,HRN,HB9⟩
   ·obtain rfl:k=n:=by omega
    obtain⟨u,hu,hul,hkb⟩:=HK.out;rw[b08 (by rw[HL.out];exact a8 _)]at hu;rw[b2p,List.replicate_zero,b0k]at hkb;have hre:=HRES.out;rw[hu]at hre;subst hre;have HUK:=hid (o4 hul hkb);clear hu hul hkb;go_wp2_with fail
    go_ret2
    refine⟨some ⟨g,0,none⟩,k,?_,HUK.out.2.flat ⟨?_,HUK.out.2.lt⟩,HB.out⟩
    ·show _=Ending.returned (.tuple #[.slice _ u.length _,_]);rw[HUK.out.1];rfl
    ·have:=HQ.out;have:=HA1.out.1;omega
 ·have e0:xk fs b=(7,[]):=by unfold xk;rw[if_neg om,if_pos hgt]
  rw[e0];generalize yh fs=v at *;generalize fs.length=n at *;generalize b.length=m at *;have g1:(v:Int)<m:=by omega
  clear hB hF e0;go_enter func91,ntmps91;go_wp2_with fail;refine((HW _ (n6 _ _)).out).mono ?_;rintro e w1 ⟨rfl,hb⟩;have HB1:=hid hb;clear hb;go_wp2_with fail;refine((HR _ HB1.out).out).mono ?_;rintro e w2 ⟨rfl,hb⟩;have HB2:=hid (qb HB1.out hb);clear hb;go_wp2_with fail
  go_ret2
  exact⟨none,0,rfl,qf.nil _ _ _,HB2.out⟩
def vf:List Fld:=[⟨4,false,0,604799999⟩,⟨1,false,1,1⟩,⟨1,false,0,64⟩,⟨2,false,0,0⟩]
theorem a1a:vf.all yu=true:=by decide +kernel
def aj3:List Fld:=[⟨1,false,0,7⟩,⟨1,false,0,255⟩,⟨1,false,0,63⟩,⟨1,true,(-90),90⟩,⟨2,true,0,360⟩,⟨2,true,(-32768),32767⟩,⟨4,false,0,4294967295⟩]
theorem aqv:aj3.all yu=true:=by decide +kernel
def ai1:List Fld:=[⟨1,false,0,0⟩,⟨1,false,0,7⟩,⟨2,false,0,0⟩]
theorem a7c:ai1.all yu=true:=by decide +kernel
def ayg:List Fld:=[⟨1,false,0,255⟩,⟨1,false,0,255⟩]
theorem ao1:ayg.all yu=true:=by decide +kernel
def ak6:List Fld:=[⟨4,false,0,604799999⟩,⟨2,false,0,65535⟩,⟨1,false,0,12⟩,⟨1,false,0,31⟩,⟨1,false,0,23⟩,⟨1,false,0,59⟩,⟨1,false,0,60⟩,⟨1,false,0,15⟩,⟨4,false,0,4294967295⟩,⟨4,true,(-1000000000),1000000000⟩,⟨1,false,0,5⟩,⟨1,false,0,255⟩,⟨1,false,0,255⟩,⟨1,false,0,255⟩,⟨4,true,(-1800000000),1800000000⟩,⟨4,true,(-900000000),900000000⟩,⟨4,true,(-2147483648),2147483647⟩,⟨4,true,(-2147483648),2147483647⟩,⟨4,false,0,4294967295⟩,⟨4,false,0,4294967295⟩,⟨4,true,(-2147483648),2147483647⟩,⟨4,true,(-2147483648),2147483647⟩,⟨4,true,(-2147483648),2147483647⟩,⟨4,true,(-2147483648),2147483647⟩,⟨4,true,0,36000000⟩,⟨4,false,0,4294967295⟩,⟨4,false,0,4294967295⟩,⟨2,false,0,65535⟩,⟨2,false,0,31⟩,⟨4,false,0,0⟩,⟨4,true,0,36000000⟩,⟨2,true,(-18000),18000⟩,⟨2,false,0,65535⟩]
theorem aqj:ak6.all yu=true:=by decide +kernel
def alz:List Fld:=[⟨4,false,0,604799999⟩,⟨2,false,0,65535⟩,⟨2,false,0,65535⟩,⟨2,false,0,65535⟩,⟨2,false,0,65535⟩,⟨2,false,0,65535⟩,⟨2,false,0,65535⟩,⟨2,false,0,65535⟩]
theorem apu:alz.all yu=true:=by decide +kernel
def ac5 (l:List Fld) (w:World) (e:Ending) (w':World):Prop:=∃A c,e=.returned (.slice A l.length c)∧qf (fun b=>w.1.size≤b∧b<w'.1.size) w' A (acl l)∧Below w.1.size w w'
theorem a1b (w:World):Calls prog 270 #[] w (ac5 vf w):=by
 have H0:∀W,Hid (Calls prog 261 #[.int .i64 4,.int .i64 604799999] W fun e w'=>e=.returned (.agg #[.int .i64 4,.bool false,.int .i64 0,.int .i64 604799999])∧Below W.1.size W w'):=fun W=>hid (jx 4 604799999 W dc dc)
 have H1:∀W,Hid (Calls prog 261 #[.int .i64 1,.int .i64 64] W fun e w'=>e=.returned (.agg #[.int .i64 1,.bool false,.int .i64 0,.int .i64 64])∧Below W.1.size W w'):=fun W=>hid (jx 1 64 W dc dc)
 have H2:∀W,Hid (Calls prog 261 #[.int .i64 2,.int .i64 0] W fun e w'=>e=.returned (.agg #[.int .i64 2,.bool false,.int .i64 0,.int .i64 0])∧Below W.1.size W w'):=fun W=>hid (jx 2 0 W dc dc)
 go_enter func270,ntmps270;go_wp2_with fail;refine((H0 _).out).mono ?_;rintro e w1 ⟨rfl,hb⟩;have HB1:Hid (Below w.1.size w w1):=hid (hb);clear hb;go_wp2_with fail;refine((H1 _).out).mono ?_;rintro e w2 ⟨rfl,hb⟩;have HB2:Hid (Below w.1.size w w2):=hid (qb HB1.out hb);clear hb HB1;go_wp2_with fail;refine((H2 _).out).mono ?_;rintro e w3 ⟨rfl,hb⟩;have HB3:Hid (Below w.1.size w w3):=hid (qb HB2.out hb);clear hb HB2;go_wp2_with fail;go_ret;exact⟨some ⟨w3.1.size,0,none⟩,4,rfl,(Blk.newL (qg w3 _ _) rfl).flat ⟨HB3.out.size,by simp⟩,qb HB3.out (qa _ _)⟩
theorem awp (w:World):Calls prog 271 #[] w (ac5 aj3 w):=by
 have H0:∀W,Hid (Calls prog 261 #[.int .i64 1,.int .i64 7] W fun e w'=>e=.returned (.agg #[.int .i64 1,.bool false,.int .i64 0,.int .i64 7])∧Below W.1.size W w'):=fun W=>hid (jx 1 7 W dc dc)
 have H1:∀W,Hid (Calls prog 122 #[.int .i64 1,.bool false] W fun e w'=>e=.returned (.agg #[.int .i64 1,.bool false,.int .i64 0,.int .i64 255])∧Below W.1.size W w'):=fun W=>hid (afk W)
 have H2:∀W,Hid (Calls prog 261 #[.int .i64 1,.int .i64 63] W fun e w'=>e=.returned (.agg #[.int .i64 1,.bool false,.int .i64 0,.int .i64 63])∧Below W.1.size W w'):=fun W=>hid (jx 1 63 W dc dc)
 have H3:∀W,Hid (Calls prog 260 #[.int .i64 1,.int .i64 (-90),.int .i64 90] W fun e w'=>e=.returned (.agg #[.int .i64 1,.bool true,.int .i64 (-90),.int .i64 90])∧Below W.1.size W w'):=fun W=>hid (aed 1 (-90) 90 W dc dc)
 have H4:∀W,Hid (Calls prog 260 #[.int .i64 2,.int .i64 0,.int .i64 360] W fun e w'=>e=.returned (.agg #[.int .i64 2,.bool true,.int .i64 0,.int .i64 360])∧Below W.1.size W w'):=fun W=>hid (aed 2 0 360 W dc dc)
 have H5:∀W,Hid (Calls prog 122 #[.int .i64 2,.bool true] W fun e w'=>e=.returned (.agg #[.int .i64 2,.bool true,.int .i64 (-32768),.int .i64 32767])∧Below W.1.size W w'):=fun W=>hid (at6 W)
 have H6:∀W,Hid (Calls prog 122 #[.int .i64 4,.bool false] W fun e w'=>e=.returned (.agg #[.int .i64 4,.bool false,.int .i64 0,.int .i64 4294967295])∧Below W.1.size W w'):=fun W=>hid (amf W)
 go_enter func271,ntmps271;go_wp2_with fail;refine((H0 _).out).mono ?_;rintro e w1 ⟨rfl,hb⟩;have HB1:Hid (Below w.1.size w w1):=hid (hb);clear hb;go_wp2_with fail;refine((H1 _).out).mono ?_;rintro e w2 ⟨rfl,hb⟩;have HB2:Hid (Below w.1.size w w2):=hid (qb HB1.out hb);clear hb HB1;go_wp2_with fail;refine((H2 _).out).mono ?_;rintro e w3 ⟨rfl,hb⟩;have HB3:Hid (Below w.1.size w w3):=hid (qb HB2.out hb);clear hb HB2;go_wp2_with fail;refine((H3 _).out).mono ?_;rintro e w4 ⟨rfl,hb⟩;have HB4:Hid (Below w.1.size w w4):=hid (qb HB3.out hb);clear hb HB3;go_wp2_with fail;refine((H4 _).out).mono ?_;rintro e w5 ⟨rfl,hb⟩;have HB5:Hid (Below w.1.size w w5):=hid (qb HB4.out hb);clear hb HB4;go_wp2_with fail;refine((H5 _).out).mono ?_;rintro e w6 ⟨rfl,hb⟩;have HB6:Hid (Below w.1.size w w6):=hid (qb HB5.out hb);clear hb HB5;go_wp2_with fail;refine((H6 _).out).mono ?_;rintro e w7 ⟨rfl,hb⟩
 have HB7:Hid (Below w.1.size w w7):=hid (qb HB6.out hb);clear hb HB6;go_wp2_with fail;go_ret;exact⟨some ⟨w7.1.size,0,none⟩,7,rfl,(Blk.newL (qg w7 _ _) rfl).flat ⟨HB7.out.size,by simp⟩,qb HB7.out (qa _ _)⟩
theorem axv (w:World):Calls prog 290 #[] w (ac5 ai1 w):=by
 have H0:∀W,Hid (Calls prog 261 #[.int .i64 1,.int .i64 0] W fun e w'=>e=.returned (.agg #[.int .i64 1,.bool false,.int .i64 0,.int .i64 0])∧Below W.1.size W w'):=fun W=>hid (jx 1 0 W dc dc)
 have H1:∀W,Hid (Calls prog 261 #[.int .i64 1,.int .i64 7] W fun e w'=>e=.returned (.agg #[.int .i64 1,.bool false,.int .i64 0,.int .i64 7])∧Below W.1.size W w'):=fun W=>hid (jx 1 7 W dc dc)
 have H2:∀W,Hid (Calls prog 261 #[.int .i64 2,.int .i64 0] W fun e w'=>e=.returned (.agg #[.int .i64 2,.bool false,.int .i64 0,.int .i64 0])∧Below W.1.size W w'):=fun W=>hid (jx 2 0 W dc dc)
 go_enter func290,ntmps290;go_wp2_with fail;refine((H0 _).out).mono ?_;rintro e w1 ⟨rfl,hb⟩;have HB1:Hid (Below w.1.size w w1):=hid (hb);clear hb;go_wp2_with fail;refine((H1 _).out).mono ?_;rintro e w2 ⟨rfl,hb⟩;have HB2:Hid (Below w.1.size w w2):=hid (qb HB1.out hb);clear hb HB1;go_wp2_with fail;refine((H2 _).out).mono ?_;rintro e w3 ⟨rfl,hb⟩;have HB3:Hid (Below w.1.size w w3):=hid (qb HB2.out hb);clear hb HB2;go_wp2_with fail;go_ret;exact⟨some ⟨w3.1.size,0,none⟩,3,rfl,(Blk.newL (qg w3 _ _) rfl).flat ⟨HB3.out.size,by simp⟩,qb HB3.out (qa _ _)⟩
theorem ar2 (w:World):Calls prog 284 #[] w (ac5 ayg w):=by
 have H0:∀W,Hid (Calls prog 122 #[.int .i64 1,.bool false] W fun e w'=>e=.returned (.agg #[.int .i64 1,.bool false,.int .i64 0,.int .i64 255])∧Below W.1.size W w'):=fun W=>hid (afk W)
 have H1:∀W,Hid (Calls prog 122 #[.int .i64 1,.bool false] W fun e w'=>e=.returned (.agg #[.int .i64 1,.bool false,.int .i64 0,.int .i64 255])∧Below W.1.size W w'):=fun W=>hid (afk W)
 go_enter func284,ntmps284;go_wp2_with fail;refine((H0 _).out).mono ?_;rintro e w1 ⟨rfl,hb⟩;have HB1:Hid (Below w.1.size w w1):=hid (hb);clear hb;go_wp2_with fail;refine((H1 _).out).mono ?_;rintro e w2 ⟨rfl,hb⟩;have HB2:Hid (Below w.1.size w w2):=hid (qb HB1.out hb);clear hb HB1;go_wp2_with fail;go_ret;exact⟨some ⟨w2.1.size,0,none⟩,2,rfl,(Blk.newL (qg w2 _ _) rfl).flat ⟨HB2.out.size,by simp⟩,qb HB2.out (qa _ _)⟩
theorem azh:(prog.info? 270).map (fun i=>(i.zero,i.size,i.bytes))=some (some (.agg #[.int .i64 0,.bool false,.int .i64 0,.int .i64 0]),4,32):=by kernel_rfl
theorem ath (l:List Fld):∀v∈acl l,v.oneCell'=true:=by
 intro v hv;obtain⟨p,-,h⟩:=b37.1 hv;simp only[azg,b0z,b2d,b4o]at h;rcases h with rfl|rfl|rfl|rfl<;>rfl
theorem atg (l m:List Fld):acl (l++m)=acl l++acl m:=b4f
theorem ar7 (w:World):Calls prog 278 #[] w (ac5 alz w):=by
 have H0:∀W,Hid (Calls prog 261 #[.int .i64 4,.int .i64 604799999] W fun e w'=>e=.returned (.agg #[.int .i64 4,.bool false,.int .i64 0,.int .i64 604799999])∧Below W.1.size W w'):=fun W=>hid (jx 4 604799999 W dc dc)
 have H1:∀W,Hid (Calls prog 122 #[.int .i64 2,.bool false] W fun e w'=>e=.returned (.agg #[.int .i64 2,.bool false,.int .i64 0,.int .i64 65535])∧Below W.1.size W w'):=fun W=>hid (ame W)
 obtain⟨i0,hi,hz0,hz1,hz2⟩:=kj azh;have HI:=hid (o4 hi (o4 hz0 (o4 hz1 hz2)));clear hi hz0 hz1 hz2;go_enter func278,ntmps278;go_wp2_with fail;refine((H0 _).out).mono ?_;rintro e w1 ⟨rfl,hb⟩;have HB1:=hid hb;clear hb;go_wp2_with fail;have HO2:Hid (aax w 270 4 (.slice (some ⟨w1.1.size,0,none⟩) 1 1) 1 (acl (alz.take 1)) (w1.alloc (.cells #[.int .i64 4,.bool false,.int .i64 0,.int .i64 604799999] 270))):=hid ⟨World.ownsRow_lit w1 #[.int .i64 4,.bool false,.int .i64 0,.int .i64 604799999] 1 HB1.out.size dc rfl,qb HB1.out (qa _ _)⟩;clear HB1
 go_loopg [1,4] 7 (fun g s1 s4 wr=>∃k:Nat,k≤7∧7-k≤g∧s4=.int .i64 k∧Hid (aax w 270 4 s1 (k+1) (acl (alz.take (k+1))) wr))
 case atStart=>exact⟨0,by omega,by omega,rfl,HO2⟩
 case round=>
  rename_i s1;obtain⟨k,hk,hg,rfl,HO⟩:=hrel
  by_cases hlt:k<7
  ·have i1:(k:Int)<7:=by omega
   have i2:(0:Int) ≤(k:Int):=n8 _;obtain⟨A,c,hs1,-,-⟩:=HO.out.flat;subst hs1;go_wp2_with fail;refine((H1 _).out).mono ?_;rintro e w2 ⟨rfl,hb⟩;obtain⟨v',w3,hrun,ho⟩:=aax.app (P:=prog) (t:=203) (ty:=203) ((HO.out.on hb).on (qa w2 (.cells #[.int .i64 2,.bool false,.int .i64 0,.int .i64 65535] 270))) HI.out underlying203 rfl dc (R:=fun _=>True) (some ⟨w2.1.size,0,none⟩) 1 1 [.int .i64 2,.bool false,.int .i64 0,.int .i64 65535] rfl ((Blk.newL (qg w2 _ _) rfl).flat trivial) (ath [⟨2,false,0,65535⟩]) (by unfold maxLen;omega) om;have HRUN:=hid hrun
   have HO3:Hid (aax w 270 4 v' (k+1+1) (acl (alz.take (k+1+1))) w3):=hid (by
    have e:alz.take (k+1+1)=alz.take (k+1)++[⟨2,false,0,65535⟩]:=by
     have:k=0∨k=1∨k=2∨k=3∨k=4∨k=5∨k=6:=by omega
     rcases this with rfl|rfl|rfl|rfl|rfl|rfl|rfl<;>rfl
    rw[e,atg];exact ho)
   clear hb hrun ho;go_wp2_with (at_builtin;refine qw rfl _ _ 203 rfl _ _ _ rfl rfl HRUN.out ?_)
   go_roundg (7-(k+1))
   case measure=>omega
   case rel=>exact⟨k+1,by omega,by omega,by go_num,HO3⟩
  ·obtain rfl:k=7:=by omega
   obtain⟨A,c,hs1,hcap,hfl⟩:=HO.out.flat;subst hs1;have HFL:=hid (o4 hfl HO.out.2);clear hfl HO;go_wp2_with fail;go_ret;exact⟨A,c,rfl,HFL.out.1,HFL.out.2⟩
set_option maxRecDepth 20000 in
theorem av7 (w:World):Calls prog 258 #[] w (ac5 ak6 w):=by
 have Hp0:∀W,Hid (Calls prog 122 #[.int .i64 1,.bool false] W fun e w'=>e=.returned (.agg #[.int .i64 1,.bool false,.int .i64 0,.int .i64 255])∧Below W.1.size W w'):=fun W=>hid (afk W)
 have Hp1:∀W,Hid (Calls prog 122 #[.int .i64 2,.bool false] W fun e w'=>e=.returned (.agg #[.int .i64 2,.bool false,.int .i64 0,.int .i64 65535])∧Below W.1.size W w'):=fun W=>hid (ame W)
 have Hp2:∀W,Hid (Calls prog 122 #[.int .i64 4,.bool false] W fun e w'=>e=.returned (.agg #[.int .i64 4,.bool false,.int .i64 0,.int .i64 4294967295])∧Below W.1.size W w'):=fun W=>hid (amf W)
 have Hp3:∀W,Hid (Calls prog 122 #[.int .i64 4,.bool true] W fun e w'=>e=.returned (.agg #[.int .i64 4,.bool true,.int .i64 (-2147483648),.int .i64 2147483647])∧Below W.1.size W w'):=fun W=>hid (at7 W)
 have Hp4:∀W,Hid (Calls prog 260 #[.int .i64 4,.int .i64 0,.int .i64 36000000] W fun e w'=>e=.returned (.agg #[.int .i64 4,.bool true,.int .i64 0,.int .i64 36000000])∧Below W.1.size W w'):=fun W=>hid (aed 4 0 36000000 W dc dc)
 have H0:∀W,Hid (Calls prog 261 #[.int .i64 4,.int .i64 604799999] W fun e w'=>e=.returned (.agg #[.int .i64 4,.bool false,.int .i64 0,.int .i64 604799999])∧Below W.1.size W w'):=fun W=>hid (jx 4 604799999 W dc dc)
 have H2:∀W,Hid (Calls prog 261 #[.int .i64 1,.int .i64 12] W fun e w'=>e=.returned (.agg #[.int .i64 1,.bool false,.int .i64 0,.int .i64 12])∧Below W.1.size W w'):=fun W=>hid (jx 1 12 W dc dc)
 have H3:∀W,Hid (Calls prog 261 #[.int .i64 1,.int .i64 31] W fun e w'=>e=.returned (.agg #[.int .i64 1,.bool false,.int .i64 0,.int .i64 31])∧Below W.1.size W w'):=fun W=>hid (jx 1 31 W dc dc)
 have H4:∀W,Hid (Calls prog 261 #[.int .i64 1,.int .i64 23] W fun e w'=>e=.returned (.agg #[.int .i64 1,.bool false,.int .i64 0,.int .i64 23])∧Below W.1.size W w'):=fun W=>hid (jx 1 23 W dc dc)
 have H5:∀W,Hid (Calls prog 261 #[.int .i64 1,.int .i64 59] W fun e w'=>e=.returned (.agg #[.int .i64 1,.bool false,.int .i64 0,.int .i64 59])∧Below W.1.size W w'):=fun W=>hid (jx 1 59 W dc dc)
 have H6:∀W,Hid (Calls prog 261 #[.int .i64 1,.int .i64 60] W fun e w'=>e=.returned (.agg #[.int .i64 1,.bool false,.int .i64 0,.int .i64 60])∧Below W.1.size W w'):=fun W=>hid (jx 1 60 W dc dc)
 have H7:∀W,Hid (Calls prog 261 #[.int .i64 1,.int .i64 15] W fun e w'=>e=.returned (.agg #[.int .i64 1,.bool false,.int .i64 0,.int .i64 15])∧Below W.1.size W w'):=fun W=>hid (jx 1 15 W dc dc)
 have H9:∀W,Hid (Calls prog 260 #[.int .i64 4,.int .i64 (-1000000000),.int .i64 1000000000] W fun e w'=>e=.returned (.agg #[.int .i64 4,.bool true,.int .i64 (-1000000000),.int .i64 1000000000])∧Below W.1.size W w'):=fun W=>hid (aed 4 (-1000000000) 1000000000 W dc dc)
 have H10:∀W,Hid (Calls prog 261 #[.int .i64 1,.int .i64 5] W fun e w'=>e=.returned (.agg #[.int .i64 1,.bool false,.int .i64 0,.int .i64 5])∧Below W.1.size W w'):=fun W=>hid (jx 1 5 W dc dc)
 have H14:∀W,Hid (Calls prog 260 #[.int .i64 4,.int .i64 (-1800000000),.int .i64 1800000000] W fun e w'=>e=.returned (.agg #[.int .i64 4,.bool true,.int .i64 (-1800000000),.int .i64 1800000000])∧Below W.1.size W w'):=fun W=>hid (aed 4 (-1800000000) 1800000000 W dc dc)
 have H15:∀W,Hid (Calls prog 260 #[.int .i64 4,.int .i64 (-900000000),.int .i64 900000000] W fun e w'=>e=.returned (.agg #[.int .i64 4,.bool true,.int .i64 (-900000000),.int .i64 900000000])∧Below W.1.size W w'):=fun W=>hid (aed 4 (-900000000) 900000000 W dc dc)
 have H28:∀W,Hid (Calls prog 261 #[.int .i64 2,.int .i64 31] W fun e w'=>e=.returned (.agg #[.int .i64 2,.bool false,.int .i64 0,.int .i64 31])∧Below W.1.size W w'):=fun W=>hid (jx 2 31 W dc dc)
 have H29:∀W,Hid (Calls prog 261 #[.int .i64 4,.int .i64 0] W fun e w'=>e=.returned (.agg #[.int .i64 4,.bool false,.int .i64 0,.int .i64 0])∧Below W.1.size W w'):=fun W=>hid (jx 4 0 W dc dc)
 have H31:∀W,Hid (Calls prog 260 #[.int .i64 2,.int .i64 (-18000),.int .i64 18000] W fun e w'=>e=.returned (.agg #[.int .i64 2,.bool true,.int .i64 (-18000),.int .i64 18000])∧Below W.1.size W w'):=fun W=>hid (aed 2 (-18000) 18000 W dc dc)
 go_enter func258,ntmps258;go_wp2_with fail;refine((Hp0 _).out).mono ?_;rintro e w1 ⟨rfl,hb⟩;have HB1:Hid (Below w.1.size w w1):=hid (hb);clear hb;go_wp2_with fail;refine((Hp1 _).out).mono ?_;rintro e w2 ⟨rfl,hb⟩;have HB2:Hid (Below w.1.size w w2):=hid (qb HB1.out hb);clear hb HB1;go_wp2_with fail;refine((Hp2 _).out).mono ?_;rintro e w3 ⟨rfl,hb⟩;have HB3:Hid (Below w.1.size w w3):=hid (qb HB2.out hb);clear hb HB2;have h31:(w3.alloc (.cells #[.int .i64 1,.bool false,.int .i64 0,.int .i64 255] 270)).1.size=w3.1.size+1:=by simp
 have h32:((w3.alloc (.cells #[.int .i64 1,.bool false,.int .i64 0,.int .i64 255] 270)).alloc (.cells #[.int .i64 2,.bool false,.int .i64 0,.int .i64 65535] 270)).1.size=w3.1.size+2:=by simp
 have HX1:Hid (Blk (((w3.alloc (.cells #[.int .i64 1,.bool false,.int .i64 0,.int .i64 255] 270)).alloc (.cells #[.int .i64 2,.bool false,.int .i64 0,.int .i64 65535] 270)).alloc (.cells #[.int .i64 4,.bool false,.int .i64 0,.int .i64 4294967295] 270)) w3.1.size [.int .i64 1,.bool false,.int .i64 0,.int .i64 255]):=hid (((Blk.newL (qg w3 _ _) rfl).on (qa _ _)).on (qa _ _))
 have HX2:Hid (Blk (((w3.alloc (.cells #[.int .i64 1,.bool false,.int .i64 0,.int .i64 255] 270)).alloc (.cells #[.int .i64 2,.bool false,.int .i64 0,.int .i64 65535] 270)).alloc (.cells #[.int .i64 4,.bool false,.int .i64 0,.int .i64 4294967295] 270)) (w3.1.size+1) [.int .i64 2,.bool false,.int .i64 0,.int .i64 65535]):=hid (by
  have:=(Blk.newL (L:=[.int .i64 2,.bool false,.int .i64 0,.int .i64 65535]) (qg (w3.alloc (.cells #[.int .i64 1,.bool false,.int .i64 0,.int .i64 255] 270)) #[.int .i64 2,.bool false,.int .i64 0,.int .i64 65535] 270) rfl).on (qa _ (.cells #[.int .i64 4,.bool false,.int .i64 0,.int .i64 4294967295] 270))
  rwa [h31]at this)
 have HX3:Hid (Blk (((w3.alloc (.cells #[.int .i64 1,.bool false,.int .i64 0,.int .i64 255] 270)).alloc (.cells #[.int .i64 2,.bool false,.int .i64 0,.int .i64 65535] 270)).alloc (.cells #[.int .i64 4,.bool false,.int .i64 0,.int .i64 4294967295] 270)) (w3.1.size+2) [.int .i64 4,.bool false,.int .i64 0,.int .i64 4294967295]):=hid (by
  have:=Blk.newL (L:=[.int .i64 4,.bool false,.int .i64 0,.int .i64 4294967295]) (qg ((w3.alloc (.cells #[.int .i64 1,.bool false,.int .i64 0,.int .i64 255] 270)).alloc (.cells #[.int .i64 2,.bool false,.int .i64 0,.int .i64 65535] 270)) #[.int .i64 4,.bool false,.int .i64 0,.int .i64 4294967295] 270) rfl
  rwa [h32]at this)
 have HB4:Hid (Below w.1.size w (((w3.alloc (.cells #[.int .i64 1,.bool false,.int .i64 0,.int .i64 255] 270)).alloc (.cells #[.int .i64 2,.bool false,.int .i64 0,.int .i64 65535] 270)).alloc (.cells #[.int .i64 4,.bool false,.int .i64 0,.int .i64 4294967295] 270))):=hid (qb (qb (qb HB3.out (qa _ _)) (qa _ _)) (qa _ _));clear h31 h32 HB3;go_wp2_with fail;refine((Hp3 _).out).mono ?_;rintro e w4 ⟨rfl,hb⟩;have HY1:=hid ((HX1.out.on hb).on (qa w4 (.cells #[.int .i64 4,.bool true,.int .i64 (-2147483648),.int .i64 2147483647] 270)));have HY2:=hid ((HX2.out.on hb).on (qa w4 (.cells #[.int .i64 4,.bool true,.int .i64 (-2147483648),.int .i64 2147483647] 270)));have HY3:=hid ((HX3.out.on hb).on (qa w4 (.cells #[.int .i64 4,.bool true,.int .i64 (-2147483648),.int .i64 2147483647] 270)));have HY4:Hid (Blk (w4.alloc (.cells #[.int .i64 4,.bool true,.int .i64 (-2147483648),.int .i64 2147483647] 270)) w4.1.size [.int .i64 4,.bool true,.int .i64 (-2147483648),.int .i64 2147483647]):=hid (Blk.newL (qg w4 _ _) rfl)
 have HB5:=hid (qb (qb HB4.out hb) (qa w4 (.cells #[.int .i64 4,.bool true,.int .i64 (-2147483648),.int .i64 2147483647] 270)));clear hb HX1 HX2 HX3 HB4;go_wp2_with fail;refine((Hp4 _).out).mono ?_;rintro e w5 ⟨rfl,hb⟩;have HZ1:=hid ((HY1.out.on hb).on (qa w5 (.cells #[.int .i64 4,.bool true,.int .i64 0,.int .i64 36000000] 270)));have HZ2:=hid ((HY2.out.on hb).on (qa w5 (.cells #[.int .i64 4,.bool true,.int .i64 0,.int .i64 36000000] 270)));have HZ3:=hid ((HY3.out.on hb).on (qa w5 (.cells #[.int .i64 4,.bool true,.int .i64 0,.int .i64 36000000] 270)));have HZ4:=hid ((HY4.out.on hb).on (qa w5 (.cells #[.int .i64 4,.bool true,.int .i64 0,.int .i64 36000000] 270)));have HZ5:Hid (Blk (w5.alloc (.cells #[.int .i64 4,.bool true,.int .i64 0,.int .i64 36000000] 270)) w5.1.size [.int .i64 4,.bool true,.int .i64 0,.int .i64 36000000]):=hid (Blk.newL (qg w5 _ _) rfl);have HB6:=hid (qb (qb HB5.out hb) (qa w5 (.cells #[.int .i64 4,.bool true,.int .i64 0,.int .i64 36000000] 270)))
 clear hb HY1 HY2 HY3 HY4 HB5;go_upto_region 4 with fail;generalize w5.alloc (.cells #[.int .i64 4,.bool true,.int .i64 0,.int .i64 36000000] 270)=W at *
 try (apply b1e;intro K_ HK_)
 have hS0:Below W.1.size W W.drew:=(n6 _ _).drew;refine o7 (S:=fun w'=>Below W.1.size W w') kr hS0 (fun hHeld0=>?_);have HS:Hid (Below W.1.size W W.drew):=hid hS0;refine tkQ (i:=1) (oi:=⟨some 12,_,_,_,_,_⟩) (v:=_) rfl (n9 (by rfl) 270 _ rfl (w3.1.size+1) 0 rfl [.int .i64 2,.bool false,.int .i64 0,.int .i64 65535] _ (fun w' hSw=>(HZ2.out.on hSw).rg) underlying270 rfl kr) ?_;go_frame;refine tkQ (i:=8) (oi:=⟨some 19,_,_,_,_,_⟩) (v:=_) rfl (n9 (by rfl) 270 _ rfl (w3.1.size+2) 0 rfl [.int .i64 4,.bool false,.int .i64 0,.int .i64 4294967295] _ (fun w' hSw=>(HZ3.out.on hSw).rg) underlying270 rfl kr) ?_;go_frame;refine tkQ (i:=11) (oi:=⟨some 22,_,_,_,_,_⟩) (v:=_) rfl (n9 (by rfl) 270 _ rfl w3.1.size 0 rfl [.int .i64 1,.bool false,.int .i64 0,.int .i64 255] _ (fun w' hSw=>(HZ1.out.on hSw).rg) underlying270 rfl kr) ?_
 go_frame;refine tkQ (i:=12) (oi:=⟨some 23,_,_,_,_,_⟩) (v:=_) rfl (n9 (by rfl) 270 _ rfl w3.1.size 0 rfl [.int .i64 1,.bool false,.int .i64 0,.int .i64 255] _ (fun w' hSw=>(HZ1.out.on hSw).rg) underlying270 rfl kr) ?_;go_frame;refine tkQ (i:=13) (oi:=⟨some 24,_,_,_,_,_⟩) (v:=_) rfl (n9 (by rfl) 270 _ rfl w3.1.size 0 rfl [.int .i64 1,.bool false,.int .i64 0,.int .i64 255] _ (fun w' hSw=>(HZ1.out.on hSw).rg) underlying270 rfl kr) ?_;go_frame;refine tkQ (i:=16) (oi:=⟨some 27,_,_,_,_,_⟩) (v:=_) rfl (n9 (by rfl) 270 _ rfl w4.1.size 0 rfl [.int .i64 4,.bool true,.int .i64 (-2147483648),.int .i64 2147483647] _ (fun w' hSw=>(HZ4.out.on hSw).rg) underlying270 rfl kr) ?_;go_frame;refine tkQ (i:=17) (oi:=⟨some 28,_,_,_,_,_⟩) (v:=_) rfl (n9 (by rfl) 270 _ rfl w4.1.size 0 rfl [.int .i64 4,.bool true,.int .i64 (-2147483648),.int .i64 2147483647] _ (fun w' hSw=>(HZ4.out.on hSw).rg) underlying270 rfl kr) ?_
 go_frame;refine tkQ (i:=18) (oi:=⟨some 29,_,_,_,_,_⟩) (v:=_) rfl (n9 (by rfl) 270 _ rfl (w3.1.size+2) 0 rfl [.int .i64 4,.bool false,.int .i64 0,.int .i64 4294967295] _ (fun w' hSw=>(HZ3.out.on hSw).rg) underlying270 rfl kr) ?_;go_frame;refine tkQ (i:=19) (oi:=⟨some 30,_,_,_,_,_⟩) (v:=_) rfl (n9 (by rfl) 270 _ rfl (w3.1.size+2) 0 rfl [.int .i64 4,.bool false,.int .i64 0,.int .i64 4294967295] _ (fun w' hSw=>(HZ3.out.on hSw).rg) underlying270 rfl kr) ?_;go_frame;refine tkQ (i:=20) (oi:=⟨some 31,_,_,_,_,_⟩) (v:=_) rfl (n9 (by rfl) 270 _ rfl w4.1.size 0 rfl [.int .i64 4,.bool true,.int .i64 (-2147483648),.int .i64 2147483647] _ (fun w' hSw=>(HZ4.out.on hSw).rg) underlying270 rfl kr) ?_;go_frame;refine tkQ (i:=21) (oi:=⟨some 32,_,_,_,_,_⟩) (v:=_) rfl (n9 (by rfl) 270 _ rfl w4.1.size 0 rfl [.int .i64 4,.bool true,.int .i64 (-2147483648),.int .i64 2147483647] _ (fun w' hSw=>(HZ4.out.on hSw).rg) underlying270 rfl kr) ?_
 go_frame;refine tkQ (i:=22) (oi:=⟨some 33,_,_,_,_,_⟩) (v:=_) rfl (n9 (by rfl) 270 _ rfl w4.1.size 0 rfl [.int .i64 4,.bool true,.int .i64 (-2147483648),.int .i64 2147483647] _ (fun w' hSw=>(HZ4.out.on hSw).rg) underlying270 rfl kr) ?_;go_frame;refine tkQ (i:=23) (oi:=⟨some 34,_,_,_,_,_⟩) (v:=_) rfl (n9 (by rfl) 270 _ rfl w4.1.size 0 rfl [.int .i64 4,.bool true,.int .i64 (-2147483648),.int .i64 2147483647] _ (fun w' hSw=>(HZ4.out.on hSw).rg) underlying270 rfl kr) ?_;go_frame;refine tkQ (i:=24) (oi:=⟨some 35,_,_,_,_,_⟩) (v:=_) rfl (n9 (by rfl) 270 _ rfl w5.1.size 0 rfl [.int .i64 4,.bool true,.int .i64 0,.int .i64 36000000] _ (fun w' hSw=>(HZ5.out.on hSw).rg) underlying270 rfl kr) ?_;go_frame;refine tkQ (i:=25) (oi:=⟨some 36,_,_,_,_,_⟩) (v:=_) rfl (n9 (by rfl) 270 _ rfl (w3.1.size+2) 0 rfl [.int .i64 4,.bool false,.int .i64 0,.int .i64 4294967295] _ (fun w' hSw=>(HZ3.out.on hSw).rg) underlying270 rfl kr) ?_
 go_frame;refine tkQ (i:=26) (oi:=⟨some 37,_,_,_,_,_⟩) (v:=_) rfl (n9 (by rfl) 270 _ rfl (w3.1.size+2) 0 rfl [.int .i64 4,.bool false,.int .i64 0,.int .i64 4294967295] _ (fun w' hSw=>(HZ3.out.on hSw).rg) underlying270 rfl kr) ?_;go_frame;refine tkQ (i:=27) (oi:=⟨some 38,_,_,_,_,_⟩) (v:=_) rfl (n9 (by rfl) 270 _ rfl (w3.1.size+1) 0 rfl [.int .i64 2,.bool false,.int .i64 0,.int .i64 65535] _ (fun w' hSw=>(HZ2.out.on hSw).rg) underlying270 rfl kr) ?_;go_frame;refine tkQ (i:=30) (oi:=⟨some 41,_,_,_,_,_⟩) (v:=_) rfl (n9 (by rfl) 270 _ rfl w5.1.size 0 rfl [.int .i64 4,.bool true,.int .i64 0,.int .i64 36000000] _ (fun w' hSw=>(HZ5.out.on hSw).rg) underlying270 rfl kr) ?_;go_frame;refine tkQ (i:=32) (oi:=⟨some 43,_,_,_,_,_⟩) (v:=_) rfl (n9 (by rfl) 270 _ rfl (w3.1.size+1) 0 rfl [.int .i64 2,.bool false,.int .i64 0,.int .i64 65535] _ (fun w' hSw=>(HZ2.out.on hSw).rg) underlying270 rfl kr) ?_
 go_frame;refine rdB 0 11 rfl fun K hK=>?_
 go_step;refine(H0 _).out.mono ?_;rintro e Q0 ⟨rfl,hb⟩;replace HS:=hid (HS.out.trans (hb.mono HS.out.size));clear hb
 try go_frame
 refine hK.out _ _ (HS.out) (fun hHeld=>?_);clear hK K
 try go_frame
 refine rdB 2 13 rfl fun K hK=>?_
 go_step;refine(H2 _).out.mono ?_;rintro e Q2 ⟨rfl,hb⟩;replace HS:=hid (HS.out.trans (hb.mono HS.out.size));clear hb
 try go_frame
 refine hK.out _ _ (HS.out) (fun hHeld=>?_);clear hK K
 try go_frame
 refine rdB 3 14 rfl fun K hK=>?_
 go_step;refine(H3 _).out.mono ?_;rintro e Q3 ⟨rfl,hb⟩;replace HS:=hid (HS.out.trans (hb.mono HS.out.size));clear hb
 try go_frame
 refine hK.out _ _ (HS.out) (fun hHeld=>?_);clear hK K
 try go_frame
 refine rdB 4 15 rfl fun K hK=>?_
 go_step;refine(H4 _).out.mono ?_;rintro e Q4 ⟨rfl,hb⟩;replace HS:=hid (HS.out.trans (hb.mono HS.out.size));clear hb
 try go_frame
 refine hK.out _ _ (HS.out) (fun hHeld=>?_);clear hK K
 try go_frame
 refine rdB 5 16 rfl fun K hK=>?_
 go_step;refine(H5 _).out.mono ?_;rintro e Q5 ⟨rfl,hb⟩;replace HS:=hid (HS.out.trans (hb.mono HS.out.size));clear hb
 try go_frame
 refine hK.out _ _ (HS.out) (fun hHeld=>?_);clear hK K
 try go_frame
 refine rdB 6 17 rfl fun K hK=>?_
 go_step;refine(H6 _).out.mono ?_;rintro e Q6 ⟨rfl,hb⟩;replace HS:=hid (HS.out.trans (hb.mono HS.out.size));clear hb
 try go_frame
 refine hK.out _ _ (HS.out) (fun hHeld=>?_);clear hK K
 try go_frame
 refine rdB 7 18 rfl fun K hK=>?_
 go_step;refine(H7 _).out.mono ?_;rintro e Q7 ⟨rfl,hb⟩;replace HS:=hid (HS.out.trans (hb.mono HS.out.size));clear hb
 try go_frame
 refine hK.out _ _ (HS.out) (fun hHeld=>?_);clear hK K
 try go_frame
 refine rdB 9 20 rfl fun K hK=>?_
 go_step;refine(H9 _).out.mono ?_;rintro e Q9 ⟨rfl,hb⟩;replace HS:=hid (HS.out.trans (hb.mono HS.out.size));clear hb
 try go_frame
 refine hK.out _ _ (HS.out) (fun hHeld=>?_);clear hK K
 try go_frame
 refine rdB 10 21 rfl fun K hK=>?_
 go_step;refine(H10 _).out.mono ?_;rintro e Q10 ⟨rfl,hb⟩;replace HS:=hid (HS.out.trans (hb.mono HS.out.size));clear hb
 try go_frame
 refine hK.out _ _ (HS.out) (fun hHeld=>?_);clear hK K
 try go_frame
 refine rdB 14 25 rfl fun K hK=>?_
 go_step;refine(H14 _).out.mono ?_;rintro e Q14 ⟨rfl,hb⟩;replace HS:=hid (HS.out.trans (hb.mono HS.out.size));clear hb
 try go_frame
 refine hK.out _ _ (HS.out) (fun hHeld=>?_);clear hK K
 try go_frame
 refine rdB 15 26 rfl fun K hK=>?_
 go_step;refine(H15 _).out.mono ?_;rintro e Q15 ⟨rfl,hb⟩;replace HS:=hid (HS.out.trans (hb.mono HS.out.size));clear hb
 try go_frame
 refine hK.out _ _ (HS.out) (fun hHeld=>?_);clear hK K
 try go_frame
 refine rdB 28 39 rfl fun K hK=>?_
 go_step;refine(H28 _).out.mono ?_;rintro e Q28 ⟨rfl,hb⟩;replace HS:=hid (HS.out.trans (hb.mono HS.out.size));clear hb
 try go_frame
 refine hK.out _ _ (HS.out) (fun hHeld=>?_);clear hK K
 try go_frame
 refine rdB 29 40 rfl fun K hK=>?_
 go_step;refine(H29 _).out.mono ?_;rintro e Q29 ⟨rfl,hb⟩;replace HS:=hid (HS.out.trans (hb.mono HS.out.size));clear hb
 try go_frame
 refine hK.out _ _ (HS.out) (fun hHeld=>?_);clear hK K
 try go_frame
 refine rdB 31 42 rfl fun K hK=>?_
 go_step;refine(H31 _).out.mono ?_;rintro e Q31 ⟨rfl,hb⟩;replace HS:=hid (HS.out.trans (hb.mono HS.out.size));clear hb
 try go_frame
 refine hK.out _ _ (HS.out) (fun hHeld=>?_);clear hK K
 try go_frame
 refine rdB 33 44 rfl fun K hK=>?_
 go_step
 try go_frame
 have HSL:=hid HS.out.size;have HN:Hid (Blk (Q31.alloc (.cells #[.int .i64 4,.bool false,.int .i64 0,.int .i64 604799999,.int .i64 2,.bool false,.int .i64 0,.int .i64 65535,.int .i64 1,.bool false,.int .i64 0,.int .i64 12,.int .i64 1,.bool false,.int .i64 0,.int .i64 31,.int .i64 1,.bool false,.int .i64 0,.int .i64 23,.int .i64 1,.bool false,.int .i64 0,.int .i64 59,.int .i64 1,.bool false,.int .i64 0,.int .i64 60,.int .i64 1,.bool false,.int .i64 0,.int .i64 15,.int .i64 4,.bool false,.int .i64 0,.int .i64 4294967295,.int .i64 4,.bool true,.int .i64 (-1000000000),.int .i64 1000000000,.int .i64 1,.bool false,.int .i64 0,.int .i64 5,.int .i64 1,.bool false,.int .i64 0,.int .i64 255,.int .i64 1,.bool false,.int .i64 0,.int .i64 255,.int .i64 1,.bool false,.int .i64 0,.int .i64 255,.int .i64 4,.bool true,.int .i64 (-1800000000),.int .i64 1800000000,.int .i64 4,.bool true,.int .i64 (-900000000),.int .i64 900000000,.int .i64 4,.bool true,.int .i64 (-2147483648),.int .i64 2147483647,.int .i64 4,.bool true,.int .i64 (-2147483648),.int .i64 2147483647,.int .i64 4,.bool false,.int .i64 0,.int .i64 4294967295,.int .i64 4,.bool false,.int .i64 0,.int .i64 4294967295,.int .i64 4,.bool true,.int .i64 (-2147483648),.int .i64 2147483647,.int .i64 4,.bool true,.int .i64 (-2147483648),.int .i64 2147483647,.int .i64 4,.bool true,.int .i64 (-2147483648),.int .i64 2147483647,.int .i64 4,.bool true,.int .i64 (-2147483648),.int .i64 2147483647,.int .i64 4,.bool true,.int .i64 0,.int .i64 36000000,.int .i64 4,.bool false,.int .i64 0,.int .i64 4294967295,.int .i64 4,.bool false,.int .i64 0,.int .i64 4294967295,.int .i64 2,.bool false,.int .i64 0,.int .i64 65535,.int .i64 2,.bool false,.int .i64 0,.int .i64 31,.int .i64 4,.bool false,.int .i64 0,.int .i64 0,.int .i64 4,.bool true,.int .i64 0,.int .i64 36000000,.int .i64 2,.bool true,.int .i64 (-18000),.int .i64 18000,.int .i64 2,.bool false,.int .i64 0,.int .i64 65535] 270)) Q31.1.size (acl ak6)):=hid (Blk.newL (qg Q31 _ _) rfl)
 replace HS:=hid (HS.out.trans ((qa Q31 (.cells #[.int .i64 4,.bool false,.int .i64 0,.int .i64 604799999,.int .i64 2,.bool false,.int .i64 0,.int .i64 65535,.int .i64 1,.bool false,.int .i64 0,.int .i64 12,.int .i64 1,.bool false,.int .i64 0,.int .i64 31,.int .i64 1,.bool false,.int .i64 0,.int .i64 23,.int .i64 1,.bool false,.int .i64 0,.int .i64 59,.int .i64 1,.bool false,.int .i64 0,.int .i64 60,.int .i64 1,.bool false,.int .i64 0,.int .i64 15,.int .i64 4,.bool false,.int .i64 0,.int .i64 4294967295,.int .i64 4,.bool true,.int .i64 (-1000000000),.int .i64 1000000000,.int .i64 1,.bool false,.int .i64 0,.int .i64 5,.int .i64 1,.bool false,.int .i64 0,.int .i64 255,.int .i64 1,.bool false,.int .i64 0,.int .i64 255,.int .i64 1,.bool false,.int .i64 0,.int .i64 255,.int .i64 4,.bool true,.int .i64 (-1800000000),.int .i64 1800000000,.int .i64 4,.bool true,.int .i64 (-900000000),.int .i64 900000000,.int .i64 4,.bool true,.int .i64 (-2147483648),.int .i64 2147483647,.int .i64 4,.bool true,.int .i64 (-2147483648),.int .i64 2147483647,.int .i64 4,.bool false,.int .i64 0,.int .i64 4294967295,.int .i64 4,.bool false,.int .i64 0,.int .i64 4294967295,.int .i64 4,.bool true,.int .i64 (-2147483648),.int .i64 2147483647,.int .i64 4,.bool true,.int .i64 (-2147483648),.int .i64 2147483647,.int .i64 4,.bool true,.int .i64 (-2147483648),.int .i64 2147483647,.int .i64 4,.bool true,.int .i64 (-2147483648),.int .i64 2147483647,.int .i64 4,.bool true,.int .i64 0,.int .i64 36000000,.int .i64 4,.bool false,.int .i64 0,.int .i64 4294967295,.int .i64 4,.bool false,.int .i64 0,.int .i64 4294967295,.int .i64 2,.bool false,.int .i64 0,.int .i64 65535,.int .i64 2,.bool false,.int .i64 0,.int .i64 31,.int .i64 4,.bool false,.int .i64 0,.int .i64 0,.int .i64 4,.bool true,.int .i64 0,.int .i64 36000000,.int .i64 2,.bool true,.int .i64 (-18000),.int .i64 18000,.int .i64 2,.bool false,.int .i64 0,.int .i64 65535] 270)).mono HS.out.size));refine hK.out _ _ HS.out (fun hHeld=>?_)
 clear hK K
 try go_frame
 refine tkA 34 0 rfl ?_;go_frame;refine b0j kr ?_ _
 try go_frame
 have HE:=hid (o4 HN.out (o4 (qb HB6.out HS.out) (o8 HB6.out.size (HSL.out))));clear hHeld hHeld0 hS0 HN HS HSL HB6;generalize Q31.alloc (.cells #[.int .i64 4,.bool false,.int .i64 0,.int .i64 604799999,.int .i64 2,.bool false,.int .i64 0,.int .i64 65535,.int .i64 1,.bool false,.int .i64 0,.int .i64 12,.int .i64 1,.bool false,.int .i64 0,.int .i64 31,.int .i64 1,.bool false,.int .i64 0,.int .i64 23,.int .i64 1,.bool false,.int .i64 0,.int .i64 59,.int .i64 1,.bool false,.int .i64 0,.int .i64 60,.int .i64 1,.bool false,.int .i64 0,.int .i64 15,.int .i64 4,.bool false,.int .i64 0,.int .i64 4294967295,.int .i64 4,.bool true,.int .i64 (-1000000000),.int .i64 1000000000,.int .i64 1,.bool false,.int .i64 0,.int .i64 5,.int .i64 1,.bool false,.int .i64 0,.int .i64 255,.int .i64 1,.bool false,.int .i64 0,.int .i64 255,.int .i64 1,.bool false,.int .i64 0,.int .i64 255,.int .i64 4,.bool true,.int .i64 (-1800000000),.int .i64 1800000000,.int .i64 4,.bool true,.int .i64 (-900000000),.int .i64 900000000,.int .i64 4,.bool true,.int .i64 (-2147483648),.int .i64 2147483647,.int .i64 4,.bool true,.int .i64 (-2147483648),.int .i64 2147483647,.int .i64 4,.bool false,.int .i64 0,.int .i64 4294967295,.int .i64 4,.bool false,.int .i64 0,.int .i64 4294967295,.int .i64 4,.bool true,.int .i64 (-2147483648),.int .i64 2147483647,.int .i64 4,.bool true,.int .i64 (-2147483648),.int .i64 2147483647,.int .i64 4,.bool true,.int .i64 (-2147483648),.int .i64 2147483647,.int .i64 4,.bool true,.int .i64 (-2147483648),.int .i64 2147483647,.int .i64 4,.bool true,.int .i64 0,.int .i64 36000000,.int .i64 4,.bool false,.int .i64 0,.int .i64 4294967295,.int .i64 4,.bool false,.int .i64 0,.int .i64 4294967295,.int .i64 2,.bool false,.int .i64 0,.int .i64 65535,.int .i64 2,.bool false,.int .i64 0,.int .i64 31,.int .i64 4,.bool false,.int .i64 0,.int .i64 0,.int .i64 4,.bool true,.int .i64 0,.int .i64 36000000,.int .i64 2,.bool true,.int .i64 (-18000),.int .i64 18000,.int .i64 2,.bool false,.int .i64 0,.int .i64 65535] 270)=WE at *
 go_wp2_with fail;go_ret;exact⟨some ⟨Q31.1.size,0,none⟩,33,rfl,HE.out.1.flat ⟨HE.out.2.2,HE.out.1.lt⟩,HE.out.2.1⟩
def vo:List UInt8→Bool
 | []=>true
 | [x]=>decide (x.toNat=181)
 | x::y::_=>decide (x.toNat=181) && decide (y.toNat=98)
def bmk:List UInt8→List UInt8
 | []=>[181,98]
 | [x]=>[x,98]
 | x::y::_=>[x,y]
theorem bg9 (l:List UInt8):∃x y,bmk l=[x,y] ∧([x,y]==[181,98])=vo l:=by
 have e:∀x y:UInt8,([x,y]==[181,98])=(decide (x.toNat=181) && decide (y.toNat=98)):=fun x y=>by
  rw[b4c,b0d,b4l,b4l,b1o];simp only[b48,and_true,← b1p];rfl
 rcases l with _|⟨x,_|⟨y,l⟩⟩
 ·exact⟨181,98,rfl,rfl⟩
 ·refine⟨x,98,rfl,?_⟩;rw[e];show (decide (x.toNat=181) && true)=_;rw[Bool.and_true];rfl
 ·exact⟨x,y,rfl,e x y⟩
theorem bhx (x y:UInt8) (w:World):(binOp .eql 211 (.agg #[.int .u8 (x.toNat:Int),.int .u8 (y.toNat:Int)]) (.agg #[.int .u8 181,.int .u8 98])).run prog w=.ok (.bool ([x,y]==[181,98])) w:=
 run_eql_bytes w 211 5 2 underlying211 underlying5 (fun w=>by kernel_rfl) [x,y] [181,98] rfl rfl
theorem a6p (l:List UInt8):jg [181,98] 0 (l.take (min l.length 2))=bmk l:=by
 rcases l with _|⟨x,_|⟨y,l⟩⟩
 ·rfl
 ·rfl
 ·have:min (x::y::l).length 2=2:=by simp only[n7];omega
  rw[this];rfl
theorem ai3 {Q:Nat→Prop} {w:World} (A:Option Addr) (c:Nat) (l:List UInt8) (h:qf Q w A (bsV l)) (hm:l.length≤maxLen) (hc:l.length≤c) :
 Calls prog 73 #[.slice A l.length c] w fun e w'=>e=.returned (.bool (vo l))∧Below w.1.size w w':=by
 unfold maxLen at hm;obtain⟨n,hn,hn2,hn3⟩:∃n:Nat,min (l.length:Int) 2=(n:Int)∧n≤2∧n=min l.length 2:=⟨min l.length 2,by omega,by omega,rfl⟩;have hw0:Below w.1.size w ((w.alloc (.cells #[.int .u8 181,.int .u8 98] 211)).alloc (.cells #[.int .u8 181,.int .u8 98] 211)):=qb (qa _ _) (qa _ _);have hb1:Blk ((w.alloc (.cells #[.int .u8 181,.int .u8 98] 211)).alloc (.cells #[.int .u8 181,.int .u8 98] 211)) w.1.size (bsV [181,98]):=(Blk.newL (qg w _ _) rfl).on (qa _ _)
 have hb2:Blk ((w.alloc (.cells #[.int .u8 181,.int .u8 98] 211)).alloc (.cells #[.int .u8 181,.int .u8 98] 211)) (w.1.size+1) (bsV [181,98]):=by
  have:=Blk.newL (L:=bsV [181,98]) (qg (w.alloc (.cells #[.int .u8 181,.int .u8 98] 211)) #[.int .u8 181,.int .u8 98] 211) rfl
  rwa [show (w.alloc (.cells #[.int .u8 181,.int .u8 98] 211)).1.size=w.1.size+1 from by simp]at this
 have hsz:(bsV (l.take n)).length=n:=by rw[xl,l7];omega
 obtain⟨W',q1,q2⟩:=abu (P:=prog) (World.drew ((w.alloc (.cells #[.int .u8 181,.int .u8 98] 211)).alloc (.cells #[.int .u8 181,.int .u8 98] 211))) 22 22 3 5 underlying22 alj (w.1.size+1) 0 2 2 A n c (bsV (l.take n)) (by
  rw[← v6];exact((h.lt.below hw0 (fun b q=>q.2)).keep (w':=World.drew _) fun _ _=>rfl).first n) hsz (af0 _) (by rw[show Nat.min n 2=n from b1d hn2];exact hb2.drew.there 0 n (by rw[xl];simp;omega))
 rw[show Nat.min n 2=n from b1d hn2]at q1 q2;rw[b08 om]at q2;have hk2:=akn hb2.drew q2 (by rw[l7];simp only[n7,b04];omega);rw[hn3,a6p]at hk2;obtain⟨x,y,e1,e2⟩:=bg9 l;rw[e1]at hk2;have hk1:Blk W' w.1.size (bsV [181,98]):=hb1.drew.far q2 om;have c1:=hk1.cell 0 (v:=.int .u8 181) rfl;have c2:=hk1.cell 1 (v:=.int .u8 98) rfl;have c3:=hk2.cell 0 (v:=.int .u8 (x.toNat:Int)) rfl;have c4:=hk2.cell 1 (v:=.int .u8 (y.toNat:Int)) rfl;have HB:=hid (o4 e2 (hw0.drew.trans (q2.below (b2g _))));have HR:=hid q1;generalize hL:l.length=L at *;have f1:(n:Int)≤c:=by omega
 clear q1 q2 hk1 hk2 hb1 hb2 hw0 hsz e1 e2 hn3 h hL;have EQ:=fun W=>bhx x y W
 go_enter func73,ntmps73;go_wp2_with fail
 go_cut [] (fun wx=>wx=W')
 case first=>
  go_region_law ((refine kt kr (.tmp 11) (.tmp 14) 22 22 kr (.slice (some ⟨w.1.size+1,0,none⟩) 2 2) (.slice A n c) (goInt n) kr kr HR.out ?_))
  go_wp2_with fail
  go_meet
  rfl
 case rest=>
 subst hcut;clear HR;go_wp2_with fail;go_ret;refine⟨?_,HB.out.2⟩;rw[← HB.out.1];show Ending.returned (.bool (x==181 && y==98))=_;rw[show ([x,y]==[181,98])=(x==181 && y==98)from by simp]
def xr (c:UInt8):Int:=if c.toNat=181 then 1 else if c.toNat=36 then 2 else if c.toNat=254 then 3 else 0
theorem aii (c:UInt8) (w:World):Calls prog 13 #[bV c] w fun e w'=>e=.returned (.int .i64 (xr c))∧w=w':=by
 unfold bV xr;generalize c.toNat=n
 by_cases h1:n=181
 ·subst h1;go_enter func13,ntmps13;go_wp2;go_ret;exact⟨rfl,rfl⟩
 by_cases h2:n=36
 ·subst h2;go_enter func13,ntmps13;go_wp2;go_ret;exact⟨rfl,rfl⟩
 by_cases h3:n=254
 ·subst h3;go_enter func13,ntmps13;go_wp2;go_ret;exact⟨rfl,rfl⟩
 have b1:((n:Int)==181)=false:=by rw[l6];omega
 have b2:((n:Int)==36)=false:=by rw[l6];omega
 have b3:((n:Int)==254)=false:=by rw[l6];omega
 rw[if_neg h1,if_neg h2,if_neg h3];clear h1 h2 h3;go_enter func13,ntmps13;go_wp2;go_ret;exact⟨rfl,rfl⟩
def ar6 (b:Nat) (C:List Int):List Value:=.pointer (some ⟨b,0,none⟩)::C.map (Value.int .i64)
structure zz (W:World) (g b:Nat) (C:List Int) (l:List UInt8):Prop where
 blk:Blk W g (ar6 b C)
 len:C.length=13
 win:vy W b l
 ne:b≠g
theorem zz.on {W W':World} {g b:Nat} {C:List Int} {l:List UInt8} (h:zz W g b C l) (hb:Below W.1.size W W'):zz W' g b C l:=⟨h.blk.on hb,h.len,h.win.on hb,h.ne⟩
theorem zz.c0 {W:World} {g b:Nat} {C:List Int} {l:List UInt8} (h:zz W g b C l):W.cell? ⟨g,0,none⟩=some (.pointer (some ⟨b,0,none⟩)):=h.blk.cell 0 rfl
theorem zz.ck {W:World} {g b:Nat} {C:List Int} {l:List UInt8} (h:zz W g b C l) (k:Nat) (hk:k<C.length):W.cell? ⟨g,k+1,none⟩=some (.int .i64 C[k]):=h.blk.cell (k+1) (by
 unfold ar6;rw[b18,b0m,c8 hk];rfl)
theorem apr (b:Nat) (C:List Int):(ar6 b C).length=C.length+1:=by unfold ar6;simp
theorem zz.moved {W W':World} {g b:Nat} {C:List Int} {l l':List UInt8} (h:zz W g b C l) (hw:vy W' b l') (hk:qj (fun j=>j≠b) W W'):zz W' g b C l':=
 ⟨h.blk.kept (hk.block g (fun e=>h.ne e.symm)) hk.size,h.len,hw,h.ne⟩
theorem zz.set {W:World} {g b:Nat} {C:List Int} {l:List UInt8} (h:zz W g b C l) (k:Nat) (v:Int) (hk:k<13):zz (W.setCell ⟨g,k+1,none⟩ (.int .i64 v)) g b (C.set k v) l:=by
 have hlen:=h.len;have hs:qp W (W.setCell ⟨g,k+1,none⟩ (.int .i64 v)) g (k+1) [.int .i64 v]:=ze (h.blk.there (k+1) 1 (by rw[apr];omega));refine⟨?_,by rw[b3u];exact hlen,h.win.kept (hs.far b h.ne) (b35 hs.sz.symm),h.ne⟩
 have e1:∀x,ar6 b (C.set k x)=(.pointer (some ⟨b,0,none⟩)::(C.take k).map (Value.int .i64))++[.int .i64 x] ++(C.drop (k+1)).map (Value.int .i64):=fun x=>by
  unfold ar6;rw[b3r,if_pos om];simp
 have e2:C.set k (C[k]'(by omega))=C:=List.set_getElem_self _;have h1:=h.blk;rw[← e2,e1]at h1;rw[e1];exact h1.put hs (by simp;omega) rfl
theorem zz.keptS {W:World} {g b:Nat} {C:List Int} {l:List UInt8} (h:zz W g b C l) (k:Nat) (v:Int):qj (fun j=>j≠b∧j≠g) W (W.setCell ⟨g,k+1,none⟩ (.int .i64 v)):=
 (qj.refl _ _).set (fun q=>q.2 rfl) _ _
theorem a88 (b:Nat) (w:World):(Instr.build 115 #[(0,.pointer (some ⟨b,0,none⟩))]).run prog w=.ok (.agg (ar6 b [0,0,0,0,0,0,0,0,0,0,0,0,0]).toArray) w:=by kernel_rfl
theorem agf (w:World):Calls prog 21 #[] w fun e w'=>e=.returned (.pointer (some ⟨w.1.size+1,0,none⟩))∧zz w' (w.1.size+1) w.1.size [0,0,0,0,0,0,0,0,0,0,0,0,0] []∧Below w.1.size w w'∧w'.1.size=w.1.size+2:=by
 have HB:=fun W=>hid (a88 w.1.size W)
 go_enter func21,ntmps21;go_wp2_with fail;refine(a7h _).mono ?_;rintro e w1 ⟨rfl,hw,hb,hs⟩;have HW:=hid hw;have HB1:=hid hb;have HS:=hid hs;clear hw hb hs
 go_wp2_with (first
  | refine zh (u:=.pointer (some ⟨w.1.size,0,none⟩)) rfl 115 0 _ rfl rfl (HB _).out ?_
  | (refine qu rfl _ _ rfl (ar6 w.1.size [0,0,0,0,0,0,0,0,0,0,0,0,0]).toArray rfl ?_;intro W1 hW1;have HK1:=hid (Blk.newL (L:=ar6 w.1.size [0,0,0,0,0,0,0,0,0,0,0,0,0]) hW1 b1i);have HG:=hid hW1;clear hW1))
 go_ret;have e:=HS.out;refine⟨by rw[← e];rfl,⟨by rw[← e];exact HK1.out,rfl,HW.out.on HG.out.bel,by omega⟩,qb HB1.out HG.out.bel,by rw[HG.out.sz,e]⟩
theorem ace {W:World} {g b:Nat} {C:List Int} {l:List UInt8} (h:zz W g b C l):Calls prog 37 #[.pointer (some ⟨g,0,none⟩)] W fun e w'=>e=.returned (.bool true)∧W=w':=by
 have c0:=h.c0;clear h;go_enter func37,ntmps37;go_wp2;go_ret;exact⟨rfl,rfl⟩
theorem ab4 {W:World} {g b:Nat} {C:List Int} {l:List UInt8} (h:zz W g b C l):Calls prog 25 #[.pointer (some ⟨g,0,none⟩)] W fun e w'=>e=.returned (.slice (some ⟨W.1.size,0,none⟩) l.length l.length)∧Blk w' W.1.size (bsV l)∧zz w' g b C l∧Below W.1.size W w'∧w'.1.size=W.1.size+1:=by
 have c0:=h.c0;have H:=hid h;clear h;go_enter func25,ntmps25;go_wp2_with (refine(ace H.out).mono ?_;rintro e w' ⟨rfl,rfl⟩);refine(ah6 H.out.win).mono ?_;rintro e w1 ⟨rfl,hk,hw,hb,hs⟩;have HD:=hid (H.out.on hb);have HH:=hid (o4 hk (o4 hb hs));clear hk hw hb hs H c0;go_wp2_with fail;go_ret;exact⟨rfl,HH.out.1,HD.out,HH.out.2.1,HH.out.2.2⟩
theorem an1 {P:Program} {w:World} {a:Addr} {m:Mode} (f:_) (x:_) (y:_):(store a (.func f x y) m).run P w=stored P w a (.func f x y) m:=run_store P w a _ m rfl
def jt:List Value:=[.int .i64 0,.int .i64 0,.int .i64 0,.int .i64 0,.int .i64 0,.int .i64 0,.int .i64 0,.int .i64 0,.int .i64 0,.int .i64 0,.int .i64 0,.int .i64 0,.int .i64 0,.int .i64 0,.int .i64 0,.int .i64 0,.int .i64 0,.int .i64 0,.int .i64 0,.int .i64 0,.int .i64 0,.int .i64 0,.int .i64 0,.int .i64 0,.int .i64 0,.int .i64 0,.int .i64 0,.int .i64 0,.int .i64 0,.int .i64 0,.int .i64 0,.int .i64 0,.int .i64 0,.int .i64 0,.slice none 0 0,.int .i64 0,.int .i64 0,.int .i64 0,.int .i64 0,.int .i64 0,.int .i64 0,.int .i64 0,.int .i64 0,.bool false,.int .i64 0,.int .i64 0,.int .i64 0,.slice none 0 0]
def acj:List Value:=[.int .i64 0,.string ByteArray.empty,.bool false,.int .i64 0,.int .i64 0,.int .i64 0,.int .i64 0,.bool false,.int .i64 0,.bool false,.int .i64 0,.int .i64 0,.bool false,.int .i64 0,.bool false,.int .i64 0,.bool false,.int .i64 0,.bool false,.int .i64 0,.bool false,.int .i64 0,.bool false,.int .i64 0,.bool false,.int .i64 0,.int .i64 0,.int .i64 0,.int .i64 0,.bool false,.bool false,.int .i64 0,.bool false,.int .i64 0,.bool false,.int .i64 0,.bool false,.int .i64 0,.bool false,.int .i64 0,.bool false,.int .i64 0,.int .i64 0,.int .i64 0,.bool false,.int .i64 0,.slice none 0 0,.bool false,.int .i64 0,.bool false,.int .i64 0,.bool false,.int .i64 0,.bool false,.int .i64 0,.bool false,.int .i64 0,.bool false,.int .i64 0,.bool false,.int .i64 0,.int .i64 0,.int .i64 0,.int .i64 0,.slice none 0 0]
def ac4:List Value:=[.int .i64 0,.int .i64 0,.int .i64 0,.int .i64 0,.slice none 0 0]
def itL (p:Int) (o:Bool) (U N T:List Value):List Value:=.int .i64 p::.bool o::(U ++(N++T))
def adm:List Value:=itL 0 false jt acj ac4
def adl:Array Value:=adm.toArray
def aaw:Array Value:=jt.toArray
def veL (d p n e:Int) (L:List Value):List Value:=.int .i64 d::.int .i64 p::.int .i64 n::.int .i64 e::L
def veA (d p n e:Int):Array Value:=(veL d p n e adm).toArray
theorem bjg (d p n e:Int):(veA d p n e).toList=veL d p n e adm:=rfl
theorem acy (w:World):(zeroValue 64).run prog w=.ok (.agg adl) w:=by kernel_rfl
theorem aft (w:World):(zeroValue 38).run prog w=.ok (.agg aaw) w:=by kernel_rfl
theorem aex (w:World):(zeroValue 66).run prog w=.ok (.agg (veA 0 0 0 0)) w:=by kernel_rfl
theorem af1 (w:World):(Instr.build 38 #[]).run prog w=.ok (.agg aaw) w:=by kernel_rfl
theorem a86 (w:World):(Instr.build 66 #[]).run prog w=.ok (.agg (veA 0 0 0 0)) w:=by kernel_rfl
theorem a3t (w:World):(Instr.build 66 #[(0,.int .i64 1),(3,.int .i64 3)]).run prog w=.ok (.agg (veA 1 0 0 3)) w:=by kernel_rfl
theorem apm (d p:Int) (w:World):(Instr.build 66 #[(0,.int .i64 d),(1,.int .i64 p)]).run prog w=.ok (.agg (veA d p 0 0)) w:=by kernel_rfl
theorem amu (d p e:Int) (w:World):(Instr.build 66 #[(0,.int .i64 d),(1,.int .i64 p),(3,.int .i64 e)]).run prog w=.ok (.agg (veA d p 0 e)) w:=by kernel_rfl
theorem agr (d p n e:Int):(veA d p n e).all (·.oneCell')=true:=by
 refine vm fun v hv=>?_
 rw[bjg]at hv;unfold veL at hv;rcases b0z.1 hv with rfl|hv
 ·rfl
 rcases b0z.1 hv with rfl|hv
 ·rfl
 rcases b0z.1 hv with rfl|hv
 ·rfl
 rcases b0z.1 hv with rfl|hv
 ·rfl
 have h:∀v∈adm,v.oneCell'=true:=by decide +kernel
 exact h v hv
theorem ags (d p n e:Int):(prog.info? 66).map (·.size)=some (veA d p n e).size:=by kernel_rfl
def aqc (p:Int):Nat:=if p=1 then 41 else if p=2 then 43 else 45
def ofV (p:Int):Value:=.func (Fn.func (aqc p)) #[] #[]
theorem atx (p:Int) (w:World):Calls prog 26 #[.int .i64 p] w fun e w'=>e=.returned (.agg #[ofV p])∧Below w.1.size w w':=by
 have hsf:=@an1 prog;unfold ofV aqc
 by_cases h1:p=1
 ·subst h1;go_enter func26,ntmps26;go_wp2_with fail;exact b9 (v:=.agg #[.func (Fn.func 41) #[] #[]]) (by simp[results,results26,go_sem]) rfl ⟨rfl,qa _ _⟩
 by_cases h2:p=2
 ·subst h2;go_enter func26,ntmps26;go_wp2_with fail;exact b9 (v:=.agg #[.func (Fn.func 43) #[] #[]]) (by simp[results,results26,go_sem]) rfl ⟨rfl,qa _ _⟩
 rw[if_neg h1,if_neg h2];have b1:(p==1)=false:=by rw[l6];exact h1
 have b2:(p==2)=false:=by rw[l6];exact h2
 clear h1 h2;go_enter func26,ntmps26;go_wp2_with fail;exact b9 (v:=.agg #[.func (Fn.func 45) #[] #[]]) (by simp[results,results26,go_sem]) rfl ⟨rfl,qa _ _⟩
def adb:Value:=.agg #[.int .i64 0,.int .i64 0,.slice none 0 0]
theorem zl {fn:Func} {p u v:Tmp} {ty:TypeId} (h:fn.results=#[.cell p ty,.tmp u,.tmp v]) (tmps:Array Value) (P:Program) (w:World) :
 (results fn tmps).run P w =
  ((asAddr (tmps.getD p undef)).run P w).andThen fun a w₁=>((loadVar ty a).run P w₁).andThen fun v' w₂=>.ok (.tuple #[v',tmps.getD u undef,tmps.getD v undef]) w₂:=by
 simp only[results,h];simp[Result.andThen]
theorem yk {fn:Func} {p:Tmp} {ty:TypeId} (h:fn.results=#[.cell p ty]) (tmps:Array Value) (P:Program) (w:World) :
 (results fn tmps).run P w=((asAddr (tmps.getD p undef)).run P w).andThen fun a w₁=>(loadVar ty a).run P w₁:=by
 simp only[results,h];simp[Result.andThen]
theorem avo {w1:World} {b:Nat} {x y z:Value} (hk:Blk w1 b [x,y,z]) (p q r:Value):(loadVar 143 ⟨b,0,none⟩).run prog (((w1.setCell ⟨b,0,none⟩ p).setCell ⟨b,1,none⟩ q).setCell ⟨b,2,none⟩ r)=.ok (.agg #[p,q,r]) (((w1.setCell ⟨b,0,none⟩ p).setCell ⟨b,1,none⟩ q).setCell ⟨b,2,none⟩ r)∧Below b w1 (((w1.setCell ⟨b,0,none⟩ p).setCell ⟨b,1,none⟩ q).setCell ⟨b,2,none⟩ r):=by
 have hs:qp w1 (((w1.setCell ⟨b,0,none⟩ p).setCell ⟨b,1,none⟩ q).setCell ⟨b,2,none⟩ r) b 0 [p,q,r]:=qo (cs:=[p,q,r]) (hk.there 0 3 (a8 _));exact⟨t6 (P:=prog) _ b 0 143 [p,q,r] _ (hk.all hs rfl).rg underlying143 rfl kr,hs.below (a8 _)⟩
theorem ai4 {Q:Nat→Prop} {w:World} (A:Option Addr) (c:Nat) (l:List UInt8) (h:qf Q w A (bsV l)) (hm:l.length<6) (hc:l.length≤c) :
 Calls prog 60 #[.slice A l.length c] w fun e w'=>e=.returned (.tuple #[adb,.int .i64 0,.int .i64 (if vo l then 2 else 3)])∧Below w.1.size w w':=by
 have hb:=ai3 (w:=w.alloc (.cells #[.int .i64 0,.int .i64 0,.slice none 0 0] 143)) A c l (h.lt.below (qa _ _) (fun b q=>q.2)) (by unfold maxLen;omega) hc;have HB:=hid hb;have HK:=hid (Blk.newL (L:=[.int .i64 0,.int .i64 0,.slice none 0 0]) (qg w #[.int .i64 0,.int .i64 0,.slice none 0 0] 143) rfl);clear hb h;have hl:(l.length:Int)<6:=by omega
 generalize l.length=L at *;cases hbg:vo l
 all_goals
  rw[hbg]at HB;go_enter func60,ntmps60;go_wp2_with fail;refine HB.out.mono ?_;rintro e w1 ⟨rfl,hb⟩;have HK1:=hid (HK.out.on hb);have HB1:=hid (qb (qa w _) hb);have g0:=HK1.out.cell 0 rfl;have g1:=HK1.out.cell 1 rfl;have g2:=HK1.out.cell 2 rfl;have z0:=HK1.out.fz 0;have z1:=HK1.out.fz 1;have z2:=HK1.out.fz 2;clear hb HB HK;go_wp2_with fail;obtain⟨r1,r2⟩:=avo HK1.out (.int .i64 0) (.int .i64 0) (.slice none 0 0)
 ·exact b9 (v:=.tuple #[adb,.int .i64 0,.int .i64 3]) (by rw[zl rfl];simp[asAddr,Result.andThen,r1,adb]) rfl ⟨rfl,HB1.out.trans r2⟩
 ·exact b9 (v:=.tuple #[adb,.int .i64 0,.int .i64 2]) (by rw[zl rfl];simp[asAddr,Result.andThen,r1,adb]) rfl ⟨rfl,HB1.out.trans r2⟩
theorem axo {w:World} {V:Value} (E:Int) (hE:E≠0) (n:Int) (HF:∀W,Below w.1.size w W→Hid (Calls prog 60 #[V] W fun e w'=>e=.returned (.tuple #[adb,.int .i64 n,.int .i64 E])∧Below W.1.size W w')) :
 Calls prog 42 #[V] w fun e w'=>e=.returned (.tuple #[.agg aaw,.int .i64 0,.int .i64 E])∧Below w.1.size w w':=by
 have HZ:=fun W=>hid (aft W)
 have HB0:=fun W=>hid (af1 W)
 have hne:(E != 0)=true:=by rw[b0g];exact hE
 clear hE;go_enter func42,ntmps42;go_wp2_with (refine qc rfl 38 rfl aaw (HZ _).out ?_;intro W1 hW1;have HK1:=hid (Blk.newL (L:=jt) hW1 rfl);have HB1:=hid hW1.bel;clear hW1);refine(HF _ HB1.out).out.mono ?_;rintro e w1 ⟨rfl,hb⟩;have HK2:=hid (HK1.out.on hb);have HB2:=hid (qb HB1.out hb);have HK3:Hid (Blk (w1.alloc (.cells #[.int .i64 0,.int .i64 0,.slice none 0 0] 143)) w.1.size jt):=hid (HK2.out.on (qa _ _));have HB3:Hid (Below w.1.size w (w1.alloc (.cells #[.int .i64 0,.int .i64 0,.slice none 0 0] 143))):=hid (qb HB2.out (qa _ _));clear hb HB1 HK1 HF;unfold adb
 go_wp2_with (first
  | refine zo rfl 38 rfl (HB0 _).out ?_
  | (refine qe rfl 38 _ _ rfl w.1.size 0 aaw rfl rfl (HK3.out.there 0 48 (a8 _)) kr (by decide +kernel) ?_;intro W4 hs;have HK4:=hid (HK3.out.all hs rfl);have HB4:=hid (HB3.out.trans (hs.below (a8 _)));clear hs))
 have HLD:=hid (t6 (P:=prog) W4 w.1.size 0 38 jt _ HK4.out.rg underlying38 rfl kr);refine b9 (v:=.tuple #[.agg aaw,.int .i64 0,.int .i64 E]) (by rw[zl rfl];simp[asAddr,Result.andThen,HLD.out];rfl) rfl ⟨rfl,HB4.out⟩
theorem aq1:∀(xs:List Value) (off j:Nat) (L:List Value),off+j+xs.length≤L.length →(xs.zipIdx j).foldl (fun cs (p:Value×Nat)=>cs.set (off+p.2) p.1) L=jg L (off+j) xs
 | [],off,j,L,h=>by
  unfold jg;simp
 | x::xs,off,j,L,h=>by
  rw[n7]at h;rw[List.zipIdx_cons,b26,aq1 xs off (j+1) _ (by rw[b3u];omega)];apply b2r;intro k;rw[agk (by rw[b3u];omega),agk (by rw[n7];omega),n7]
  by_cases h1:off +(j+1)≤k∧k<off +(j+1)+xs.length
  ·rw[if_pos h1,if_pos om,show k-(off+j)=(k-(off +(j+1)))+1 from by omega,b18]
  ·rw[if_neg h1];dsimp only
   by_cases h2:k=off+j
   ·subst h2;rw[if_pos om,b2p,b3y om];rfl
   ·rw[if_neg om,b39 om]
theorem azk (l:List (Value×Nat)) (off:Nat):∀C:Array Value,(l.foldl (fun cs (p:Value×Nat)=>cs.setIfInBounds (off+p.2) p.1) C).toList=l.foldl (fun cs (p:Value×Nat)=>cs.set (off+p.2) p.1) C.toList:=by
 induction l with
 | nil=>intro C;rfl
 | cons p l ih=>
  intro C;rw[b26,b26,ih,Array.toList_setIfInBounds]
theorem aba {place:Nat→Option (Nat×Nat)} {C:Array Value} {i off:Nat} {v:Value} {L:List Value} {rest:List (Nat×Value)} (hL:v.cells=L.toArray) (hp:place i=some (off,L.length)) (hb:off+L.length≤C.size) :
 Instr.fill place C ((i,v)::rest)=Instr.fill place (jg C.toList off L).toArray rest:=by
 rw[Instr.fill];simp only[hp,hL,o6];rw[if_neg (by simp;omega)]
 congr 1
 apply Array.toList_inj.1
 have e:(L.toArray.zipIdx).foldl (fun cs (x:Value×Nat)=>cs.setIfInBounds (off+x.2) x.1) C=(L.zipIdx).foldl (fun cs (p:Value×Nat)=>cs.setIfInBounds (off+p.2) p.1) C:=by
  rw[← Array.foldl_toList];simp
 show ((L.toArray.zipIdx).foldl (fun cs (x:Value×Nat)=>cs.setIfInBounds (off+x.2) x.1) C).toList=_;rw[e,azk,aq1 L off 0 C.toList (by simpa using hb)];rfl
theorem agm {α:Type} (A M D xs:List α) (h:xs.length=M.length):jg (A ++(M++D)) A.length xs=A ++(xs++D):=by
 unfold jg;rw[b46 rfl,h,← b1v,b49 rfl,b49 rfl,b0l]
theorem adx {P:Program} {w:World} {t:TypeId} {fs:Array Field} {z:Array Value} {pl:Array (Nat×Nat)} {parts:Array (Nat×Value)} {C:Array Value} (hu:P.underlying t=some (.struct fs)) (hz:(zeroValue t).run P w=.ok (.agg z) w)
 (hp:(fs.mapM fun f=>do pure (f.offset,← sizeOf f.type):Sem (Array (Nat×Nat))).run P w=.ok pl w) (hf:Instr.fill (fun i=>pl[i]?) z parts.toList=some C):(Instr.build t parts).run P w=.ok (.agg C) w:=by
 have hun:(underlying t).run P w=.ok (.struct fs) w:=b24 hu w;unfold Instr.build;simp only[b1k,hz,b1f,hun,hp];have h2:Instr.fill (fun x=>pl[x]?) (Value.agg z).cells parts.toList=some C:=hf;simp[h2]
