/- Layer 39, plain: bytes round the end. -/
import Derived.Test.YtdkhlkfleggbaaaGreatProg
import Derived.Test.YtdkhlkfleggbaaaGreatP00
import Derived.IntWalk
import Derived.Laws.BitsAllLaws
import Derived.Deep.RegionLaw
import Derived.Deep.DeepCutAuto
import Derived.Deep.CutBlock
import Derived.RegionTactic
import Derived.Deep.QuietTactic
import Derived.BigQuiet
import Derived.Lib.SlBuf
import Derived.Deep.RegionHeld3
import Derived.Lib.SliceRun
import Derived.Deep.LoopGhost
import Derived.Deep.MidRow
import Derived.OwnWalk
import Derived.Deep.RegionWith
import Derived.Laws.OwnMore
import Derived.Deep.AppendLies
import Derived.Stop.BytesEq
import Derived.WalkMore
import Derived.ScopeJumps
namespace Go.Proofs.YtdkhlkfleggbaaaGreat
set_option maxHeartbeats 4000000
set_option maxRecDepth 8000
open Lib (hid)
set_option linter.unusedVariables false
open Go.RowKit
def ac7 {α:Type} (D:List α) (o:Nat) (xs:List α):List α:=D.take o++xs++D.drop (o+xs.length)
theorem ant {α:Type} {D:List α} {o:Nat} {xs:List α} (h:o+xs.length≤D.length) (j:Nat):(ac7 D o xs)[j]?=if o≤j∧j<o+xs.length then xs[j-o]? else D[j]?:=by
 unfold ac7
 have hl:(D.take o).length=o:=by rw[List.length_take];omega
 by_cases h1:j<o
 ·rw[if_neg (by omega),List.append_assoc,List.getElem?_append_left (by omega),List.getElem?_take_of_lt h1]
 ·by_cases h2:j<o+xs.length
  ·rw[if_pos ⟨by omega,h2⟩,List.getElem?_append_left (by rw[List.length_append];omega),List.getElem?_append_right (by omega),hl]
  ·rw[if_neg (by omega),List.getElem?_append_right (by rw[List.length_append];omega),List.length_append,hl,List.getElem?_drop]
   congr 1;omega
def bV (c:UInt8):Value:=.int .u8 (c.toNat:Int)
def bsV (l:List UInt8):List Value:=l.map bV
theorem ab6 (l:List UInt8):(bsV l).length=l.length:=List.length_map _
theorem ajs (l m:List UInt8):bsV (l++m)=bsV l++bsV m:=List.map_append
theorem abn (l:List UInt8) (n:Nat):(bsV l).take n=bsV (l.take n):=(List.map_take ..).symm
theorem age (l:List UInt8) (n:Nat):(bsV l).drop n=bsV (l.drop n):=(List.map_drop ..).symm
theorem vu {l:List UInt8} {k:Nat} (h:k<l.length):(bsV l)[k]?=some (bV l[k]):=by
 unfold bsV;rw[List.getElem?_map,List.getElem?_eq_getElem h];rfl
theorem aju (l:List UInt8):∀v∈bsV l,v.oneCell'=true:=by
 intro v hv
 obtain⟨c,-,rfl⟩:=List.mem_map.1 hv
 rfl
def xr:List UInt8→Nat
 | []=>0
 | x::l=>x.toNat+256*xr l
theorem ag4:∀l:List UInt8,xr l<256^l.length
 | []=>by simp[xr]
 | x::l=>by
  have h:=ag4 l
  have hx:=x.toNat_lt
  simp only[xr,List.length_cons,Nat.pow_succ]
  omega
theorem ar0:∀(l:List UInt8) (x:UInt8),xr (l++[x])=xr l+x.toNat*256^l.length
 | [],x=>by simp[xr]
 | y::l,x=>by
  simp only[List.cons_append,xr,ar0 l x,List.length_cons,Nat.pow_succ]
  rw[Nat.mul_add,Nat.add_assoc,Nat.mul_comm 256 (x.toNat*_),Nat.mul_assoc]
theorem ao7 (l:List UInt8) (k:Nat) (h:k<l.length):xr (l.take (k+1))=xr (l.take k)+l[k].toNat*256^k:=by
 rw[List.take_succ_eq_append_getElem h,ar0,List.length_take,Nat.min_eq_left (Nat.le_of_lt h)]
theorem a83 (l:List UInt8) (h:l.length≤8):xr l<2^64:=by
 have h1:=ag4 l
 have h2:256^l.length≤256^8:=Nat.pow_le_pow_right (by decide) h
 omega
def a4d (n u:Nat):Int:=if u<2^(8*n-1)then(u:Int)else(u:Int)-(2^(8*n):Nat)
theorem a94 {k a c:Nat} (ha:a<2^k):a ||| (c*2^k)=a+c*2^k:=by
 rw[Nat.or_comm,Nat.mul_comm c,← Nat.two_pow_add_eq_or_of_lt ha,Nat.add_comm]
theorem a8x (k:Nat):256^k=2^(8*k):=by rw[show (256:Nat)=2^8 from rfl,← Nat.pow_mul]
theorem bgs (l:List UInt8) (k:Nat) (h:k<l.length) (h8:l.length≤8):bits .or .u64 (xr (l.take k):Int) (IntKind.u64.wrap (IntKind.u64.wrap (l[k].toNat:Int)*2^(8*k)))=(xr (l.take (k+1)):Int):=by
 have h1:xr (l.take k)<2^(8*k):=by
  have:=ag4 (l.take k)
  rwa [List.length_take,Nat.min_eq_left (Nat.le_of_lt h),a8x]at this
 have hx:=l[k].toNat_lt
 have h2:l[k].toNat*2^(8*k)<18446744073709551616:=by
  have:2^(8*k)≤2^56:=Nat.pow_le_pow_right (by decide) (by omega)
  have:=Nat.mul_le_mul (Nat.le_of_lt_succ (show l[k].toNat<255+1 from hx)) this
  omega
 have h3:2^(8*k)≤2^56:=Nat.pow_le_pow_right (by decide) (by omega)
 have e1:IntKind.u64.wrap (l[k].toNat:Int)=(l[k].toNat:Int):=IntWalk.u64_in _ (by omega)
 have e2:IntKind.u64.wrap (((l[k].toNat*2^(8*k):Nat)):Int)=((l[k].toNat*2^(8*k):Nat):Int):=IntWalk.u64_in _ (by omega)
 have e3:(l[k].toNat:Int)*2^(8*k)=((l[k].toNat*2^(8*k):Nat):Int):=by rw[Int.natCast_mul,Int.natCast_pow];rfl
 rw[e1,e3,e2,u64_or_nat _ _ (by omega) h2,a94 h1,ao7 l k h,a8x]
theorem a0s (n u:Nat) (h1:1≤n) (h8:n≤8) (hu:u<256^n):IntKind.i64.wrap (IntKind.u64.wrap ((u:Int)*2^(8*(8-n)))) / 2^(8*(8-n))=a4d n u:=by
 have:n=1∨n=2∨n=3∨n=4∨n=5∨n=6∨n=7∨n=8:=by omega
 unfold a4d
 rcases this with rfl|rfl|rfl|rfl|rfl|rfl|rfl|rfl<;>simp only[IntKind.wrap,IntKind.bits,IntKind.signed]at *<;>(try simp at *)<;>split<;>omega
structure Fld where
 sz:Nat
 sg:Bool
 lo:Int
 hi:Int
deriving DecidableEq
def ay7 (f:Fld):List Value:=[.int .i64 f.sz,.bool f.sg,.int .i64 f.lo,.int .i64 f.hi]
def abt (l:List Fld):List Value:=l.flatMap ay7
theorem ag9 {α:Type} (g:α→List Value) (m:Nat) (hg:∀x,(g x).length=m):∀(l:List α) (k:Nat) (h:k<l.length) (j:Nat),j<m →(l.flatMap g)[k*m+j]?=(g l[k])[j]?
 | [],k,h,_,_=>absurd h (Nat.not_lt_zero _)
 | x::l,0,_,j,hj=>by
  rw[List.flatMap_cons,Nat.zero_mul,Nat.zero_add,List.getElem?_append_left (by rw[hg];exact hj)];rfl
 | x::l,k+1,h,j,hj=>by
  rw[List.flatMap_cons,List.getElem?_append_right (by rw[hg,Nat.succ_mul];omega),hg,show (k+1)*m+j-m=k*m+j from by rw[Nat.succ_mul];omega]
  exact ag9 g m hg l k (by simpa using h) j hj
theorem aqn {α:Type} (g:α→List Value) (m:Nat) (hg:∀x,(g x).length=m) (l:List α):(l.flatMap g).length=l.length*m:=by
 induction l with
 | nil=>simp
 | cons f l ih=>rw[List.flatMap_cons,List.length_append,ih,hg,List.length_cons,Nat.succ_mul];omega
def a7w (n:Nat) (s:Bool):Int:=if s=true∨n=8 then(2^(8*n-1):Nat)-1 else(2^(8*n):Nat)-1
def a6v (n:Nat) (s:Bool):Int:=if s then -((2^(8*n-1):Nat):Int)else 0
def afo (n:Nat) (s:Bool):Fld:=⟨n,s,a6v n s,a7w n s⟩
def v9 (f:Fld):Bool:=decide (1≤f.sz) && (decide (f.sz≤8) && (decide (f.lo≤f.hi) && (decide (a6v f.sz f.sg≤f.lo) && (decide (f.lo≤a7w f.sz f.sg) && (decide (a6v f.sz f.sg≤f.hi) && decide (f.hi≤a7w f.sz f.sg))))))
def als (f:Fld) (b:List UInt8):Int:=if f.sg then a4d f.sz (xr b)else IntKind.i64.wrap (xr b)
def vi (l:List Fld):Nat:=(l.map (·.sz)).sum
def yl:List Fld→List UInt8→Option (List Int)
 | [],_=>some []
 | f::l,b=>if f.lo≤als f (b.take f.sz)∧als f (b.take f.sz)≤f.hi then(yl l (b.drop f.sz)).map (als f (b.take f.sz)::·)else none
def zy (l:List Fld) (b:List UInt8):Int×List Int:=
 if b.length<vi l then(2,[])else if vi l<b.length then(7,[])else
  match yl l b with
  | some v=>(0,v)
  | none=>(5,[])
def qo (v:List Int):List Value:=v.map (Value.int .i64)
theorem ja (v:List Int):(qo v).length=v.length:=List.length_map _
theorem akm:∀(l:List Fld) (b:List UInt8) {v:List Int},yl l b=some v→v.length=l.length
 | [],_,v,h=>by cases h;rfl
 | f::l,b,v,h=>by
  unfold yl at h
  split at h
  ·obtain⟨v',h',rfl⟩:=Option.map_eq_some_iff.1 h
   simp[akm l _ h']
  ·cases h
theorem qu.nil (w:World) (b o:Nat):qu w w b o []:=
 ⟨rfl,rfl,rfl,rfl,fun _ _=>rfl,fun _=>rfl,fun j v hv=>by simp at hv,fun _ _ h _=>h,fun _ _ _ h=>h⟩
section
variable {P : Program}
theorem apo (w:World) (dT sT ty elem:TypeId) (hu:P.underlying dT=some (.slice elem)) (hs:(P.info? elem).map (·.size)=some 1) {R:Nat→Prop} (b o dLen dCap:Nat) (X:Option Addr) (sLen sCap:Nat) (xs:List Value)
 (hx:qf R w X xs) (hl:xs.length=sLen) (h1:∀v∈xs,v.oneCell'=true) (ht:w.there b o (Nat.min sLen dLen)) :
 ∃W,(Builtin.copy_ #[dT,sT] ty #[.slice (some ⟨b,o,none⟩) dLen dCap,.slice X sLen sCap]).run P w=.ok (goInt (Nat.min sLen dLen)) W∧qu w W b o (xs.take (Nat.min sLen dLen)):=by
 by_cases h0:Nat.min sLen dLen=0
 ·refine⟨w,?_,?_⟩
  ·rw[h0];exact run_copy_none w dT sT ty elem _ _ dLen dCap sLen sCap hu hs h0
  ·rw[h0,List.take_zero];exact qu.nil w b o
 ·have hlen:(xs.take (Nat.min sLen dLen)).length=Nat.min sLen dLen:=by
   rw[List.length_take,hl];exact Nat.min_eq_left (Nat.min_le_left _ _)
  have hpos:0<xs.length:=by have:Nat.min sLen dLen≤sLen:=Nat.min_le_left _ _;omega
  obtain⟨xb,xo,hX,-,-⟩:=hx 0 xs[0] (List.getElem?_eq_getElem hpos)
  subst hX
  have hr:=run_copy_cells (P:=P) w dT sT ty elem b o dLen dCap ⟨xb,xo,none⟩ sLen sCap (xs.take (Nat.min sLen dLen)) hu hs hlen (fun j v hv=>by
   have hj:j<(xs.take (Nat.min sLen dLen)).length:=by
    rcases Nat.lt_or_ge j (xs.take (Nat.min sLen dLen)).length with q|q
    ·exact q
    ·rw[List.getElem?_eq_none q]at hv;cases hv
   rw[List.getElem?_take_of_lt (by omega)]at hv
   obtain⟨b',off,e1,-,e3⟩:=hx j v hv
   injection e1 with e1
   injection e1 with e1 e2
   subst e1 e2
   rw[abv]
   exact e3) (fun j hj=>by rw[hlen]at hj;exact(ht j hj).1) (fun j hj=>by rw[hlen]at hj;exact(ht j hj).2) (fun v hv=>h1 v (List.mem_of_mem_take hv))
  rw[hlen]at hr
  exact⟨_,hr,qm (by rw[hlen];exact ht)⟩
theorem al0 {w W:World} {ops:Array Oper} {o:Oper} {a:Act} {K:Act→World→Prop} {Q:Exit→Act→World→Prop} {E:Prop} (hgd:o.guard=none) (d s:Operand) (t t':TypeId)
 (ho:o.op=.call {callee:=.builtin .copy,args:=#[d,s],argTypes:=#[t,t']}) (v u r:Value) (hd:a.eval d=v) (hs:a.eval s=u)
 (hr:(Builtin.copy_ #[t,t'] o.type #[v,u]).run P w=.ok r W) (h:K (a.put o.dst r) W):if Region.wanted o (yielded ops a.tmps)=true then Oper.wp P o a w K Q else E:=by
 have hw:Region.wanted o (yielded ops a.tmps)=true:=by simp[Region.wanted,hgd]
 rw[if_pos hw]
 exact Lib.wp_copy_run w d s t t' ho v u hd hs hr h
end
theorem bci:(Tryz.prog.info? 5).map (·.size)=some 1:=by kernel_rfl
theorem ze.stored {S:Nat→Prop} {w w1 w2:World} {b o:Nat} {cs:List Value} (h:ze S w w1) (hs:qu w1 w2 b o cs) (hb:¬S b):ze S w w2:=
 h.trans ⟨hs.os,hs.tape,hs.output,by rw[hs.sz];exact Nat.le_refl _,fun k hk=>hs.far k (fun e=>hb (e▸hk))⟩
theorem qf.part {Q:Nat→Prop} {w:World} {b o:Nat} {xs:List Value} (h:qf Q w (some ⟨b,o,none⟩) xs) (k:Nat):qf Q w (some ⟨b,o+k,none⟩) (xs.drop k):=fun j u hu=>by
 rw[List.getElem?_drop]at hu
 obtain⟨b',off,e1,e2,e3⟩:=h _ u hu
 injection e1 with e1
 injection e1 with e1 e1'
 subst e1 e1'
 exact⟨b,o+k,rfl,e2,by rw[Nat.add_assoc];exact e3⟩
theorem qf.first {Q:Nat→Prop} {w:World} {A:Option Addr} {xs:List Value} (h:qf Q w A xs) (k:Nat):qf Q w A (xs.take k):=fun j u hu=>by
 have hj:j<k:=by
  rcases Nat.lt_or_ge j k with q|q
  ·exact q
  ·rw[List.getElem?_eq_none (by rw[List.length_take];omega)]at hu;cases hu
 rw[List.getElem?_take_of_lt hj]at hu
 exact h j u hu
theorem aym (c:Nat) (w:World):Calls Tryz.prog 92 #[.slice none 0 c] w fun e w'=>e=.returned (.slice none 0 0)∧Below w.heap.size w w':=by
 go_enter Tryz.func92,Tryz.ntmps92
 go_wp2_with fail
 rw[Lib.run_eql_slice_nil _ _ _ _ _ _ _ _ Tryz.underlying22]
 go_wp2_with fail
 go_ret
 exact⟨rfl,Below.refl _ _⟩
set_option maxRecDepth 100000 in
theorem a3h:∃i,Tryz.prog.info? 5=some i∧i.zero=some (.int .u8 0)∧i.size=1∧i.bytes=1:=⟨_,rfl,rfl,rfl,rfl⟩
theorem anv {Q:Nat→Prop} (A:Option Addr) (l:List UInt8) (c:Nat) (w:World) (hs:qf Q w A (bsV l)) (hn:l.length≤1000000) :
 Calls Tryz.prog 92 #[.slice A l.length c] w fun e w'=>∃B d,e=.returned (.slice B l.length d)∧qf (fun b=>w.heap.size≤b∧b<w'.heap.size) w' B (bsV l)∧l.length≤d∧Below w.heap.size w w':=by
 cases A with
 | none=>
  have h0:l=[]:=by
   cases l with
   | nil=>rfl
   | cons x l=>obtain⟨b,off,h,-⟩:=hs 0 _ rfl;cases h
  subst h0
  refine(aym c w).mono ?_
  rintro e w' ⟨rfl,h⟩
  exact⟨none,0,rfl,qf.nil _ _ _,Nat.le_refl _,h⟩
 | some a=>
  obtain⟨i0,hi,hz0,hz1,hz2⟩:=a3h
  obtain⟨n,hln⟩:∃n,l.length=n:=⟨_,rfl⟩
  have hown:(w.alloc (.cells #[] 5)).ownsRow w.heap.size 5 1 (.slice (some ⟨w.heap.size,0,none⟩) 0 0) 0 []:=World.ownsRow_made w #[] 0 (Nat.le_refl _) (by decide) rfl
  obtain⟨v',w2,hrun,h8,h9,-⟩:=j6 (P:=Tryz.prog) (w.alloc (.cells #[] 5)) 22 22 5 i0 _ 1 1 Tryz.underlying22 hi hz0 hz1 hz2 rfl (by decide) w.heap.size _ 0 [] hown (some a) n c (bsV l) (by rw[ab6,hln,Nat.mul_one]) (hs.lt.below (qa w _) (fun b h=>h.2)) (aju l) (by unfold maxLen;omega) (by omega) (by simp)
  rw[Nat.zero_add,List.nil_append]at h8
  have HE:Hid (∃B d,v'=.slice B n d∧qf (fun b=>w.heap.size≤b∧b<w2.heap.size) w2 B (bsV l)∧n≤d∧Below w.heap.size w w2):=by
   obtain⟨B,d,h1,hd,h2,-⟩:=xk h8
   refine⟨B,d,h1,h2,hd,(qa w _).trans ⟨h9.os,h9.tape,h9.output,h9.size,fun b hb=>h9.block b (by simp;omega) (fun e=>by simp[Value.ownBlock]at e;omega)⟩⟩
  have HR:=hid hrun
  rw[hln]at hn ⊢
  clear hs hln hown hrun h8 h9
  have EQ:∀W:World,(binOp .eql 22 (.slice (some a) n c) (.slice none 0 0)).run Tryz.prog W=.ok (.bool false) W:=fun W=>Lib.run_eql_slice_nil W 22 5 (some a) n c 0 0 Tryz.underlying22
  go_enter Tryz.func92,Tryz.ntmps92
  go_wp2_with (at_builtin;refine qz rfl _ _ 22 rfl _ _ _ rfl rfl HR.out ?_)
  go_ret
  obtain⟨B,d,h1,h2,h3,h4⟩:=HE.out
  exact⟨B,d,by rw[h1];rfl,h2,h3,h4⟩
def RdI (Q:Nat→Prop) (w:World) (a:Nat):Option (List UInt8)→Prop
 | some l=>Q a∧∃A c,Blk w a [.slice A l.length c,.bool true,.bool false]∧qf (fun b=>Q b∧b≠a) w A (bsV l)∧l.length≤c∧l.length≤1000000
 | none=>Q a∧Blk w a [.slice none 0 0,.bool true,.bool true]
theorem RdI.keep {Q:Nat→Prop} {w w':World} {a:Nat} {s:Option (List UInt8)} (h:RdI Q w a s) (hk:∀b,Q b→w'.heap[b]?=w.heap[b]?) (hz:w.heap.size≤w'.heap.size):RdI Q w' a s:=by
 cases s with
 | none=>exact⟨h.1,h.2.kept (hk a h.1) hz⟩
 | some l=>
  obtain⟨hq,A,c,h1,h2,h3⟩:=h
  exact⟨hq,A,c,h1.kept (hk a hq) hz,h2.keep fun b hb=>hk b hb.1,h3⟩
theorem RdI.below {Q:Nat→Prop} {w w':World} {a B:Nat} {s:Option (List UInt8)} (h:RdI Q w a s) (hb:Below B w w') (hq:∀b,Q b→b<B):RdI Q w' a s:=h.keep (fun b q=>hb.block b (hq b q)) hb.size
theorem RdI.drew {Q:Nat→Prop} {w:World} {a:Nat} {s:Option (List UInt8)} (h:RdI Q w a s):RdI Q w.drew a s:=h.keep (fun _ _=>rfl) (Nat.le_refl _)
theorem aig {Q:Nat→Prop} (A:Option Addr) (l:List UInt8) (c:Nat) (w:World) (hs:qf Q w A (bsV l)) (hn:l.length≤1000000) :
 Calls Tryz.prog 74 #[.slice A l.length c] w fun e w'=>∃g,e=.returned (.pointer (some ⟨g,0,none⟩))∧RdI (fun b=>w.heap.size≤b∧b<w'.heap.size) w' g (some l)∧Below w.heap.size w w':=by
 have HC:=hid (anv A l c w hs hn)
 generalize hL:l.length=L at *
 have HL:=hid hL
 clear hs hL
 go_enter Tryz.func74,Tryz.ntmps74
 go_wp2_with (refine HC.out.mono ?_;rintro e w1 ⟨B,d,rfl,hf,hd,hb⟩;have HF:=hid (And.intro hf (And.intro hd hb));clear hf hd hb)
 go_ret
 refine⟨w1.heap.size,rfl,?_,?_⟩
 ·refine⟨⟨HF.out.2.2.size,by simp⟩,B,d,?_,?_,by rw[HL.out];exact HF.out.2.1,by rw[HL.out];exact hn⟩
  ·rw[HL.out]
   exact Blk.newL (qg w1 _ _) rfl
  ·exact((HF.out.1.below (qa w1 _) (fun b q=>q.2))).less fun b q=>⟨⟨q.1,by simp;omega⟩,by omega⟩
 ·exact qb HF.out.2.2 (qa _ _)
theorem ad2 {Q:Nat→Prop} {w:World} {a:Nat} {s:Option (List UInt8)} (h:RdI Q w a s) :
 Calls Tryz.prog 127 #[.pointer (some ⟨a,0,none⟩)] w fun e w'=>e=.returned (.bool s.isSome)∧w=w':=by
 cases s with
 | none=>
  have c1:=h.2.cell 1 (v:=.bool true) rfl
  have c2:=h.2.cell 2 (v:=.bool true) rfl
  clear h
  go_enter Tryz.func127,Tryz.ntmps127
  go_wp2
  go_ret
  exact⟨rfl,rfl⟩
 | some l=>
  obtain⟨hq,A,c,h,-⟩:=h
  have c1:=h.cell 1 (v:=.bool true) rfl
  have c2:=h.cell 2 (v:=.bool false) rfl
  clear h
  go_enter Tryz.func127,Tryz.ntmps127
  go_wp2
  go_ret
  exact⟨rfl,rfl⟩
theorem ayn {Q:Nat→Prop} {w:World} {a:Nat} {s:Option (List UInt8)} (h:RdI Q w a s) :
 Calls Tryz.prog 128 #[.pointer (some ⟨a,0,none⟩)] w fun e w'=>e=.returned (.tuple #[])∧RdI Q w' a none∧ze (fun k=>k≠a) w w':=by
 have h0:Q a∧∃v b2,Blk w a [v,.bool true,.bool b2]:=by
  cases s with
  | none=>exact⟨h.1,_,_,h.2⟩
  | some l=>obtain⟨hq,A,c,h,-⟩:=h;exact⟨hq,_,_,h⟩
 obtain⟨hq,v,b2,hb⟩:=h0
 clear h
 have c0:=hb.cell 0 (v:=v) rfl
 have c2:=hb.cell 2 (v:=.bool b2) rfl
 have z0:=hb.fz 0
 have z2:=hb.fz 2
 have s1:qu w (w.setCell ⟨a,0,none⟩ (.slice none 0 0)) a 0 [.slice none 0 0]:=xw (hb.there 0 1 (by simp))
 have k1:Blk (w.setCell ⟨a,0,none⟩ (.slice none 0 0)) a [.slice none 0 0,.bool true,.bool b2]:=Blk.put (A:=[]) (M:=[v]) (D:=[.bool true,.bool b2]) hb s1 rfl rfl
 have s2:qu (w.setCell ⟨a,0,none⟩ (.slice none 0 0)) ((w.setCell ⟨a,0,none⟩ (.slice none 0 0)).setCell ⟨a,2,none⟩ (.bool true)) a 2 [.bool true]:=xw (k1.there 2 1 (by simp))
 have k2:Blk ((w.setCell ⟨a,0,none⟩ (.slice none 0 0)).setCell ⟨a,2,none⟩ (.bool true)) a [.slice none 0 0,.bool true,.bool true]:=Blk.put (A:=[.slice none 0 0,.bool true]) (M:=[.bool b2]) (D:=[]) k1 s2 rfl rfl
 have HF:Hid (RdI Q ((w.setCell ⟨a,0,none⟩ (.slice none 0 0)).setCell ⟨a,2,none⟩ (.bool true)) a none∧ze (fun k=>k≠a) w ((w.setCell ⟨a,0,none⟩ (.slice none 0 0)).setCell ⟨a,2,none⟩ (.bool true))):=hid ⟨⟨hq,k2⟩,((ze.refl _ w).stored s1 (fun q=>q rfl)).stored s2 (fun q=>q rfl)⟩
 clear s1 k1 s2 k2 hb hq
 go_enter Tryz.func128,Tryz.ntmps128
 go_wp2_with fail
 refine bodyPost_end (v:=.tuple #[]) (by simp[results,Tryz.results128,go_sem]) rfl ⟨rfl,HF.out⟩
theorem RdI.cut {Q:Nat→Prop} {w:World} {a b off c:Nat} {l:List UInt8} {n:Nat} (hq:Q a) (h:Blk w a [.slice (some ⟨b,off,none⟩) l.length c,.bool true,.bool false]) (hf:qf (fun b=>Q b∧b≠a) w (some ⟨b,off,none⟩) (bsV l)) (hn:n≤l.length) (hc:l.length≤c) (hm:l.length≤1000000) (o':Nat) (ho:o'=off+n∨c=n) :
 RdI Q (w.setCell ⟨a,0,none⟩ (.slice (some ⟨b,o',none⟩) (l.length-n) (c-n))) a (some (l.drop n))∧ze (fun k=>k≠a) w (w.setCell ⟨a,0,none⟩ (.slice (some ⟨b,o',none⟩) (l.length-n) (c-n))):=by
 have s1:qu w (w.setCell ⟨a,0,none⟩ (.slice (some ⟨b,o',none⟩) (l.length-n) (c-n))) a 0 [.slice (some ⟨b,o',none⟩) (l.length-n) (c-n)]:=xw (h.there 0 1 (by simp))
 have k1:Blk (w.setCell ⟨a,0,none⟩ (.slice (some ⟨b,o',none⟩) (l.length-n) (c-n))) a [.slice (some ⟨b,o',none⟩) (l.length-n) (c-n),.bool true,.bool false]:=Blk.put (A:=[]) (M:=[.slice (some ⟨b,off,none⟩) l.length c]) (D:=[.bool true,.bool false]) h s1 rfl rfl
 refine⟨⟨hq,some ⟨b,o',none⟩,c-n,by rw[List.length_drop];exact k1,?_,by rw[List.length_drop];omega,by rw[List.length_drop];omega⟩,(ze.refl _ w).stored s1 (fun q=>q rfl)⟩
 rcases ho with rfl|rfl
 ·have:=hf.part n
  rw[age]at this
  exact this.keep fun b' hb'=>s1.far b' hb'.2
 ·rw[List.drop_of_length_le (by omega)]
  exact qf.nil _ _ _
theorem auj {Q:Nat→Prop} {w:World} {a:Nat} {l:List UInt8} (n:Nat) (h:RdI Q w a (some l)) (h0:0<n) (hn:n≤l.length) :
 Calls Tryz.prog 93 #[.pointer (some ⟨a,0,none⟩),.int .i64 n] w fun e w'=>∃b off,e=.returned (.slice (some ⟨b,off,none⟩) n n)∧qf (fun b=>Q b∧b≠a) w' (some ⟨b,off,none⟩) (bsV (l.take n))∧RdI Q w' a (some (l.drop n))∧ze (fun k=>k≠a) w w':=by
 have HI:=hid (ad2 h)
 obtain⟨hq,A,c,hb,hf,hc,hm⟩:=h
 obtain⟨b,off,rfl,-,-⟩:=hf 0 (bV (l[0]'(by omega))) (vu (by omega))
 have HF:=hid (RdI.cut hq hb hf hn hc hm)
 have HT:Hid (qf (fun b=>Q b∧b≠a) w (some ⟨b,off,none⟩) (bsV (l.take n))):=hid (by have:=hf.first n;rwa [abn]at this)
 have c0:=hb.cell 0 (v:=.slice (some ⟨b,off,none⟩) l.length c) rfl
 have z0:=hb.fz 0
 generalize hL:l.length=L at *
 clear hb hf
 have g1:(n:Int)≤L:=by omega
 have g2:(L:Int)≤c:=by omega
 have g3:(0:Int)<n:=by omega
 go_enter Tryz.func93,Tryz.ntmps93
 go_wp2_with (refine HI.out.mono ?_;rintro e w' ⟨rfl,rfl⟩)
 ·have e1:=h
  have HF:=HF.out off (.inr e1)
  rw[e1,Nat.sub_self]at HF
  go_ret
  exact⟨b,off,rfl,HT.out.keep fun k hk=>HF.2.block k hk.2,HF⟩
 ·have HF:=HF.out (off+n) (.inl rfl)
  go_ret
  exact⟨b,off,rfl,HT.out.keep fun k hk=>HF.2.block k hk.2,HF⟩
theorem atl {Q:Nat→Prop} {w:World} {a:Nat} (n:Int) (h:RdI Q w a none) :
 Calls Tryz.prog 93 #[.pointer (some ⟨a,0,none⟩),.int .i64 n] w fun e w'=>e=.returned (.slice none 0 0)∧w=w':=by
 have HI:=hid (ad2 h)
 go_enter Tryz.func93,Tryz.ntmps93
 go_wp2_with (refine HI.out.mono ?_;rintro e w' ⟨rfl,rfl⟩)
 go_ret
 exact⟨rfl,rfl⟩
theorem ayl {Q:Nat→Prop} {w:World} {a:Nat} {l:List UInt8} (n:Int) (h:RdI Q w a (some l)) (hn:n<0 ∨(l.length:Int)<n) :
 Calls Tryz.prog 93 #[.pointer (some ⟨a,0,none⟩),.int .i64 n] w fun e w'=>e=.returned (.slice none 0 0)∧RdI Q w' a none∧ze (fun k=>k≠a) w w':=by
 have HI:=hid (ad2 h)
 have HX:=hid (ayn h)
 obtain⟨hq,A,c,hb,hf,hc,hm⟩:=h
 have c0:=hb.cell 0 (v:=.slice A l.length c) rfl
 generalize hL:l.length=L at *
 clear hb hf
 by_cases h1:n<0
 ·clear hn
  go_enter Tryz.func93,Tryz.ntmps93
  go_wp2_with (first|(refine HI.out.mono ?_;rintro e w' ⟨rfl,rfl⟩)|(refine HX.out.mono ?_;rintro e w' ⟨rfl,hr,hk⟩;have HF:=hid (And.intro hr hk);clear hr hk))
  go_ret
  exact⟨rfl,HF.out⟩
 ·have h2:(L:Int)<n:=by omega
  clear hn
  go_enter Tryz.func93,Tryz.ntmps93
  go_wp2_with (first|(refine HI.out.mono ?_;rintro e w' ⟨rfl,rfl⟩)|(refine HX.out.mono ?_;rintro e w' ⟨rfl,hr,hk⟩;have HF:=hid (And.intro hr hk);clear hr hk))
  go_ret
  exact⟨rfl,HF.out⟩
theorem ai6 {Q:Nat→Prop} {w:World} {a:Nat} {l:List UInt8} (h:RdI Q w a (some l)) :
 Calls Tryz.prog 291 #[.pointer (some ⟨a,0,none⟩)] w fun e w'=>e=.returned (.int .i64 l.length)∧w=w':=by
 obtain⟨hq,A,c,hb,hf,hc,hm⟩:=h
 have c0:=hb.cell 0 (v:=.slice A l.length c) rfl
 clear hb hf hq
 go_enter Tryz.func291,Tryz.ntmps291
 go_wp2
 go_ret
 exact⟨rfl,rfl⟩
theorem ai2 {Q:Nat→Prop} {w:World} {a:Nat} {s:Option (List UInt8)} (h:RdI Q w a s) :
 Calls Tryz.prog 293 #[.pointer (some ⟨a,0,none⟩)] w fun e w'=>e=.returned (.bool (!s.isSome))∧w=w':=by
 have HI:=hid (ad2 h)
 generalize s.isSome=b at *
 clear h
 cases b
 ·go_enter Tryz.func293,Tryz.ntmps293
  go_wp2_with (refine HI.out.mono ?_;rintro e w' ⟨rfl,rfl⟩)
  go_ret
  exact⟨rfl,rfl⟩
 ·go_enter Tryz.func293,Tryz.ntmps293
  go_wp2_with (refine HI.out.mono ?_;rintro e w' ⟨rfl,rfl⟩)
  go_ret
  exact⟨rfl,rfl⟩
theorem aby {Q:Nat→Prop} {w:World} {a:Nat} {l:List UInt8} (n:Nat) (h:RdI Q w a (some l)) (h1:1≤n) (h8:n≤8) (hn:n≤l.length) :
 Calls Tryz.prog 75 #[.pointer (some ⟨a,0,none⟩),.int .i64 n] w fun e w'=>e=.returned (.int .u64 (xr (l.take n):Int))∧RdI Q w' a (some (l.drop n))∧ze (fun k=>k≠a) w w':=by
 have HN:=hid (auj n h (by omega) hn)
 have hl:(l.take n).length=n:=by rw[List.length_take];omega
 generalize l.take n=T at *
 have HL:=hid hl
 have b1:¬(n:Int)<1:=by omega
 have b2:¬(n:Int) > 8:=by omega
 clear h hn hl
 go_enter Tryz.func75,Tryz.ntmps75
 go_wp2_with (refine HN.out.mono ?_;rintro e w' ⟨b,off,rfl,hf,hr,hk⟩;have HF:=hid hf;have HR:=hid (And.intro hr hk);clear hf hr hk)
 go_loopg [5,18] n (fun g s5 s18 wr=>∃k:Nat,k≤n∧n-k≤g∧s18=.int .i64 k∧s5=.int .u64 (xr (T.take k):Int)∧wr=w')
 case atStart=>exact⟨0,Nat.zero_le _,by omega,rfl,rfl,rfl⟩
 case round=>
  obtain⟨k,hk,hg,rfl,rfl,rfl⟩:=hrel
  by_cases hlt:k<n
  ·have hkT:k<T.length:=by rw[HL.out];exact hlt
   obtain⟨b',o',e1,-,hc⟩:=HF.out k (bV (T[k]'hkT)) (vu hkT)
   injection e1 with e1
   injection e1 with e1 e2
   subst e1 e2
   have i1:(k:Int)<n:=by omega
   have i2:(0:Int) ≤(k:Int):=Int.natCast_nonneg _
   have HO:=hid (bgs T k hkT (by rw[HL.out];exact h8))
   unfold bV at hc
   generalize T[k]=x at *
   go_wp2_with fail
   go_roundg (n-(k+1))
   case measure=>omega
   case rel=>exact⟨k+1,by omega,by omega,by go_num,congrArg (Value.int .u64) HO.out,rfl⟩
  ·obtain rfl:k=n:=by omega
   go_wp2_with fail
   go_ret
   refine⟨?_,HR.out⟩
   rw[List.take_of_length_le (by rw[HL.out];exact Nat.le_refl _)]
   rfl
theorem a9a {Q:Nat→Prop} {w:World} {a:Nat} {s:Option (List UInt8)} (n:Nat) (h:RdI Q w a s) (h1:1≤n) (h8:n≤8) (hs:∀l,s=some l→l.length<n) :
 Calls Tryz.prog 75 #[.pointer (some ⟨a,0,none⟩),.int .i64 n] w fun e w'=>e=.returned (.int .u64 0)∧RdI Q w' a none∧ze (fun k=>k≠a) w w':=by
 have HN:Hid (Calls Tryz.prog 93 #[.pointer (some ⟨a,0,none⟩),.int .i64 n] w fun e w'=>e=.returned (.slice none 0 0)∧RdI Q w' a none∧ze (fun k=>k≠a) w w'):=by
  cases s with
  | none=>
   refine(atl n h).mono ?_
   rintro e w' ⟨rfl,rfl⟩
   exact⟨rfl,h,ze.refl _ _⟩
  | some l=>exact ayl n h (.inr (by have:=hs l rfl;omega))
 have b1:¬(n:Int)<1:=by omega
 have b2:¬(n:Int) > 8:=by omega
 clear h hs
 go_enter Tryz.func75,Tryz.ntmps75
 go_wp2_with (refine HN.out.mono ?_;rintro e w' ⟨rfl,hr,hk⟩;have HR:=hid (And.intro hr hk);clear hr hk)
 go_loopg [5,18] 0 (fun g s5 s18 wr=>s18=.int .i64 0∧s5=.int .u64 0∧wr=w')
 case atStart=>exact⟨rfl,rfl,rfl⟩
 case round=>
  obtain⟨rfl,rfl,rfl⟩:=hrel
  go_wp2_with fail
  go_ret
  exact⟨rfl,HR.out⟩
theorem a5s {Q:Nat→Prop} {w:World} {a:Nat} {l:List UInt8} (n:Nat) (h:RdI Q w a (some l)) (h1:1≤n) (h8:n≤8) (hn:n≤l.length) :
 Calls Tryz.prog 200 #[.pointer (some ⟨a,0,none⟩),.int .i64 n] w fun e w'=>e=.returned (.int .i64 (a4d n (xr (l.take n))))∧RdI Q w' a (some (l.drop n))∧ze (fun k=>k≠a) w w':=by
 have HN:=hid (aby n h h1 h8 hn)
 have hu:xr (l.take n)<256^n:=by have:=ag4 (l.take n);rwa [List.length_take,Nat.min_eq_left hn]at this
 have HS:=hid (a0s n _ h1 h8 hu)
 generalize xr (l.take n)=u at *
 have b1:¬(n:Int)<1:=by omega
 have b2:¬(n:Int) > 8:=by omega
 clear h hu hn
 go_enter Tryz.func200,Tryz.ntmps200
 go_wp2_with (refine HN.out.mono ?_;rintro e w' ⟨rfl,hr,hk⟩;have HR:=hid (And.intro hr hk);clear hr hk)
 go_ret
 refine⟨?_,HR.out⟩
 have e:=HS.out
 rw[IntWalk.i64_left]at e
 exact congrArg (fun x=>Ending.returned (.int .i64 x)) e
theorem zm (n:Int) (w:World):Calls Tryz.prog 197 #[.int .i64 n] w fun e w'=>e=.returned (.bool (decide (1≤n) && decide (n≤8)))∧w=w':=by
 by_cases h1:1≤n
 ·by_cases h2:n≤8
  ·go_enter Tryz.func197,Tryz.ntmps197
   go_wp2
   go_ret
   exact⟨by simp[h1,h2],rfl⟩
  ·have h2':8<n:=by omega
   go_enter Tryz.func197,Tryz.ntmps197
   go_wp2
   go_ret
   exact⟨by simp;omega,rfl⟩
 ·have h1':n<1:=by omega
  go_enter Tryz.func197,Tryz.ntmps197
  go_wp2
  go_ret
  exact⟨by simp;omega,rfl⟩
def aa6 (f:Fld):Value:=.agg #[.int .i64 f.sz,.bool f.sg,.int .i64 f.lo,.int .i64 f.hi]
theorem qk {fn:Func} {p:Tmp} {ty:TypeId} (h:fn.results=#[.cell p ty]) (tmps:Array Value) (P:Program) (w:World) :
 (results fn tmps).run P w=((asAddr (tmps.getD p undef)).run P w).andThen fun a w₁=>(loadVar ty a).run P w₁:=by
 simp only[results,h]
 simp[Sem.run_bind,Result.andThen]
theorem jp {W:World} {b:Nat} {f:Fld} (h:Blk W b (ay7 f)):(loadVar 270 ⟨b,0,none⟩).run Tryz.prog W=.ok (aa6 f) W:=
 run_loadVar_mid (P:=Tryz.prog) W b 0 270 (ay7 f) _ h.rg Tryz.underlying270 rfl (by kernel_rfl)
theorem ka (w:World) (C:Array Value) (C':Array Value) (t t':TypeId):Blk ((w.alloc (.cells C t)).alloc (.cells C' t')) w.heap.size C.toList∧Below w.heap.size w ((w.alloc (.cells C t)).alloc (.cells C' t')):=
 ⟨(Blk.newL (qg w C t) rfl).on (qa _ _),qb (qa _ _) (qa _ _)⟩
def vl (f:Fld) (w:World) (e:Ending) (w':World):Prop:=e=.returned (aa6 f)∧Below w.heap.size w w'
theorem aen (w:World):Calls Tryz.prog 122 #[.int .i64 1,.bool false] w (vl ⟨1,false,0,255⟩ w):=by
 have HF:=fun W=>hid (zm 1 W)
 go_enter Tryz.func122,Tryz.ntmps122
 go_wp2_with (refine(HF _).out.mono ?_;rintro e w' ⟨rfl,rfl⟩)
 have H2:=ka w #[.int .i64 1,.bool false,.int .i64 0,.int .i64 255] #[.int .i64 1,.bool false,.int .i64 0,.int .i64 255] 270 270
 have HLD:=hid (jp (f:=⟨1,false,0,255⟩) H2.1)
 refine bodyPost_ret (v:=aa6 ⟨1,false,0,255⟩) (by rw[qk rfl];simp[asAddr,Result.andThen,HLD.out]) rfl ⟨rfl,H2.2⟩
theorem a59 (w:World):Calls Tryz.prog 122 #[.int .i64 1,.bool true] w (vl ⟨1,true,(-128),127⟩ w):=by
 have HF:=fun W=>hid (zm 1 W)
 have hx:bits BinOp.xor IntKind.i64 (-1) 127=-128:=by decide
 go_enter Tryz.func122,Tryz.ntmps122
 go_wp2_with (refine(HF _).out.mono ?_;rintro e w' ⟨rfl,rfl⟩)
 have H2:=ka w #[.int .i64 1,.bool true,.int .i64 (-128),.int .i64 127] #[.int .i64 1,.bool true,.int .i64 (-128),.int .i64 127] 270 270
 have HLD:=hid (jp (f:=⟨1,true,(-128),127⟩) H2.1)
 refine bodyPost_ret (v:=aa6 ⟨1,true,(-128),127⟩) (by rw[qk rfl];simp[asAddr,Result.andThen,HLD.out]) rfl ⟨rfl,H2.2⟩
theorem akf (w:World):Calls Tryz.prog 122 #[.int .i64 2,.bool false] w (vl ⟨2,false,0,65535⟩ w):=by
 have HF:=fun W=>hid (zm 2 W)
 go_enter Tryz.func122,Tryz.ntmps122
 go_wp2_with (refine(HF _).out.mono ?_;rintro e w' ⟨rfl,rfl⟩)
 have H2:=ka w #[.int .i64 2,.bool false,.int .i64 0,.int .i64 65535] #[.int .i64 2,.bool false,.int .i64 0,.int .i64 65535] 270 270
 have HLD:=hid (jp (f:=⟨2,false,0,65535⟩) H2.1)
 refine bodyPost_ret (v:=aa6 ⟨2,false,0,65535⟩) (by rw[qk rfl];simp[asAddr,Result.andThen,HLD.out]) rfl ⟨rfl,H2.2⟩
theorem arh (w:World):Calls Tryz.prog 122 #[.int .i64 2,.bool true] w (vl ⟨2,true,(-32768),32767⟩ w):=by
 have HF:=fun W=>hid (zm 2 W)
 have hx:bits BinOp.xor IntKind.i64 (-1) 32767=-32768:=by decide
 go_enter Tryz.func122,Tryz.ntmps122
 go_wp2_with (refine(HF _).out.mono ?_;rintro e w' ⟨rfl,rfl⟩)
 have H2:=ka w #[.int .i64 2,.bool true,.int .i64 (-32768),.int .i64 32767] #[.int .i64 2,.bool true,.int .i64 (-32768),.int .i64 32767] 270 270
 have HLD:=hid (jp (f:=⟨2,true,(-32768),32767⟩) H2.1)
 refine bodyPost_ret (v:=aa6 ⟨2,true,(-32768),32767⟩) (by rw[qk rfl];simp[asAddr,Result.andThen,HLD.out]) rfl ⟨rfl,H2.2⟩
theorem a5l (w:World):Calls Tryz.prog 122 #[.int .i64 3,.bool false] w (vl ⟨3,false,0,16777215⟩ w):=by
 have HF:=fun W=>hid (zm 3 W)
 go_enter Tryz.func122,Tryz.ntmps122
 go_wp2_with (refine(HF _).out.mono ?_;rintro e w' ⟨rfl,rfl⟩)
 have H2:=ka w #[.int .i64 3,.bool false,.int .i64 0,.int .i64 16777215] #[.int .i64 3,.bool false,.int .i64 0,.int .i64 16777215] 270 270
 have HLD:=hid (jp (f:=⟨3,false,0,16777215⟩) H2.1)
 refine bodyPost_ret (v:=aa6 ⟨3,false,0,16777215⟩) (by rw[qk rfl];simp[asAddr,Result.andThen,HLD.out]) rfl ⟨rfl,H2.2⟩
theorem a5w (w:World):Calls Tryz.prog 122 #[.int .i64 3,.bool true] w (vl ⟨3,true,(-8388608),8388607⟩ w):=by
 have HF:=fun W=>hid (zm 3 W)
 have hx:bits BinOp.xor IntKind.i64 (-1) 8388607=-8388608:=by decide
 go_enter Tryz.func122,Tryz.ntmps122
 go_wp2_with (refine(HF _).out.mono ?_;rintro e w' ⟨rfl,rfl⟩)
 have H2:=ka w #[.int .i64 3,.bool true,.int .i64 (-8388608),.int .i64 8388607] #[.int .i64 3,.bool true,.int .i64 (-8388608),.int .i64 8388607] 270 270
 have HLD:=hid (jp (f:=⟨3,true,(-8388608),8388607⟩) H2.1)
 refine bodyPost_ret (v:=aa6 ⟨3,true,(-8388608),8388607⟩) (by rw[qk rfl];simp[asAddr,Result.andThen,HLD.out]) rfl ⟨rfl,H2.2⟩
theorem aj8 (w:World):Calls Tryz.prog 122 #[.int .i64 4,.bool false] w (vl ⟨4,false,0,4294967295⟩ w):=by
 have HF:=fun W=>hid (zm 4 W)
 go_enter Tryz.func122,Tryz.ntmps122
 go_wp2_with (refine(HF _).out.mono ?_;rintro e w' ⟨rfl,rfl⟩)
 have H2:=ka w #[.int .i64 4,.bool false,.int .i64 0,.int .i64 4294967295] #[.int .i64 4,.bool false,.int .i64 0,.int .i64 4294967295] 270 270
 have HLD:=hid (jp (f:=⟨4,false,0,4294967295⟩) H2.1)
 refine bodyPost_ret (v:=aa6 ⟨4,false,0,4294967295⟩) (by rw[qk rfl];simp[asAddr,Result.andThen,HLD.out]) rfl ⟨rfl,H2.2⟩
theorem aq1 (w:World):Calls Tryz.prog 122 #[.int .i64 4,.bool true] w (vl ⟨4,true,(-2147483648),2147483647⟩ w):=by
 have HF:=fun W=>hid (zm 4 W)
 have hx:bits BinOp.xor IntKind.i64 (-1) 2147483647=-2147483648:=by decide
 go_enter Tryz.func122,Tryz.ntmps122
 go_wp2_with (refine(HF _).out.mono ?_;rintro e w' ⟨rfl,rfl⟩)
 have H2:=ka w #[.int .i64 4,.bool true,.int .i64 (-2147483648),.int .i64 2147483647] #[.int .i64 4,.bool true,.int .i64 (-2147483648),.int .i64 2147483647] 270 270
 have HLD:=hid (jp (f:=⟨4,true,(-2147483648),2147483647⟩) H2.1)
 refine bodyPost_ret (v:=aa6 ⟨4,true,(-2147483648),2147483647⟩) (by rw[qk rfl];simp[asAddr,Result.andThen,HLD.out]) rfl ⟨rfl,H2.2⟩
theorem a7s (w:World):Calls Tryz.prog 122 #[.int .i64 5,.bool false] w (vl ⟨5,false,0,1099511627775⟩ w):=by
 have HF:=fun W=>hid (zm 5 W)
 go_enter Tryz.func122,Tryz.ntmps122
 go_wp2_with (refine(HF _).out.mono ?_;rintro e w' ⟨rfl,rfl⟩)
 have H2:=ka w #[.int .i64 5,.bool false,.int .i64 0,.int .i64 1099511627775] #[.int .i64 5,.bool false,.int .i64 0,.int .i64 1099511627775] 270 270
 have HLD:=hid (jp (f:=⟨5,false,0,1099511627775⟩) H2.1)
 refine bodyPost_ret (v:=aa6 ⟨5,false,0,1099511627775⟩) (by rw[qk rfl];simp[asAddr,Result.andThen,HLD.out]) rfl ⟨rfl,H2.2⟩
theorem a78 (w:World):Calls Tryz.prog 122 #[.int .i64 5,.bool true] w (vl ⟨5,true,(-549755813888),549755813887⟩ w):=by
 have HF:=fun W=>hid (zm 5 W)
 have hx:bits BinOp.xor IntKind.i64 (-1) 549755813887=-549755813888:=by decide
 go_enter Tryz.func122,Tryz.ntmps122
 go_wp2_with (refine(HF _).out.mono ?_;rintro e w' ⟨rfl,rfl⟩)
 have H2:=ka w #[.int .i64 5,.bool true,.int .i64 (-549755813888),.int .i64 549755813887] #[.int .i64 5,.bool true,.int .i64 (-549755813888),.int .i64 549755813887] 270 270
 have HLD:=hid (jp (f:=⟨5,true,(-549755813888),549755813887⟩) H2.1)
 refine bodyPost_ret (v:=aa6 ⟨5,true,(-549755813888),549755813887⟩) (by rw[qk rfl];simp[asAddr,Result.andThen,HLD.out]) rfl ⟨rfl,H2.2⟩
theorem a5z (w:World):Calls Tryz.prog 122 #[.int .i64 6,.bool false] w (vl ⟨6,false,0,281474976710655⟩ w):=by
 have HF:=fun W=>hid (zm 6 W)
 go_enter Tryz.func122,Tryz.ntmps122
 go_wp2_with (refine(HF _).out.mono ?_;rintro e w' ⟨rfl,rfl⟩)
 have H2:=ka w #[.int .i64 6,.bool false,.int .i64 0,.int .i64 281474976710655] #[.int .i64 6,.bool false,.int .i64 0,.int .i64 281474976710655] 270 270
 have HLD:=hid (jp (f:=⟨6,false,0,281474976710655⟩) H2.1)
 refine bodyPost_ret (v:=aa6 ⟨6,false,0,281474976710655⟩) (by rw[qk rfl];simp[asAddr,Result.andThen,HLD.out]) rfl ⟨rfl,H2.2⟩
theorem a6i (w:World):Calls Tryz.prog 122 #[.int .i64 6,.bool true] w (vl ⟨6,true,(-140737488355328),140737488355327⟩ w):=by
 have HF:=fun W=>hid (zm 6 W)
 have hx:bits BinOp.xor IntKind.i64 (-1) 140737488355327=-140737488355328:=by decide
 go_enter Tryz.func122,Tryz.ntmps122
 go_wp2_with (refine(HF _).out.mono ?_;rintro e w' ⟨rfl,rfl⟩)
 have H2:=ka w #[.int .i64 6,.bool true,.int .i64 (-140737488355328),.int .i64 140737488355327] #[.int .i64 6,.bool true,.int .i64 (-140737488355328),.int .i64 140737488355327] 270 270
 have HLD:=hid (jp (f:=⟨6,true,(-140737488355328),140737488355327⟩) H2.1)
 refine bodyPost_ret (v:=aa6 ⟨6,true,(-140737488355328),140737488355327⟩) (by rw[qk rfl];simp[asAddr,Result.andThen,HLD.out]) rfl ⟨rfl,H2.2⟩
theorem a5t (w:World):Calls Tryz.prog 122 #[.int .i64 7,.bool false] w (vl ⟨7,false,0,72057594037927935⟩ w):=by
 have HF:=fun W=>hid (zm 7 W)
 go_enter Tryz.func122,Tryz.ntmps122
 go_wp2_with (refine(HF _).out.mono ?_;rintro e w' ⟨rfl,rfl⟩)
 have H2:=ka w #[.int .i64 7,.bool false,.int .i64 0,.int .i64 72057594037927935] #[.int .i64 7,.bool false,.int .i64 0,.int .i64 72057594037927935] 270 270
 have HLD:=hid (jp (f:=⟨7,false,0,72057594037927935⟩) H2.1)
 refine bodyPost_ret (v:=aa6 ⟨7,false,0,72057594037927935⟩) (by rw[qk rfl];simp[asAddr,Result.andThen,HLD.out]) rfl ⟨rfl,H2.2⟩
theorem a6w (w:World):Calls Tryz.prog 122 #[.int .i64 7,.bool true] w (vl ⟨7,true,(-36028797018963968),36028797018963967⟩ w):=by
 have HF:=fun W=>hid (zm 7 W)
 have hx:bits BinOp.xor IntKind.i64 (-1) 36028797018963967=-36028797018963968:=by decide
 go_enter Tryz.func122,Tryz.ntmps122
 go_wp2_with (refine(HF _).out.mono ?_;rintro e w' ⟨rfl,rfl⟩)
 have H2:=ka w #[.int .i64 7,.bool true,.int .i64 (-36028797018963968),.int .i64 36028797018963967] #[.int .i64 7,.bool true,.int .i64 (-36028797018963968),.int .i64 36028797018963967] 270 270
 have HLD:=hid (jp (f:=⟨7,true,(-36028797018963968),36028797018963967⟩) H2.1)
 refine bodyPost_ret (v:=aa6 ⟨7,true,(-36028797018963968),36028797018963967⟩) (by rw[qk rfl];simp[asAddr,Result.andThen,HLD.out]) rfl ⟨rfl,H2.2⟩
theorem a6r (w:World):Calls Tryz.prog 122 #[.int .i64 8,.bool false] w (vl ⟨8,false,0,9223372036854775807⟩ w):=by
 have HF:=fun W=>hid (zm 8 W)
 go_enter Tryz.func122,Tryz.ntmps122
 go_wp2_with (refine(HF _).out.mono ?_;rintro e w' ⟨rfl,rfl⟩)
 have H2:=ka w #[.int .i64 8,.bool false,.int .i64 0,.int .i64 9223372036854775807] #[.int .i64 8,.bool false,.int .i64 0,.int .i64 9223372036854775807] 270 270
 have HLD:=hid (jp (f:=⟨8,false,0,9223372036854775807⟩) H2.1)
 refine bodyPost_ret (v:=aa6 ⟨8,false,0,9223372036854775807⟩) (by rw[qk rfl];simp[asAddr,Result.andThen,HLD.out]) rfl ⟨rfl,H2.2⟩
theorem a6z (w:World):Calls Tryz.prog 122 #[.int .i64 8,.bool true] w (vl ⟨8,true,(-9223372036854775808),9223372036854775807⟩ w):=by
 have HF:=fun W=>hid (zm 8 W)
 have hx:bits BinOp.xor IntKind.i64 (-1) 9223372036854775807=-9223372036854775808:=by decide
 go_enter Tryz.func122,Tryz.ntmps122
 go_wp2_with (refine(HF _).out.mono ?_;rintro e w' ⟨rfl,rfl⟩)
 have H2:=ka w #[.int .i64 8,.bool true,.int .i64 (-9223372036854775808),.int .i64 9223372036854775807] #[.int .i64 8,.bool true,.int .i64 (-9223372036854775808),.int .i64 9223372036854775807] 270 270
 have HLD:=hid (jp (f:=⟨8,true,(-9223372036854775808),9223372036854775807⟩) H2.1)
 refine bodyPost_ret (v:=aa6 ⟨8,true,(-9223372036854775808),9223372036854775807⟩) (by rw[qk rfl];simp[asAddr,Result.andThen,HLD.out]) rfl ⟨rfl,H2.2⟩
theorem an5 (n:Nat) (s:Bool) (w:World) (h1:1≤n) (h8:n≤8):Calls Tryz.prog 122 #[.int .i64 n,.bool s] w (vl (afo n s) w):=by
 have:n=1∨n=2∨n=3∨n=4∨n=5∨n=6∨n=7∨n=8:=by omega
 rcases this with rfl|rfl|rfl|rfl|rfl|rfl|rfl|rfl<;>cases s
 ·exact aen w
 ·exact a59 w
 ·exact akf w
 ·exact arh w
 ·exact a5l w
 ·exact a5w w
 ·exact aj8 w
 ·exact aq1 w
 ·exact a7s w
 ·exact a78 w
 ·exact a5z w
 ·exact a6i w
 ·exact a5t w
 ·exact a6w w
 ·exact a6r w
 ·exact a6z w
theorem jl (n:Nat) (hi:Int) (w:World) (h1:1≤n) (h8:n≤8):Calls Tryz.prog 261 #[.int .i64 n,.int .i64 hi] w (vl ⟨n,false,0,hi⟩ w):=by
 have e:(decide (1 ≤(n:Int)) && decide ((n:Int)≤8))=true:=by simp;omega
 have HF:=fun W=>hid (e▸zm (n:Int) W)
 clear e
 go_enter Tryz.func261,Tryz.ntmps261
 go_wp2_with (refine(HF _).out.mono ?_;rintro e w' ⟨rfl,rfl⟩)
 have HLD:=hid (jp (f:=⟨n,false,0,hi⟩) (Blk.newL (qg w #[.int .i64 n,.bool false,.int .i64 0,.int .i64 hi] 270) rfl))
 refine bodyPost_ret (v:=aa6 ⟨n,false,0,hi⟩) (by rw[qk rfl];simp[asAddr,Result.andThen,HLD.out]) rfl ⟨rfl,qa _ _⟩
theorem ac9 (n:Nat) (lo hi:Int) (w:World) (h1:1≤n) (h8:n≤8):Calls Tryz.prog 260 #[.int .i64 n,.int .i64 lo,.int .i64 hi] w (vl ⟨n,true,lo,hi⟩ w):=by
 have e:(decide (1 ≤(n:Int)) && decide ((n:Int)≤8))=true:=by simp;omega
 have HF:=fun W=>hid (e▸zm (n:Int) W)
 clear e
 go_enter Tryz.func260,Tryz.ntmps260
 go_wp2_with (refine(HF _).out.mono ?_;rintro e w' ⟨rfl,rfl⟩)
 have HLD:=hid (jp (f:=⟨n,true,lo,hi⟩) (Blk.newL (qg w #[.int .i64 n,.bool true,.int .i64 lo,.int .i64 hi] 270) rfl))
 refine bodyPost_ret (v:=aa6 ⟨n,true,lo,hi⟩) (by rw[qk rfl];simp[asAddr,Result.andThen,HLD.out]) rfl ⟨rfl,qa _ _⟩
theorem ajz (f:Fld) (n:Int) (w:World):Calls Tryz.prog 126 #[aa6 f,.int .i64 n] w fun e w'=>e=.returned (.bool (decide (f.lo≤n∧n≤f.hi)))∧Below w.heap.size w w':=by
 obtain⟨z,s,lo,hi⟩:=f
 unfold aa6
 dsimp only
 by_cases h1:lo≤n
 ·by_cases h2:n≤hi
  ·go_enter Tryz.func126,Tryz.ntmps126
   go_wp2
   go_ret
   exact⟨by simp[h1,h2],qa _ _⟩
  ·have h2':hi<n:=by omega
   go_enter Tryz.func126,Tryz.ntmps126
   go_wp2
   go_ret
   exact⟨by simp[h2],qa _ _⟩
 ·have h1':n<lo:=by omega
  go_enter Tryz.func126,Tryz.ntmps126
  go_wp2
  go_ret
  exact⟨by simp;omega,qa _ _⟩
theorem atu (f:Fld) (h:v9 f=true) (w:World):Calls Tryz.prog 198 #[aa6 f] w fun e w'=>e=.returned (.bool true)∧Below w.heap.size w w':=by
 have h':1≤f.sz∧f.sz≤8∧f.lo≤f.hi ∧(a6v f.sz f.sg≤f.lo∧f.lo≤a7w f.sz f.sg)∧a6v f.sz f.sg≤f.hi∧f.hi≤a7w f.sz f.sg:=by simp[v9]at h;omega
 have HA:=fun W=>hid (an5 f.sz f.sg W h'.1 h'.2.1)
 have HF:∀W,Hid (Calls Tryz.prog 197 #[.int .i64 f.sz] W fun e w'=>e=.returned (.bool true)∧W=w'):=fun W=>hid (by
  have:=zm (f.sz:Int) W
  rwa [show (decide (1 ≤(f.sz:Int)) && decide ((f.sz:Int)≤8))=true from by simp;omega]at this)
 have HL:∀W,Hid (Calls Tryz.prog 126 #[aa6 (afo f.sz f.sg),.int .i64 f.lo] W fun e w'=>e=.returned (.bool true)∧Below W.heap.size W w'):=fun W=>hid (by
  have:=ajz (afo f.sz f.sg) f.lo W
  rwa [decide_eq_true (show (afo f.sz f.sg).lo≤f.lo∧f.lo ≤(afo f.sz f.sg).hi from h'.2.2.2.1)]at this)
 have HH:∀W,Hid (Calls Tryz.prog 126 #[aa6 (afo f.sz f.sg),.int .i64 f.hi] W fun e w'=>e=.returned (.bool true)∧Below W.heap.size W w'):=fun W=>hid (by
  have:=ajz (afo f.sz f.sg) f.hi W
  rwa [decide_eq_true (show (afo f.sz f.sg).lo≤f.hi∧f.hi ≤(afo f.sz f.sg).hi from h'.2.2.2.2)]at this)
 have h3:=h'.2.2.1
 unfold vl at HA
 generalize afo f.sz f.sg=g at *
 obtain⟨z,s,lo,hi⟩:=f
 obtain⟨z',s',lo',hi'⟩:=g
 unfold aa6 at *
 dsimp only at *
 clear h h'
 go_enter Tryz.func198,Tryz.ntmps198
 go_wp2_with fail
 refine(HA _).out.mono ?_
 rintro e w1 ⟨rfl,hb⟩
 have HK:Hid (Blk w1 w.heap.size (ay7 ⟨z,s,lo,hi⟩)):=hid ((Blk.newL (qg w _ _) rfl).on hb)
 have HB:Hid (Below w.heap.size w w1):=hid (qb (qa _ _) hb)
 have a0:=HK.out.cell 0 (v:=.int .i64 z) rfl
 have a2:=HK.out.cell 2 (v:=.int .i64 lo) rfl
 have a3:=HK.out.cell 3 (v:=.int .i64 hi) rfl
 have hlt:=HK.out.lt
 clear hb
 go_wp2_with fail
 refine((HF _).out).mono ?_
 rintro e w2 ⟨rfl,rfl⟩
 go_wp2_with fail
 refine((HL _).out).mono ?_
 rintro e w2 ⟨rfl,hb⟩
 have HK2:Hid (Blk w2 w.heap.size (ay7 ⟨z,s,lo,hi⟩)):=hid ((HK.out.on (qa _ _)).on hb)
 have HG2:Hid (Blk w2 w1.heap.size (ay7 ⟨z',s',lo',hi'⟩)):=hid ((Blk.newL (qg w1 _ _) rfl).on hb)
 have HB2:Hid (Below w.heap.size w w2):=hid (qb (qb HB.out (qa _ _)) hb)
 have a3':=HK2.out.cell 3 (v:=.int .i64 hi) rfl
 have g0:=HG2.out.cell 0 (v:=.int .i64 z') rfl
 have g1:=HG2.out.cell 1 (v:=.bool s') rfl
 have g2:=HG2.out.cell 2 (v:=.int .i64 lo') rfl
 have g3:=HG2.out.cell 3 (v:=.int .i64 hi') rfl
 clear hb a0 a2 a3
 go_wp2_with fail
 refine((HH _).out).mono ?_
 rintro e w3 ⟨rfl,hb⟩
 have HB3:=hid (qb HB2.out hb)
 clear hb
 go_wp2_with fail
 go_ret
 exact⟨rfl,HB3.out⟩
def ai8 (w:World) (A:Option Addr) (l:List Fld):Prop:=qf (fun b=>b<w.heap.size) w A (abt l)
theorem ai8.on {w w':World} {A:Option Addr} {l:List Fld} (h:ai8 w A l) (hb:Below w.heap.size w w'):ai8 w' A l:=(qf.below h hb fun _ q=>q).less fun b q=>Nat.lt_of_lt_of_le q hb.size
theorem ai8.cells {w:World} {A:Option Addr} {l:List Fld} (h:ai8 w A l) (k:Nat) (hk:k<l.length):∃b off,A=some ⟨b,off,none⟩∧b<w.heap.size∧w.cell? ⟨b,off+k*4,none⟩=some (.int .i64 (l[k].sz:Int))∧w.cell? ⟨b,off+k*4+1,none⟩=some (.bool l[k].sg)∧w.cell? ⟨b,off+k*4+2,none⟩=some (.int .i64 l[k].lo)∧w.cell? ⟨b,off+k*4+3,none⟩=some (.int .i64 l[k].hi):=by
 have e:=fun j hj=>ag9 ay7 4 (fun _=>rfl) l k hk j hj
 obtain⟨b,off,hA,hb,h0⟩:=h _ _ (e 0 (by omega))
 refine⟨b,off,hA,hb,h0,?_,?_,?_⟩
 ·obtain⟨b',off',hA',-,h1⟩:=h _ _ (e 1 (by omega))
  rw[hA]at hA';injection hA' with hA';injection hA' with q1 q2;subst q1 q2
  exact h1
 ·obtain⟨b',off',hA',-,h1⟩:=h _ _ (e 2 (by omega))
  rw[hA]at hA';injection hA' with hA';injection hA' with q1 q2;subst q1 q2
  exact h1
 ·obtain⟨b',off',hA',-,h1⟩:=h _ _ (e 3 (by omega))
  rw[hA]at hA';injection hA' with hA';injection hA' with q1 q2;subst q1 q2
  exact h1
theorem ahn (A:Option Addr) (c:Nat) (l:List Fld) (w:World) (h:ai8 w A l) (hr:l.all v9=true) (hn:l.length≤1000000) :
 Calls Tryz.prog 124 #[.slice A l.length c] w fun e w'=>e=.returned (.bool true)∧Below w.heap.size w w':=by
 have HI:=hid h
 have HR:=hid hr
 generalize hL:l.length=n at *
 have HL:=hid hL
 clear h hr hL
 go_enter Tryz.func124,Tryz.ntmps124
 go_wp2_with fail
 go_loopg [7] n (fun g s7 wr=>∃k:Nat,k≤n∧n-k≤g∧s7=.int .i64 k∧Hid (Below w.heap.size w wr))
 case atStart=>exact⟨0,Nat.zero_le _,by omega,rfl,Below.refl _ _⟩
 case round=>
  obtain⟨k,hk,hg,rfl,HB⟩:=hrel
  by_cases hlt:k<n
  ·have hkl:k<l.length:=by rw[HL.out];exact hlt
   have HY:=fun W=>hid (atu l[k] (List.all_eq_true.1 HR.out _ (List.getElem_mem hkl)) W)
   obtain⟨b,off,rfl,-,x0,x1,x2,x3⟩:=(HI.out.on HB.out).cells k hkl
   generalize l[k]=f at *
   obtain⟨z,s,lo,hi⟩:=f
   unfold aa6 at HY
   dsimp only at *
   have i1:(k:Int)<n:=by omega
   have i2:(0:Int) ≤(k:Int):=Int.natCast_nonneg _
   go_wp2_with fail
   refine((HY _).out).mono ?_
   rintro e w2 ⟨rfl,hb⟩
   have HB2:Hid (Below w.heap.size w w2):=hid (qb (qb HB.out (qa _ _)) hb)
   clear hb x0 x1 x2 x3
   go_wp2_with fail
   go_roundg (n-(k+1))
   case measure=>omega
   case rel=>exact⟨k+1,by omega,by omega,by go_num,HB2⟩
  ·obtain rfl:k=n:=by omega
   go_wp2_with fail
   go_ret
   exact⟨rfl,HB.out⟩
theorem akv (l:List Fld) (k:Nat) (h:k<l.length):vi (l.take (k+1))=vi (l.take k)+l[k].sz:=by
 rw[List.take_succ_eq_append_getElem h]
 unfold vi
 rw[List.map_append,List.sum_append]
 simp only[List.map_cons,List.map_nil,List.sum_cons,List.sum_nil,Nat.add_zero]
theorem a4j (l:List Fld) (hr:l.all v9=true):vi l≤8*l.length:=by
 induction l with
 | nil=>simp[vi]
 | cons f l ih=>
  rw[List.all_cons,Bool.and_eq_true]at hr
  have h1:=ih hr.2
  have h2:f.sz≤8:=by have:=hr.1;simp[v9]at this;omega
  simp only[vi,List.map_cons,List.sum_cons,List.length_cons]at *
  omega
theorem a8y {α:Type} {p:α→Bool} {l:List α} (h:l.all p=true) (k:Nat):(l.take k).all p=true:=by
 rw[List.all_eq_true]at *
 exact fun x hx=>h x (List.mem_of_mem_take hx)
theorem at9 (A:Option Addr) (c:Nat) (l:List Fld) (w:World) (h:ai8 w A l) (hr:l.all v9=true) (hn:l.length≤1000000) :
 Calls Tryz.prog 123 #[.slice A l.length c] w fun e w'=>e=.returned (.int .i64 (vi l:Int))∧Below w.heap.size w w':=by
 have HY:=hid (ahn A c l w h hr hn)
 have HI:=hid h
 have HR:=hid hr
 have HE:Hid (vi (l.take l.length)=vi l):=hid (by rw[List.take_length])
 generalize hL:l.length=n at *
 have HL:=hid hL
 clear h hr hL
 go_enter Tryz.func123,Tryz.ntmps123
 go_wp2_with fail
 refine(HY.out).mono ?_
 rintro e w1 ⟨rfl,hb⟩
 have HB1:=hid hb
 clear hb
 go_wp2_with fail
 go_loopg [3,11] n (fun g s3 s11 wr=>∃k:Nat,k≤n∧n-k≤g∧s11=.int .i64 k∧s3=.int .i64 (vi (l.take k):Int)∧Hid (Below w.heap.size w wr))
 case atStart=>exact⟨0,Nat.zero_le _,by omega,rfl,rfl,HB1⟩
 case round=>
  obtain⟨k,hk,hg,rfl,rfl,HB⟩:=hrel
  by_cases hlt:k<n
  ·have hkl:k<l.length:=by rw[HL.out];exact hlt
   have hw:=a4j _ (a8y HR.out (k+1))
   have hlen:(l.take (k+1)).length≤1000000:=by rw[List.length_take];omega
   rw[akv l k hkl]at hw
   have HW:=hid (akv l k hkl)
   obtain⟨b,off,rfl,-,x0,x1,x2,x3⟩:=(HI.out.on HB.out).cells k hkl
   generalize l[k]=f at *
   obtain⟨z,s,lo,hi⟩:=f
   dsimp only at *
   generalize hv:vi (l.take k)=v at *
   have i1:(k:Int)<n:=by omega
   have i2:(0:Int) ≤(k:Int):=Int.natCast_nonneg _
   have i3:IntKind.i64.wrap ((v:Int) +(z:Int))=(v:Int) +(z:Int):=IntWalk.i64_in _ (by omega)
   clear hv
   go_wp2_with fail
   have HB2:Hid (Below w.heap.size w (wr.alloc (.cells #[.int .i64 (z:Int),.bool s,.int .i64 lo,.int .i64 hi] 270))):=hid (qb HB.out (qa _ _))
   go_roundg (n-(k+1))
   case measure=>omega
   case rel=>exact⟨k+1,by omega,by omega,by go_num,by rw[HW.out];go_num,HB2⟩
  ·obtain rfl:k=n:=by omega
   go_wp2_with fail
   go_ret
   exact⟨by rw[HE.out];rfl,HB.out⟩
section
variable {P : Program} {ops : Array Oper} {rest : List Oper} {o : Oper} {a : Act} {w : World} {Q : Exit → Act → World → Prop}
theorem aal (hgd:o.guard=none) (l c:Operand) (t e:TypeId) (ho:o.op=.makeSlice t l c) (i:TypeInfo) (z:Value) (ht:P.underlying t=some (.slice e)) (hi:P.info? e=some i) (hz:i.zero=some z)
 (kl kc:IntKind) (n:Nat) (hl:a.eval l=.int kl (n:Int)) (hc:a.eval c=.int kc (n:Int)) (hb:i.bytes*n≤281474976710656) (h63:(n:Int)≤9223372036854775807)
 (h:∀W,a3c w W (madeCells z.cells (n*i.size))→wpList P ops Q rest (a.put o.dst (.slice (some ⟨w.heap.size,0,none⟩) n n)) W):wpList P ops Q (o::rest) a w:=
 acd hgd (W:=w.alloc (.cells (madeCells z.cells (n*i.size)) e)) (by
  have hb':((i.bytes*n:Nat):Int)≤281474976710656:=by omega
  rw[Int.natCast_mul]at hb'
  have hr:=run_make (P:=P) w t e i z ht hi hz kl kc (n:Int) (n:Int) (by omega) (Int.le_refl _) hb' h63
  unfold execOp
  rw[ho]
  simp only[hl,hc]
  simp only[Int.toNat_natCast]at hr
  rw[Sem.run_bind,hr]
  rfl) (h _ (qg w _ e))
end
theorem a9j:(Tryz.prog.info? 5).map (fun i=>(i.zero,i.size,i.bytes))=some (some (.int .u8 0),1,1):=by kernel_rfl
theorem bbx {w W:World} {b o:Nat} {D xs:List UInt8} (h:Blk w b (bsV D)) (hs:qu w W b o (bsV xs)) (hf:o+xs.length≤D.length):Blk W b (bsV (ac7 D o xs)):=by
 have e1:bsV D=bsV (D.take o)++bsV ((D.drop o).take xs.length)++bsV (D.drop (o+xs.length)):=by
  have:D=D.take o ++((D.drop o).take xs.length++D.drop (o+xs.length)):=by
   rw[← List.drop_drop,List.take_append_drop,List.take_append_drop]
  conv=>lhs;rw[this]
  rw[ajs,ajs,List.append_assoc]
 have e2:bsV (ac7 D o xs)=bsV (D.take o)++bsV xs++bsV (D.drop (o+xs.length)):=by
  unfold ac7
  rw[ajs,ajs]
 rw[e1]at h
 rw[e2]
 refine h.put hs ?_ ?_
 ·rw[ab6,List.length_take];omega
 ·rw[ab6,ab6,List.length_take,List.length_drop];omega
theorem Blk.flat {w:World} {b:Nat} {L:List Value} (h:Blk w b L) {Q:Nat→Prop} (hq:Q b):qf Q w (some ⟨b,0,none⟩) L:=fun j u hu=>⟨b,0,rfl,hq,h.cell (0+j) (by rw[Nat.zero_add];exact hu)⟩
theorem afr {P:Program} {w:World} {a:Addr} {m:Mode} (f:_) (x:_) (y:_):(store a (.func f x y) m).run P w=stored P w a (.func f x y) m:=run_store P w a _ m rfl
theorem au9 (w:World):Calls Tryz.prog 201 #[] w fun e w'=>e=.returned (.agg #[.func (Fn.func 216) #[] #[],.func (Fn.func 218) #[] #[]])∧Below w.heap.size w w':=by
 have hsf:=@afr Tryz.prog
 go_enter Tryz.func201,Tryz.ntmps201
 go_wp2_with fail
 exact bodyPost_ret (v:=.agg #[.func (Fn.func 216) #[] #[],.func (Fn.func 218) #[] #[]]) (by simp[results,Tryz.results201,go_sem]) rfl ⟨rfl,qa _ _⟩
theorem bc9 {w1:World} {b:Nat} {x y:Value} (hk:Blk w1 b [x,y]) (p q:Value):(loadVar 277 ⟨b,0,none⟩).run Tryz.prog ((w1.setCell ⟨b,0,none⟩ p).setCell ⟨b,1,none⟩ q)=.ok (.agg #[p,q]) ((w1.setCell ⟨b,0,none⟩ p).setCell ⟨b,1,none⟩ q)∧Below b w1 ((w1.setCell ⟨b,0,none⟩ p).setCell ⟨b,1,none⟩ q):=by
 have hs:qu w1 ((w1.setCell ⟨b,0,none⟩ p).setCell ⟨b,1,none⟩ q) b 0 [p,q]:=qm (cs:=[p,q]) (hk.there 0 2 (Nat.le_refl _))
 exact⟨run_loadVar_mid (P:=Tryz.prog) _ b 0 277 [p,q] _ (hk.all hs rfl).rg Tryz.underlying277 rfl (by kernel_rfl),hs.below (Nat.le_refl _)⟩
def aj9 (s:Bool):Nat:=if s then 200 else 218
def bev (s:Bool):Nat:=if s then 199 else 216
theorem a66 (f:Fld) (w:World):Calls Tryz.prog 125 #[aa6 f] w fun e w'=>e=.returned (.agg #[.func (Fn.func (bev f.sg)) #[] #[],.func (Fn.func (aj9 f.sg)) #[] #[]])∧Below w.heap.size w w':=by
 have hsf:=@afr Tryz.prog
 have HP:=fun W=>hid (au9 W)
 obtain⟨z,s,lo,hi⟩:=f
 unfold aa6
 dsimp only
 cases s
 ·show Calls Tryz.prog _ _ w fun e w'=>e=.returned (.agg #[.func (Fn.func 216) #[] #[],.func (Fn.func 218) #[] #[]])∧Below w.heap.size w w'
  go_enter Tryz.func125,Tryz.ntmps125
  go_wp2_with fail
  refine(HP _).out.mono ?_
  rintro e w1 ⟨rfl,hb⟩
  have HB1:Hid (Below w.heap.size w w1):=hid (qb (qb (qa _ _) (qa _ _)) hb)
  have HK1:Hid (Blk w1 (w.heap.size+1) [.nilFunc,.nilFunc]):=hid (by
   have:=(Blk.newL (qg (w.alloc (.cells #[.int .i64 (z:Int),.bool false,.int .i64 lo,.int .i64 hi] 270)) #[.nilFunc,.nilFunc] 277) rfl).on hb
   simpa using this)
  have c0:=HK1.out.cell 0 (v:=.nilFunc) rfl
  have c1:=HK1.out.cell 1 (v:=.nilFunc) rfl
  have z0:=HK1.out.fz 0
  have z1:=HK1.out.fz 1
  clear hb
  go_wp2_with fail
  have HRS:=bc9 HK1.out (.func (Fn.func 216) #[] #[]) (.func (Fn.func 218) #[] #[])
  exact bodyPost_ret (v:=.agg #[.func (Fn.func 216) #[] #[],.func (Fn.func 218) #[] #[]]) (by rw[qk rfl];simp[asAddr,Result.andThen];exact HRS.1) rfl ⟨rfl,HB1.out.trans (HRS.2.mono (by have:=HB1.out.size;omega))⟩
 ·show Calls Tryz.prog _ _ w fun e w'=>e=.returned (.agg #[.func (Fn.func 199) #[] #[],.func (Fn.func 200) #[] #[]])∧Below w.heap.size w w'
  go_enter Tryz.func125,Tryz.ntmps125
  go_wp2_with fail
  exact bodyPost_ret (v:=.agg #[.func (Fn.func 199) #[] #[],.func (Fn.func 200) #[] #[]]) (by simp[results,Tryz.results125,go_sem]) rfl ⟨rfl,qb (qa _ _) (qa _ _)⟩
theorem atk {Q:Nat→Prop} {w:World} {a:Nat} {l:List UInt8} (n:Nat) (h:RdI Q w a (some l)) (h1:1≤n) (h8:n≤8) (hn:n≤l.length) :
 Calls Tryz.prog 218 #[.pointer (some ⟨a,0,none⟩),.int .i64 n] w fun e w'=>e=.returned (.int .i64 (IntKind.i64.wrap (xr (l.take n):Int)))∧RdI Q w' a (some (l.drop n))∧ze (fun k=>k≠a) w w':=by
 have HN:=hid (aby n h h1 h8 hn)
 generalize xr (l.take n)=u at *
 rw[IntWalk.i64_left]
 clear h hn
 go_enter Tryz.func218,Tryz.ntmps218
 go_wp2_with (refine HN.out.mono ?_;rintro e w' ⟨rfl,hr,hk⟩;have HR:=hid (And.intro hr hk);clear hr hk)
 go_ret
 exact⟨rfl,HR.out⟩
theorem apq {Q:Nat→Prop} {w:World} {a:Nat} {l:List UInt8} (f:Fld) (h:RdI Q w a (some l)) (h1:1≤f.sz) (h8:f.sz≤8) (hn:f.sz≤l.length) :
 Calls Tryz.prog (aj9 f.sg) #[.pointer (some ⟨a,0,none⟩),.int .i64 f.sz] w fun e w'=>e=.returned (.int .i64 (als f (l.take f.sz)))∧RdI Q w' a (some (l.drop f.sz))∧ze (fun k=>k≠a) w w':=by
 unfold aj9 als
 cases f.sg
 ·exact atk f.sz h h1 h8 hn
 ·exact a5s f.sz h h1 h8 hn
theorem a9c (s:Bool) (x y:Value) (W:World):(callFunc (aj9 s) #[x,y]).run Tryz.prog W=.ok (.enter (aj9 s) #[x,y]) W:=by
 cases s
 ·kernel_rfl
 ·kernel_rfl
theorem a7p (F G:Nat) (W:World):(Instr.field 277 (.agg #[.func (Fn.func F) #[] #[],.func (Fn.func G) #[] #[]]) 1).run Tryz.prog W=.ok (.func (Fn.func G) #[] #[]) W:=by kernel_rfl
theorem aid:∀(l:List Fld) (f:Fld) (b:List UInt8),yl (l++[f]) b=(yl l b).bind fun v=>if f.lo≤als f ((b.drop (vi l)).take f.sz)∧als f ((b.drop (vi l)).take f.sz)≤f.hi then some (v++[als f ((b.drop (vi l)).take f.sz)])else none
 | [],f,b=>by simp[yl,vi]
 | g::l,f,b=>by
  simp only[List.cons_append,yl]
  split
  ·rw[aid l f (b.drop g.sz)]
   have e:(b.drop g.sz).drop (vi l)=b.drop (vi (g::l)):=by
    rw[List.drop_drop];simp[vi]
   rw[e]
   generalize (b.drop (vi (g::l))).take f.sz=t
   cases yl l (b.drop g.sz)with
   | none=>rfl
   | some v=>
    simp only[Option.map_some,Option.bind_some]
    split<;>simp
  ·rfl
theorem asv (l m:List Fld) (b:List UInt8) (h:yl l b=none):yl (l++m) b=none:=by
 induction m generalizing l with
 | nil=>rwa [List.append_nil]
 | cons f m ih=>
  rw[show l++f::m=(l++[f])++m from by simp]
  exact ih _ (by rw[aid,h];rfl)
theorem bbv (l m:List Fld):vi (l++m)=vi l+vi m:=by unfold vi;rw[List.map_append,List.sum_append]
def ki (x:Int×List Int) (w:World) (e:Ending) (w':World):Prop:=
 ∃A c,e=.returned (.tuple #[.slice A x.2.length c,.int .i64 x.1])∧qf (fun b=>w.heap.size≤b∧b<w'.heap.size) w' A (qo x.2)∧Below w.heap.size w w'
theorem axt:(Tryz.prog.info? 2).map (fun i=>(i.zero,i.size,i.bytes))=some (some (.int .i64 0),1,8):=by kernel_rfl
theorem jo {P:Program} {t:TypeId} {z:Option Value} {s b:Nat} (h:(P.info? t).map (fun i=>(i.zero,i.size,i.bytes))=some (z,s,b)):∃i,P.info? t=some i∧i.zero=z∧i.size=s∧i.bytes=b:=by
 cases hi:P.info? t with
 | none=>rw[hi]at h;cases h
 | some i=>rw[hi]at h;simp at h;exact⟨i,rfl,h.1,h.2.1,h.2.2⟩
theorem a4i (n:Nat):(madeCells (Value.int .i64 0).cells (n*1)).toList=qo (List.replicate n 0):=by
 rw[Nat.mul_one]
 show (madeCells #[Value.int .i64 0] n).toList=_
 rw[toList_madeCells_one]
 unfold qo
 rw[List.map_replicate]
theorem a7z {W:World} {g n k:Nat} {u:List Int} (h:Blk W g (qo (u++List.replicate (n-k) 0))) (hu:u.length=k) (hk:(k:Int)<n) (x:Int) :
 W.cell? ⟨g,k,none⟩=some (.int .i64 0)∧Blk (W.setCell ⟨g,k,none⟩ (.int .i64 x)) g (qo ((u++[x])++List.replicate (n-(k+1)) 0))∧∀b,b≠g →(W.setCell ⟨g,k,none⟩ (.int .i64 x)).heap[b]?=W.heap[b]?:=by
 have e:qo (u++List.replicate (n-k) 0)=qo u++[Value.int .i64 0]++qo (List.replicate (n-(k+1)) 0):=by
  rw[show n-k=(n-(k+1))+1 from by omega,List.replicate_succ]
  simp[qo]
 rw[e]at h
 have hc:W.cell? ⟨g,k,none⟩=some (.int .i64 0):=h.cell k (by
  rw[List.append_assoc,List.getElem?_append_right (by rw[ja,hu];exact Nat.le_refl _),ja,hu,Nat.sub_self];rfl)
 have s1:qu W (W.setCell ⟨g,k,none⟩ (.int .i64 x)) g k [.int .i64 x]:=xw (h.there k 1 (by simp[ja,hu]))
 refine⟨hc,?_,fun b hb=>s1.far b hb⟩
 have:=h.put s1 (by rw[ja,hu]) rfl
 have e2:qo ((u++[x])++List.replicate (n-(k+1)) 0)=qo u++[Value.int .i64 x]++qo (List.replicate (n-(k+1)) 0):=by simp[qo]
 rw[e2]
 exact this
theorem alg {Q0:Nat→Prop} {w:World} (A X:Option Addr) (c d:Nat) (fs:List Fld) (b:List UInt8) (hF:ai8 w A fs) (hr:fs.all v9=true) (hn:fs.length≤1000) (hB:qf Q0 w X (bsV b)) (hm:b.length≤1000000) :
 Calls Tryz.prog 91 #[.slice A fs.length c,.slice X b.length d] w (ki (zy fs b) w):=by
 have HW:∀W,Below w.heap.size w W→Hid (Calls Tryz.prog 123 #[.slice A fs.length c] W fun e w'=>e=.returned (.int .i64 (vi fs:Int))∧Below W.heap.size W w'):=fun W hW=>hid (at9 A c fs W (hF.on hW) hr (by omega))
 have HR:∀W,Below w.heap.size w W→Hid (Calls Tryz.prog 124 #[.slice A fs.length c] W fun e w'=>e=.returned (.bool true)∧Below W.heap.size W w'):=fun W hW=>hid (ahn A c fs W (hF.on hW) hr (by omega))
 have hwl:=a4j fs hr
 rcases Nat.lt_trichotomy b.length (vi fs)with hlt|heq|hgt
 ·have e0:zy fs b=(2,[]):=by unfold zy;rw[if_pos hlt]
  rw[e0]
  generalize vi fs=v at *
  generalize fs.length=n at *
  generalize b.length=m at *
  have g1:(m:Int)<v:=by omega
  clear hB hF e0
  go_enter Tryz.func91,Tryz.ntmps91
  go_wp2_with fail
  refine((HW _ (Below.refl _ _)).out).mono ?_
  rintro e w1 ⟨rfl,hb⟩
  have HB1:=hid hb
  clear hb
  go_wp2_with fail
  refine((HR _ HB1.out).out).mono ?_
  rintro e w2 ⟨rfl,hb⟩
  have HB2:=hid (qb HB1.out hb)
  clear hb
  go_wp2_with fail
  go_ret2
  exact⟨none,0,rfl,qf.nil _ _ _,HB2.out⟩
 ·have e0:zy fs b=match yl fs b with|some v=>(0,v)|none=>(5,[]):=by unfold zy;rw[if_neg (by omega),if_neg (by omega)];all_goals rfl
  rw[e0]
  clear e0
  obtain⟨res,hres⟩:∃r,r=(match yl fs b with|some v=>((0:Int),v)|none=>(5,[])):=⟨_,rfl⟩
  rw[← hres]
  have HRES:=hid hres
  clear hres
  have HNW:∀W,Below w.heap.size w W→Hid (Calls Tryz.prog 74 #[.slice X b.length d] W fun e w'=>∃g,e=.returned (.pointer (some ⟨g,0,none⟩))∧RdI (fun b=>W.heap.size≤b∧b<w'.heap.size) w' g (some b)∧Below W.heap.size W w'):=fun W hW=>hid (aig X b d W (hB.lt.below hW (fun b q=>q.2)) hm)
  have HFI:=hid hF
  have HRI:=hid hr
  have HEQ:=hid heq
  have HWL:Hid (b.length=vi fs):=hid heq
  clear hB hF hr
  generalize hL:fs.length=n at *
  generalize hM:b.length=m at *
  have HL:=hid hL
  have HM:=hid hM
  obtain⟨i0,hi,hz0,hz1,hz2⟩:=jo axt
  have HI:=hid hi
  have HZ:=hid (And.intro hz0 (And.intro hz1 hz2))
  clear hi hz0 hz1 hz2 hL hM
  generalize hv:vi fs=v at *
  have HV:=hid hv
  subst heq
  clear hv
  go_enter Tryz.func91,Tryz.ntmps91
  go_wp2_with fail
  refine((HW _ (Below.refl _ _)).out).mono ?_
  rintro e w1 ⟨rfl,hb⟩
  have HB1:=hid hb
  clear hb
  go_wp2_with fail
  refine((HR _ HB1.out).out).mono ?_
  rintro e w2 ⟨rfl,hb⟩
  have HB2:=hid (qb HB1.out hb)
  clear hb HB1
  go_wp2_with fail
  refine((HNW _ HB2.out).out).mono ?_
  rintro e w3 ⟨a,rfl,hrd,hb⟩
  have HRD:=hid hrd
  have HB3:=hid (qb HB2.out hb)
  have HQ:=hid HB2.out.size
  clear hrd hb HR HW HNW
  go_wp2_with (refine aal rfl _ _ 49 2 rfl i0 _ Tryz.underlying49 HI.out HZ.out.1 .i64 .i64 n rfl rfl (by rw[HZ.out.2.2];omega) (by omega) ?_;intro W1 hG;have HG:=hid hG;clear hG)
  have e0:(madeCells (Value.int .i64 0).cells (n*i0.size)).toList=qo (List.replicate n 0):=by rw[HZ.out.2.1];exact a4i n
  have HK1:Hid (Blk W1 w3.heap.size (qo ([]++List.replicate (n-0) 0))):=hid (Blk.newL HG.out (by rw[List.nil_append,Nat.sub_zero];exact e0))
  have HBX:Hid (Below w.heap.size w W1):=hid (qb HB3.out HG.out.bel)
  have HRX:Hid (RdI (fun b=>w2.heap.size≤b∧b<w3.heap.size) W1 a (some (b.drop (vi (fs.take 0))))):=hid (by
   rw[List.take_zero]
   exact HRD.out.below HG.out.bel (fun _ q=>q.2))
  have ha:=HRD.out.1.2
  have HA1:=hid HRD.out.1
  clear HG HI HZ e0 HRD HB3
  generalize w3.heap.size=g at *
  go_loopg [34] n (fun h s34 wr=>∃k:Nat,k≤n∧n-k≤h∧s34=.int .i64 k∧Hid (∃u,yl (fs.take k) b=some u∧u.length=k∧Blk wr g (qo (u++List.replicate (n-k) 0)))∧Hid (RdI (fun b=>w2.heap.size≤b∧b<g) wr a (some (b.drop (vi (fs.take k)))))∧Hid (Below w.heap.size w wr))
  case atStart=>exact⟨0,Nat.zero_le _,by omega,rfl,⟨[],rfl,rfl,HK1.out⟩,HRX,HBX⟩
  case round=>
   obtain⟨k,hk,hg,rfl,HK,HRK,HB⟩:=hrel
   by_cases hlt:k<n
   ·have hkl:k<fs.length:=by rw[HL.out];exact hlt
    obtain⟨u,hu,hul,hkb⟩:=HK.out
    have hright:=List.all_eq_true.1 HRI.out _ (List.getElem_mem hkl)
    have HSN:Hid (yl (fs.take (k+1)) b=if(fs[k]).lo≤als fs[k] ((b.drop (vi (fs.take k))).take fs[k].sz)∧als fs[k] ((b.drop (vi (fs.take k))).take fs[k].sz)≤fs[k].hi then some (u++[als fs[k] ((b.drop (vi (fs.take k))).take fs[k].sz)])else none):=hid (by
     rw[List.take_succ_eq_append_getElem hkl,aid,hu];rfl)
    have hwk:=akv fs k hkl
    have hwm:vi (fs.take (k+1))≤vi fs:=by
     conv=>rhs;rw[← List.take_append_drop (k+1) fs]
     rw[bbv];omega
    have HPN:Hid (yl (fs.take (k+1)) b=none→yl fs b=none):=hid (fun q=>by
     have:=asv (fs.take (k+1)) (fs.drop (k+1)) b q
     rwa [List.take_append_drop]at this)
    have h18:1 ≤(fs[k]).sz ∧(fs[k]).sz≤8 ∧(fs[k]).sz ≤(b.drop (vi (fs.take k))).length:=by
     simp[v9]at hright
     rw[List.length_drop,HM.out]
     have:=HV.out
     omega
    have HTK:=fun W=>hid (fun(q:RdI (fun b=>w2.heap.size≤b∧b<g) W a (some (b.drop (vi (fs.take k)))))=>apq fs[k] q h18.1 h18.2.1 h18.2.2)
    have HDR:Hid ((b.drop (vi (fs.take k))).drop fs[k].sz=b.drop (vi (fs.take (k+1)))):=hid (by rw[List.drop_drop,hwk])
    have HOF:=fun W=>hid (a66 fs[k] W)
    have HIN:=fun x W=>hid (ajz fs[k] x W)
    obtain⟨fb,off,rfl,hfb,x0,x1,x2,x3⟩:=(HFI.out.on HB.out).cells k hkl
    generalize (b.drop (vi (fs.take k)))=R at *
    generalize fs[k]=f at *
    generalize hvx:als f (R.take f.sz)=x at *
    obtain⟨z,s,lo,hi⟩:=f
    unfold aa6 at HOF HIN
    dsimp only at *
    have HCL:=fun x y W=>a9c s x y W
    generalize aj9 s=G at *
    generalize bev s=F at *
    have HFW:=fun W=>hid (a7p F G W)
    have i1:(k:Int)<n:=by omega
    have i2:(0:Int) ≤(k:Int):=Int.natCast_nonneg _
    have HUL:=hid hul
    have HU:=hid hu
    have HKB:=hid hkb
    clear hright hwk hwm hvx hul hu hkb h18
    go_upto_region 13 with fail
    have HF1:Hid (Blk (wr.alloc (.cells #[.int .i64 (z:Int),.bool s,.int .i64 lo,.int .i64 hi] 270)) wr.heap.size [.int .i64 (z:Int),.bool s,.int .i64 lo,.int .i64 hi]):=hid (Blk.newL (qg _ _ _) rfl)
    have HB2:Hid (Below w.heap.size w (wr.alloc (.cells #[.int .i64 (z:Int),.bool s,.int .i64 lo,.int .i64 hi] 270))):=hid (qb HB.out (qa _ _))
    have HK2:Hid (Blk (wr.alloc (.cells #[.int .i64 (z:Int),.bool s,.int .i64 lo,.int .i64 hi] 270)) g (qo (u++List.replicate (n-k) 0))):=hid (HKB.out.on (qa _ _))
    have HR2:Hid (RdI (fun b=>w2.heap.size≤b∧b<g) (wr.alloc (.cells #[.int .i64 (z:Int),.bool s,.int .i64 lo,.int .i64 hi] 270)) a (some R)):=hid (HRK.out.below (qa _ _) (fun b q=>Nat.lt_of_lt_of_le q.2 (Nat.le_of_lt HKB.out.lt)))
    have hga:g<wr.heap.size:=HKB.out.lt
    clear x0 x1 x2 x3 HB HK HRK HKB
    generalize wr.alloc (.cells #[.int .i64 (z:Int),.bool s,.int .i64 lo,.int .i64 hi] 270)=Wf at *
    generalize wr.heap.size=fbk at *
    try (apply wp_seq_k;intro K_ HK_)
    have HNE:Hid (fbk<Wf.heap.size∧fbk≠a∧fbk≠g∧a≠g∧a<Wf.heap.size):=hid (by have:=HF1.out.lt;omega)
    have HGL:=hid HK2.out.lt
    have HBIN:∃bb,Hid (decide (lo≤x∧x≤hi)=bb)∧∀W,Hid (Calls Tryz.prog 126 #[.agg #[.int .i64 (z:Int),.bool s,.int .i64 lo,.int .i64 hi],.int .i64 x] W fun e w'=>e=.returned (.bool bb)∧Below W.heap.size W w'):=⟨_,rfl,fun W=>HIN x W⟩
    obtain⟨bb,HBB,HIX⟩:=HBIN
    clear HIN
    have hS0:ze (fun k=>k<Wf.heap.size∧k≠a∧k≠g) Wf Wf.drew:=(ze.refl _ _).drew
    refine wp_region_held_drew (S:=fun w'=>ze (fun k=>k<Wf.heap.size∧k≠a∧k≠g) Wf w') (by kernel_rfl) hS0 (fun hHeld0=>?_)
    refine tkQ (i:=0) (oi:=⟨some 39,_,_,_,_,_⟩) (v:=?_) rfl (Or.inl ⟨by rfl,?_⟩) ?_
    rotate_left
    ·intro w' hSw
     go_simp
     try with_reducible rfl
    try go_frame
    refine tkQ (i:=1) (oi:=⟨some 40,_,_,_,_,_⟩) (v:=?_) rfl (Or.inl ⟨by rfl,?_⟩) ?_
    rotate_left
    ·intro w' hSw
     go_simp
     try with_reducible rfl
    try go_frame
    refine tkQ (i:=2) (oi:=⟨some 41,_,_,_,_,_⟩) (v:=_) rfl (yieldsIf_load_mid (by rfl) 270 _ rfl fbk 0 rfl [.int .i64 (z:Int),.bool s,.int .i64 lo,.int .i64 hi] _ (fun w' hSw=>(afl HF1.out.rg (hSw.block fbk ⟨HNE.out.1,HNE.out.2.1,HNE.out.2.2.1⟩))) Tryz.underlying270 rfl (by kernel_rfl)) ?_
    try go_frame
    refine tkQ (i:=5) (oi:=⟨some 44,_,_,_,_,_⟩) (v:=?_) rfl (Or.inl ⟨by rfl,?_⟩) ?_
    rotate_left
    ·intro w' hSw
     go_simp
     try with_reducible rfl
    try go_frame
    refine tkQ (i:=6) (oi:=⟨some 45,_,_,_,_,_⟩) (v:=?_) rfl (Or.inl ⟨by rfl,?_⟩) ?_
    rotate_left
    ·intro w' hSw
     go_simp
     try with_reducible rfl
    try go_frame
    refine tkQ (i:=7) (oi:=⟨some 46,_,_,_,_,_⟩) (v:=?_) rfl (Or.inl ⟨by rfl,?_⟩) ?_
    rotate_left
    ·intro w' hSw
     have q:w'.cell? ⟨fbk,0,none⟩=some (.int .i64 (z:Int)):=(hSw.cell ⟨HNE.out.1,HNE.out.2.1,HNE.out.2.2.1⟩).trans (HF1.out.cell 0 rfl)
     go_simp
     try with_reducible rfl
    try go_frame
    refine wpAnyH_ready (rs:=[3]) (by kernel_rfl) (by simp) ?_
    refine AllReadyH.cons (o:=⟨some 42,_,_,_,_,_⟩) rfl (fun K hK=>?_) AllReadyH.nil
    rw[if_pos (by rfl)]
    go_step
    refine(HOF _).out.mono ?_
    rintro e w5 ⟨rfl,hb⟩
    have HS5:Hid (ze (fun k=>k<Wf.heap.size∧k≠a∧k≠g) Wf w5):=hid (hHeld0.trans (ze.of_below hb (fun k q=>q.1)))
    have HR5:=hid (HR2.out.drew.below hb (fun b q=>Nat.lt_trans q.2 HGL.out))
    have HK5:=hid (HK2.out.drew.on hb)
    have HZ5:Hid (Wf.heap.size≤w5.heap.size):=hid hb.size
    clear hb
    try go_frame
    refine hK.out _ _ (HS5.out) (fun hHeld=>?_)
    clear hK K
    try go_frame
    refine tkQ (i:=4) (oi:=⟨some 43,_,_,_,_,_⟩) (v:=?_) rfl (Or.inl ⟨by rfl,?_⟩) ?_
    rotate_left
    ·intro w' hSw
     have q:=(HFW w').out
     go_simp
     try with_reducible rfl
    try go_frame
    refine wpAnyH_ready (rs:=[8]) (by kernel_rfl) (by simp) ?_
    refine AllReadyH.cons (o:=⟨some 47,_,_,_,_,_⟩) rfl (fun K hK=>?_) AllReadyH.nil
    rw[if_pos (by rfl)]
    go_step
    refine((HTK _).out HR5.out).mono ?_
    rintro e w6 ⟨rfl,hr,hk⟩
    have HS6:Hid (ze (fun k=>k<Wf.heap.size∧k≠a∧k≠g) Wf w6):=hid (HS5.out.trans (hk.less (fun k q=>q.2.1)))
    have HR6:=hid hr
    have HK6:=hid (HK5.out.kept (hk.block g (fun e=>HNE.out.2.2.2.1 e.symm)) hk.size)
    clear hr hk
    try go_frame
    refine hK.out _ _ (HS6.out) (fun hHeld=>?_)
    clear hK K
    try go_frame
    refine tkQ (i:=9) (oi:=⟨some 48,_,_,_,_,_⟩) (v:=?_) rfl (Or.inl ⟨by rfl,?_⟩) ?_
    rotate_left
    ·intro w' hSw
     go_simp
     try with_reducible rfl
    try go_frame
    have HST:=hid (a7z HK6.out HUL.out i1 x)
    have ck:=HST.out.1
    have zk:=HK6.out.fz k
    refine wpAnyH_ready (rs:=[10]) (by kernel_rfl) (by simp) ?_
    refine AllReadyH.cons (o:=⟨none,_,_,_,_,_⟩) rfl (fun K hK=>?_) AllReadyH.nil
    rw[if_pos (by rfl)]
    go_step
    try go_frame
    have HS7:Hid (ze (fun k=>k<Wf.heap.size∧k≠a∧k≠g) Wf (w6.setCell ⟨g,k,none⟩ (.int .i64 x))):=hid (HS6.out.set (fun q=>q.2.2 rfl) _ _)
    have HK7:=hid HST.out.2.1
    have HR7:=hid (HR6.out.keep (w':=w6.setCell ⟨g,k,none⟩ (.int .i64 x)) (fun b q=>HST.out.2.2 b (Nat.ne_of_lt q.2)) (by simp))
    refine hK.out _ _ HS7.out (fun hHeld=>?_)
    clear hK K ck zk HK6 HR6 HK5 HR5 HST
    try go_frame
    refine wpAnyH_done (by kernel_rfl) ?_ _
    try go_frame
    have HF7:Hid (Blk (w6.setCell ⟨g,k,none⟩ (.int .i64 x)) fbk [.int .i64 (z:Int),.bool s,.int .i64 lo,.int .i64 hi]):=hid (HF1.out.kept (HS7.out.block fbk ⟨HNE.out.1,HNE.out.2.1,HNE.out.2.2.1⟩) HS7.out.size)
    have HB7:Hid (Below w.heap.size w (w6.setCell ⟨g,k,none⟩ (.int .i64 x))):=hid (HB2.out.trans (HS7.out.below (fun j hj=>⟨Nat.lt_of_lt_of_le hj HB2.out.size,by have:=HA1.out.1;have:=HQ.out;omega,by have:=HA1.out;have:=HQ.out;omega⟩)))
    have HN7:Hid ((w6.setCell ⟨g,k,none⟩ (.int .i64 x)).cell? ⟨g,k,none⟩=some (.int .i64 x)):=hid (HK7.out.cell k (by
     have:(u++[x]++List.replicate (n-(k+1)) 0)[k]?=some x:=by
      rw[List.append_assoc,List.getElem?_append_right (by rw[HUL.out];exact Nat.le_refl _),HUL.out,Nat.sub_self];rfl
     unfold qo;rw[List.getElem?_map,this];rfl))
    clear HS7 HS6 HS5 HB2 HF1 HK2 HR2 HZ5 hHeld hHeld0 hS0
    generalize w6.setCell ⟨g,k,none⟩ (.int .i64 x)=W7 at *
    go_upto_region 14 with fail
    try (apply wp_seq_k;intro K_ HK_)
    have hS0:Below W7.heap.size W7 W7.drew:=(Below.refl _ _).drew
    refine wp_region_held_drew (S:=fun w'=>Below W7.heap.size W7 w') (by kernel_rfl) hS0 (fun hHeld0=>?_)
    refine tkQ (i:=0) (oi:=⟨some 49,_,_,_,_,_⟩) (v:=_) rfl (yieldsIf_load_mid (by rfl) 270 _ rfl fbk 0 rfl [.int .i64 (z:Int),.bool s,.int .i64 lo,.int .i64 hi] _ (fun w' hSw=>(HF7.out.on hSw).rg) Tryz.underlying270 rfl (by kernel_rfl)) ?_
    try go_frame
    refine tkQ (i:=1) (oi:=⟨some 50,_,_,_,_,_⟩) (v:=?_) rfl (Or.inl ⟨by rfl,?_⟩) ?_
    rotate_left
    ·intro w' hSw
     go_simp
     try with_reducible rfl
    try go_frame
    refine tkQ (i:=2) (oi:=⟨some 51,_,_,_,_,_⟩) (v:=?_) rfl (Or.inl ⟨by rfl,?_⟩) ?_
    rotate_left
    ·intro w' hSw
     go_simp
     try with_reducible rfl
    try go_frame
    refine tkQ (i:=3) (oi:=⟨some 52,_,_,_,_,_⟩) (v:=?_) rfl (Or.inl ⟨by rfl,?_⟩) ?_
    rotate_left
    ·intro w' hSw
     go_simp
     try with_reducible rfl
    try go_frame
    refine tkQ (i:=4) (oi:=⟨some 53,_,_,_,_,_⟩) (v:=?_) rfl (Or.inl ⟨by rfl,?_⟩) ?_
    rotate_left
    ·intro w' hSw
     have q:w'.cell? ⟨g,k,none⟩=some (.int .i64 x):=(hSw.cell HK7.out.lt).trans HN7.out
     go_simp
     try with_reducible rfl
    try go_frame
    refine wpAnyH_ready (rs:=[5]) (by kernel_rfl) (by simp) ?_
    refine AllReadyH.cons (o:=⟨some 54,_,_,_,_,_⟩) rfl (fun K hK=>?_) AllReadyH.nil
    rw[if_pos (by rfl)]
    go_step
    refine(HIX _).out.mono ?_
    rintro e w8 ⟨rfl,hb⟩
    have HB8:Hid (Below W7.heap.size W7 w8):=hid (hHeld0.trans (hb.mono hHeld0.size))
    clear hb
    try go_frame
    refine hK.out _ _ (HB8.out) (fun hHeld=>?_)
    clear hK K
    try go_frame
    refine tkQ (i:=6) (oi:=⟨some 55,_,_,_,_,_⟩) (v:=?_) rfl (Or.inl ⟨by rfl,?_⟩) ?_
    rotate_left
    ·intro w' hSw
     go_simp
     try with_reducible rfl
    try go_frame
    refine wpAnyH_done (by kernel_rfl) ?_ _
    try go_frame
    have HB9:=hid (HB7.out.trans (HB8.out.mono HB7.out.size))
    clear hHeld hHeld0 hS0
    cases bb
    ·have hre:=HRES.out
     have hx:¬(lo≤x∧x≤hi):=of_decide_eq_false HBB.out
     rw[HPN.out (by rw[HSN.out,if_neg hx])]at hre
     subst hre
     go_wp2_with fail
     go_ret2
     exact⟨none,0,rfl,qf.nil _ _ _,HB9.out⟩
    ·have hx:lo≤x∧x≤hi:=of_decide_eq_true HBB.out
     have HKN:Hid (∃u',yl (fs.take (k+1)) b=some u'∧u'.length=k+1∧Blk w8 g (qo (u'++List.replicate (n-(k+1)) 0))):=hid ⟨u++[x],by rw[HSN.out,if_pos hx],by rw[List.length_append,HUL.out];rfl,HK7.out.on HB8.out⟩
     have HRN:Hid (RdI (fun b=>w2.heap.size≤b∧b<g) w8 a (some (b.drop (vi (fs.take (k+1)))))):=hid (by
      rw[← HDR.out]
      exact HR7.out.below HB8.out (fun b q=>Nat.lt_trans q.2 HK7.out.lt))
     clear hx
     go_wp2_with fail
     go_roundg (n-(k+1))
     case measure=>omega
     case rel=>exact⟨k+1,by omega,by omega,by go_num,HKN,HRN,HB9⟩
   ·obtain rfl:k=n:=by omega
    obtain⟨u,hu,hul,hkb⟩:=HK.out
    rw[List.take_of_length_le (by rw[HL.out];exact Nat.le_refl _)]at hu
    rw[Nat.sub_self,List.replicate_zero,List.append_nil]at hkb
    have hre:=HRES.out
    rw[hu]at hre
    subst hre
    have HUK:=hid (And.intro hul hkb)
    clear hu hul hkb
    go_wp2_with fail
    go_ret2
    refine⟨some ⟨g,0,none⟩,k,?_,HUK.out.2.flat ⟨?_,HUK.out.2.lt⟩,HB.out⟩
    ·show _=Ending.returned (.tuple #[.slice _ u.length _,_])
     rw[HUK.out.1];rfl
    ·have:=HQ.out;have:=HA1.out.1;omega
 ·have e0:zy fs b=(7,[]):=by unfold zy;rw[if_neg (by omega),if_pos hgt]
  rw[e0]
  generalize vi fs=v at *
  generalize fs.length=n at *
  generalize b.length=m at *
  have g1:(v:Int)<m:=by omega
  clear hB hF e0
  go_enter Tryz.func91,Tryz.ntmps91
  go_wp2_with fail
  refine((HW _ (Below.refl _ _)).out).mono ?_
  rintro e w1 ⟨rfl,hb⟩
  have HB1:=hid hb
  clear hb
  go_wp2_with fail
  refine((HR _ HB1.out).out).mono ?_
  rintro e w2 ⟨rfl,hb⟩
  have HB2:=hid (qb HB1.out hb)
  clear hb
  go_wp2_with fail
  go_ret2
  exact⟨none,0,rfl,qf.nil _ _ _,HB2.out⟩
def kj:List Fld:=[⟨4,false,0,604799999⟩,⟨1,false,1,1⟩,⟨1,false,0,64⟩,⟨2,false,0,0⟩]
theorem awl:kj.all v9=true:=by decide +kernel
def aih:List Fld:=[⟨1,false,0,7⟩,⟨1,false,0,255⟩,⟨1,false,0,63⟩,⟨1,true,(-90),90⟩,⟨2,true,0,360⟩,⟨2,true,(-32768),32767⟩,⟨4,false,0,4294967295⟩]
theorem ank:aih.all v9=true:=by decide +kernel
def ahj:List Fld:=[⟨1,false,0,0⟩,⟨1,false,0,7⟩,⟨2,false,0,0⟩]
theorem a1d:ahj.all v9=true:=by decide +kernel
def ay4:List Fld:=[⟨1,false,0,255⟩,⟨1,false,0,255⟩]
theorem anc:ay4.all v9=true:=by decide +kernel
def ajd:List Fld:=[⟨4,false,0,604799999⟩,⟨2,false,0,65535⟩,⟨1,false,0,12⟩,⟨1,false,0,31⟩,⟨1,false,0,23⟩,⟨1,false,0,59⟩,⟨1,false,0,60⟩,⟨1,false,0,15⟩,⟨4,false,0,4294967295⟩,⟨4,true,(-1000000000),1000000000⟩,⟨1,false,0,5⟩,⟨1,false,0,255⟩,⟨1,false,0,255⟩,⟨1,false,0,255⟩,⟨4,true,(-1800000000),1800000000⟩,⟨4,true,(-900000000),900000000⟩,⟨4,true,(-2147483648),2147483647⟩,⟨4,true,(-2147483648),2147483647⟩,⟨4,false,0,4294967295⟩,⟨4,false,0,4294967295⟩,⟨4,true,(-2147483648),2147483647⟩,⟨4,true,(-2147483648),2147483647⟩,⟨4,true,(-2147483648),2147483647⟩,⟨4,true,(-2147483648),2147483647⟩,⟨4,true,0,36000000⟩,⟨4,false,0,4294967295⟩,⟨4,false,0,4294967295⟩,⟨2,false,0,65535⟩,⟨2,false,0,31⟩,⟨4,false,0,0⟩,⟨4,true,0,36000000⟩,⟨2,true,(-18000),18000⟩,⟨2,false,0,65535⟩]
theorem ao8:ajd.all v9=true:=by decide +kernel
def aj3:List Fld:=[⟨4,false,0,604799999⟩,⟨2,false,0,65535⟩,⟨2,false,0,65535⟩,⟨2,false,0,65535⟩,⟨2,false,0,65535⟩,⟨2,false,0,65535⟩,⟨2,false,0,65535⟩,⟨2,false,0,65535⟩]
theorem ams:aj3.all v9=true:=by decide +kernel
def ace (l:List Fld) (w:World) (e:Ending) (w':World):Prop:=∃A c,e=.returned (.slice A l.length c)∧qf (fun b=>w.heap.size≤b∧b<w'.heap.size) w' A (abt l)∧Below w.heap.size w w'
theorem ayp (w:World):Calls Tryz.prog 270 #[] w (ace kj w):=by
 have H0:∀W,Hid (Calls Tryz.prog 261 #[.int .i64 4,.int .i64 604799999] W fun e w'=>e=.returned (.agg #[.int .i64 4,.bool false,.int .i64 0,.int .i64 604799999])∧Below W.heap.size W w'):=fun W=>hid (jl 4 604799999 W (by decide) (by decide))
 have H1:∀W,Hid (Calls Tryz.prog 261 #[.int .i64 1,.int .i64 64] W fun e w'=>e=.returned (.agg #[.int .i64 1,.bool false,.int .i64 0,.int .i64 64])∧Below W.heap.size W w'):=fun W=>hid (jl 1 64 W (by decide) (by decide))
 have H2:∀W,Hid (Calls Tryz.prog 261 #[.int .i64 2,.int .i64 0] W fun e w'=>e=.returned (.agg #[.int .i64 2,.bool false,.int .i64 0,.int .i64 0])∧Below W.heap.size W w'):=fun W=>hid (jl 2 0 W (by decide) (by decide))
 go_enter Tryz.func270,Tryz.ntmps270
 go_wp2_with fail
 refine((H0 _).out).mono ?_
 rintro e w1 ⟨rfl,hb⟩
 have HB1:Hid (Below w.heap.size w w1):=hid (hb)
 clear hb
 go_wp2_with fail
 refine((H1 _).out).mono ?_
 rintro e w2 ⟨rfl,hb⟩
 have HB2:Hid (Below w.heap.size w w2):=hid (qb HB1.out hb)
 clear hb HB1
 go_wp2_with fail
 refine((H2 _).out).mono ?_
 rintro e w3 ⟨rfl,hb⟩
 have HB3:Hid (Below w.heap.size w w3):=hid (qb HB2.out hb)
 clear hb HB2
 go_wp2_with fail
 go_ret
 exact⟨some ⟨w3.heap.size,0,none⟩,4,rfl,(Blk.newL (qg w3 _ _) rfl).flat ⟨HB3.out.size,by simp⟩,qb HB3.out (qa _ _)⟩
theorem aun (w:World):Calls Tryz.prog 271 #[] w (ace aih w):=by
 have H0:∀W,Hid (Calls Tryz.prog 261 #[.int .i64 1,.int .i64 7] W fun e w'=>e=.returned (.agg #[.int .i64 1,.bool false,.int .i64 0,.int .i64 7])∧Below W.heap.size W w'):=fun W=>hid (jl 1 7 W (by decide) (by decide))
 have H1:∀W,Hid (Calls Tryz.prog 122 #[.int .i64 1,.bool false] W fun e w'=>e=.returned (.agg #[.int .i64 1,.bool false,.int .i64 0,.int .i64 255])∧Below W.heap.size W w'):=fun W=>hid (aen W)
 have H2:∀W,Hid (Calls Tryz.prog 261 #[.int .i64 1,.int .i64 63] W fun e w'=>e=.returned (.agg #[.int .i64 1,.bool false,.int .i64 0,.int .i64 63])∧Below W.heap.size W w'):=fun W=>hid (jl 1 63 W (by decide) (by decide))
 have H3:∀W,Hid (Calls Tryz.prog 260 #[.int .i64 1,.int .i64 (-90),.int .i64 90] W fun e w'=>e=.returned (.agg #[.int .i64 1,.bool true,.int .i64 (-90),.int .i64 90])∧Below W.heap.size W w'):=fun W=>hid (ac9 1 (-90) 90 W (by decide) (by decide))
 have H4:∀W,Hid (Calls Tryz.prog 260 #[.int .i64 2,.int .i64 0,.int .i64 360] W fun e w'=>e=.returned (.agg #[.int .i64 2,.bool true,.int .i64 0,.int .i64 360])∧Below W.heap.size W w'):=fun W=>hid (ac9 2 0 360 W (by decide) (by decide))
 have H5:∀W,Hid (Calls Tryz.prog 122 #[.int .i64 2,.bool true] W fun e w'=>e=.returned (.agg #[.int .i64 2,.bool true,.int .i64 (-32768),.int .i64 32767])∧Below W.heap.size W w'):=fun W=>hid (arh W)
 have H6:∀W,Hid (Calls Tryz.prog 122 #[.int .i64 4,.bool false] W fun e w'=>e=.returned (.agg #[.int .i64 4,.bool false,.int .i64 0,.int .i64 4294967295])∧Below W.heap.size W w'):=fun W=>hid (aj8 W)
 go_enter Tryz.func271,Tryz.ntmps271
 go_wp2_with fail
 refine((H0 _).out).mono ?_
 rintro e w1 ⟨rfl,hb⟩
 have HB1:Hid (Below w.heap.size w w1):=hid (hb)
 clear hb
 go_wp2_with fail
 refine((H1 _).out).mono ?_
 rintro e w2 ⟨rfl,hb⟩
 have HB2:Hid (Below w.heap.size w w2):=hid (qb HB1.out hb)
 clear hb HB1
 go_wp2_with fail
 refine((H2 _).out).mono ?_
 rintro e w3 ⟨rfl,hb⟩
 have HB3:Hid (Below w.heap.size w w3):=hid (qb HB2.out hb)
 clear hb HB2
 go_wp2_with fail
 refine((H3 _).out).mono ?_
 rintro e w4 ⟨rfl,hb⟩
 have HB4:Hid (Below w.heap.size w w4):=hid (qb HB3.out hb)
 clear hb HB3
 go_wp2_with fail
 refine((H4 _).out).mono ?_
 rintro e w5 ⟨rfl,hb⟩
 have HB5:Hid (Below w.heap.size w w5):=hid (qb HB4.out hb)
 clear hb HB4
 go_wp2_with fail
 refine((H5 _).out).mono ?_
 rintro e w6 ⟨rfl,hb⟩
 have HB6:Hid (Below w.heap.size w w6):=hid (qb HB5.out hb)
 clear hb HB5
 go_wp2_with fail
 refine((H6 _).out).mono ?_
 rintro e w7 ⟨rfl,hb⟩
 have HB7:Hid (Below w.heap.size w w7):=hid (qb HB6.out hb)
 clear hb HB6
 go_wp2_with fail
 go_ret
 exact⟨some ⟨w7.heap.size,0,none⟩,7,rfl,(Blk.newL (qg w7 _ _) rfl).flat ⟨HB7.out.size,by simp⟩,qb HB7.out (qa _ _)⟩
theorem aub (w:World):Calls Tryz.prog 290 #[] w (ace ahj w):=by
 have H0:∀W,Hid (Calls Tryz.prog 261 #[.int .i64 1,.int .i64 0] W fun e w'=>e=.returned (.agg #[.int .i64 1,.bool false,.int .i64 0,.int .i64 0])∧Below W.heap.size W w'):=fun W=>hid (jl 1 0 W (by decide) (by decide))
 have H1:∀W,Hid (Calls Tryz.prog 261 #[.int .i64 1,.int .i64 7] W fun e w'=>e=.returned (.agg #[.int .i64 1,.bool false,.int .i64 0,.int .i64 7])∧Below W.heap.size W w'):=fun W=>hid (jl 1 7 W (by decide) (by decide))
 have H2:∀W,Hid (Calls Tryz.prog 261 #[.int .i64 2,.int .i64 0] W fun e w'=>e=.returned (.agg #[.int .i64 2,.bool false,.int .i64 0,.int .i64 0])∧Below W.heap.size W w'):=fun W=>hid (jl 2 0 W (by decide) (by decide))
 go_enter Tryz.func290,Tryz.ntmps290
 go_wp2_with fail
 refine((H0 _).out).mono ?_
 rintro e w1 ⟨rfl,hb⟩
 have HB1:Hid (Below w.heap.size w w1):=hid (hb)
 clear hb
 go_wp2_with fail
 refine((H1 _).out).mono ?_
 rintro e w2 ⟨rfl,hb⟩
 have HB2:Hid (Below w.heap.size w w2):=hid (qb HB1.out hb)
 clear hb HB1
 go_wp2_with fail
 refine((H2 _).out).mono ?_
 rintro e w3 ⟨rfl,hb⟩
 have HB3:Hid (Below w.heap.size w w3):=hid (qb HB2.out hb)
 clear hb HB2
 go_wp2_with fail
 go_ret
 exact⟨some ⟨w3.heap.size,0,none⟩,3,rfl,(Blk.newL (qg w3 _ _) rfl).flat ⟨HB3.out.size,by simp⟩,qb HB3.out (qa _ _)⟩
theorem ap5 (w:World):Calls Tryz.prog 284 #[] w (ace ay4 w):=by
 have H0:∀W,Hid (Calls Tryz.prog 122 #[.int .i64 1,.bool false] W fun e w'=>e=.returned (.agg #[.int .i64 1,.bool false,.int .i64 0,.int .i64 255])∧Below W.heap.size W w'):=fun W=>hid (aen W)
 have H1:∀W,Hid (Calls Tryz.prog 122 #[.int .i64 1,.bool false] W fun e w'=>e=.returned (.agg #[.int .i64 1,.bool false,.int .i64 0,.int .i64 255])∧Below W.heap.size W w'):=fun W=>hid (aen W)
 go_enter Tryz.func284,Tryz.ntmps284
 go_wp2_with fail
 refine((H0 _).out).mono ?_
 rintro e w1 ⟨rfl,hb⟩
 have HB1:Hid (Below w.heap.size w w1):=hid (hb)
 clear hb
 go_wp2_with fail
 refine((H1 _).out).mono ?_
 rintro e w2 ⟨rfl,hb⟩
 have HB2:Hid (Below w.heap.size w w2):=hid (qb HB1.out hb)
 clear hb HB1
 go_wp2_with fail
 go_ret
 exact⟨some ⟨w2.heap.size,0,none⟩,2,rfl,(Blk.newL (qg w2 _ _) rfl).flat ⟨HB2.out.size,by simp⟩,qb HB2.out (qa _ _)⟩
theorem avz:(Tryz.prog.info? 270).map (fun i=>(i.zero,i.size,i.bytes))=some (some (.agg #[.int .i64 0,.bool false,.int .i64 0,.int .i64 0]),4,32):=by kernel_rfl
theorem ars (l:List Fld):∀v∈abt l,v.oneCell'=true:=by
 intro v hv
 obtain⟨p,-,h⟩:=List.mem_flatMap.1 hv
 simp only[ay7,List.mem_cons,List.not_mem_nil,or_false]at h
 rcases h with rfl|rfl|rfl|rfl<;>rfl
theorem aqx (l m:List Fld):abt (l++m)=abt l++abt m:=List.flatMap_append
theorem apr (w:World):Calls Tryz.prog 278 #[] w (ace aj3 w):=by
 have H0:∀W,Hid (Calls Tryz.prog 261 #[.int .i64 4,.int .i64 604799999] W fun e w'=>e=.returned (.agg #[.int .i64 4,.bool false,.int .i64 0,.int .i64 604799999])∧Below W.heap.size W w'):=fun W=>hid (jl 4 604799999 W (by decide) (by decide))
 have H1:∀W,Hid (Calls Tryz.prog 122 #[.int .i64 2,.bool false] W fun e w'=>e=.returned (.agg #[.int .i64 2,.bool false,.int .i64 0,.int .i64 65535])∧Below W.heap.size W w'):=fun W=>hid (akf W)
 obtain⟨i0,hi,hz0,hz1,hz2⟩:=jo avz
 have HI:=hid (And.intro hi (And.intro hz0 (And.intro hz1 hz2)))
 clear hi hz0 hz1 hz2
 go_enter Tryz.func278,Tryz.ntmps278
 go_wp2_with fail
 refine((H0 _).out).mono ?_
 rintro e w1 ⟨rfl,hb⟩
 have HB1:=hid hb
 clear hb
 go_wp2_with fail
 have HO2:Hid (aa4 w 270 4 (.slice (some ⟨w1.heap.size,0,none⟩) 1 1) 1 (abt (aj3.take 1)) (w1.alloc (.cells #[.int .i64 4,.bool false,.int .i64 0,.int .i64 604799999] 270))):=hid ⟨World.ownsRow_lit w1 #[.int .i64 4,.bool false,.int .i64 0,.int .i64 604799999] 1 HB1.out.size (by decide) rfl,qb HB1.out (qa _ _)⟩
 clear HB1
 go_loopg [1,4] 7 (fun g s1 s4 wr=>∃k:Nat,k≤7∧7-k≤g∧s4=.int .i64 k∧Hid (aa4 w 270 4 s1 (k+1) (abt (aj3.take (k+1))) wr))
 case atStart=>exact⟨0,by omega,by omega,rfl,HO2⟩
 case round=>
  rename_i s1
  obtain⟨k,hk,hg,rfl,HO⟩:=hrel
  by_cases hlt:k<7
  ·have i1:(k:Int)<7:=by omega
   have i2:(0:Int) ≤(k:Int):=Int.natCast_nonneg _
   obtain⟨A,c,hs1,-,-⟩:=HO.out.flat
   subst hs1
   go_wp2_with fail
   refine((H1 _).out).mono ?_
   rintro e w2 ⟨rfl,hb⟩
   obtain⟨v',w3,hrun,ho⟩:=aa4.app (P:=Tryz.prog) (t:=203) (ty:=203) ((HO.out.on hb).on (qa w2 (.cells #[.int .i64 2,.bool false,.int .i64 0,.int .i64 65535] 270))) HI.out Tryz.underlying203 rfl (by decide) (R:=fun _=>True) (some ⟨w2.heap.size,0,none⟩) 1 1 [.int .i64 2,.bool false,.int .i64 0,.int .i64 65535] rfl ((Blk.newL (qg w2 _ _) rfl).flat trivial) (ars [⟨2,false,0,65535⟩]) (by unfold maxLen;omega) (by omega)
   have HRUN:=hid hrun
   have HO3:Hid (aa4 w 270 4 v' (k+1+1) (abt (aj3.take (k+1+1))) w3):=hid (by
    have e:aj3.take (k+1+1)=aj3.take (k+1)++[⟨2,false,0,65535⟩]:=by
     have:k=0∨k=1∨k=2∨k=3∨k=4∨k=5∨k=6:=by omega
     rcases this with rfl|rfl|rfl|rfl|rfl|rfl|rfl<;>rfl
    rw[e,aqx]
    exact ho)
   clear hb hrun ho
   go_wp2_with (at_builtin;refine qz rfl _ _ 203 rfl _ _ _ rfl rfl HRUN.out ?_)
   go_roundg (7-(k+1))
   case measure=>omega
   case rel=>exact⟨k+1,by omega,by omega,by go_num,HO3⟩
  ·obtain rfl:k=7:=by omega
   obtain⟨A,c,hs1,hcap,hfl⟩:=HO.out.flat
   subst hs1
   have HFL:=hid (And.intro hfl HO.out.2)
   clear hfl HO
   go_wp2_with fail
   go_ret
   exact⟨A,c,rfl,HFL.out.1,HFL.out.2⟩
set_option maxRecDepth 20000 in
theorem aue (w:World):Calls Tryz.prog 258 #[] w (ace ajd w):=by
 have Hp0:∀W,Hid (Calls Tryz.prog 122 #[.int .i64 1,.bool false] W fun e w'=>e=.returned (.agg #[.int .i64 1,.bool false,.int .i64 0,.int .i64 255])∧Below W.heap.size W w'):=fun W=>hid (aen W)
 have Hp1:∀W,Hid (Calls Tryz.prog 122 #[.int .i64 2,.bool false] W fun e w'=>e=.returned (.agg #[.int .i64 2,.bool false,.int .i64 0,.int .i64 65535])∧Below W.heap.size W w'):=fun W=>hid (akf W)
 have Hp2:∀W,Hid (Calls Tryz.prog 122 #[.int .i64 4,.bool false] W fun e w'=>e=.returned (.agg #[.int .i64 4,.bool false,.int .i64 0,.int .i64 4294967295])∧Below W.heap.size W w'):=fun W=>hid (aj8 W)
 have Hp3:∀W,Hid (Calls Tryz.prog 122 #[.int .i64 4,.bool true] W fun e w'=>e=.returned (.agg #[.int .i64 4,.bool true,.int .i64 (-2147483648),.int .i64 2147483647])∧Below W.heap.size W w'):=fun W=>hid (aq1 W)
 have Hp4:∀W,Hid (Calls Tryz.prog 260 #[.int .i64 4,.int .i64 0,.int .i64 36000000] W fun e w'=>e=.returned (.agg #[.int .i64 4,.bool true,.int .i64 0,.int .i64 36000000])∧Below W.heap.size W w'):=fun W=>hid (ac9 4 0 36000000 W (by decide) (by decide))
 have H0:∀W,Hid (Calls Tryz.prog 261 #[.int .i64 4,.int .i64 604799999] W fun e w'=>e=.returned (.agg #[.int .i64 4,.bool false,.int .i64 0,.int .i64 604799999])∧Below W.heap.size W w'):=fun W=>hid (jl 4 604799999 W (by decide) (by decide))
 have H2:∀W,Hid (Calls Tryz.prog 261 #[.int .i64 1,.int .i64 12] W fun e w'=>e=.returned (.agg #[.int .i64 1,.bool false,.int .i64 0,.int .i64 12])∧Below W.heap.size W w'):=fun W=>hid (jl 1 12 W (by decide) (by decide))
 have H3:∀W,Hid (Calls Tryz.prog 261 #[.int .i64 1,.int .i64 31] W fun e w'=>e=.returned (.agg #[.int .i64 1,.bool false,.int .i64 0,.int .i64 31])∧Below W.heap.size W w'):=fun W=>hid (jl 1 31 W (by decide) (by decide))
 have H4:∀W,Hid (Calls Tryz.prog 261 #[.int .i64 1,.int .i64 23] W fun e w'=>e=.returned (.agg #[.int .i64 1,.bool false,.int .i64 0,.int .i64 23])∧Below W.heap.size W w'):=fun W=>hid (jl 1 23 W (by decide) (by decide))
 have H5:∀W,Hid (Calls Tryz.prog 261 #[.int .i64 1,.int .i64 59] W fun e w'=>e=.returned (.agg #[.int .i64 1,.bool false,.int .i64 0,.int .i64 59])∧Below W.heap.size W w'):=fun W=>hid (jl 1 59 W (by decide) (by decide))
 have H6:∀W,Hid (Calls Tryz.prog 261 #[.int .i64 1,.int .i64 60] W fun e w'=>e=.returned (.agg #[.int .i64 1,.bool false,.int .i64 0,.int .i64 60])∧Below W.heap.size W w'):=fun W=>hid (jl 1 60 W (by decide) (by decide))
 have H7:∀W,Hid (Calls Tryz.prog 261 #[.int .i64 1,.int .i64 15] W fun e w'=>e=.returned (.agg #[.int .i64 1,.bool false,.int .i64 0,.int .i64 15])∧Below W.heap.size W w'):=fun W=>hid (jl 1 15 W (by decide) (by decide))
 have H9:∀W,Hid (Calls Tryz.prog 260 #[.int .i64 4,.int .i64 (-1000000000),.int .i64 1000000000] W fun e w'=>e=.returned (.agg #[.int .i64 4,.bool true,.int .i64 (-1000000000),.int .i64 1000000000])∧Below W.heap.size W w'):=fun W=>hid (ac9 4 (-1000000000) 1000000000 W (by decide) (by decide))
 have H10:∀W,Hid (Calls Tryz.prog 261 #[.int .i64 1,.int .i64 5] W fun e w'=>e=.returned (.agg #[.int .i64 1,.bool false,.int .i64 0,.int .i64 5])∧Below W.heap.size W w'):=fun W=>hid (jl 1 5 W (by decide) (by decide))
 have H14:∀W,Hid (Calls Tryz.prog 260 #[.int .i64 4,.int .i64 (-1800000000),.int .i64 1800000000] W fun e w'=>e=.returned (.agg #[.int .i64 4,.bool true,.int .i64 (-1800000000),.int .i64 1800000000])∧Below W.heap.size W w'):=fun W=>hid (ac9 4 (-1800000000) 1800000000 W (by decide) (by decide))
 have H15:∀W,Hid (Calls Tryz.prog 260 #[.int .i64 4,.int .i64 (-900000000),.int .i64 900000000] W fun e w'=>e=.returned (.agg #[.int .i64 4,.bool true,.int .i64 (-900000000),.int .i64 900000000])∧Below W.heap.size W w'):=fun W=>hid (ac9 4 (-900000000) 900000000 W (by decide) (by decide))
 have H28:∀W,Hid (Calls Tryz.prog 261 #[.int .i64 2,.int .i64 31] W fun e w'=>e=.returned (.agg #[.int .i64 2,.bool false,.int .i64 0,.int .i64 31])∧Below W.heap.size W w'):=fun W=>hid (jl 2 31 W (by decide) (by decide))
 have H29:∀W,Hid (Calls Tryz.prog 261 #[.int .i64 4,.int .i64 0] W fun e w'=>e=.returned (.agg #[.int .i64 4,.bool false,.int .i64 0,.int .i64 0])∧Below W.heap.size W w'):=fun W=>hid (jl 4 0 W (by decide) (by decide))
 have H31:∀W,Hid (Calls Tryz.prog 260 #[.int .i64 2,.int .i64 (-18000),.int .i64 18000] W fun e w'=>e=.returned (.agg #[.int .i64 2,.bool true,.int .i64 (-18000),.int .i64 18000])∧Below W.heap.size W w'):=fun W=>hid (ac9 2 (-18000) 18000 W (by decide) (by decide))
 go_enter Tryz.func258,Tryz.ntmps258
 go_wp2_with fail
 refine((Hp0 _).out).mono ?_
 rintro e w1 ⟨rfl,hb⟩
 have HB1:Hid (Below w.heap.size w w1):=hid (hb)
 clear hb
 go_wp2_with fail
 refine((Hp1 _).out).mono ?_
 rintro e w2 ⟨rfl,hb⟩
 have HB2:Hid (Below w.heap.size w w2):=hid (qb HB1.out hb)
 clear hb HB1
 go_wp2_with fail
 refine((Hp2 _).out).mono ?_
 rintro e w3 ⟨rfl,hb⟩
 have HB3:Hid (Below w.heap.size w w3):=hid (qb HB2.out hb)
 clear hb HB2
 have h31:(w3.alloc (.cells #[.int .i64 1,.bool false,.int .i64 0,.int .i64 255] 270)).heap.size=w3.heap.size+1:=by simp
 have h32:((w3.alloc (.cells #[.int .i64 1,.bool false,.int .i64 0,.int .i64 255] 270)).alloc (.cells #[.int .i64 2,.bool false,.int .i64 0,.int .i64 65535] 270)).heap.size=w3.heap.size+2:=by simp
 have HX1:Hid (Blk (((w3.alloc (.cells #[.int .i64 1,.bool false,.int .i64 0,.int .i64 255] 270)).alloc (.cells #[.int .i64 2,.bool false,.int .i64 0,.int .i64 65535] 270)).alloc (.cells #[.int .i64 4,.bool false,.int .i64 0,.int .i64 4294967295] 270)) w3.heap.size [.int .i64 1,.bool false,.int .i64 0,.int .i64 255]):=hid (((Blk.newL (qg w3 _ _) rfl).on (qa _ _)).on (qa _ _))
 have HX2:Hid (Blk (((w3.alloc (.cells #[.int .i64 1,.bool false,.int .i64 0,.int .i64 255] 270)).alloc (.cells #[.int .i64 2,.bool false,.int .i64 0,.int .i64 65535] 270)).alloc (.cells #[.int .i64 4,.bool false,.int .i64 0,.int .i64 4294967295] 270)) (w3.heap.size+1) [.int .i64 2,.bool false,.int .i64 0,.int .i64 65535]):=hid (by
  have:=(Blk.newL (L:=[.int .i64 2,.bool false,.int .i64 0,.int .i64 65535]) (qg (w3.alloc (.cells #[.int .i64 1,.bool false,.int .i64 0,.int .i64 255] 270)) #[.int .i64 2,.bool false,.int .i64 0,.int .i64 65535] 270) rfl).on (qa _ (.cells #[.int .i64 4,.bool false,.int .i64 0,.int .i64 4294967295] 270))
  rwa [h31]at this)
 have HX3:Hid (Blk (((w3.alloc (.cells #[.int .i64 1,.bool false,.int .i64 0,.int .i64 255] 270)).alloc (.cells #[.int .i64 2,.bool false,.int .i64 0,.int .i64 65535] 270)).alloc (.cells #[.int .i64 4,.bool false,.int .i64 0,.int .i64 4294967295] 270)) (w3.heap.size+2) [.int .i64 4,.bool false,.int .i64 0,.int .i64 4294967295]):=hid (by
  have:=Blk.newL (L:=[.int .i64 4,.bool false,.int .i64 0,.int .i64 4294967295]) (qg ((w3.alloc (.cells #[.int .i64 1,.bool false,.int .i64 0,.int .i64 255] 270)).alloc (.cells #[.int .i64 2,.bool false,.int .i64 0,.int .i64 65535] 270)) #[.int .i64 4,.bool false,.int .i64 0,.int .i64 4294967295] 270) rfl
  rwa [h32]at this)
 have HB4:Hid (Below w.heap.size w (((w3.alloc (.cells #[.int .i64 1,.bool false,.int .i64 0,.int .i64 255] 270)).alloc (.cells #[.int .i64 2,.bool false,.int .i64 0,.int .i64 65535] 270)).alloc (.cells #[.int .i64 4,.bool false,.int .i64 0,.int .i64 4294967295] 270))):=hid (qb (qb (qb HB3.out (qa _ _)) (qa _ _)) (qa _ _))
 clear h31 h32 HB3
 go_wp2_with fail
 refine((Hp3 _).out).mono ?_
 rintro e w4 ⟨rfl,hb⟩
 have HY1:=hid ((HX1.out.on hb).on (qa w4 (.cells #[.int .i64 4,.bool true,.int .i64 (-2147483648),.int .i64 2147483647] 270)))
 have HY2:=hid ((HX2.out.on hb).on (qa w4 (.cells #[.int .i64 4,.bool true,.int .i64 (-2147483648),.int .i64 2147483647] 270)))
 have HY3:=hid ((HX3.out.on hb).on (qa w4 (.cells #[.int .i64 4,.bool true,.int .i64 (-2147483648),.int .i64 2147483647] 270)))
 have HY4:Hid (Blk (w4.alloc (.cells #[.int .i64 4,.bool true,.int .i64 (-2147483648),.int .i64 2147483647] 270)) w4.heap.size [.int .i64 4,.bool true,.int .i64 (-2147483648),.int .i64 2147483647]):=hid (Blk.newL (qg w4 _ _) rfl)
 have HB5:=hid (qb (qb HB4.out hb) (qa w4 (.cells #[.int .i64 4,.bool true,.int .i64 (-2147483648),.int .i64 2147483647] 270)))
 clear hb HX1 HX2 HX3 HB4
 go_wp2_with fail
 refine((Hp4 _).out).mono ?_
 rintro e w5 ⟨rfl,hb⟩
 have HZ1:=hid ((HY1.out.on hb).on (qa w5 (.cells #[.int .i64 4,.bool true,.int .i64 0,.int .i64 36000000] 270)))
 have HZ2:=hid ((HY2.out.on hb).on (qa w5 (.cells #[.int .i64 4,.bool true,.int .i64 0,.int .i64 36000000] 270)))
 have HZ3:=hid ((HY3.out.on hb).on (qa w5 (.cells #[.int .i64 4,.bool true,.int .i64 0,.int .i64 36000000] 270)))
 have HZ4:=hid ((HY4.out.on hb).on (qa w5 (.cells #[.int .i64 4,.bool true,.int .i64 0,.int .i64 36000000] 270)))
 have HZ5:Hid (Blk (w5.alloc (.cells #[.int .i64 4,.bool true,.int .i64 0,.int .i64 36000000] 270)) w5.heap.size [.int .i64 4,.bool true,.int .i64 0,.int .i64 36000000]):=hid (Blk.newL (qg w5 _ _) rfl)
 have HB6:=hid (qb (qb HB5.out hb) (qa w5 (.cells #[.int .i64 4,.bool true,.int .i64 0,.int .i64 36000000] 270)))
 clear hb HY1 HY2 HY3 HY4 HB5
 go_upto_region 4 with fail
 generalize w5.alloc (.cells #[.int .i64 4,.bool true,.int .i64 0,.int .i64 36000000] 270)=W at *
 try (apply wp_seq_k;intro K_ HK_)
 have hS0:Below W.heap.size W W.drew:=(Below.refl _ _).drew
 refine wp_region_held_drew (S:=fun w'=>Below W.heap.size W w') (by kernel_rfl) hS0 (fun hHeld0=>?_)
 have HS:Hid (Below W.heap.size W W.drew):=hid hS0
 refine tkQ (i:=1) (oi:=⟨some 12,_,_,_,_,_⟩) (v:=_) rfl (yieldsIf_load_mid (by rfl) 270 _ rfl (w3.heap.size+1) 0 rfl [.int .i64 2,.bool false,.int .i64 0,.int .i64 65535] _ (fun w' hSw=>(HZ2.out.on hSw).rg) Tryz.underlying270 rfl (by kernel_rfl)) ?_
 try go_frame
 refine tkQ (i:=8) (oi:=⟨some 19,_,_,_,_,_⟩) (v:=_) rfl (yieldsIf_load_mid (by rfl) 270 _ rfl (w3.heap.size+2) 0 rfl [.int .i64 4,.bool false,.int .i64 0,.int .i64 4294967295] _ (fun w' hSw=>(HZ3.out.on hSw).rg) Tryz.underlying270 rfl (by kernel_rfl)) ?_
 try go_frame
 refine tkQ (i:=11) (oi:=⟨some 22,_,_,_,_,_⟩) (v:=_) rfl (yieldsIf_load_mid (by rfl) 270 _ rfl w3.heap.size 0 rfl [.int .i64 1,.bool false,.int .i64 0,.int .i64 255] _ (fun w' hSw=>(HZ1.out.on hSw).rg) Tryz.underlying270 rfl (by kernel_rfl)) ?_
 try go_frame
 refine tkQ (i:=12) (oi:=⟨some 23,_,_,_,_,_⟩) (v:=_) rfl (yieldsIf_load_mid (by rfl) 270 _ rfl w3.heap.size 0 rfl [.int .i64 1,.bool false,.int .i64 0,.int .i64 255] _ (fun w' hSw=>(HZ1.out.on hSw).rg) Tryz.underlying270 rfl (by kernel_rfl)) ?_
 try go_frame
 refine tkQ (i:=13) (oi:=⟨some 24,_,_,_,_,_⟩) (v:=_) rfl (yieldsIf_load_mid (by rfl) 270 _ rfl w3.heap.size 0 rfl [.int .i64 1,.bool false,.int .i64 0,.int .i64 255] _ (fun w' hSw=>(HZ1.out.on hSw).rg) Tryz.underlying270 rfl (by kernel_rfl)) ?_
 try go_frame
 refine tkQ (i:=16) (oi:=⟨some 27,_,_,_,_,_⟩) (v:=_) rfl (yieldsIf_load_mid (by rfl) 270 _ rfl w4.heap.size 0 rfl [.int .i64 4,.bool true,.int .i64 (-2147483648),.int .i64 2147483647] _ (fun w' hSw=>(HZ4.out.on hSw).rg) Tryz.underlying270 rfl (by kernel_rfl)) ?_
 try go_frame
 refine tkQ (i:=17) (oi:=⟨some 28,_,_,_,_,_⟩) (v:=_) rfl (yieldsIf_load_mid (by rfl) 270 _ rfl w4.heap.size 0 rfl [.int .i64 4,.bool true,.int .i64 (-2147483648),.int .i64 2147483647] _ (fun w' hSw=>(HZ4.out.on hSw).rg) Tryz.underlying270 rfl (by kernel_rfl)) ?_
 try go_frame
 refine tkQ (i:=18) (oi:=⟨some 29,_,_,_,_,_⟩) (v:=_) rfl (yieldsIf_load_mid (by rfl) 270 _ rfl (w3.heap.size+2) 0 rfl [.int .i64 4,.bool false,.int .i64 0,.int .i64 4294967295] _ (fun w' hSw=>(HZ3.out.on hSw).rg) Tryz.underlying270 rfl (by kernel_rfl)) ?_
 try go_frame
 refine tkQ (i:=19) (oi:=⟨some 30,_,_,_,_,_⟩) (v:=_) rfl (yieldsIf_load_mid (by rfl) 270 _ rfl (w3.heap.size+2) 0 rfl [.int .i64 4,.bool false,.int .i64 0,.int .i64 4294967295] _ (fun w' hSw=>(HZ3.out.on hSw).rg) Tryz.underlying270 rfl (by kernel_rfl)) ?_
 try go_frame
 refine tkQ (i:=20) (oi:=⟨some 31,_,_,_,_,_⟩) (v:=_) rfl (yieldsIf_load_mid (by rfl) 270 _ rfl w4.heap.size 0 rfl [.int .i64 4,.bool true,.int .i64 (-2147483648),.int .i64 2147483647] _ (fun w' hSw=>(HZ4.out.on hSw).rg) Tryz.underlying270 rfl (by kernel_rfl)) ?_
 try go_frame
 refine tkQ (i:=21) (oi:=⟨some 32,_,_,_,_,_⟩) (v:=_) rfl (yieldsIf_load_mid (by rfl) 270 _ rfl w4.heap.size 0 rfl [.int .i64 4,.bool true,.int .i64 (-2147483648),.int .i64 2147483647] _ (fun w' hSw=>(HZ4.out.on hSw).rg) Tryz.underlying270 rfl (by kernel_rfl)) ?_
 try go_frame
 refine tkQ (i:=22) (oi:=⟨some 33,_,_,_,_,_⟩) (v:=_) rfl (yieldsIf_load_mid (by rfl) 270 _ rfl w4.heap.size 0 rfl [.int .i64 4,.bool true,.int .i64 (-2147483648),.int .i64 2147483647] _ (fun w' hSw=>(HZ4.out.on hSw).rg) Tryz.underlying270 rfl (by kernel_rfl)) ?_
 try go_frame
 refine tkQ (i:=23) (oi:=⟨some 34,_,_,_,_,_⟩) (v:=_) rfl (yieldsIf_load_mid (by rfl) 270 _ rfl w4.heap.size 0 rfl [.int .i64 4,.bool true,.int .i64 (-2147483648),.int .i64 2147483647] _ (fun w' hSw=>(HZ4.out.on hSw).rg) Tryz.underlying270 rfl (by kernel_rfl)) ?_
 try go_frame
 refine tkQ (i:=24) (oi:=⟨some 35,_,_,_,_,_⟩) (v:=_) rfl (yieldsIf_load_mid (by rfl) 270 _ rfl w5.heap.size 0 rfl [.int .i64 4,.bool true,.int .i64 0,.int .i64 36000000] _ (fun w' hSw=>(HZ5.out.on hSw).rg) Tryz.underlying270 rfl (by kernel_rfl)) ?_
 try go_frame
 refine tkQ (i:=25) (oi:=⟨some 36,_,_,_,_,_⟩) (v:=_) rfl (yieldsIf_load_mid (by rfl) 270 _ rfl (w3.heap.size+2) 0 rfl [.int .i64 4,.bool false,.int .i64 0,.int .i64 4294967295] _ (fun w' hSw=>(HZ3.out.on hSw).rg) Tryz.underlying270 rfl (by kernel_rfl)) ?_
 try go_frame
 refine tkQ (i:=26) (oi:=⟨some 37,_,_,_,_,_⟩) (v:=_) rfl (yieldsIf_load_mid (by rfl) 270 _ rfl (w3.heap.size+2) 0 rfl [.int .i64 4,.bool false,.int .i64 0,.int .i64 4294967295] _ (fun w' hSw=>(HZ3.out.on hSw).rg) Tryz.underlying270 rfl (by kernel_rfl)) ?_
 try go_frame
 refine tkQ (i:=27) (oi:=⟨some 38,_,_,_,_,_⟩) (v:=_) rfl (yieldsIf_load_mid (by rfl) 270 _ rfl (w3.heap.size+1) 0 rfl [.int .i64 2,.bool false,.int .i64 0,.int .i64 65535] _ (fun w' hSw=>(HZ2.out.on hSw).rg) Tryz.underlying270 rfl (by kernel_rfl)) ?_
 try go_frame
 refine tkQ (i:=30) (oi:=⟨some 41,_,_,_,_,_⟩) (v:=_) rfl (yieldsIf_load_mid (by rfl) 270 _ rfl w5.heap.size 0 rfl [.int .i64 4,.bool true,.int .i64 0,.int .i64 36000000] _ (fun w' hSw=>(HZ5.out.on hSw).rg) Tryz.underlying270 rfl (by kernel_rfl)) ?_
 try go_frame
 refine tkQ (i:=32) (oi:=⟨some 43,_,_,_,_,_⟩) (v:=_) rfl (yieldsIf_load_mid (by rfl) 270 _ rfl (w3.heap.size+1) 0 rfl [.int .i64 2,.bool false,.int .i64 0,.int .i64 65535] _ (fun w' hSw=>(HZ2.out.on hSw).rg) Tryz.underlying270 rfl (by kernel_rfl)) ?_
 try go_frame
 refine wpAnyH_ready (rs:=[0]) (by kernel_rfl) (by simp) ?_
 refine AllReadyH.cons (o:=⟨some 11,_,_,_,_,_⟩) rfl (fun K hK=>?_) AllReadyH.nil
 rw[if_pos (by rfl)]
 go_step
 refine(H0 _).out.mono ?_
 rintro e Q0 ⟨rfl,hb⟩
 replace HS:=hid (HS.out.trans (hb.mono HS.out.size))
 clear hb
 try go_frame
 refine hK.out _ _ (HS.out) (fun hHeld=>?_)
 clear hK K
 try go_frame
 refine wpAnyH_ready (rs:=[2]) (by kernel_rfl) (by simp) ?_
 refine AllReadyH.cons (o:=⟨some 13,_,_,_,_,_⟩) rfl (fun K hK=>?_) AllReadyH.nil
 rw[if_pos (by rfl)]
 go_step
 refine(H2 _).out.mono ?_
 rintro e Q2 ⟨rfl,hb⟩
 replace HS:=hid (HS.out.trans (hb.mono HS.out.size))
 clear hb
 try go_frame
 refine hK.out _ _ (HS.out) (fun hHeld=>?_)
 clear hK K
 try go_frame
 refine wpAnyH_ready (rs:=[3]) (by kernel_rfl) (by simp) ?_
 refine AllReadyH.cons (o:=⟨some 14,_,_,_,_,_⟩) rfl (fun K hK=>?_) AllReadyH.nil
 rw[if_pos (by rfl)]
 go_step
 refine(H3 _).out.mono ?_
 rintro e Q3 ⟨rfl,hb⟩
 replace HS:=hid (HS.out.trans (hb.mono HS.out.size))
 clear hb
 try go_frame
 refine hK.out _ _ (HS.out) (fun hHeld=>?_)
 clear hK K
 try go_frame
 refine wpAnyH_ready (rs:=[4]) (by kernel_rfl) (by simp) ?_
 refine AllReadyH.cons (o:=⟨some 15,_,_,_,_,_⟩) rfl (fun K hK=>?_) AllReadyH.nil
 rw[if_pos (by rfl)]
 go_step
 refine(H4 _).out.mono ?_
 rintro e Q4 ⟨rfl,hb⟩
 replace HS:=hid (HS.out.trans (hb.mono HS.out.size))
 clear hb
 try go_frame
 refine hK.out _ _ (HS.out) (fun hHeld=>?_)
 clear hK K
 try go_frame
 refine wpAnyH_ready (rs:=[5]) (by kernel_rfl) (by simp) ?_
 refine AllReadyH.cons (o:=⟨some 16,_,_,_,_,_⟩) rfl (fun K hK=>?_) AllReadyH.nil
 rw[if_pos (by rfl)]
 go_step
 refine(H5 _).out.mono ?_
 rintro e Q5 ⟨rfl,hb⟩
 replace HS:=hid (HS.out.trans (hb.mono HS.out.size))
 clear hb
 try go_frame
 refine hK.out _ _ (HS.out) (fun hHeld=>?_)
 clear hK K
 try go_frame
 refine wpAnyH_ready (rs:=[6]) (by kernel_rfl) (by simp) ?_
 refine AllReadyH.cons (o:=⟨some 17,_,_,_,_,_⟩) rfl (fun K hK=>?_) AllReadyH.nil
 rw[if_pos (by rfl)]
 go_step
 refine(H6 _).out.mono ?_
 rintro e Q6 ⟨rfl,hb⟩
 replace HS:=hid (HS.out.trans (hb.mono HS.out.size))
 clear hb
 try go_frame
 refine hK.out _ _ (HS.out) (fun hHeld=>?_)
 clear hK K
 try go_frame
 refine wpAnyH_ready (rs:=[7]) (by kernel_rfl) (by simp) ?_
 refine AllReadyH.cons (o:=⟨some 18,_,_,_,_,_⟩) rfl (fun K hK=>?_) AllReadyH.nil
 rw[if_pos (by rfl)]
 go_step
 refine(H7 _).out.mono ?_
 rintro e Q7 ⟨rfl,hb⟩
 replace HS:=hid (HS.out.trans (hb.mono HS.out.size))
 clear hb
 try go_frame
 refine hK.out _ _ (HS.out) (fun hHeld=>?_)
 clear hK K
 try go_frame
 refine wpAnyH_ready (rs:=[9]) (by kernel_rfl) (by simp) ?_
 refine AllReadyH.cons (o:=⟨some 20,_,_,_,_,_⟩) rfl (fun K hK=>?_) AllReadyH.nil
 rw[if_pos (by rfl)]
 go_step
 refine(H9 _).out.mono ?_
 rintro e Q9 ⟨rfl,hb⟩
 replace HS:=hid (HS.out.trans (hb.mono HS.out.size))
 clear hb
 try go_frame
 refine hK.out _ _ (HS.out) (fun hHeld=>?_)
 clear hK K
 try go_frame
 refine wpAnyH_ready (rs:=[10]) (by kernel_rfl) (by simp) ?_
 refine AllReadyH.cons (o:=⟨some 21,_,_,_,_,_⟩) rfl (fun K hK=>?_) AllReadyH.nil
 rw[if_pos (by rfl)]
 go_step
 refine(H10 _).out.mono ?_
 rintro e Q10 ⟨rfl,hb⟩
 replace HS:=hid (HS.out.trans (hb.mono HS.out.size))
 clear hb
 try go_frame
 refine hK.out _ _ (HS.out) (fun hHeld=>?_)
 clear hK K
 try go_frame
 refine wpAnyH_ready (rs:=[14]) (by kernel_rfl) (by simp) ?_
 refine AllReadyH.cons (o:=⟨some 25,_,_,_,_,_⟩) rfl (fun K hK=>?_) AllReadyH.nil
 rw[if_pos (by rfl)]
 go_step
 refine(H14 _).out.mono ?_
 rintro e Q14 ⟨rfl,hb⟩
 replace HS:=hid (HS.out.trans (hb.mono HS.out.size))
 clear hb
 try go_frame
 refine hK.out _ _ (HS.out) (fun hHeld=>?_)
 clear hK K
 try go_frame
 refine wpAnyH_ready (rs:=[15]) (by kernel_rfl) (by simp) ?_
 refine AllReadyH.cons (o:=⟨some 26,_,_,_,_,_⟩) rfl (fun K hK=>?_) AllReadyH.nil
 rw[if_pos (by rfl)]
 go_step
 refine(H15 _).out.mono ?_
 rintro e Q15 ⟨rfl,hb⟩
 replace HS:=hid (HS.out.trans (hb.mono HS.out.size))
 clear hb
 try go_frame
 refine hK.out _ _ (HS.out) (fun hHeld=>?_)
 clear hK K
 try go_frame
 refine wpAnyH_ready (rs:=[28]) (by kernel_rfl) (by simp) ?_
 refine AllReadyH.cons (o:=⟨some 39,_,_,_,_,_⟩) rfl (fun K hK=>?_) AllReadyH.nil
 rw[if_pos (by rfl)]
 go_step
 refine(H28 _).out.mono ?_
 rintro e Q28 ⟨rfl,hb⟩
 replace HS:=hid (HS.out.trans (hb.mono HS.out.size))
 clear hb
 try go_frame
 refine hK.out _ _ (HS.out) (fun hHeld=>?_)
 clear hK K
 try go_frame
 refine wpAnyH_ready (rs:=[29]) (by kernel_rfl) (by simp) ?_
 refine AllReadyH.cons (o:=⟨some 40,_,_,_,_,_⟩) rfl (fun K hK=>?_) AllReadyH.nil
 rw[if_pos (by rfl)]
 go_step
 refine(H29 _).out.mono ?_
 rintro e Q29 ⟨rfl,hb⟩
 replace HS:=hid (HS.out.trans (hb.mono HS.out.size))
 clear hb
 try go_frame
 refine hK.out _ _ (HS.out) (fun hHeld=>?_)
 clear hK K
 try go_frame
 refine wpAnyH_ready (rs:=[31]) (by kernel_rfl) (by simp) ?_
 refine AllReadyH.cons (o:=⟨some 42,_,_,_,_,_⟩) rfl (fun K hK=>?_) AllReadyH.nil
 rw[if_pos (by rfl)]
 go_step
 refine(H31 _).out.mono ?_
 rintro e Q31 ⟨rfl,hb⟩
 replace HS:=hid (HS.out.trans (hb.mono HS.out.size))
 clear hb
 try go_frame
 refine hK.out _ _ (HS.out) (fun hHeld=>?_)
 clear hK K
 try go_frame
 refine wpAnyH_ready (rs:=[33]) (by kernel_rfl) (by simp) ?_
 refine AllReadyH.cons (o:=⟨some 44,_,_,_,_,_⟩) rfl (fun K hK=>?_) AllReadyH.nil
 rw[if_pos (by rfl)]
 go_step
 try go_frame
 have HSL:=hid HS.out.size
 have HN:Hid (Blk (Q31.alloc (.cells #[.int .i64 4,.bool false,.int .i64 0,.int .i64 604799999,.int .i64 2,.bool false,.int .i64 0,.int .i64 65535,.int .i64 1,.bool false,.int .i64 0,.int .i64 12,.int .i64 1,.bool false,.int .i64 0,.int .i64 31,.int .i64 1,.bool false,.int .i64 0,.int .i64 23,.int .i64 1,.bool false,.int .i64 0,.int .i64 59,.int .i64 1,.bool false,.int .i64 0,.int .i64 60,.int .i64 1,.bool false,.int .i64 0,.int .i64 15,.int .i64 4,.bool false,.int .i64 0,.int .i64 4294967295,.int .i64 4,.bool true,.int .i64 (-1000000000),.int .i64 1000000000,.int .i64 1,.bool false,.int .i64 0,.int .i64 5,.int .i64 1,.bool false,.int .i64 0,.int .i64 255,.int .i64 1,.bool false,.int .i64 0,.int .i64 255,.int .i64 1,.bool false,.int .i64 0,.int .i64 255,.int .i64 4,.bool true,.int .i64 (-1800000000),.int .i64 1800000000,.int .i64 4,.bool true,.int .i64 (-900000000),.int .i64 900000000,.int .i64 4,.bool true,.int .i64 (-2147483648),.int .i64 2147483647,.int .i64 4,.bool true,.int .i64 (-2147483648),.int .i64 2147483647,.int .i64 4,.bool false,.int .i64 0,.int .i64 4294967295,.int .i64 4,.bool false,.int .i64 0,.int .i64 4294967295,.int .i64 4,.bool true,.int .i64 (-2147483648),.int .i64 2147483647,.int .i64 4,.bool true,.int .i64 (-2147483648),.int .i64 2147483647,.int .i64 4,.bool true,.int .i64 (-2147483648),.int .i64 2147483647,.int .i64 4,.bool true,.int .i64 (-2147483648),.int .i64 2147483647,.int .i64 4,.bool true,.int .i64 0,.int .i64 36000000,.int .i64 4,.bool false,.int .i64 0,.int .i64 4294967295,.int .i64 4,.bool false,.int .i64 0,.int .i64 4294967295,.int .i64 2,.bool false,.int .i64 0,.int .i64 65535,.int .i64 2,.bool false,.int .i64 0,.int .i64 31,.int .i64 4,.bool false,.int .i64 0,.int .i64 0,.int .i64 4,.bool true,.int .i64 0,.int .i64 36000000,.int .i64 2,.bool true,.int .i64 (-18000),.int .i64 18000,.int .i64 2,.bool false,.int .i64 0,.int .i64 65535] 270)) Q31.heap.size (abt ajd)):=hid (Blk.newL (qg Q31 _ _) rfl)
 replace HS:=hid (HS.out.trans ((qa Q31 (.cells #[.int .i64 4,.bool false,.int .i64 0,.int .i64 604799999,.int .i64 2,.bool false,.int .i64 0,.int .i64 65535,.int .i64 1,.bool false,.int .i64 0,.int .i64 12,.int .i64 1,.bool false,.int .i64 0,.int .i64 31,.int .i64 1,.bool false,.int .i64 0,.int .i64 23,.int .i64 1,.bool false,.int .i64 0,.int .i64 59,.int .i64 1,.bool false,.int .i64 0,.int .i64 60,.int .i64 1,.bool false,.int .i64 0,.int .i64 15,.int .i64 4,.bool false,.int .i64 0,.int .i64 4294967295,.int .i64 4,.bool true,.int .i64 (-1000000000),.int .i64 1000000000,.int .i64 1,.bool false,.int .i64 0,.int .i64 5,.int .i64 1,.bool false,.int .i64 0,.int .i64 255,.int .i64 1,.bool false,.int .i64 0,.int .i64 255,.int .i64 1,.bool false,.int .i64 0,.int .i64 255,.int .i64 4,.bool true,.int .i64 (-1800000000),.int .i64 1800000000,.int .i64 4,.bool true,.int .i64 (-900000000),.int .i64 900000000,.int .i64 4,.bool true,.int .i64 (-2147483648),.int .i64 2147483647,.int .i64 4,.bool true,.int .i64 (-2147483648),.int .i64 2147483647,.int .i64 4,.bool false,.int .i64 0,.int .i64 4294967295,.int .i64 4,.bool false,.int .i64 0,.int .i64 4294967295,.int .i64 4,.bool true,.int .i64 (-2147483648),.int .i64 2147483647,.int .i64 4,.bool true,.int .i64 (-2147483648),.int .i64 2147483647,.int .i64 4,.bool true,.int .i64 (-2147483648),.int .i64 2147483647,.int .i64 4,.bool true,.int .i64 (-2147483648),.int .i64 2147483647,.int .i64 4,.bool true,.int .i64 0,.int .i64 36000000,.int .i64 4,.bool false,.int .i64 0,.int .i64 4294967295,.int .i64 4,.bool false,.int .i64 0,.int .i64 4294967295,.int .i64 2,.bool false,.int .i64 0,.int .i64 65535,.int .i64 2,.bool false,.int .i64 0,.int .i64 31,.int .i64 4,.bool false,.int .i64 0,.int .i64 0,.int .i64 4,.bool true,.int .i64 0,.int .i64 36000000,.int .i64 2,.bool true,.int .i64 (-18000),.int .i64 18000,.int .i64 2,.bool false,.int .i64 0,.int .i64 65535] 270)).mono HS.out.size))
 refine hK.out _ _ HS.out (fun hHeld=>?_)
 clear hK K
 try go_frame
 refine tkQ (i:=34) (oi:=⟨some 0,_,_,_,_,_⟩) (v:=?_) rfl (Or.inl ⟨by rfl,?_⟩) ?_
 rotate_left
 ·intro w' hSw
  go_simp
  try with_reducible rfl
 try go_frame
 refine wpAnyH_done (by kernel_rfl) ?_ _
 try go_frame
 have HE:=hid (And.intro HN.out (And.intro (qb HB6.out HS.out) (Nat.le_trans HB6.out.size (HSL.out))))
 clear hHeld hHeld0 hS0 HN HS HSL HB6
 generalize Q31.alloc (.cells #[.int .i64 4,.bool false,.int .i64 0,.int .i64 604799999,.int .i64 2,.bool false,.int .i64 0,.int .i64 65535,.int .i64 1,.bool false,.int .i64 0,.int .i64 12,.int .i64 1,.bool false,.int .i64 0,.int .i64 31,.int .i64 1,.bool false,.int .i64 0,.int .i64 23,.int .i64 1,.bool false,.int .i64 0,.int .i64 59,.int .i64 1,.bool false,.int .i64 0,.int .i64 60,.int .i64 1,.bool false,.int .i64 0,.int .i64 15,.int .i64 4,.bool false,.int .i64 0,.int .i64 4294967295,.int .i64 4,.bool true,.int .i64 (-1000000000),.int .i64 1000000000,.int .i64 1,.bool false,.int .i64 0,.int .i64 5,.int .i64 1,.bool false,.int .i64 0,.int .i64 255,.int .i64 1,.bool false,.int .i64 0,.int .i64 255,.int .i64 1,.bool false,.int .i64 0,.int .i64 255,.int .i64 4,.bool true,.int .i64 (-1800000000),.int .i64 1800000000,.int .i64 4,.bool true,.int .i64 (-900000000),.int .i64 900000000,.int .i64 4,.bool true,.int .i64 (-2147483648),.int .i64 2147483647,.int .i64 4,.bool true,.int .i64 (-2147483648),.int .i64 2147483647,.int .i64 4,.bool false,.int .i64 0,.int .i64 4294967295,.int .i64 4,.bool false,.int .i64 0,.int .i64 4294967295,.int .i64 4,.bool true,.int .i64 (-2147483648),.int .i64 2147483647,.int .i64 4,.bool true,.int .i64 (-2147483648),.int .i64 2147483647,.int .i64 4,.bool true,.int .i64 (-2147483648),.int .i64 2147483647,.int .i64 4,.bool true,.int .i64 (-2147483648),.int .i64 2147483647,.int .i64 4,.bool true,.int .i64 0,.int .i64 36000000,.int .i64 4,.bool false,.int .i64 0,.int .i64 4294967295,.int .i64 4,.bool false,.int .i64 0,.int .i64 4294967295,.int .i64 2,.bool false,.int .i64 0,.int .i64 65535,.int .i64 2,.bool false,.int .i64 0,.int .i64 31,.int .i64 4,.bool false,.int .i64 0,.int .i64 0,.int .i64 4,.bool true,.int .i64 0,.int .i64 36000000,.int .i64 2,.bool true,.int .i64 (-18000),.int .i64 18000,.int .i64 2,.bool false,.int .i64 0,.int .i64 65535] 270)=WE at *
 go_wp2_with fail
 go_ret
 exact⟨some ⟨Q31.heap.size,0,none⟩,33,rfl,HE.out.1.flat ⟨HE.out.2.2,HE.out.1.lt⟩,HE.out.2.1⟩
def kt:List UInt8→Bool
 | []=>true
 | [x]=>decide (x.toNat=181)
 | x::y::_=>decide (x.toNat=181) && decide (y.toNat=98)
def bhx:List UInt8→List UInt8
 | []=>[181,98]
 | [x]=>[x,98]
 | x::y::_=>[x,y]
theorem bdj (l:List UInt8):∃x y,bhx l=[x,y] ∧([x,y]==[181,98])=kt l:=by
 have e:∀x y:UInt8,([x,y]==[181,98])=(decide (x.toNat=181) && decide (y.toNat=98)):=fun x y=>by
  rw[Bool.eq_iff_iff,Bool.and_eq_true,decide_eq_true_iff,decide_eq_true_iff,beq_iff_eq]
  simp only[List.cons.injEq,and_true,← UInt8.toNat_inj]
  rfl
 rcases l with _|⟨x,_|⟨y,l⟩⟩
 ·exact⟨181,98,rfl,rfl⟩
 ·refine⟨x,98,rfl,?_⟩
  rw[e]
  show (decide (x.toNat=181) && true)=_
  rw[Bool.and_true];rfl
 ·exact⟨x,y,rfl,e x y⟩
theorem bch (x y:UInt8) (w:World):(binOp .eql 211 (.agg #[.int .u8 (x.toNat:Int),.int .u8 (y.toNat:Int)]) (.agg #[.int .u8 181,.int .u8 98])).run Tryz.prog w=.ok (.bool ([x,y]==[181,98])) w:=
 run_eql_bytes w 211 5 2 Tryz.underlying211 Tryz.underlying5 (fun w=>by kernel_rfl) [x,y] [181,98] rfl rfl
theorem a21 (l:List UInt8):ac7 [181,98] 0 (l.take (min l.length 2))=bhx l:=by
 rcases l with _|⟨x,_|⟨y,l⟩⟩
 ·rfl
 ·rfl
 ·have:min (x::y::l).length 2=2:=by simp only[List.length_cons];omega
  rw[this];rfl
theorem ah4 {Q:Nat→Prop} {w:World} (A:Option Addr) (c:Nat) (l:List UInt8) (h:qf Q w A (bsV l)) (hm:l.length≤maxLen) (hc:l.length≤c) :
 Calls Tryz.prog 73 #[.slice A l.length c] w fun e w'=>e=.returned (.bool (kt l))∧Below w.heap.size w w':=by
 unfold maxLen at hm
 obtain⟨n,hn,hn2,hn3⟩:∃n:Nat,min (l.length:Int) 2=(n:Int)∧n≤2∧n=min l.length 2:=⟨min l.length 2,by omega,by omega,rfl⟩
 have hw0:Below w.heap.size w ((w.alloc (.cells #[.int .u8 181,.int .u8 98] 211)).alloc (.cells #[.int .u8 181,.int .u8 98] 211)):=qb (qa _ _) (qa _ _)
 have hb1:Blk ((w.alloc (.cells #[.int .u8 181,.int .u8 98] 211)).alloc (.cells #[.int .u8 181,.int .u8 98] 211)) w.heap.size (bsV [181,98]):=(Blk.newL (qg w _ _) rfl).on (qa _ _)
 have hb2:Blk ((w.alloc (.cells #[.int .u8 181,.int .u8 98] 211)).alloc (.cells #[.int .u8 181,.int .u8 98] 211)) (w.heap.size+1) (bsV [181,98]):=by
  have:=Blk.newL (L:=bsV [181,98]) (qg (w.alloc (.cells #[.int .u8 181,.int .u8 98] 211)) #[.int .u8 181,.int .u8 98] 211) rfl
  rwa [show (w.alloc (.cells #[.int .u8 181,.int .u8 98] 211)).heap.size=w.heap.size+1 from by simp]at this
 have hsz:(bsV (l.take n)).length=n:=by rw[ab6,List.length_take];omega
 obtain⟨W',q1,q2⟩:=apo (P:=Tryz.prog) (World.drew ((w.alloc (.cells #[.int .u8 181,.int .u8 98] 211)).alloc (.cells #[.int .u8 181,.int .u8 98] 211))) 22 22 3 5 Tryz.underlying22 bci (w.heap.size+1) 0 2 2 A n c (bsV (l.take n)) (by
  rw[← abn]
  exact((h.lt.below hw0 (fun b q=>q.2)).keep (w':=World.drew _) fun _ _=>rfl).first n) hsz (aju _) (by rw[show Nat.min n 2=n from Nat.min_eq_left hn2];exact hb2.drew.there 0 n (by rw[ab6];simp;omega))
 rw[show Nat.min n 2=n from Nat.min_eq_left hn2]at q1 q2
 rw[List.take_of_length_le (by omega)]at q2
 have hk2:=bbx hb2.drew q2 (by rw[List.length_take];simp only[List.length_cons,List.length_nil];omega)
 rw[hn3,a21]at hk2
 obtain⟨x,y,e1,e2⟩:=bdj l
 rw[e1]at hk2
 have hk1:Blk W' w.heap.size (bsV [181,98]):=hb1.drew.far q2 (by omega)
 have c1:=hk1.cell 0 (v:=.int .u8 181) rfl
 have c2:=hk1.cell 1 (v:=.int .u8 98) rfl
 have c3:=hk2.cell 0 (v:=.int .u8 (x.toNat:Int)) rfl
 have c4:=hk2.cell 1 (v:=.int .u8 (y.toNat:Int)) rfl
 have HB:=hid (And.intro e2 (hw0.drew.trans (q2.below (Nat.le_succ _))))
 have HR:=hid q1
 generalize hL:l.length=L at *
 have f1:(n:Int)≤c:=by omega
 clear q1 q2 hk1 hk2 hb1 hb2 hw0 hsz e1 e2 hn3 h hL
 have EQ:=fun W=>bch x y W
 go_enter Tryz.func73,Tryz.ntmps73
 go_wp2_with fail
 go_cut [] (fun wx=>wx=W')
 case first=>
  go_region_law ((refine al0 (by kernel_rfl) (.tmp 11) (.tmp 14) 22 22 (by kernel_rfl) (.slice (some ⟨w.heap.size+1,0,none⟩) 2 2) (.slice A n c) (goInt n) (by kernel_rfl) (by kernel_rfl) HR.out ?_))
  go_wp2_with fail
  go_meet
  rfl
 case rest=>
 subst hcut
 clear HR
 go_wp2_with fail
 go_ret
 refine⟨?_,HB.out.2⟩
 rw[← HB.out.1]
 show Ending.returned (.bool (x==181 && y==98))=_
 rw[show ([x,y]==[181,98])=(x==181 && y==98)from by simp]
def jc (c:UInt8):Int:=if c.toNat=181 then 1 else if c.toNat=36 then 2 else if c.toNat=254 then 3 else 0
theorem aeo (c:UInt8) (w:World):Calls Tryz.prog 13 #[bV c] w fun e w'=>e=.returned (.int .i64 (jc c))∧w=w':=by
 unfold bV jc
 generalize c.toNat=n
 by_cases h1:n=181
 ·subst h1
  go_enter Tryz.func13,Tryz.ntmps13
  go_wp2
  go_ret
  exact⟨rfl,rfl⟩
 by_cases h2:n=36
 ·subst h2
  go_enter Tryz.func13,Tryz.ntmps13
  go_wp2
  go_ret
  exact⟨rfl,rfl⟩
 by_cases h3:n=254
 ·subst h3
  go_enter Tryz.func13,Tryz.ntmps13
  go_wp2
  go_ret
  exact⟨rfl,rfl⟩
 have b1:((n:Int)==181)=false:=by rw[beq_eq_false_iff_ne];omega
 have b2:((n:Int)==36)=false:=by rw[beq_eq_false_iff_ne];omega
 have b3:((n:Int)==254)=false:=by rw[beq_eq_false_iff_ne];omega
 rw[if_neg h1,if_neg h2,if_neg h3]
 clear h1 h2 h3
 go_enter Tryz.func13,Tryz.ntmps13
 go_wp2
 go_ret
 exact⟨rfl,rfl⟩
theorem al2 {P:Program} {w:World} {a:Addr} {m:Mode} (f:_) (x:_) (y:_):(store a (.func f x y) m).run P w=stored P w a (.func f x y) m:=run_store P w a _ m rfl
def jf:List Value:=[.int .i64 0,.int .i64 0,.int .i64 0,.int .i64 0,.int .i64 0,.int .i64 0,.int .i64 0,.int .i64 0,.int .i64 0,.int .i64 0,.int .i64 0,.int .i64 0,.int .i64 0,.int .i64 0,.int .i64 0,.int .i64 0,.int .i64 0,.int .i64 0,.int .i64 0,.int .i64 0,.int .i64 0,.int .i64 0,.int .i64 0,.int .i64 0,.int .i64 0,.int .i64 0,.int .i64 0,.int .i64 0,.int .i64 0,.int .i64 0,.int .i64 0,.int .i64 0,.int .i64 0,.int .i64 0,.slice none 0 0,.int .i64 0,.int .i64 0,.int .i64 0,.int .i64 0,.int .i64 0,.int .i64 0,.int .i64 0,.int .i64 0,.bool false,.int .i64 0,.int .i64 0,.int .i64 0,.slice none 0 0]
def abk:List Value:=[.int .i64 0,.string ByteArray.empty,.bool false,.int .i64 0,.int .i64 0,.int .i64 0,.int .i64 0,.bool false,.int .i64 0,.bool false,.int .i64 0,.int .i64 0,.bool false,.int .i64 0,.bool false,.int .i64 0,.bool false,.int .i64 0,.bool false,.int .i64 0,.bool false,.int .i64 0,.bool false,.int .i64 0,.bool false,.int .i64 0,.int .i64 0,.int .i64 0,.int .i64 0,.bool false,.bool false,.int .i64 0,.bool false,.int .i64 0,.bool false,.int .i64 0,.bool false,.int .i64 0,.bool false,.int .i64 0,.bool false,.int .i64 0,.int .i64 0,.int .i64 0,.bool false,.int .i64 0,.slice none 0 0,.bool false,.int .i64 0,.bool false,.int .i64 0,.bool false,.int .i64 0,.bool false,.int .i64 0,.bool false,.int .i64 0,.bool false,.int .i64 0,.bool false,.int .i64 0,.int .i64 0,.int .i64 0,.int .i64 0,.slice none 0 0]
def acc:List Value:=[.int .i64 0,.int .i64 0,.int .i64 0,.int .i64 0,.slice none 0 0]
def itL (p:Int) (o:Bool) (U N T:List Value):List Value:=.int .i64 p::.bool o::(U ++(N++T))
def aaa:List Value:=itL 0 false jf abk acc
def adt:Array Value:=aaa.toArray
def yz:Array Value:=jf.toArray
def veL (d p n e:Int) (L:List Value):List Value:=.int .i64 d::.int .i64 p::.int .i64 n::.int .i64 e::L
def veA (d p n e:Int):Array Value:=(veL d p n e aaa).toArray
theorem bdb (d p n e:Int):(veA d p n e).toList=veL d p n e aaa:=rfl
theorem acp (w:World):(zeroValue 64).run Tryz.prog w=.ok (.agg adt) w:=by kernel_rfl
theorem ael (w:World):(zeroValue 38).run Tryz.prog w=.ok (.agg yz) w:=by kernel_rfl
theorem abo (w:World):(zeroValue 66).run Tryz.prog w=.ok (.agg (veA 0 0 0 0)) w:=by kernel_rfl
theorem afb (w:World):(Instr.build 38 #[]).run Tryz.prog w=.ok (.agg yz) w:=by kernel_rfl
theorem a8i (w:World):(Instr.build 66 #[]).run Tryz.prog w=.ok (.agg (veA 0 0 0 0)) w:=by kernel_rfl
theorem a0o (w:World):(Instr.build 66 #[(0,.int .i64 1),(3,.int .i64 3)]).run Tryz.prog w=.ok (.agg (veA 1 0 0 3)) w:=by kernel_rfl
theorem amq (d p:Int) (w:World):(Instr.build 66 #[(0,.int .i64 d),(1,.int .i64 p)]).run Tryz.prog w=.ok (.agg (veA d p 0 0)) w:=by kernel_rfl
theorem alh (d p e:Int) (w:World):(Instr.build 66 #[(0,.int .i64 d),(1,.int .i64 p),(3,.int .i64 e)]).run Tryz.prog w=.ok (.agg (veA d p 0 e)) w:=by kernel_rfl
theorem ad4 (d p n e:Int):(veA d p n e).all (·.oneCell')=true:=by
 refine vm fun v hv=>?_
 rw[bdb]at hv
 unfold veL at hv
 rcases List.mem_cons.1 hv with rfl|hv
 ·rfl
 rcases List.mem_cons.1 hv with rfl|hv
 ·rfl
 rcases List.mem_cons.1 hv with rfl|hv
 ·rfl
 rcases List.mem_cons.1 hv with rfl|hv
 ·rfl
 have h:∀v∈aaa,v.oneCell'=true:=by decide +kernel
 exact h v hv
theorem ady (d p n e:Int):(Tryz.prog.info? 66).map (·.size)=some (veA d p n e).size:=by kernel_rfl
def aok (p:Int):Nat:=if p=1 then 41 else if p=2 then 43 else 45
def ofV (p:Int):Value:=.func (Fn.func (aok p)) #[] #[]
theorem arj (p:Int) (w:World):Calls Tryz.prog 26 #[.int .i64 p] w fun e w'=>e=.returned (.agg #[ofV p])∧Below w.heap.size w w':=by
 have hsf:=@al2 Tryz.prog
 unfold ofV aok
 by_cases h1:p=1
 ·subst h1
  go_enter Tryz.func26,Tryz.ntmps26
  go_wp2_with fail
  exact bodyPost_ret (v:=.agg #[.func (Fn.func 41) #[] #[]]) (by simp[results,Tryz.results26,go_sem]) rfl ⟨rfl,qa _ _⟩
 by_cases h2:p=2
 ·subst h2
  go_enter Tryz.func26,Tryz.ntmps26
  go_wp2_with fail
  exact bodyPost_ret (v:=.agg #[.func (Fn.func 43) #[] #[]]) (by simp[results,Tryz.results26,go_sem]) rfl ⟨rfl,qa _ _⟩
 rw[if_neg h1,if_neg h2]
 have b1:(p==1)=false:=by rw[beq_eq_false_iff_ne];exact h1
 have b2:(p==2)=false:=by rw[beq_eq_false_iff_ne];exact h2
 clear h1 h2
 go_enter Tryz.func26,Tryz.ntmps26
 go_wp2_with fail
 exact bodyPost_ret (v:=.agg #[.func (Fn.func 45) #[] #[]]) (by simp[results,Tryz.results26,go_sem]) rfl ⟨rfl,qa _ _⟩
def ack:Value:=.agg #[.int .i64 0,.int .i64 0,.slice none 0 0]
theorem zc {fn:Func} {p u v:Tmp} {ty:TypeId} (h:fn.results=#[.cell p ty,.tmp u,.tmp v]) (tmps:Array Value) (P:Program) (w:World) :
 (results fn tmps).run P w =
  ((asAddr (tmps.getD p undef)).run P w).andThen fun a w₁=>((loadVar ty a).run P w₁).andThen fun v' w₂=>.ok (.tuple #[v',tmps.getD u undef,tmps.getD v undef]) w₂:=by
 simp only[results,h]
 simp[Sem.run_bind,Result.andThen]
theorem yg {fn:Func} {p:Tmp} {ty:TypeId} (h:fn.results=#[.cell p ty]) (tmps:Array Value) (P:Program) (w:World) :
 (results fn tmps).run P w=((asAddr (tmps.getD p undef)).run P w).andThen fun a w₁=>(loadVar ty a).run P w₁:=by
 simp only[results,h]
 simp[Sem.run_bind,Result.andThen]
theorem ar5 {w1:World} {b:Nat} {x y z:Value} (hk:Blk w1 b [x,y,z]) (p q r:Value):(loadVar 143 ⟨b,0,none⟩).run Tryz.prog (((w1.setCell ⟨b,0,none⟩ p).setCell ⟨b,1,none⟩ q).setCell ⟨b,2,none⟩ r)=.ok (.agg #[p,q,r]) (((w1.setCell ⟨b,0,none⟩ p).setCell ⟨b,1,none⟩ q).setCell ⟨b,2,none⟩ r)∧Below b w1 (((w1.setCell ⟨b,0,none⟩ p).setCell ⟨b,1,none⟩ q).setCell ⟨b,2,none⟩ r):=by
 have hs:qu w1 (((w1.setCell ⟨b,0,none⟩ p).setCell ⟨b,1,none⟩ q).setCell ⟨b,2,none⟩ r) b 0 [p,q,r]:=qm (cs:=[p,q,r]) (hk.there 0 3 (Nat.le_refl _))
 exact⟨run_loadVar_mid (P:=Tryz.prog) _ b 0 143 [p,q,r] _ (hk.all hs rfl).rg Tryz.underlying143 rfl (by kernel_rfl),hs.below (Nat.le_refl _)⟩
theorem ahx {Q:Nat→Prop} {w:World} (A:Option Addr) (c:Nat) (l:List UInt8) (h:qf Q w A (bsV l)) (hm:l.length<6) (hc:l.length≤c) :
 Calls Tryz.prog 60 #[.slice A l.length c] w fun e w'=>e=.returned (.tuple #[ack,.int .i64 0,.int .i64 (if kt l then 2 else 3)])∧Below w.heap.size w w':=by
 have hb:=ah4 (w:=w.alloc (.cells #[.int .i64 0,.int .i64 0,.slice none 0 0] 143)) A c l (h.lt.below (qa _ _) (fun b q=>q.2)) (by unfold maxLen;omega) hc
 have HB:=hid hb
 have HK:=hid (Blk.newL (L:=[.int .i64 0,.int .i64 0,.slice none 0 0]) (qg w #[.int .i64 0,.int .i64 0,.slice none 0 0] 143) rfl)
 clear hb h
 have hl:(l.length:Int)<6:=by omega
 generalize l.length=L at *
 cases hbg:kt l
 all_goals
  rw[hbg]at HB
  go_enter Tryz.func60,Tryz.ntmps60
  go_wp2_with fail
  refine HB.out.mono ?_
  rintro e w1 ⟨rfl,hb⟩
  have HK1:=hid (HK.out.on hb)
  have HB1:=hid (qb (qa w _) hb)
  have g0:=HK1.out.cell 0 rfl
  have g1:=HK1.out.cell 1 rfl
  have g2:=HK1.out.cell 2 rfl
  have z0:=HK1.out.fz 0
  have z1:=HK1.out.fz 1
  have z2:=HK1.out.fz 2
  clear hb HB HK
  go_wp2_with fail
  obtain⟨r1,r2⟩:=ar5 HK1.out (.int .i64 0) (.int .i64 0) (.slice none 0 0)
 ·exact bodyPost_ret (v:=.tuple #[ack,.int .i64 0,.int .i64 3]) (by rw[zc rfl];simp[asAddr,Result.andThen,r1,ack]) rfl ⟨rfl,HB1.out.trans r2⟩
 ·exact bodyPost_ret (v:=.tuple #[ack,.int .i64 0,.int .i64 2]) (by rw[zc rfl];simp[asAddr,Result.andThen,r1,ack]) rfl ⟨rfl,HB1.out.trans r2⟩
theorem as5 {w:World} {V:Value} (E:Int) (hE:E≠0) (n:Int) (HF:∀W,Below w.heap.size w W→Hid (Calls Tryz.prog 60 #[V] W fun e w'=>e=.returned (.tuple #[ack,.int .i64 n,.int .i64 E])∧Below W.heap.size W w')) :
 Calls Tryz.prog 42 #[V] w fun e w'=>e=.returned (.tuple #[.agg yz,.int .i64 0,.int .i64 E])∧Below w.heap.size w w':=by
 have HZ:=fun W=>hid (ael W)
 have HB0:=fun W=>hid (afb W)
 have hne:(E != 0)=true:=by rw[bne_iff_ne];exact hE
 clear hE
 go_enter Tryz.func42,Tryz.ntmps42
 go_wp2_with (refine qc rfl 38 rfl yz (HZ _).out ?_;intro W1 hW1;have HK1:=hid (Blk.newL (L:=jf) hW1 rfl);have HB1:=hid hW1.bel;clear hW1)
 refine(HF _ HB1.out).out.mono ?_
 rintro e w1 ⟨rfl,hb⟩
 have HK2:=hid (HK1.out.on hb)
 have HB2:=hid (qb HB1.out hb)
 have HK3:Hid (Blk (w1.alloc (.cells #[.int .i64 0,.int .i64 0,.slice none 0 0] 143)) w.heap.size jf):=hid (HK2.out.on (qa _ _))
 have HB3:Hid (Below w.heap.size w (w1.alloc (.cells #[.int .i64 0,.int .i64 0,.slice none 0 0] 143))):=hid (qb HB2.out (qa _ _))
 clear hb HB1 HK1 HF
 unfold ack
 go_wp2_with (first
  | refine zh rfl 38 rfl (HB0 _).out ?_
  | (refine qe rfl 38 _ _ rfl w.heap.size 0 yz rfl rfl (HK3.out.there 0 48 (Nat.le_refl _)) (by kernel_rfl) (by decide +kernel) ?_;intro W4 hs;have HK4:=hid (HK3.out.all hs rfl);have HB4:=hid (HB3.out.trans (hs.below (Nat.le_refl _)));clear hs))
 have HLD:=hid (run_loadVar_mid (P:=Tryz.prog) W4 w.heap.size 0 38 jf _ HK4.out.rg Tryz.underlying38 rfl (by kernel_rfl))
 refine bodyPost_ret (v:=.tuple #[.agg yz,.int .i64 0,.int .i64 E]) (by rw[zc rfl];simp[asAddr,Result.andThen,HLD.out];rfl) rfl ⟨rfl,HB4.out⟩
theorem amr:∀(xs:List Value) (off j:Nat) (L:List Value),off+j+xs.length≤L.length →(xs.zipIdx j).foldl (fun cs (p:Value×Nat)=>cs.set (off+p.2) p.1) L=ac7 L (off+j) xs
 | [],off,j,L,h=>by
  unfold ac7
  simp
 | x::xs,off,j,L,h=>by
  rw[List.length_cons]at h
  rw[List.zipIdx_cons,List.foldl_cons,amr xs off (j+1) _ (by rw[List.length_set];omega)]
  apply List.ext_getElem?
  intro k
  rw[ant (by rw[List.length_set];omega),ant (by rw[List.length_cons];omega),List.length_cons]
  by_cases h1:off +(j+1)≤k∧k<off +(j+1)+xs.length
  ·rw[if_pos h1,if_pos (by omega),show k-(off+j)=(k-(off +(j+1)))+1 from by omega,List.getElem?_cons_succ]
  ·rw[if_neg h1]
   dsimp only
   by_cases h2:k=off+j
   ·subst h2
    rw[if_pos (by omega),Nat.sub_self,List.getElem?_set_self (by omega)]
    rfl
   ·rw[if_neg (by omega),List.getElem?_set_ne (by omega)]
theorem aww (l:List (Value×Nat)) (off:Nat):∀C:Array Value,(l.foldl (fun cs (p:Value×Nat)=>cs.setIfInBounds (off+p.2) p.1) C).toList=l.foldl (fun cs (p:Value×Nat)=>cs.set (off+p.2) p.1) C.toList:=by
 induction l with
 | nil=>intro C;rfl
 | cons p l ih=>
  intro C
  rw[List.foldl_cons,List.foldl_cons,ih,Array.toList_setIfInBounds]
theorem abe {place:Nat→Option (Nat×Nat)} {C:Array Value} {i off:Nat} {v:Value} {L:List Value} {rest:List (Nat×Value)} (hL:v.cells=L.toArray) (hp:place i=some (off,L.length)) (hb:off+L.length≤C.size) :
 Instr.fill place C ((i,v)::rest)=Instr.fill place (ac7 C.toList off L).toArray rest:=by
 rw[Instr.fill]
 simp only[hp,hL,List.size_toArray]
 rw[if_neg (by simp;omega)]
 congr 1
 apply Array.toList_inj.1
 have e:(L.toArray.zipIdx).foldl (fun cs (x:Value×Nat)=>cs.setIfInBounds (off+x.2) x.1) C=(L.zipIdx).foldl (fun cs (p:Value×Nat)=>cs.setIfInBounds (off+p.2) p.1) C:=by
  rw[← Array.foldl_toList]
  simp
 show ((L.toArray.zipIdx).foldl (fun cs (x:Value×Nat)=>cs.setIfInBounds (off+x.2) x.1) C).toList=_
 rw[e,aww,amr L off 0 C.toList (by simpa using hb)]
 rfl
theorem afm {α:Type} (A M D xs:List α) (h:xs.length=M.length):ac7 (A ++(M++D)) A.length xs=A ++(xs++D):=by
 unfold ac7
 rw[List.take_left' rfl,h,← List.drop_drop,List.drop_left' rfl,List.drop_left' rfl,List.append_assoc]
theorem abx {P:Program} {w:World} {t:TypeId} {fs:Array Field} {z:Array Value} {pl:Array (Nat×Nat)} {parts:Array (Nat×Value)} {C:Array Value} (hu:P.underlying t=some (.struct fs)) (hz:(zeroValue t).run P w=.ok (.agg z) w)
 (hp:(fs.mapM fun f=>do pure (f.offset,← sizeOf f.type):Sem (Array (Nat×Nat))).run P w=.ok pl w) (hf:Instr.fill (fun i=>pl[i]?) z parts.toList=some C):(Instr.build t parts).run P w=.ok (.agg C) w:=by
 have hun:(underlying t).run P w=.ok (.struct fs) w:=run_underlying hu w
 unfold Instr.build
 simp only[Sem.run_bind,hz,Result.andThen_ok,hun,hp]
 have h2:Instr.fill (fun x=>pl[x]?) (Value.agg z).cells parts.toList=some C:=hf
 simp[h2]
end Go.Proofs.YtdkhlkfleggbaaaGreat
