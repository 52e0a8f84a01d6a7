/- Layer 39, plain: bytes round the end. -/
import Derived.Test.YtaiepcgfofpmjaaGreatProg
import Derived.Test.YtaiepcgfofpmjaaGreatS04
import Derived.Test.YtaiepcgfofpmjaaGreatS00
import Derived.IntWalk
import Derived.Laws.BitsAllLaws
import Derived.Deep.RegionLaw
import Derived.Deep.DeepCutAuto
import Derived.Deep.CutBlock
import Derived.RegionTactic
import Derived.Deep.QuietTactic
import Derived.BigQuiet
import Derived.Lib.SlBuf
namespace Go.Proofs.YtaiepcgfofpmjaaGreat
set_option linter.unusedVariables false
open Go.RowKit
def splice {α:Type} (D:List α) (o:Nat) (xs:List α):List α:=D.take o++xs++D.drop (o+xs.length)
theorem splice_get {α:Type} {D:List α} {o:Nat} {xs:List α} (h:o+xs.length≤D.length) (j:Nat):(splice D o xs)[j]?=if o≤j∧j < o+xs.length then xs[j - o]? else D[j]?:=by
  unfold splice
  have hl:(D.take o).length=o:=by rw [List.length_take];omega
  by_cases h1:j < o
  · rw [if_neg (by omega),List.append_assoc,List.getElem?_append_left (by omega),List.getElem?_take_of_lt h1]
  · by_cases h2:j < o+xs.length
    · rw [if_pos ⟨by omega,h2⟩,List.getElem?_append_left (by rw [List.length_append];omega),List.getElem?_append_right (by omega),hl]
    · rw [if_neg (by omega),List.getElem?_append_right (by rw [List.length_append];omega),List.length_append,hl,List.getElem?_drop]
      congr 1;omega
def Ring (D:List UInt8) (a:Nat) (l:List UInt8):Prop:=∀ i (h:i < l.length),D[(a+i) % 1024]?=some l[i]
def bV (c:UInt8):Value:=.int .u8 (c.toNat:Int)
def bsV (l:List UInt8):List Value:=l.map bV
theorem bsV_len (l:List UInt8):(bsV l).length=l.length:=List.length_map _
theorem bsV_app (l m:List UInt8):bsV (l++m)=bsV l++bsV m:=List.map_append
theorem bsV_get {l:List UInt8} {k:Nat} (h:k < l.length):(bsV l)[k]?=some (bV l[k]):=by
  unfold bsV;rw [List.getElem?_map,List.getElem?_eq_getElem h];rfl
theorem bsV_one (l:List UInt8):∀ v∈bsV l,v.oneCell'=true:=by
  intro v hv
  obtain⟨c,-,rfl⟩:=List.mem_map.1 hv
  rfl
def winL (D:List UInt8) (at_ n:Int):List Value:=[.bool true]++bsV D++[.int .i64 at_,.int .i64 n]
structure WinB (W:World) (b:Nat) (D:List UInt8) (a:Nat) (l:List UInt8):Prop where
  blk:Blk W b (winL D a l.length)
  len:D.length=1024
  at_:a < 1024
  max:l.length≤1024
  ring:Ring D a l
def WinI (W:World) (b:Nat) (l:List UInt8):Prop:=∃ D a,WinB W b D a l
theorem WinB.on {W W':World} {b:Nat} {D:List UInt8} {a:Nat} {l:List UInt8} (h:WinB W b D a l) (hb:Below W.heap.size W W'):WinB W' b D a l:=⟨h.blk.on hb,h.len,h.at_,h.max,h.ring⟩
theorem WinB.kept {W W':World} {b:Nat} {D:List UInt8} {a:Nat} {l:List UInt8} (h:WinB W b D a l) (hk:W'.heap[b]?=W.heap[b]?) (hz:W.heap.size≤W'.heap.size):WinB W' b D a l:=⟨h.blk.kept hk hz,h.len,h.at_,h.max,h.ring⟩
theorem WinI.on {W W':World} {b:Nat} {l:List UInt8} (h:WinI W b l) (hb:Below W.heap.size W W'):WinI W' b l:=by
  obtain⟨D,a,h⟩:=h
  exact⟨D,a,h.on hb⟩
theorem WinI.kept {W W':World} {b:Nat} {l:List UInt8} (h:WinI W b l) (hk:W'.heap[b]?=W.heap[b]?) (hz:W.heap.size≤W'.heap.size):WinI W' b l:=by
  obtain⟨D,a,h⟩:=h
  exact⟨D,a,h.kept hk hz⟩
theorem WinI.lt {W:World} {b:Nat} {l:List UInt8} (h:WinI W b l):b < W.heap.size:=by
  obtain⟨D,a,h⟩:=h
  exact h.blk.lt
def win0:List UInt8:=List.replicate 1024 0
def zWin:Array Value:=(winL win0 0 0).toArray
theorem zWin_list:zWin.toList=winL win0 0 0:=rfl
set_option maxRecDepth 100000 in
theorem build_win (w:World):(Instr.build 240 #[(0,.bool true)]).run Tryz.prog w=.ok (.agg zWin) w:=by kernel_rfl
theorem winL_zero:winL win0 ((0:Nat):Int) ((([]:List UInt8).length:Nat):Int)=winL win0 0 0:=by rw [List.length_nil,Int.natCast_zero]
theorem winNew_any (w:World):Calls Tryz.prog 105 #[] w fun e w'=>e=.returned (.pointer (some ⟨w.heap.size,0,none⟩))∧WinI w' w.heap.size []∧Below w.heap.size w w'∧w'.heap.size=w.heap.size+1:=by
  have HB:=fun W=>Lib.hid (build_win W)
  go_enter Tryz.func105,Tryz.ntmps105
  go_wp2_with (first
    | refine wpList_build1 (u:=.bool true) rfl 240 0 _ rfl rfl (HB _).out ?_
    | (refine wpList_box_new rfl _ _ rfl zWin rfl ?_;intro W1 hW1;have HK1:=Lib.hid (Blk.newL (L:=winL win0 0 0) hW1 zWin_list);have HB1:=Lib.hid hW1.bel;have HS1:=Lib.hid hW1.sz;clear hW1))
  go_ret
  exact⟨rfl,⟨win0,0,winL_zero ▸ HK1.out,List.length_replicate,by omega,by simp,fun i h=>absurd h (Nat.not_lt_zero _)⟩,HB1.out,HS1.out⟩
structure Fld where
  sz:Nat
  sg:Bool
  lo:Int
  hi:Int
deriving DecidableEq
def fldL (f:Fld):List Value:=[.int .i64 f.sz,.bool f.sg,.int .i64 f.lo,.int .i64 f.hi]
def fldsV (l:List Fld):List Value:=l.flatMap fldL
theorem flat4_get {α:Type} (g:α→List Value) (m:Nat) (hg:∀ x,(g x).length=m):∀ (l:List α) (k:Nat) (h:k < l.length) (j:Nat),j < m→(l.flatMap g)[k * m+j]?=(g l[k])[j]?
  | [],k,h,_,_=>absurd h (Nat.not_lt_zero _)
  | x :: l,0,_,j,hj=>by
    rw [List.flatMap_cons,Nat.zero_mul,Nat.zero_add,List.getElem?_append_left (by rw [hg];exact hj)];rfl
  | x :: l,k+1,h,j,hj=>by
    rw [List.flatMap_cons,List.getElem?_append_right (by rw [hg,Nat.succ_mul];omega),hg,show (k+1) * m+j - m=k * m+j from by rw [Nat.succ_mul];omega]
    exact flat4_get g m hg l k (by simpa using h) j hj
theorem flat4_len {α:Type} (g:α→List Value) (m:Nat) (hg:∀ x,(g x).length=m) (l:List α):(l.flatMap g).length=l.length * m:=by
  induction l with
  | nil=>simp
  | cons f l ih=>rw [List.flatMap_cons,List.length_append,ih,hg,List.length_cons,Nat.succ_mul];omega
def maxF (n:Nat) (s:Bool):Int:=if s=true∨n=8 then (2 ^ (8 * n - 1):Nat) - 1 else (2 ^ (8 * n):Nat) - 1
def minF (n:Nat) (s:Bool):Int:=if s then -((2 ^ (8 * n - 1):Nat):Int) else 0
def anyF (n:Nat) (s:Bool):Fld:=⟨n,s,minF n s,maxF n s⟩
def rightF (f:Fld):Bool:=decide (1≤f.sz) && (decide (f.sz≤8) && (decide (f.lo≤f.hi) && (decide (minF f.sz f.sg≤f.lo) && (decide (f.lo≤maxF f.sz f.sg) && (decide (minF f.sz f.sg≤f.hi) && decide (f.hi≤maxF f.sz f.sg))))))
def widF (l:List Fld):Nat:=(l.map (·.sz)).sum
def i64sV (v:List Int):List Value:=v.map (Value.int .i64)
theorem i64sV_len (v:List Int):(i64sV v).length=v.length:=List.length_map _
section
variable {P : Program}
end
theorem FlatQ.part {Q:Nat→Prop} {w:World} {b o:Nat} {xs:List Value} (h:FlatQ Q w (some ⟨b,o,none⟩) xs) (k:Nat):FlatQ Q w (some ⟨b,o+k,none⟩) (xs.drop k):=fun j u hu=>by
  rw [List.getElem?_drop] at hu
  obtain⟨b',off,e1,e2,e3⟩:=h _ u hu
  injection e1 with e1
  injection e1 with e1 e1'
  subst e1 e1'
  exact⟨b,o+k,rfl,e2,by rw [Nat.add_assoc];exact e3⟩
end Go.Proofs.YtaiepcgfofpmjaaGreat
