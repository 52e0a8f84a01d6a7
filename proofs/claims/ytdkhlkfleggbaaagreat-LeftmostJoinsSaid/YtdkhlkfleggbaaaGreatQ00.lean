/- Parts. -/
import Derived.WalkKit
import Derived.WalkSpells
import Derived.WalkLawsBesides
import Derived.Lib.Hide
import Derived.Deep.MidRow
import Derived.Deep.Upon
import Derived.RangeFuncNested
import Derived.RangeFuncBound
import Derived.RangeFuncCalls
import Derived.RangeFuncLeaves
import Derived.OwnWalkIn
import Derived.TacticsInMore
import Derived.LoopNIn
import Derived.LoopIn
import Derived.OrdersIn
import Derived.OrdersHeld
import Derived.Deep.RegionHeld
import Derived.Deep.AppendLies
import Derived.ArgAppend
import Derived.Laws.IdiomCopy
import Derived.Test.YtdkhlkfleggbaaaGreatProg
import Derived.DeepKeys
import Derived.DeepKeys2
import Derived.Deep.LoopGhost
import Derived.IntWalk
import Derived.Deep.QuietTactic
import Derived.BigQuiet
import Derived.Deep.DeepCutAuto
namespace Go.Proofs.YtdkhlkfleggbaaaGreat
set_option maxHeartbeats 2000000
set_option maxRecDepth 8000
open Lib (hid)
open Tryz
set_option linter.unusedVariables false
open Go.RowKit
theorem om {p:Prop} (h:p:=by omega):p:=h
theorem sm {p:Prop} (h:p:=by simp):p:=h
theorem dc {p:Prop} (h:p:=by decide):p:=h
theorem kr {p:Prop} (h:p:=by kernel_rfl):p:=h
theorem bk0 {a b:Int} (h:a=b):Ending.returned (.int .u8 a)=.returned (.int .u8 b):=by rw[h]
theorem a7g {a b:Int} (h:a=b):Ending.returned (.int .i64 a)=.returned (.int .i64 b):=by rw[h]
theorem aqf {a b:Bool} (h:a=b):Ending.returned (.bool a)=.returned (.bool b):=by rw[h]
theorem qb {w w1 w2:World} (h1:Below w.1.size w w1) (h2:Below w1.1.size w1 w2):Below w.1.size w w2:=h1.trans (h2.mono h1.size)
theorem aab {B:Nat} {a w:World} (h:Below B a w) (n:Nat):Below B a (w.drewN n):=⟨h.os,h.tape,h.output,h.size,h.block⟩
theorem ab7 {B:Nat} {a w:World} (h:Below B a w):Below B a w.drew:=⟨h.os,h.tape,h.output,h.size,h.block⟩
theorem bbh (s:ByteArray) (k:Nat) (h:k<s.size):s.data.toList.take (k+1)=s.data.toList.take k++[s[k]]:=by
 rw[List.take_succ_eq_append_getElem (by simpa using h)];rfl
theorem blb (a b:UInt8):Value.int IntKind.u8 (bits BinOp.xor IntKind.u8 (a.toNat:Int) (b.toNat:Int))=Value.int IntKind.u8 ((a ^^^ b).toNat:Int):=by
 rw[u8_xor_nat _ _ a.toNat_lt b.toNat_lt,UInt8.toNat_xor]
theorem akr {P:Program} (w:World) (src dst e:TypeId) (a:Addr) (cap:Nat) (ns:List Int)
 (hs:P.underlying src=some (.slice e)) (he:P.underlying e=some (.int .u8)) (hd:P.underlying dst=some .string)
 (hc:∀j (hj:j<ns.length),w.cell? (a.add j)=some (.int .u8 ns[j])) :
 (convert src dst (.slice (some a) ns.length cap)).run P w=.ok (.string ⟨(ns.map fun n=>UInt8.ofNat n.toNat).toArray⟩) w:=by
 rw[run_convert_bytes_string w src dst e (some a) ns.length cap hs he hd]
 have hl:=run_loadCells_list (P:=P) w a (ns.map (Value.int .u8)) (fun j v hj=>by
  have hjl:j<ns.length:=by
   rcases Nat.lt_or_ge j ns.length with h|h
   ·exact h
   ·simp[List.getElem?_eq_none (show (ns.map (Value.int .u8)).length≤j by simpa using h)]at hj
  rw[hc j hjl]
  simpa [List.getElem?_eq_getElem hjl]using hj)
 rw[List.length_map]at hl;rw[run_bytesToString w a ns.length cap ns hl]
 congr 2
 have:∀(l:List Int) (r:ByteArray),l.foldl (fun r n=>r.push (UInt8.ofNat n.toNat)) r=⟨r.data ++(l.map fun n=>UInt8.ofNat n.toNat).toArray⟩:=by
  intro l
  induction l with
  | nil=>intro r;simp
  | cons n l ih=>
   intro r;simp only[List.foldl_cons,List.map_cons];rw[ih]
   congr 1
   apply Array.ext';simp[ByteArray.push]
 rw[this];simp
def vy (w:World) (B:Nat) (A:Option Addr) (fs:List ByteArray):Prop:=
 ∀k (hk:k<fs.length),∃b off,A=some ⟨b,off,none⟩∧b<B∧w.cell? ⟨b,off+k,none⟩=some (.string (fs[k]'hk))
theorem vy.keep {w w':World} {B:Nat} {A:Option Addr} {fs:List ByteArray} (h:vy w B A fs) (hk:∀p:Addr,p.block<B→w'.cell? p=w.cell? p):vy w' B A fs:=by
 intro k hk';obtain⟨b,off,hA,hb,hc⟩:=h k hk';exact⟨b,off,hA,hb,(hk _ hb).trans hc⟩
theorem vy.below {w w':World} {B B':Nat} {A:Option Addr} {fs:List ByteArray} (h:vy w B A fs) (hb:Below B' w w') (hB:B≤B'):vy w' B A fs:=
 h.keep fun _ hp=>hb.cell (Nat.lt_of_lt_of_le hp hB)
theorem vy.more {w:World} {B B':Nat} {A:Option Addr} {fs:List ByteArray} (h:vy w B A fs) (hB:B≤B'):vy w B' A fs:=by
 intro k hk';obtain⟨b,off,hA,hb,hc⟩:=h k hk';exact⟨b,off,hA,by omega,hc⟩
def aaq (lo:Nat) (A:Option Addr):Prop:=∀a,A=some a→lo≤a.block
theorem aaq.none_ {lo:Nat}:aaq lo none:=fun a h=>by cases h
theorem aaq.less {lo lo':Nat} {A:Option Addr} (h:aaq lo A) (hl:lo'≤lo):aaq lo' A:=fun a e=>Nat.le_trans hl (h a e)
theorem vy.setCell {w:World} {B lo:Nat} {A:Option Addr} {fs:List ByteArray} (h:vy w B A fs) (hf:aaq lo A) {p:Addr} (hp:p.block<lo) (v:Value):vy (w.setCell p v) B A fs:=by
 intro k hk';obtain⟨b,off,hA,hb,hc⟩:=h k hk';have hlo:=hf _ hA;exact⟨b,off,hA,hb,(World.cell?_setCell_other w p _ v (fun e=>by subst e;exact absurd hp (Nat.not_lt.2 hlo))).trans hc⟩
theorem qa (w:World) (o:Obj):Below w.1.size w (w.alloc o):=(Below.refl _ _).alloc (Nat.le_refl _) _
theorem qv {B:Nat} {W w1:World} (hb:Below B W w1):(∀b o,b<B→w1.cell? ⟨b,o,none⟩=W.cell? ⟨b,o,none⟩) ∧(∀b o,b<B→w1.frozen? ⟨b,o,none⟩=W.frozen? ⟨b,o,none⟩):=
 ⟨fun b o h=>hb.cell (p:=⟨b,o,none⟩) h,fun b o h=>hb.frozen (p:=⟨b,o,none⟩) h⟩
section
variable {P : Program} {ops : Array Oper} {rest : List Oper} {o : Oper} {a : Act} {w W : World} {Q : Exit → Act → World → Prop}
theorem ab3 (hgd:o.guard=none) {v:Value} (hex:(execOp a.eval o).run P w=.ok (.value v) W) (h:wpList P ops Q rest (a.put o.dst v) W):wpList P ops Q (o::rest) a w:=
 wpList_plain hgd fun K hK=>by unfold Oper.wp;rw[hex];exact hK _ _ h
theorem aa8 (hgd:o.guard=none) (t:TypeId) (parts:Array (Nat×Operand)) (ho:o.op=.build t parts) {v:Value} (ps:Array (Nat×Value)) (hp:(parts.map fun(i,x)=>(i,a.eval x))=ps) (hr:(Instr.build t ps).run P w=.ok v w)
 (h:wpList P ops Q rest (a.put o.dst v) w):wpList P ops Q (o::rest) a w:=
 ab3 hgd (by unfold execOp;rw[ho];simp only[hp,Sem.run_bind,hr,Result.andThen_ok,Sem.run_pure]) h
theorem zy (hgd:o.guard=none) (t:TypeId) (ho:o.op=.build t #[]) {v:Value} (hr:(Instr.build t #[]).run P w=.ok v w)
 (h:wpList P ops Q rest (a.put o.dst v) w):wpList P ops Q (o::rest) a w:=aa8 hgd t _ ho #[] sm hr h
theorem zo (hgd:o.guard=none) (t:TypeId) (i:Nat) (x:Operand) (ho:o.op=.build t #[(i,x)]) {u v:Value} (hx:a.eval x=u) (hr:(Instr.build t #[(i,u)]).run P w=.ok v w)
 (h:wpList P ops Q rest (a.put o.dst v) w):wpList P ops Q (o::rest) a w:=aa8 hgd t _ ho #[(i,u)] (by simp[hx]) hr h
theorem ae9 (hgd:o.guard=none) (t:TypeId) (i j:Nat) (x y:Operand) (ho:o.op=.build t #[(i,x),(j,y)]) {u u' v:Value} (hx:a.eval x=u) (hy:a.eval y=u') (hr:(Instr.build t #[(i,u),(j,u')]).run P w=.ok v w)
 (h:wpList P ops Q rest (a.put o.dst v) w):wpList P ops Q (o::rest) a w:=aa8 hgd t _ ho #[(i,u),(j,u')] (by simp[hx,hy]) hr h
theorem zb (hgd:o.guard=none) (x:Operand) (xT aT:TypeId) (ok:Bool) (ho:o.op=.typeAssert x xT aT ok) {u v:Value} (hx:a.eval x=u) (hr:(Instr.typeAssert u xT aT ok).run P w=.ok v w)
 (h:wpList P ops Q rest (a.put o.dst v) w):wpList P ops Q (o::rest) a w:=
 ab3 hgd (by unfold execOp;rw[ho];simp only[hx,Sem.run_bind,hr,Result.andThen_ok,Sem.run_pure]) h
end
theorem World.rangeAt_append {w:World} {b o:Nat} {l m:List Value}:w.rangeAt b o (l++m)↔w.rangeAt b o l∧w.rangeAt b (o+l.length) m:=by
 constructor
 ·intro h;refine⟨fun j v hv=>h j v ?_,fun j v hv=>?_⟩
  ·have hj:j<l.length:=by
    rcases Nat.lt_or_ge j l.length with q|q
    ·exact q
    ·rw[List.getElem?_eq_none q]at hv;cases hv
   rw[List.getElem?_append_left hj];exact hv
  ·have:=h (l.length+j) v (by rw[List.getElem?_append_right om];simpa using hv);rw[Nat.add_assoc];exact this
 ·rintro⟨h1,h2⟩ j v hv;rcases Nat.lt_or_ge j l.length with q|q
  ·exact h1 j v (by rw[List.getElem?_append_left q]at hv;exact hv)
  ·rw[List.getElem?_append_right q]at hv;have:=h2 _ _ hv;rw[show o+l.length +(j-l.length)=o+j from by omega]at this;exact this
theorem World.rangeAt_cons {w:World} {b o:Nat} {v:Value} {m:List Value}:w.rangeAt b o (v::m)↔w.cell? ⟨b,o,none⟩=some v∧w.rangeAt b (o+1) m:=by
 rw[show v::m=[v]++m from rfl,World.rangeAt_append]
 exact and_congr ⟨fun h=>h 0 v rfl,fun h j u hu=>by
  cases j with
  | zero=>injection hu with hu;subst hu;exact h
  | succ j=>simp at hu⟩ Iff.rfl
theorem abs {w w':World} {b o:Nat} {l:List Value} (h:w.rangeAt b o l) (hk:w'.heap[b]?=w.heap[b]?):w'.rangeAt b o l:=fun j v hv=>(World.cell?_of_block (a:=⟨b,o+j,none⟩) hk).trans (h j v hv)
theorem zl {w w':World} {b o B:Nat} {l:List Value} (h:w.rangeAt b o l) (hb:Below B w w') (hl:b<B):w'.rangeAt b o l:=abs h (hb.block b hl)
theorem a97 (w:World) (C:Array Value) (t:TypeId):(w.alloc (.cells C t)).rangeAt w.1.size 0 C.toList:=fun j v hv=>by
 rw[Nat.zero_add];exact(World.cell?_alloc_at (w:=w) _ _ _ _ rfl).trans (by rw[Array.getElem?_toList]at hv;exact hv)
structure axq (w W:World) (C:Array Value):Prop where
 sz:W.1.size=w.1.size+1
 bel:Below w.1.size w W
 rg:W.rangeAt w.1.size 0 C.toList
 fz:∀o,W.frozen? ⟨w.1.size,o,none⟩=false
theorem qg (w:World) (C:Array Value) (t:TypeId):axq w (w.alloc (.cells C t)) C:=
 ⟨by simp,qa _ _,a97 w C t,fun o=>by rw[frozen?_alloc_cells];simp[World.frozen?]⟩
structure qz (w W:World) (b o:Nat) (cs:List Value):Prop where
 os:W.os=w.os
 tape:W.tape=w.tape
 output:W.output=w.output
 sz:W.1.size=w.1.size
 far:∀k,k≠b→W.heap[k]?=w.heap[k]?
 fz:∀x,W.frozen? x=w.frozen? x
 rg:W.rangeAt b o cs
 apart:∀o' l,w.rangeAt b o' l →(o'+l.length≤o∨o+cs.length≤o')→W.rangeAt b o' l
 there:∀b' o' n,w.there b' o' n→W.there b' o' n
theorem aix (b:Nat):∀(vs:List Value) (o:Nat) (w:World),(w.setCells b o vs).os=w.os ∧(w.setCells b o vs).tape=w.tape ∧(w.setCells b o vs).output=w.output ∧(w.setCells b o vs).1.size=w.1.size∧∀k,k≠b →(w.setCells b o vs).heap[k]?=w.heap[k]?
 | [],o,w=>⟨rfl,rfl,rfl,rfl,fun _ _=>rfl⟩
 | v::r,o,w=>by
  obtain⟨h1,h2,h3,h4,h5⟩:=aix b r (o+1) (w.setCell ⟨b,o,none⟩ v);have hb:Below b w (w.setCell ⟨b,o,none⟩ v):=(Below.refl b w).setCell (Nat.le_refl _) v;exact⟨h1.trans hb.os,h2.trans hb.tape,h3.trans hb.output,h4.trans sm,fun k hk=>(h5 k hk).trans (Below.heap_setCell _ _ _ _ hk)⟩
theorem qm {w:World} {b o:Nat} {cs:List Value} (ht:w.there b o cs.length):qz w (w.setCells b o cs) b o cs:=by
 obtain⟨h1,h2,h3,h4,h5⟩:=aix b cs o w;exact⟨h1,h2,h3,h4,h5,fun x=>World.frozen?_setCells _ _ _ _ _,World.rangeAt_setCells_same _ _ _ _ ht,fun o' l hl ha=>World.rangeAt_setCells_apart hl _ _ _ (.inr ha),fun b' o' n h=>World.there_setCells h _ _ _⟩
theorem jq {w:World} {b o:Nat} {v:Value} (ht:w.there b o 1):qz w (w.setCell ⟨b,o,none⟩ v) b o [v]:=qm (cs:=[v]) ht
theorem qz.below {w W:World} {b o B:Nat} {cs:List Value} (h:qz w W b o cs) (hb:B≤b):Below B w W:=⟨h.os,h.tape,h.output,by rw[h.sz];exact Nat.le_refl _,fun k hk=>h.far k om⟩
theorem World.there.sub {w:World} {b o n:Nat} (h:w.there b o n) (k m:Nat) (hm:k+m≤n):w.there b (o+k) m:=fun j hj=>by
 have:=h (k+j) om
 rwa [← Nat.add_assoc]at this
section
variable {P : Program} {ops : Array Oper} {rest : List Oper} {o : Oper} {a : Act} {w : World} {Q : Exit → Act → World → Prop}
theorem qr (hgd:o.guard=none) (T:TypeId) (x:Operand) (ho:o.op=.box T x) (C:Array Value) (hx:a.eval x=.agg C) (h:∀W,axq w W C→wpList P ops Q rest (a.put o.dst (.pointer (some ⟨w.1.size,0,none⟩))) W):wpList P ops Q (o::rest) a w:=
 ab3 hgd (W:=w.alloc (.cells C T)) (by unfold execOp;rw[ho];simp[hx,Instr.box,newVar,newRow,Value.cells]) (h _ (qg w C T))
theorem qc (hgd:o.guard=none) (T:TypeId) (ho:o.op=.alloc T) (Z:Array Value) (hz:(zeroValue T).run P w=.ok (.agg Z) w) (h:∀W,axq w W Z→wpList P ops Q rest (a.put o.dst (.pointer (some ⟨w.1.size,0,none⟩))) W):wpList P ops Q (o::rest) a w:=
 ab3 hgd (W:=w.alloc (.cells Z T)) (by unfold execOp;rw[ho];simp[Instr.alloc,hz,newVar,newRow,Value.cells]) (h _ (qg w Z T))
theorem anl (w:World) (b f:Nat) (ty:TypeId) (v:Value) (ht:w.there b f 1) (hi:(P.info? ty).map (·.size)=some 1) (hc:v.cells=#[v]) (h1:v.oneCell'=true) :
 (Instr.storeAt ty (.pointer (some ⟨b,f,none⟩)) v).run P w=.ok () (w.setCell ⟨b,f,none⟩ v):=by
 have:=run_storeCells_cells (P:=P) b f [v] 0 w (fun j hj=>by simpa using (ht j (by simpa using hj)).1) (fun j hj=>by simpa using (ht j (by simpa using hj)).2) (fun u hu=>by simp at hu;subst hu;exact h1);cases hq:P.info? ty with
 | none=>simp[hq]at hi
 | some i=>
  have hs:1=i.size:=by simp[hq]at hi;omega
  simp only[Nat.add_zero]at this;simp only[Instr.storeAt,Instr.sureAddr,Sem.run_bind,Sem.run_pure,Result.andThen_ok];simp[storeVar,sizeOf,typeInfo,hq,hc,← hs,this,World.setCells]
theorem aba {K:Act→World→Prop} (T:TypeId) (x y:Operand) (ho:o.op=.store T x y) (b f:Nat) (v:Value) (hx:a.eval x=.pointer (some ⟨b,f,none⟩)) (hy:a.eval y=v) (ht:w.there b f 1) (hi:(P.info? T).map (·.size)=some 1) (hc:v.cells=#[v]) (h1:v.oneCell'=true)
 (h:∀W,qz w W b f [v]→K (a.put o.dst undef) W):o.wp P a w K Q:=by
 unfold Oper.wp execOp;simp only[ho,hx,hy,Sem.run_bind,anl w b f T v ht hi hc h1,Result.andThen_ok,Sem.run_pure];exact h _ (jq ht)
theorem ac3 {K:Act→World→Prop} (T:TypeId) (x y:Operand) (ho:o.op=.store T x y) (b f:Nat) (C:Array Value) (hx:a.eval x=.pointer (some ⟨b,f,none⟩)) (hy:a.eval y=.agg C) (ht:w.there b f C.size) (hi:(P.info? T).map (·.size)=some C.size) (h1:C.all (·.oneCell')=true)
 (h:∀W,qz w W b f C.toList→K (a.put o.dst undef) W):o.wp P a w K Q:=
 wp_store_mid T x y ho b f C hx hy ht hi h1 (h _ (qm (by simpa using ht)))
theorem afw (hgd:o.guard=none) (T:TypeId) (x y:Operand) (ho:o.op=.store T x y) (b f:Nat) (v:Value) (hx:a.eval x=.pointer (some ⟨b,f,none⟩)) (hy:a.eval y=v) (ht:w.there b f 1) (hi:(P.info? T).map (·.size)=some 1) (hc:v.cells=#[v]) (h1:v.oneCell'=true)
 (h:∀W,qz w W b f [v]→wpList P ops Q rest (a.put o.dst undef) W):wpList P ops Q (o::rest) a w:=
 wpList_plain hgd fun _ hK=>aba T x y ho b f v hx hy ht hi hc h1 fun W hW=>hK _ _ (h W hW)
theorem qe (hgd:o.guard=none) (T:TypeId) (x y:Operand) (ho:o.op=.store T x y) (b f:Nat) (C:Array Value) (hx:a.eval x=.pointer (some ⟨b,f,none⟩)) (hy:a.eval y=.agg C) (ht:w.there b f C.size) (hi:(P.info? T).map (·.size)=some C.size) (h1:C.all (·.oneCell')=true)
 (h:∀W,qz w W b f C.toList→wpList P ops Q rest (a.put o.dst undef) W):wpList P ops Q (o::rest) a w:=
 wpList_store_mid hgd T x y ho b f C hx hy ht hi h1 (h _ (qm (by simpa using ht)))
end
section
variable {P : Program} {ops : Array Oper} {a : Act} {w : World} {r : Option Nat} {n : Nat} {Q : Exit → Act → World → Prop} {md : Region.Mode}
abbrev fen (r:Option Nat):Fence:={Fence.wide with round:=r}
theorem avk {o:Oper} {K K':Act→World→Prop} (hd:∀c,o.op≠.defer c) (hk:∀a w,K a w→K' a w) (h:o.wp P a w K Q):o.wpIn (fen r) n P a w K' Q:=by
 refine⟨fun f _=>trivial,?_⟩
 have e:o.semAt r a.eval=execOp a.eval o:=by
  cases r with
  | none=>exact Oper.semAt_none ..
  | some l=>exact Oper.semAt_some l _ _ hd
 show o.uponIn (fen r) n P a K' Q ((o.semAt r a.eval).run P w);rw[e];unfold Oper.wp at h;revert h;generalize (execOp a.eval o).run P w=x;intro h;cases x with
 | ok y w'=>
  cases y with
  | value v=>exact hk _ _ h
  | skip=>exact hk _ _ h
  | defer d=>exact hk _ _ h
  | enter f args=>
   rw[Oper.uponIn_enter];rw[Oper.upon_enter]at h;exact And.intro (fun q=>by cases q) ((callsIn_wide (n:=n-1)).2 (Calls.mono h fun e w'' he=>by cases e<;>first|exact hk _ _ he|exact he))
  | row row args=>
   rw[Oper.uponIn_row];rw[Oper.upon_row]at h;exact And.intro (fun q=>by cases q) fun c cs _=>let ⟨v,w'',q,s⟩:=h c cs;⟨v,w'',hk _ _ q,stepsIn_wide.2 s⟩
  | _=>exact h.elim
 | halt y w'=>cases y<;>exact h
theorem a7b (hlo:¬LetsOut Q):∀(rest:List Oper),(∀o∈rest,∀c,o.op≠.defer c)→∀a w,wpList P ops Q rest a w→wpListIn (fen r) n P ops Q rest a w
 | [],_,_,_,h=>h
 | o::rest,hd,a,w,h=>by
  have ih:=a7b hlo rest fun o ho=>hd o (List.mem_cons_of_mem _ ho)
  unfold wpList at h;unfold wpListIn
  split at h
  ·rename_i hw;rw[if_pos hw];exact avk (hd o List.mem_cons_self) ih (h.resolve_right fun q=>hlo q.2)
  ·rename_i hw;rw[if_neg hw];exact⟨fun f _=>trivial,ih _ _ h⟩
theorem bcl (hlo:¬LetsOut Q) (hd:∀o∈ops.toList,∀c,o.op≠.defer c):∀(fuel:Nat) listed a w,wpAny P md ops Q fuel listed a w→wpAnyIn (fen r) n P md ops Q fuel listed a w
 | 0,_,_,_,h=>h
 | fuel+1,listed,a,w,h=>by
  refine⟨h.1,fun i hi=>?_⟩;have h2:=h.2 i hi;have ih:=bcl hlo hd fuel (listed.setIfInBounds i true);unfold wpOp at h2;unfold wpOpIn;cases ho:ops[i]? with
  | none=>rw[ho]at h2;exact ih _ _ h2
  | some o=>
   rw[ho]at h2;dsimp only at h2 ⊢
   split at h2
   ·rename_i hw;rw[if_pos hw];exact avk (hd o (List.mem_of_getElem? (by rw[Array.getElem?_toList];exact ho))) ih (h2.resolve_right fun q=>hlo q.2)
   ·rename_i hw;rw[if_neg hw];exact⟨fun f _=>trivial,ih _ _ h2⟩
theorem ado {id:Nat} {l:List Oper} (hlo:¬LetsOut Q) (hd:∀o∈l,∀c,o.op≠.defer c) (h:wpList P l.toArray Q l a w):(Code.region id l.toArray false).wpIn (fen r) n P Q a w:=
 wpIn_region_lit (a7b hlo l hd a w h)
theorem ak7 {id:Nat} {S:World→Prop} (hlo:¬LetsOut Q) (hd:∀o∈ops.toList,∀c,o.op≠.defer c) (hm:P.follows .mixedOrders=true) (hS:S w.drew) (h:S w.drew→wpAnyH P .any ops Q S ops.size (Array.replicate ops.size false) a w.drew):(Code.region id ops true).wpIn (fen r) n P Q a w:=
 wpIn_region_any hm (bcl hlo hd _ _ _ _ (wpAny_of_held _ _ _ _ (h hS)))
theorem ai4 {rest:List Oper} {o:Oper} {W:World} (hgd:o.guard=none) (hd:∀c,o.op≠.defer c) {v:Value} (hex:(execOp a.eval o).run P w=.ok (.value v) W) (h:wpListIn (fen r) n P ops Q rest (a.put o.dst v) W):wpListIn (fen r) n P ops Q (o::rest) a w:=
 wpListIn_plain hgd fun K hK=>avk (K:=K) hd (fun _ _ q=>q) (by unfold Oper.wp;rw[hex];exact hK _ _ h)
theorem ak8 {rest:List Oper} {o:Oper} (hgd:o.guard=none) (ty:TypeId) (x:Operand) (ho:o.op=.load ty x) (b f:Nat) (hx:a.eval x=.pointer (some ⟨b,f,none⟩)) (cs:List Value) (d:TypeDesc) (hc:w.rangeAt b f cs)
 (hu:P.underlying ty=some d) (hd:d.isRow=true) (hi:(P.info? ty).map (·.size)=some cs.length) (h:wpListIn (fen r) n P ops Q rest (a.put o.dst (.agg cs.toArray)) w):wpListIn (fen r) n P ops Q (o::rest) a w:=
 ai4 hgd (fun c=>by rw[ho];exact fun q=>by cases q) (by unfold execOp;simp only[ho,hx,Instr.loadAt,Instr.sureAddr,Sem.run_bind,Sem.run_pure,Result.andThen_ok,run_loadVar_mid w b f ty cs d hc hu hd hi]) h
theorem ans {rest:List Oper} {o:Oper} (hgd:o.guard=none) (t:TypeId) (i j:Nat) (x y:Operand) (ho:o.op=.build t #[(i,x),(j,y)]) {u u' v:Value} (hx:a.eval x=u) (hy:a.eval y=u') (hr:(Instr.build t #[(i,u),(j,u')]).run P w=.ok v w)
 (h:wpListIn (fen r) n P ops Q rest (a.put o.dst v) w):wpListIn (fen r) n P ops Q (o::rest) a w:=
 ai4 hgd (fun c=>by rw[ho];exact fun q=>by cases q) (by unfold execOp;rw[ho];simp[hx,hy,hr]) h
end
theorem tkQ {P:Program} {md:Region.Mode} {ops:Array Oper} {Q:Exit→Act→World→Prop} {S:World→Prop} {i:Nat} {oi:Oper} {v:Value} {fuel:Nat} {listed:Array Bool} {a:Act} {w:World} (hi:ops[i]?=some oi) (hy:YieldsIf P ops S oi v a)
 (h:wpAnyH P md ops Q S fuel (listed.setIfInBounds i true) (a.put oi.dst v) w) (hs:Region.noSelect ops=true:=by kernel_rfl) (hf:Region.free md ops listed i=true:=by kernel_rfl) (hr:(Region.ready md ops listed).contains i=true:=by kernel_rfl)
 (hQ:∀c a w,Q (.panic c) (a.put oi.dst v) w→Q (.panic c) a w:=by exact fun _ _ _ h=>h) (hS:S w:=by assumption):wpAnyH P md ops Q S (fuel+1) listed a w:=wpAnyH_take hi hs hf hr hQ hy hS h
theorem tkA {P:Program} {md:Region.Mode} {ops:Array Oper} {Q:Exit→Act→World→Prop} {S:World→Prop} (i d:Nat) {o t p f g} {v:Value} {fuel:Nat} {listed:Array Bool} {a:Act} {w:World} (hi:ops[i]?=some ⟨some d,o,t,p,f,g⟩)
 (h:wpAnyH P md ops Q S fuel (listed.setIfInBounds i true) (a.put (some d) v) w) (hy:YieldsIf P ops S ⟨some d,o,t,p,f,g⟩ v a:=by
  refine Or.inl ⟨by rfl,?_⟩;intro w' hSw;go_simp
  try with_reducible rfl) (hs:Region.noSelect ops=true:=by kernel_rfl) (hf:Region.free md ops listed i=true:=by kernel_rfl) (hr:(Region.ready md ops listed).contains i=true:=by kernel_rfl)
 (hQ:∀c a w,Q (.panic c) (a.put (some d) v) w→Q (.panic c) a w:=by exact fun _ _ _ h=>h) (hS:S w:=by assumption):wpAnyH P md ops Q S (fuel+1) listed a w:=wpAnyH_take hi hs hf hr hQ hy hS h
theorem tkU {P:Program} {md:Region.Mode} {ops:Array Oper} {Q:Exit→Act→World→Prop} {S:World→Prop} (i d:Nat) {o t p f g} {fuel:Nat} {listed:Array Bool} {a:Act} {w:World} (hi:ops[i]?=some ⟨some d,o,t,p,f,g⟩)
 (h:wpAnyH P md ops Q S fuel (listed.setIfInBounds i true) (a.put (some d) undef) w) (hy:YieldsIf P ops S ⟨some d,o,t,p,f,g⟩ undef a:=by exact Or.inr ⟨by rfl,rfl⟩) (hs:Region.noSelect ops=true:=by kernel_rfl) (hf:Region.free md ops listed i=true:=by kernel_rfl) (hr:(Region.ready md ops listed).contains i=true:=by kernel_rfl)
 (hQ:∀c a w,Q (.panic c) (a.put (some d) undef) w→Q (.panic c) a w:=by exact fun _ _ _ h=>h) (hS:S w:=by assumption):wpAnyH P md ops Q S (fuel+1) listed a w:=wpAnyH_take hi hs hf hr hQ hy hS h
theorem rdA {P:Program} {md:Region.Mode} {ops:Array Oper} {Q:Exit→Act→World→Prop} {S:World→Prop} (i d:Nat) {o t p f g} {fuel:Nat} {listed:Array Bool} {a:Act} {w:World} (hi:ops[i]?=some ⟨some d,o,t,p,f,g⟩)
 (h:∀K':Act→World→Prop,Shut (∀a w,S w →(S w→wpAnyH P md ops Q S fuel (listed.setIfInBounds i true) a w)→K' a w)→if Region.wanted ⟨some d,o,t,p,f,g⟩ (yielded ops a.tmps)=true then Oper.wp P ⟨some d,o,t,p,f,g⟩ a w K' Q else K' (a.put (some d) undef) w)
 (hr:Region.ready md ops listed=[i]:=by kernel_rfl):wpAnyH P md ops Q S (fuel+1) listed a w:=wpAnyH_ready hr (by simp) (AllReadyH.cons hi h AllReadyH.nil)
theorem rdB {P:Program} {md:Region.Mode} {ops:Array Oper} {Q:Exit→Act→World→Prop} {S:World→Prop} (i d:Nat) {o t p f g} {fuel:Nat} {listed:Array Bool} {a:Act} {w:World} (hi:ops[i]?=some ⟨some d,o,t,p,f,g⟩)
 (h:∀K':Act→World→Prop,Shut (∀a w,S w →(S w→wpAnyH P md ops Q S fuel (listed.setIfInBounds i true) a w)→K' a w)→Oper.wp P ⟨some d,o,t,p,f,g⟩ a w K' Q)
 (hr:Region.ready md ops listed=[i]:=by kernel_rfl) (hw:Region.wanted ⟨some d,o,t,p,f,g⟩ (yielded ops a.tmps)=true:=by rfl):wpAnyH P md ops Q S (fuel+1) listed a w:=rdA i d hi (fun K hK=>by rw[if_pos hw];exact h K hK) hr
structure Blk (W:World) (b:Nat) (L:List Value):Prop where
 rg:W.rangeAt b 0 L
 fz:∀o,W.frozen? ⟨b,o,none⟩=false
 lt:b<W.1.size
theorem Blk.new {w W:World} {C:Array Value} (h:axq w W C):Blk W w.1.size C.toList:=⟨h.rg,h.fz,by have:=h.sz;omega⟩
theorem Blk.newL {w W:World} {C:Array Value} {L:List Value} (h:axq w W C) (e:C.toList=L):Blk W w.1.size L:=e▸Blk.new h
theorem Blk.kept {w W:World} {b:Nat} {L:List Value} (h:Blk w b L) (hk:W.heap[b]?=w.heap[b]?) (hz:w.1.size≤W.1.size):Blk W b L:=
 ⟨abs h.rg hk,fun o=>(World.frozen?_of_block (a:=⟨b,o,none⟩) hk).trans (h.fz o),Nat.lt_of_lt_of_le h.lt hz⟩
theorem Blk.below {w W:World} {b B:Nat} {L:List Value} (h:Blk w b L) (hb:Below B w W) (hB:b<B):Blk W b L:=h.kept (hb.block b hB) hb.size
theorem Blk.on {w W:World} {b:Nat} {L:List Value} (h:Blk w b L) (hb:Below w.1.size w W):Blk W b L:=h.below hb h.lt
theorem Blk.grew {w W:World} {C:Array Value} {b:Nat} {L:List Value} (h:Blk w b L) (hg:axq w W C):Blk W b L:=h.on hg.bel
theorem Blk.far {w W:World} {b b' o:Nat} {L cs:List Value} (h:Blk w b L) (hs:qz w W b' o cs) (hn:b≠b'):Blk W b L:=h.kept (hs.far b hn) (Nat.le_of_eq hs.sz.symm)
theorem Blk.drew {w:World} {b:Nat} {L:List Value} (h:Blk w b L):Blk w.drew b L:=⟨h.rg,h.fz,h.lt⟩
theorem Blk.sub {w:World} {b:Nat} {A M D:List Value} (h:Blk w b (A++M++D)):w.rangeAt b A.length M:=by
 have h1:=(World.rangeAt_append.1 (World.rangeAt_append.1 h.rg).1).2
 rwa [Nat.zero_add]at h1
theorem Blk.there {w:World} {b:Nat} {L:List Value} (h:Blk w b L) (o n:Nat) (hn:o+n≤L.length):w.there b o n:=fun j hj=>
 ⟨by have:=h.rg.isSome (o+j) om;rwa [Nat.zero_add]at this,h.fz _⟩
theorem Blk.cell {w:World} {b:Nat} {L:List Value} (h:Blk w b L) (o:Nat) {v:Value} (hv:L[o]?=some v):w.cell? ⟨b,o,none⟩=some v:=by
 have:=h.rg o v hv
 rwa [Nat.zero_add]at this
theorem Blk.put {w W:World} {b o:Nat} {A M D cs:List Value} (h:Blk w b (A++M++D)) (hs:qz w W b o cs) (ho:A.length=o) (hc:cs.length=M.length):Blk W b (A++cs++D):=by
 subst ho;have h0:=World.rangeAt_append.1 h.rg;have h1:=World.rangeAt_append.1 h0.1;refine⟨World.rangeAt_append.2 ⟨World.rangeAt_append.2 ⟨hs.apart 0 A h1.1 (.inl om),?_⟩,?_⟩,fun o=>(hs.fz _).trans (h.fz o),by rw[hs.sz];exact h.lt⟩
 ·rw[Nat.zero_add];exact hs.rg
 ·have:=hs.apart _ D h0.2 (.inr (by simp;omega));rw[List.length_append]at this ⊢;rw[hc];exact this
theorem Blk.all {w W:World} {b:Nat} {L cs:List Value} (h:Blk w b L) (hs:qz w W b 0 cs) (hc:cs.length=L.length):Blk W b cs:=by
 have:=Blk.put (A:=[]) (M:=L) (D:=[]) (by simpa using h) hs rfl hc
 simpa using this
theorem qz.drew {w W:World} {b o:Nat} {cs:List Value} (h:qz w.drew W b o cs):qz w W b o cs:=⟨h.os,h.tape,h.output,h.sz,h.far,h.fz,h.rg,h.apart,h.there⟩
theorem ka {C:Array Value} (h:∀v∈C.toList,v.oneCell'=true):C.all (·.oneCell')=true:=by
 rw[Array.all_eq_true_iff_forall_mem];intro v hv;exact h v (by simpa using hv)
theorem adq (b off j:Nat):(⟨b,off,none⟩:Addr).add j=⟨b,off+j,none⟩:=by unfold Addr.add;split<;>simp_all
def qf (Q:Nat→Prop) (w:World) (A:Option Addr) (xs:List Value):Prop:=∀(j:Nat) u,xs[j]?=some u→∃b off,A=some ⟨b,off,none⟩∧Q b∧w.cell? ⟨b,off+j,none⟩=some u
theorem qf.nil (Q:Nat→Prop) (w:World) (A:Option Addr):qf Q w A []:=fun j u hu=>by simp at hu
theorem qf.less {Q R:Nat→Prop} {w:World} {A:Option Addr} {xs:List Value} (h:qf Q w A xs) (hr:∀b,Q b→R b):qf R w A xs:=fun j u hu=>by
 obtain⟨b,off,h1,h2,h3⟩:=h j u hu;exact⟨b,off,h1,hr b h2,h3⟩
theorem qf.keep {Q:Nat→Prop} {w w':World} {A:Option Addr} {xs:List Value} (h:qf Q w A xs) (hk:∀b,Q b→w'.heap[b]?=w.heap[b]?):qf Q w' A xs:=fun j u hu=>by
 obtain⟨b,off,h1,h2,h3⟩:=h j u hu;exact⟨b,off,h1,h2,(World.cell?_of_block (a:=⟨b,off+j,none⟩) (hk b h2)).trans h3⟩
theorem qf.below {Q:Nat→Prop} {w w':World} {A:Option Addr} {xs:List Value} {B:Nat} (h:qf Q w A xs) (hb:Below B w w') (hq:∀b,Q b→b<B):qf Q w' A xs:=h.keep fun b hq'=>hb.block b (hq b hq')
theorem qf.lt {Q:Nat→Prop} {w:World} {A:Option Addr} {xs:List Value} (h:qf Q w A xs):qf (fun b=>Q b∧b<w.1.size) w A xs:=fun j u hu=>by
 obtain⟨b,off,h1,h2,h3⟩:=h j u hu;exact⟨b,off,h1,⟨h2,World.block_lt_of_cell? w _ h3⟩,h3⟩
structure qn (S:Nat→Prop) (w w':World):Prop where
 os:w'.os=w.os
 tape:w'.tape=w.tape
 output:w'.output=w.output
 size:w.1.size≤w'.1.size
 block:∀k,S k→w'.heap[k]?=w.heap[k]?
theorem qn.refl (S:Nat→Prop) (w:World):qn S w w:=⟨rfl,rfl,rfl,Nat.le_refl _,fun _ _=>rfl⟩
theorem qn.trans {S:Nat→Prop} {w w1 w2:World} (h:qn S w w1) (k:qn S w1 w2):qn S w w2:=
 ⟨k.os.trans h.os,k.tape.trans h.tape,k.output.trans h.output,Nat.le_trans h.size k.size,fun i hi=>(k.block i hi).trans (h.block i hi)⟩
theorem qn.of_below {S:Nat→Prop} {B:Nat} {w w':World} (h:Below B w w') (hb:∀k,S k→k<B):qn S w w':=
 ⟨h.os,h.tape,h.output,h.size,fun k hk=>h.block k (hb k hk)⟩
theorem qn.below {S:Nat→Prop} {B:Nat} {w w':World} (h:qn S w w') (hb:∀k,k<B→S k):Below B w w':=
 ⟨h.os,h.tape,h.output,h.size,fun k hk=>h.block k (hb k hk)⟩
theorem qn.less {S T:Nat→Prop} {w w':World} (h:qn S w w') (hT:∀k,T k→S k):qn T w w':=⟨h.os,h.tape,h.output,h.size,fun k hk=>h.block k (hT k hk)⟩
theorem qn.cell {S:Nat→Prop} {w w':World} (h:qn S w w') {b o:Nat} (hb:S b):w'.cell? ⟨b,o,none⟩=w.cell? ⟨b,o,none⟩:=World.cell?_of_block (a:=⟨b,o,none⟩) (h.block b hb)
theorem qn.drew {S:Nat→Prop} {w w':World} (h:qn S w w'):qn S w w'.drew:=⟨h.os,h.tape,h.output,h.size,h.block⟩
theorem qn.set {S:Nat→Prop} {w w':World} (h:qn S w w') {g:Nat} (hg:¬S g) (o:Nat) (v:Value):qn S w (w'.setCell ⟨g,o,none⟩ v):=
 ⟨h.os,h.tape,h.output,by simpa using h.size,fun k hk=>(Below.heap_setCell _ _ _ _ (fun(e:k=g)=>hg (e▸hk))).trans (h.block k hk)⟩
theorem abz {w:World} {b o:Nat} {v:Value} (hv:w.cell? ⟨b,o,none⟩=some v):b<w.1.size:=by
 refine Nat.lt_of_not_le fun q=>?_
 simp[World.cell?,Array.getElem?_eq_none q]at hv
theorem zj {w:World} {base:Nat} {e:TypeId} {size n:Nat} {v:Value} {xs:List Value} (h:w.ownsRow base e size v n xs):∃A c,v=.slice A n c∧n≤c∧qf (fun b=>base≤b∧b<w.1.size) w A xs ∧(A=none→n=0∧c=0):=by
 rcases h.2 with⟨hv,h0⟩|⟨g,cap,cur,hv,hb,hg,hcap,-⟩
 ·have hx:xs=[]:=List.eq_nil_of_length_eq_zero (by rw[h.1,h0];simp);exact⟨none,0,by rw[hv,h0],by omega,by rw[hx];exact qf.nil _ _ _,fun _=>⟨h0,rfl⟩⟩
 ·subst hv;exact⟨some ⟨g,0,none⟩,cap,rfl,hcap,fun j u hu=>⟨g,0,rfl,⟨hb,(Array.getElem?_eq_some_iff.1 hg).1⟩,by have:=h.cells (g:=g) rfl j u hu;rw[adq]at this;exact this⟩,fun q=>by cases q⟩
section
variable {P : Program}
theorem jl (w:World) (t ty e:TypeId) (i:TypeInfo) (z:Value) (size bytes:Nat) (h1:P.underlying t=some (.slice e)) (h2:P.info? e=some i) (h3:i.zero=some z) (h4:i.size=size) (h5:i.bytes=bytes) (h6:z.cells.size=size) (h7:0<size)
 {R:Nat→Prop} (base:Nat) (v:Value) (n:Nat) (xs:List Value) (hown:w.ownsRow base e size v n xs)
 (X:Option Addr) (m c:Nat) (news:List Value) (hn:news.length=m*size) (hc:qf R w X news) (h1c:∀u∈news,u.oneCell'=true)
 (b1:n+m≤maxLen) (b2:(n+m)*bytes≤140737488355328) (hb:base≤w.1.size) :
 ∃v' w',(Builtin.append_ #[t,t] ty #[v,.slice X m c]).run P w=.ok v' w'∧w'.ownsRow base e size v' (n+m) (xs++news)∧w.grownBy w' v.ownBlock ∧(v'.ownBlock=v.ownBlock∨v'.ownBlock=some w.1.size):=by
 by_cases hm:m=0
 ·subst hm;obtain rfl:news=[]:=List.eq_nil_of_length_eq_zero (by rw[hn];simp);obtain⟨A,cap,rfl,hcap,-,-⟩:=zj hown;have hrun:=run_append_nothing (P:=P) w t t ty e i h1 h2 A n cap hcap (.slice X 0 c) ⟨.inl ⟨e,h1⟩,fun w'=>by simp[Builtin.lenOf],by cases X<;>simp[Builtin.firstCells,h4,loadCells,loadCellsFrom],by cases X<;>simp[Builtin.firstCells,h4,loadCells,loadCellsFrom],by simp,fun u hu=>by cases hu⟩;exact⟨_,w,hrun,by rw[List.append_nil];exact hown,⟨rfl,rfl,rfl,Nat.le_refl _,fun _ _ _=>rfl⟩,.inl rfl⟩
 ·have hpos:0<news.length:=by rw[hn];exact Nat.mul_pos om h7
  obtain⟨xb,xo,hX,-,-⟩:=hc 0 news[0] (List.getElem?_eq_getElem hpos);subst hX
  have hnews:∀j u,news[j]?=some u→w.cell? ((⟨xb,xo,none⟩:Addr).add j)=some u:=fun j u hu=>by
   obtain⟨b',off,e1,-,e3⟩:=hc j u hu;injection e1 with e1
   injection e1 with e1 e2
   subst e1 e2;rw[adq];exact e3
  obtain⟨v',w',hr,h8,h9,-,h10⟩:=run_append_own_at (P:=P) w base t ty e i z size bytes h1 h2 h3 h4 h5 h6 h7 v n xs hown ⟨xb,xo,none⟩ m c news hn hnews h1c b1 b2 hb;exact⟨v',w',hr,h8,h9,h10⟩
theorem jm {w W:World} {o:Oper} {a:Act} {K:Act→World→Prop} {Q:Exit→Act→World→Prop} (s x:Operand) (t:TypeId)
 (ho:o.op=.call {callee:=.builtin .append,args:=#[s,x],argTypes:=#[t,t]}) (v u r:Value) (hs:a.eval s=v) (hx:a.eval x=u)
 (hr:(Builtin.append_ #[t,t] o.type #[v,u]).run P w=.ok r W) (h:K (a.put o.dst r) W):o.wp P a w K Q:=by
 unfold Oper.wp execOp;simp only[ho,resolve,invoke,builtin,Sem.run_bind,Sem.run_pure,Result.andThen_ok,List.map_toArray,List.map_cons,List.map_nil,hs,hx,hr];exact h
theorem zf {w W:World} {ops:Array Oper} {rest:List Oper} {o:Oper} {a:Act} {Q:Exit→Act→World→Prop} (hgd:o.guard=none) (s x:Operand) (t:TypeId)
 (ho:o.op=.call {callee:=.builtin .append,args:=#[s,x],argTypes:=#[t,t]}) (v u r:Value) (hs:a.eval s=v) (hx:a.eval x=u)
 (hr:(Builtin.append_ #[t,t] o.type #[v,u]).run P w=.ok r W) (h:wpList P ops Q rest (a.put o.dst r) W):wpList P ops Q (o::rest) a w:=
 wpList_plain hgd fun _ hK=>jm s x t ho v u r hs hx hr (hK _ _ h)
theorem ace {w W:World} {ops:Array Oper} {o:Oper} {a:Act} {K:Act→World→Prop} {Q:Exit→Act→World→Prop} {E:Prop} (hgd:o.guard=none) (s x:Operand) (t:TypeId)
 (ho:o.op=.call {callee:=.builtin .append,args:=#[s,x],argTypes:=#[t,t]}) (v u r:Value) (hs:a.eval s=v) (hx:a.eval x=u)
 (hr:(Builtin.append_ #[t,t] o.type #[v,u]).run P w=.ok r W) (h:K (a.put o.dst r) W):if Region.wanted o (yielded ops a.tmps)=true then Oper.wp P o a w K Q else E:=by
 have hw:Region.wanted o (yielded ops a.tmps)=true:=by simp[Region.wanted,hgd]
 rw[if_pos hw];exact jm s x t ho v u r hs hx hr h
end
theorem Blk.set {w:World} {b o:Nat} {L:List Value} (h:Blk w b L) (ho:o<L.length) (x:Value):Blk (w.setCell ⟨b,o,none⟩ x) b (L.set o x)∧qz w (w.setCell ⟨b,o,none⟩ x) b o [x]:=by
 have s1:qz w (w.setCell ⟨b,o,none⟩ x) b o [x]:=jq (h.there o 1 om);refine⟨?_,s1⟩
 have e:L=L.take o++[L[o]]++L.drop (o+1):=by
  rw[← List.take_succ_eq_append_getElem ho,List.take_append_drop]
 have h2:=h;rw[e]at h2;have:=h2.put s1 (by rw[List.length_take];omega) rfl
 rwa [List.set_eq_take_append_cons_drop,if_pos ho,show L.take o++x::L.drop (o+1)=L.take o++[x]++L.drop (o+1)from by simp]
def abj (w0:World) (e:TypeId) (size:Nat) (v:Value) (n:Nat) (xs:List Value) (w:World):Prop:=w.ownsRow w0.1.size e size v n xs∧Below w0.1.size w0 w
theorem abj.on {w0:World} {e:TypeId} {size:Nat} {v:Value} {n:Nat} {xs:List Value} {w w':World} (h:abj w0 e size v n xs w) (hb:Below w.1.size w w'):abj w0 e size v n xs w':=by
 refine⟨⟨h.1.1,?_⟩,qb h.2 hb⟩;rcases h.1.2 with q|⟨g,cap,cur,h1,h2,h3,h4⟩
 ·exact .inl q
 ·exact .inr ⟨g,cap,cur,h1,h2,by rw[hb.block g (Array.getElem?_eq_some_iff.1 h3).1];exact h3,h4⟩
theorem abj.nil (w0:World) (e:TypeId) (size:Nat) {w:World} (hb:Below w0.1.size w0 w):abj w0 e size (.slice none 0 0) 0 [] w:=⟨World.ownsRow_nil _ _ _ _,hb⟩
theorem abj.flat {w0:World} {e:TypeId} {size:Nat} {v:Value} {n:Nat} {xs:List Value} {w:World} (h:abj w0 e size v n xs w):∃A c,v=.slice A n c∧n≤c∧qf (fun b=>w0.1.size≤b∧b<w.1.size) w A xs:=by
 obtain⟨A,c,h1,h2,h3,-⟩:=zj h.1;exact⟨A,c,h1,h2,h3⟩
theorem abj.app {P:Program} {w0:World} {t ty e:TypeId} {i:TypeInfo} {z:Value} {size bytes:Nat} {v:Value} {n:Nat} {xs:List Value} {w:World} (h:abj w0 e size v n xs w) (hi:P.info? e=some i∧i.zero=some z∧i.size=size∧i.bytes=bytes) (h1:P.underlying t=some (.slice e)) (h6:z.cells.size=size) (h7:0<size)
 {R:Nat→Prop} (X:Option Addr) (m c:Nat) (news:List Value) (hn:news.length=m*size) (hc:qf R w X news) (h1c:∀u∈news,u.oneCell'=true) (b1:n+m≤maxLen) (b2:(n+m)*bytes≤140737488355328) :
 ∃v' w',(Builtin.append_ #[t,t] ty #[v,.slice X m c]).run P w=.ok v' w'∧abj w0 e size v' (n+m) (xs++news) w':=by
 obtain⟨v',w',q1,q2,q3,-⟩:=jl (P:=P) w t ty e i z size bytes h1 hi.1 hi.2.1 hi.2.2.1 hi.2.2.2 h6 h7 w0.1.size v n xs h.1 X m c news hn hc h1c b1 b2 h.2.size;refine⟨v',w',q1,q2,h.2.grown q3 h.2.size (fun k hk=>?_)⟩;obtain⟨A,cap,rfl,-,-⟩:=h.flat;rcases h.1.2 with⟨q,-⟩|⟨g,cap',cur,q,hb,-⟩
 ·injection q with q _ _;subst q;cases hk
 ·injection q with q _ _;subst q
  simp only[Value.ownBlock,Option.some.injEq]at hk;omega
theorem ae4 {w w':World} {B:Nat} {e:TypeId} {size:Nat} {v:Value} {n:Nat} {xs:List Value} (h:w.ownsRow B e size v n xs) (hb:Below w.1.size w w'):w'.ownsRow B e size v n xs:=by
 refine⟨h.1,?_⟩;rcases h.2 with q|⟨g,cap,cur,h1,h2,h3,h4⟩
 ·exact .inl q
 ·exact .inr ⟨g,cap,cur,h1,h2,by rw[hb.block g (Array.getElem?_eq_some_iff.1 h3).1];exact h3,h4⟩
theorem akn {w:World} {B b o:Nat} {e:TypeId} {size:Nat} {v:Value} {n:Nat} {xs:List Value} (h:w.ownsRow B e size v n xs) (hb:b<B) (u:Value):(w.setCell ⟨b,o,none⟩ u).ownsRow B e size v n xs:=by
 refine⟨h.1,?_⟩;rcases h.2 with q|⟨g,cap,cur,h1,h2,h3,h4⟩
 ·exact .inl q
 ·exact .inr ⟨g,cap,cur,h1,h2,(Below.heap_setCell _ _ _ _ (fun(q:g=b)=>by omega)).trans h3,h4⟩
theorem akm {P:Program} {B:Nat} {t ty e:TypeId} {i:TypeInfo} {z:Value} {size bytes:Nat} {v:Value} {n:Nat} {xs:List Value} {w:World} (h:w.ownsRow B e size v n xs) (hB:B≤w.1.size) (hi:P.info? e=some i∧i.zero=some z∧i.size=size∧i.bytes=bytes) (h1:P.underlying t=some (.slice e)) (h6:z.cells.size=size) (h7:0<size)
 {R:Nat→Prop} (X:Option Addr) (m c:Nat) (news:List Value) (hn:news.length=m*size) (hc:qf R w X news) (h1c:∀u∈news,u.oneCell'=true) (b1:n+m≤maxLen) (b2:(n+m)*bytes≤140737488355328) :
 ∃v' w',(Builtin.append_ #[t,t] ty #[v,.slice X m c]).run P w=.ok v' w'∧w'.ownsRow B e size v' (n+m) (xs++news)∧Below B w w':=by
 obtain⟨v',w',q1,q2,q3,-⟩:=jl (P:=P) w t ty e i z size bytes h1 hi.1 hi.2.1 hi.2.2.1 hi.2.2.2 h6 h7 B v n xs h X m c news hn hc h1c b1 b2 hB;refine⟨v',w',q1,q2,(Below.refl B w).grown q3 hB (fun k hk=>?_)⟩;obtain⟨A,cap,rfl,-,-⟩:=zj h;rcases h.2 with⟨q,-⟩|⟨g,cap',cur,q,hb,-⟩
 ·injection q with q _ _;subst q;cases hk
 ·injection q with q _ _;subst q
  simp only[Value.ownBlock,Option.some.injEq]at hk;omega
instance litDec:DecidableEq Lit
 | .bool x,.bool y=>decidable_of_iff (x=y) ⟨fun h=>by rw[h],fun h=>by cases h;rfl⟩
 | .int k x,.int j y=>decidable_of_iff (k=j∧x=y) ⟨fun h=>by rw[h.1,h.2],fun h=>by cases h;exact⟨rfl,rfl⟩⟩
 | .float k x,.float j y=>decidable_of_iff (k=j∧x=y) ⟨fun h=>by rw[h.1,h.2],fun h=>by cases h;exact⟨rfl,rfl⟩⟩
 | .string x,.string y=>decidable_of_iff (x=y) ⟨fun h=>by rw[h],fun h=>by cases h;rfl⟩
 | .nil,.nil=>isTrue rfl
 | .bool _,.int _ _=>isFalse (fun h=>by cases h)
 | .bool _,.float _ _=>isFalse (fun h=>by cases h)
 | .bool _,.string _=>isFalse (fun h=>by cases h)
 | .bool _,.nil=>isFalse (fun h=>by cases h)
 | .int _ _,.bool _=>isFalse (fun h=>by cases h)
 | .int _ _,.float _ _=>isFalse (fun h=>by cases h)
 | .int _ _,.string _=>isFalse (fun h=>by cases h)
 | .int _ _,.nil=>isFalse (fun h=>by cases h)
 | .float _ _,.bool _=>isFalse (fun h=>by cases h)
 | .float _ _,.int _ _=>isFalse (fun h=>by cases h)
 | .float _ _,.string _=>isFalse (fun h=>by cases h)
 | .float _ _,.nil=>isFalse (fun h=>by cases h)
 | .string _,.bool _=>isFalse (fun h=>by cases h)
 | .string _,.int _ _=>isFalse (fun h=>by cases h)
 | .string _,.float _ _=>isFalse (fun h=>by cases h)
 | .string _,.nil=>isFalse (fun h=>by cases h)
 | .nil,.bool _=>isFalse (fun h=>by cases h)
 | .nil,.int _ _=>isFalse (fun h=>by cases h)
 | .nil,.float _ _=>isFalse (fun h=>by cases h)
 | .nil,.string _=>isFalse (fun h=>by cases h)
def KV (t:TypeId) (X:List Value) (l:List Lit):Prop:=∃D,prog.keyLits D t X=some l
theorem KV.struct_len {t:TypeId} {fs:Array Field} {X:List Value} {l:List Lit} (hu:prog.underlying t=some (.struct fs)) (h:KV t X l):X.length=prog.cellsOf t:=by
 obtain⟨D,h⟩:=h;cases D with
 | zero=>simp[Program.keyLits]at h
 | succ D=>
  simp only[Program.keyLits,hu]at h
  split at h
  ·next hc=>exact hc.1
  ·cases h
theorem KV.ones {m:Nat} {t:TypeId} {X:List Value} {l:List Lit} (ht:prog.tiled m t=true) (h:KV t X l):∀v∈X,v.oneCell'=true:=by
 obtain⟨D,h⟩:=h;rw[cells_of_lits m t ht D X l h];intro v hv;obtain⟨x,-,rfl⟩:=List.mem_map.1 hv;cases x<;>rfl
theorem bgz {m n:Nat} {t:TypeId} (hk:prog.keyTypeAt m t=true) (hm:m≤n):EqAt prog n t:=by
 have:=run_equalIn_deep (P:=prog) (n-m) m t hk
 rwa [Nat.sub_add_cancel hm]at this
theorem aiv {m:Nat} {t:TypeId} {fs:Array Field} (hu:prog.underlying t=some (.struct fs)) (hk:prog.keyTypeAt m t=true) (hm:m≤10000) {X Y:List Value} {lx ly:List Lit} (hx:KV t X lx) (hy:KV t Y ly) (w:World) :
 (Op.equalIn 10000 t (.agg X.toArray) (.agg Y.toArray)).run prog w=.ok (decide (lx=ly)) w:=by
 have l1:=hx.struct_len hu;have l2:=hy.struct_len hu;obtain⟨D,hx⟩:=hx;obtain⟨D',hy⟩:=hy;obtain⟨r,hr,hiff⟩:=(bgz hk hm:EqAt prog 10000 t) w D D' (.agg X.toArray) (.agg Y.toArray) lx ly (by simp[Value.formed,hu,l1]) (by simp[Value.formed,hu,l2]) (by simpa [Value.cells]using hx) (by simpa [Value.cells]using hy);have e:r=decide (lx=ly):=by rw[Bool.eq_iff_iff,hiff,decide_eq_true_iff]
 rw[hr,e]
theorem an2 {m:Nat} {t:TypeId} {fs:Array Field} (hu:prog.underlying t=some (.struct fs)) (hk:prog.keyTypeAt m t=true) (hm:m≤10000) {X Y:List Value} {lx ly:List Lit} (hx:KV t X lx) (hy:KV t Y ly) (w:World) :
 (binOp .eql t (.agg X.toArray) (.agg Y.toArray)).run prog w=.ok (.bool (decide (lx=ly))) w:=by
 rw[run_eql_struct,aiv hu hk hm hx hy];rfl
theorem avg {m:Nat} {t:TypeId} {fs:Array Field} (hu:prog.underlying t=some (.struct fs)) (hk:prog.keyTypeAt m t=true) (hm:m≤10000) {X Y:List Value} {lx ly:List Lit} (hx:KV t X lx) (hy:KV t Y ly) (w:World) :
 (binOp .neq t (.agg X.toArray) (.agg Y.toArray)).run prog w=.ok (.bool (!decide (lx=ly))) w:=by
 rw[run_neq_struct,aiv hu hk hm hx hy];rfl
def SlK (t:TypeId) (size:Nat) (Q:Nat→Prop) (w:World) (A:Option Addr) (X:List (List Lit)):Prop:=
 ∀k (h:k<X.length),∃b off L,A=some ⟨b,off,none⟩∧Q b∧w.rangeAt b (off+k*size) L∧KV t L X[k]
theorem SlK.below {t:TypeId} {size:Nat} {Q:Nat→Prop} {w w':World} {B:Nat} {A:Option Addr} {X:List (List Lit)} (h:SlK t size Q w A X) (hb:Below B w w') (hq:∀b,Q b→b<B):SlK t size Q w' A X:=fun k hk=>by
 obtain⟨b,off,L,h1,h2,h3,h4⟩:=h k hk;exact⟨b,off,L,h1,h2,zl h3 hb (hq b h2),h4⟩
theorem aan {P:Program} {ops:Array Oper} {S:World→Prop} {o:Oper} {a:Act} (hw:Region.wanted o (yielded ops a.tmps)=true) (bo:BinOp) (xT:TypeId) (x y:Operand) (yT:TypeId) (ho:o.op=.binOp bo xT x y yT) {u v r:Value} (hx:a.eval x=u) (hy:a.eval y=v) (hg:∀w,(eqGuard bo xT x y u v).run P w=.ok () w) (hr:∀w,(binOp bo xT u v).run P w=.ok r w):YieldsIf P ops S o r a:=
 .inl ⟨hw,fun w _=>by
  unfold execOp;rw[ho];simp only[hx,hy,Sem.run_bind,hg,hr,Result.andThen_ok,Sem.run_pure]⟩
theorem amg {P:Program} {o:Oper} {a:Act} {w:World} {Q:Exit→Act→World→Prop} {K:Act→World→Prop} (bo:BinOp) (xT:TypeId) (x y:Operand) (yT:TypeId) (ho:o.op=.binOp bo xT x y yT) {u v r:Value} (hx:a.eval x=u) (hy:a.eval y=v) (hg:(eqGuard bo xT x y u v).run P w=.ok () w) (hr:(binOp bo xT u v).run P w=.ok r w)
 (h:K (a.put o.dst r) w):o.wp P a w K Q:=by
 unfold Oper.wp execOp;rw[ho];simp only[hx,hy,Sem.run_bind,hg,hr,Result.andThen_ok,Sem.run_pure];exact h
def an0 (tI:TypeId):Nat→List Field→Bool
 | _,[]=>true
 | o,f::L=>decide (f.type=tI) && (decide (f.offset=o) && an0 tI (o+1) L)
theorem ata {tI:TypeId} {k:IntKind} (hi:prog.underlying tI=some (.int k)) (hc:prog.cellsOf tI=1) (D:Nat):∀(L:List Field) (pre:List Value) (v:List Int),an0 tI pre.length L=true→v.length=L.length →(∀n∈v,(Lit.int k n).wf=true) →
 L.mapM (fun f=>prog.keyLits (D+1) f.type (List.take (prog.cellsOf f.type) (List.drop f.offset (pre++v.map (Value.int k)))))=some (v.map fun n=>[Lit.int k n])
 | [],pre,v,_,hl,_=>by
  obtain rfl:=List.eq_nil_of_length_eq_zero (by simpa using hl);rfl
 | f::L,pre,[],_,hl,_=>by simp at hl
 | f::L,pre,n::v,h,hl,hr=>by
  simp only[an0,Bool.and_eq_true,decide_eq_true_eq]at h;obtain⟨h1,h2,h3⟩:=h;have ih:=ata hi hc D L (pre++[Value.int k n]) v (by rw[List.length_append];exact h3) (by simpa using hl) (fun m hm=>hr m (List.mem_cons_of_mem _ hm));have e:pre ++(n::v).map (Value.int k)=(pre++[Value.int k n])++v.map (Value.int k):=by simp
  rw[e,List.mapM_cons,ih]
  have e2:List.take (prog.cellsOf f.type) (List.drop f.offset ((pre++[Value.int k n])++v.map (Value.int k)))=[Value.int k n]:=by
   rw[h1,hc,h2,List.append_assoc,List.drop_left];rfl
  have hw:(Lit.int k n).wf=true:=hr n (List.mem_cons_self ..)
  have e3:prog.keyLits (D+1) f.type [Value.int k n]=some [Lit.int k n]:=by
   rw[h1];simp only[Program.keyLits,hi];rw[if_pos (by simp[hw])]
  rw[e2,e3];rfl
theorem ag9 {t:TypeId} {fs:Array Field} {X:List Value} {D:Nat} {p:List (List Lit)} (hu:prog.underlying t=some (.struct fs)) (hnm:(fs.all fun x=>x.name != "_")=true) (hl:X.length=prog.cellsOf t)
 (h:fs.toList.mapM (fun f=>prog.keyLits D f.type (List.take (prog.cellsOf f.type) (List.drop f.offset X)))=some p):prog.keyLits (D+1) t X=some p.flatten:=by
 simp only[Program.keyLits,hu];rw[if_pos ⟨hl,hnm⟩,h];rfl
theorem akh {t tI:TypeId} {fs:Array Field} {k:IntKind} (hu:prog.underlying t=some (.struct fs)) (hi:prog.underlying tI=some (.int k)) (hc:prog.cellsOf tI=1) (hL:an0 tI 0 fs.toList=true) (hnm:(fs.all fun x=>x.name != "_")=true) (hn:prog.cellsOf t=fs.size) (v:List Int) (hl:v.length=fs.size) (hr:∀n∈v,(Lit.int k n).wf=true):KV t (v.map (Value.int k)) (v.map (Lit.int k)):=by
 have:=ata hi hc 0 fs.toList [] v hL (by rw[hl];simp) hr;rw[List.nil_append]at this;have h:=ag9 hu hnm (by rw[List.length_map,hl,hn]) this;refine⟨_,h.trans (congrArg some ?_)⟩;clear this h hr hl
 induction v with
 | nil=>rfl
 | cons n v ih=>simp only[List.map_cons,List.flatten_cons,ih];rfl
theorem aju {n:Int} (h:-9223372036854775808≤n∧n≤9223372036854775807):(Lit.int .i64 n).wf=true:=by
 simp only[Lit.wf,Bool.and_eq_true,decide_eq_true_eq];exact h
theorem bl8 (c:UInt8):(Lit.int .u8 (c.toNat:Int)).wf=true:=by
 have:=c.toNat_lt;simp only[Lit.wf,Bool.and_eq_true,decide_eq_true_eq];exact⟨(Int.natCast_nonneg _:(0:Int)≤_),(by omega:(c.toNat:Int)≤255)⟩
theorem ajm {X Y:List (List Lit)} {k:Nat} (hX:k<X.length) (hY:k<Y.length) (hp:∀j,j<k→X[j]?=Y[j]?) (h:X[k]=Y[k]):∀j,j<k+1→X[j]?=Y[j]?:=fun j hj=>by
 rcases Nat.lt_or_ge j k with q|q
 ·exact hp j q
 ·obtain rfl:j=k:=by omega
  rw[List.getElem?_eq_getElem hX,List.getElem?_eq_getElem hY,h]
theorem aqh {X Y:List (List Lit)} (hl:X.length=Y.length) (hp:∀j,j<X.length→X[j]?=Y[j]?):X=Y:=by
 apply List.ext_getElem?;intro j;rcases Nat.lt_or_ge j X.length with q|q
 ·exact hp j q
 ·rw[List.getElem?_eq_none q,List.getElem?_eq_none om]
theorem ap0 {X Y:List (List Lit)} {k:Nat} (hX:k<X.length) (hY:k<Y.length) (h:X[k]≠Y[k]):X≠Y:=fun e=>by
 subst e;exact h rfl
theorem aux:Hid ((prog.info? 162).map (·.size)=some (prog.cellsOf 162)):=hid kr
theorem an3:Hid ((prog.info? 164).map (·.size)=some (prog.cellsOf 164)):=hid kr
theorem KV.i64 {X:List Value} {l:List Lit} (h:KV 2 X l):∃n,X=[.int .i64 n]∧l=[.int .i64 n]:=by
 obtain⟨D,h⟩:=h;exact keyLits_int' underlying2 h
theorem a4z (A B:Option Addr) (n m c d:Nat) (X Y:List (List Lit)) (w:World) (hX:Hid (X.length=n)) (hY:Hid (Y.length=m)) (hA:Hid (SlK 2 1 (fun b=>b<w.1.size) w A X)) (hB:Hid (SlK 2 1 (fun b=>b<w.1.size) w B Y)) (hn:n≤maxLen) (hm:m≤maxLen) :
 Calls prog 51 #[.slice A n c,.slice B m d] w fun e w'=>e=.returned (.bool (decide (X=Y)))∧Below w.1.size w w':=by
 unfold maxLen at hn hm
 by_cases hnm:n=m
 ·subst hnm;have HPT:Hid (X=Y→decide (X=Y)=true):=hid fun h=>decide_eq_true h
  have HPF:Hid (X≠Y→decide (X=Y)=false):=hid fun h=>decide_eq_false h
  generalize decide (X=Y)=R at *;have hnn:((n:Int) != (n:Int))=false:=by rw[bne_eq_false_iff_eq]
  go_enter func51,ntmps51;go_wp2_with fail
  go_loopg [5] n (fun g s13 wr=>∃k:Nat,k≤n∧n-k≤g∧s13=.int .i64 k∧Hid (Below w.1.size w wr)∧Hid (∀j,j<k→X[j]?=Y[j]?))
  case atStart=>exact⟨0,Nat.zero_le _,by omega,rfl,Below.refl _ _,fun j hj=>absurd hj (Nat.not_lt_zero _)⟩
  case round=>
   obtain⟨k,hk,hg,rfl,HB,HP⟩:=hrel
   by_cases hlt:k<n
   ·have hx:k<X.length:=by rw[hX.out];exact hlt
    have hy:k<Y.length:=by rw[hY.out];exact hlt
    obtain⟨b1,o1,L1,hA1,hq1,hr1,hv1⟩:=hA.out k hx;obtain⟨b2,o2,L2,hA2,hq2,hr2,hv2⟩:=hB.out k hy;subst hA1 hA2;have hb1:b1<wr.1.size:=Nat.lt_of_lt_of_le hq1 HB.out.size;have hb2:b2<wr.1.size:=Nat.lt_of_lt_of_le hq2 HB.out.size;have hr1:=hid (zl hr1 HB.out hq1);have hr2:=hid (zl hr2 HB.out hq2)
    have c1:wr.cell? ⟨b1,o1+k,none⟩=L1[0]?:=by
     obtain⟨x,e,-⟩:=hv1.i64;have:=hr1.out 0 (.int .i64 x) (by rw[e];rfl);rw[Nat.mul_one,Nat.add_zero]at this;rw[this,e];rfl
    have c2:wr.cell? ⟨b2,o2+k,none⟩=L2[0]?:=by
     obtain⟨x,e,-⟩:=hv2.i64;have:=hr2.out 0 (.int .i64 x) (by rw[e];rfl);rw[Nat.mul_one,Nat.add_zero]at this;rw[this,e];rfl
    obtain⟨x,e1,l1⟩:=hv1.i64;obtain⟨y,e2,l2⟩:=hv2.i64;rw[e1]at c1;rw[e2]at c2;have c1:wr.cell? ⟨b1,o1+k,none⟩=some (.int .i64 x):=c1;have c2:wr.cell? ⟨b2,o2+k,none⟩=some (.int .i64 y):=c2;have i1:(0:Int) ≤(k:Int):=Int.natCast_nonneg _;have i2:(k:Int)<(n:Int):=by omega
    by_cases he:X[k]=Y[k]
    ·have HP2:=hid (ajm hx hy HP.out he)
     have hxy:(x != y)=false:=by
      rw[l1,l2]at he;injection he with he
      injection he with he1 he2
      rw[bne_eq_false_iff_eq];exact he2
     clear e1 e2 l1 l2 hr1 hr2;clear he HP hv1 hv2 hx hy hq1 hq2;go_wp2_with fail
     go_quiet (fail)
     go_wp2_with fail
     go_roundg (n-(k+1))
     case measure=>omega
     case rel=>exact⟨k+1,by omega,by omega,by go_num,aab HB.out _,HP2⟩
    ·have HPN:=hid (HPF.out (ap0 hx hy he))
     have hxy:(x != y)=true:=by
      rw[l1,l2]at he;rw[bne_iff_ne];intro q;exact he (by rw[q])
     clear e1 e2 l1 l2 hr1 hr2;clear he HP hv1 hv2 hx hy hq1 hq2 HPF HPT;go_wp2_with fail
     go_quiet (fail)
     go_wp2_with fail;go_ret;rw[HPN.out];exact⟨rfl,aab HB.out _⟩
   ·have hkn:k=n:=by omega
    subst hkn;have HPN:=hid (HPT.out (aqh (hX.out.trans hY.out.symm) (fun j hj=>HP.out j (by rw[← hX.out];exact hj))));clear HPT HPF;go_wp2_with fail;go_ret;rw[HPN.out];exact⟨rfl,HB.out⟩
 ·have hne:((n:Int) != (m:Int))=true:=by rw[bne_iff_ne];omega
  have HPN:Hid (decide (X=Y)=false):=hid (decide_eq_false fun e=>hnm (by rw[← hX.out,← hY.out,e]));clear hnm;generalize decide (X=Y)=R at *;go_enter func51,ntmps51;go_wp2_with fail;go_ret;rw[HPN.out];exact⟨rfl,Below.refl _ _⟩
theorem a40 (T U:Int) (A B:Option Addr) (n m c d:Nat) (X Y:List (List Lit)) (w:World) (hX:Hid (X.length=n)) (hY:Hid (Y.length=m)) (hA:Hid (SlK 162 7 (fun b=>b<w.1.size) w A X)) (hB:Hid (SlK 162 7 (fun b=>b<w.1.size) w B Y)) (hn:n≤maxLen) (hm:m≤maxLen) :
 Calls prog 47 #[.agg #[.int .i64 T,.slice A n c],.agg #[.int .i64 U,.slice B m d]] w fun e w'=>e=.returned (.bool (decide (T=U) && decide (X=Y)))∧Below w.1.size w w':=by
 unfold maxLen at hn hm
 by_cases hT:T=U
 ·subst hT;rw[decide_eq_true (rfl:T=T),Bool.true_and];have hTT:(T != T)=false:=by rw[bne_eq_false_iff_eq]
  by_cases hnm:n=m
  ·subst hnm;have hnn:((n:Int) != (n:Int))=false:=by rw[bne_eq_false_iff_eq]
   have HPT:Hid (X=Y→decide (X=Y)=true):=hid fun h=>decide_eq_true h
   have HPF:Hid (X≠Y→decide (X=Y)=false):=hid fun h=>decide_eq_false h
   generalize decide (X=Y)=R at *;go_enter func47,ntmps47
   go_upto_region 1 with(first
    | (refine qr rfl _ _ rfl #[.int .i64 T,.slice A n c] rfl ?_;intro W1 hW;have HK1:=hid (Blk.newL (L:=[.int .i64 T,.slice A n c]) hW rfl);have HB1:=hid hW.bel;clear hW)
    | (refine qr rfl _ _ rfl #[.int .i64 T,.slice B n d] rfl ?_;intro W2 hW;have HK2:=hid (Blk.newL (L:=[.int .i64 T,.slice B n d]) hW rfl);have HK12:=hid (HK1.out.on hW.bel);have HB2:=hid (qb HB1.out hW.bel);clear hW))
   have g0:=HK12.out.cell 0 (v:=.int .i64 T) rfl;have g1:=HK12.out.cell 1 (v:=.slice A n c) rfl;have g2:=HK2.out.cell 0 (v:=.int .i64 T) rfl;have g3:=HK2.out.cell 1 (v:=.slice B n d) rfl;go_wp2_with fail;clear g0 g1 g2 g3
   go_loopg [5] n (fun g s13 wr=>∃k:Nat,k≤n∧n-k≤g∧s13=.int .i64 k∧Hid (Below W2.1.size W2 wr)∧Hid (∀j,j<k→X[j]?=Y[j]?))
   case atStart=>exact⟨0,Nat.zero_le _,by omega,rfl,Below.refl _ _,fun j hj=>absurd hj (Nat.not_lt_zero _)⟩
   case round=>
    obtain⟨k,hk,hg,rfl,HB,HP⟩:=hrel;have HK1r:=hid (HK12.out.on HB.out);have HK2r:=hid (HK2.out.on HB.out);have HBw:=hid (qb HB2.out HB.out);have g1:=HK1r.out.cell 1 (v:=.slice A n c) rfl
    by_cases hlt:k<n
    ·have hx:k<X.length:=by rw[hX.out];exact hlt
     have hy:k<Y.length:=by rw[hY.out];exact hlt
     obtain⟨b1,o1,L1,hA1,hq1,hr1,hv1⟩:=hA.out k hx;obtain⟨b2,o2,L2,hA2,hq2,hr2,hv2⟩:=hB.out k hy;subst hA1 hA2;have hb1:b1<wr.1.size:=Nat.lt_of_lt_of_le hq1 HBw.out.size;have hb2:b2<wr.1.size:=Nat.lt_of_lt_of_le hq2 HBw.out.size;have hr1:=hid (zl hr1 HBw.out hq1);have hr2:=hid (zl hr2 HBw.out hq2);have hl1:=hid (hv1.struct_len underlying162);have hl2:=hid (hv2.struct_len underlying162);have hne:=hid (avg (m:=10) underlying162 kr dc hv1 hv2);have i1:(0:Int) ≤(k:Int):=Int.natCast_nonneg _;have i2:(k:Int)<(n:Int):=by omega
     by_cases he:X[k]=Y[k]
     ·have HP2:=hid (ajm hx hy HP.out he);have hNE:Hid (∀W,(binOp .neq 162 (.agg L1.toArray) (.agg L2.toArray)).run prog W=.ok (.bool false) W):=hid fun W=>by rw[hne.out W,decide_eq_true he];rfl
      clear he hne HP hv1 hv2 hx hy hq1 hq2;go_wp2_with fail
      try (apply wp_seq_k;intro K_ HK_)
      have hS0:Below wr.1.size wr wr.drew:=(Below.refl _ _).drew;refine wp_region_held_drew (S:=fun w'=>Below wr.1.size wr w') kr hS0 (fun hHeld0=>?_);refine tkA 0 27 rfl ?_
      try go_frame
      refine tkQ (i:=1) (oi:=⟨some 28,_,_,_,_,_⟩) (v:=?_) rfl (Or.inl ⟨by rfl,?_⟩) ?_;rotate_left
      ·intro w' hSw;have c1:=(HK1r.out.on hSw).cell 1 (v:=.slice (some ⟨b1,o1,none⟩) n c) rfl;go_simp
       try with_reducible rfl
      try go_frame
      refine tkA 2 29 rfl ?_
      try go_frame
      refine tkA 3 30 rfl ?_
      try go_frame
      refine tkQ (i:=4) (oi:=⟨some 31,_,_,_,_,_⟩) (v:=_) rfl (yieldsIf_load_mid (by rfl) 162 _ rfl b1 (o1+k*7) rfl L1 _ (fun w' hSw=>zl hr1.out hSw hb1) underlying162 rfl (by rw[hl1.out];exact aux.out)) ?_
      try go_frame
      refine tkA 5 32 rfl ?_
      try go_frame
      refine tkQ (i:=6) (oi:=⟨some 33,_,_,_,_,_⟩) (v:=?_) rfl (Or.inl ⟨by rfl,?_⟩) ?_;rotate_left
      ·intro w' hSw;have c2:=(HK2r.out.on hSw).cell 1 (v:=.slice (some ⟨b2,o2,none⟩) n d) rfl;go_simp
       try with_reducible rfl
      try go_frame
      refine tkA 7 34 rfl ?_
      try go_frame
      refine tkA 8 35 rfl ?_
      try go_frame
      refine tkQ (i:=9) (oi:=⟨some 36,_,_,_,_,_⟩) (v:=_) rfl (yieldsIf_load_mid (by rfl) 162 _ rfl b2 (o2+k*7) rfl L2 _ (fun w' hSw=>zl hr2.out hSw hb2) underlying162 rfl (by rw[hl2.out];exact aux.out)) ?_
      try go_frame
      refine tkQ (i:=10) (oi:=⟨some 37,_,_,_,_,_⟩) (v:=.bool false) rfl (aan (by rfl) .neq 162 (.tmp 31) (.tmp 36) 162 rfl (u:=.agg L1.toArray) (v:=.agg L2.toArray) kr kr (fun W=>by kernel_rfl) hNE.out) ?_
      try go_frame
      refine wpAnyH_done kr ?_ _
      try go_frame
      go_wp2_with fail
      go_roundg (n-(k+1))
      case measure=>omega
      case rel=>exact⟨k+1,by omega,by omega,by go_num,HB.out.drew,HP2⟩
     ·have HPN:=hid (HPF.out (ap0 hx hy he));have hNE:Hid (∀W,(binOp .neq 162 (.agg L1.toArray) (.agg L2.toArray)).run prog W=.ok (.bool true) W):=hid fun W=>by rw[hne.out W,decide_eq_false he];rfl
      clear he hne HP hv1 hv2 hx hy hq1 hq2 HPF HPT;go_wp2_with fail
      try (apply wp_seq_k;intro K_ HK_)
      have hS0:Below wr.1.size wr wr.drew:=(Below.refl _ _).drew;refine wp_region_held_drew (S:=fun w'=>Below wr.1.size wr w') kr hS0 (fun hHeld0=>?_);refine tkA 0 27 rfl ?_
      try go_frame
      refine tkQ (i:=1) (oi:=⟨some 28,_,_,_,_,_⟩) (v:=?_) rfl (Or.inl ⟨by rfl,?_⟩) ?_;rotate_left
      ·intro w' hSw;have c1:=(HK1r.out.on hSw).cell 1 (v:=.slice (some ⟨b1,o1,none⟩) n c) rfl;go_simp
       try with_reducible rfl
      try go_frame
      refine tkA 2 29 rfl ?_
      try go_frame
      refine tkA 3 30 rfl ?_
      try go_frame
      refine tkQ (i:=4) (oi:=⟨some 31,_,_,_,_,_⟩) (v:=_) rfl (yieldsIf_load_mid (by rfl) 162 _ rfl b1 (o1+k*7) rfl L1 _ (fun w' hSw=>zl hr1.out hSw hb1) underlying162 rfl (by rw[hl1.out];exact aux.out)) ?_
      try go_frame
      refine tkA 5 32 rfl ?_
      try go_frame
      refine tkQ (i:=6) (oi:=⟨some 33,_,_,_,_,_⟩) (v:=?_) rfl (Or.inl ⟨by rfl,?_⟩) ?_;rotate_left
      ·intro w' hSw;have c2:=(HK2r.out.on hSw).cell 1 (v:=.slice (some ⟨b2,o2,none⟩) n d) rfl;go_simp
       try with_reducible rfl
      try go_frame
      refine tkA 7 34 rfl ?_
      try go_frame
      refine tkA 8 35 rfl ?_
      try go_frame
      refine tkQ (i:=9) (oi:=⟨some 36,_,_,_,_,_⟩) (v:=_) rfl (yieldsIf_load_mid (by rfl) 162 _ rfl b2 (o2+k*7) rfl L2 _ (fun w' hSw=>zl hr2.out hSw hb2) underlying162 rfl (by rw[hl2.out];exact aux.out)) ?_
      try go_frame
      refine tkQ (i:=10) (oi:=⟨some 37,_,_,_,_,_⟩) (v:=.bool true) rfl (aan (by rfl) .neq 162 (.tmp 31) (.tmp 36) 162 rfl (u:=.agg L1.toArray) (v:=.agg L2.toArray) kr kr (fun W=>by kernel_rfl) hNE.out) ?_
      try go_frame
      refine wpAnyH_done kr ?_ _
      try go_frame
      go_wp2_with fail;go_ret;rw[HPN.out];exact⟨rfl,HBw.out.drew⟩
    ·have hkn:k=n:=by omega
     subst hkn;have HPN:=hid (HPT.out (aqh (hX.out.trans hY.out.symm) (fun j hj=>HP.out j (by rw[← hX.out];exact hj))));clear HPT HPF;go_wp2_with fail;go_ret;rw[HPN.out];exact⟨rfl,HBw.out⟩
  ·have hne:((n:Int) != (m:Int))=true:=by rw[bne_iff_ne];omega
   have HPN:Hid (decide (X=Y)=false):=hid (decide_eq_false fun e=>hnm (by rw[← hX.out,← hY.out,e]));clear hnm;generalize decide (X=Y)=R at *;go_enter func47,ntmps47
   go_upto_region 1 with(first
    | (refine qr rfl _ _ rfl #[.int .i64 T,.slice A n c] rfl ?_;intro W1 hW;have HK1:=hid (Blk.newL (L:=[.int .i64 T,.slice A n c]) hW rfl);have HB1:=hid hW.bel;clear hW)
    | (refine qr rfl _ _ rfl #[.int .i64 T,.slice B m d] rfl ?_;intro W2 hW;have HK2:=hid (Blk.newL (L:=[.int .i64 T,.slice B m d]) hW rfl);have HK12:=hid (HK1.out.on hW.bel);have HB2:=hid (qb HB1.out hW.bel);clear hW))
   have g0:=HK12.out.cell 0 (v:=.int .i64 T) rfl;have g1:=HK12.out.cell 1 (v:=.slice A n c) rfl;have g2:=HK2.out.cell 0 (v:=.int .i64 T) rfl;have g3:=HK2.out.cell 1 (v:=.slice B m d) rfl;go_wp2_with fail;go_ret;rw[HPN.out];exact⟨rfl,HB2.out⟩
 ·have hne:(T != U)=true:=by rw[bne_iff_ne];exact hT
  rw[decide_eq_false hT,Bool.false_and];clear hT;go_enter func47,ntmps47
  go_upto_region 1 with(first
   | (refine qr rfl _ _ rfl #[.int .i64 T,.slice A n c] rfl ?_;intro W1 hW;have HK1:=hid (Blk.newL (L:=[.int .i64 T,.slice A n c]) hW rfl);have HB1:=hid hW.bel;clear hW)
   | (refine qr rfl _ _ rfl #[.int .i64 U,.slice B m d] rfl ?_;intro W2 hW;have HK2:=hid (Blk.newL (L:=[.int .i64 U,.slice B m d]) hW rfl);have HK12:=hid (HK1.out.on hW.bel);have HB2:=hid (qb HB1.out hW.bel);clear hW))
  have g0:=HK12.out.cell 0 (v:=.int .i64 T) rfl;have g2:=HK2.out.cell 0 (v:=.int .i64 U) rfl;go_wp2_with fail;go_ret;exact⟨rfl,HB2.out⟩
theorem a41 (T U:Int) (A B:Option Addr) (n m c d:Nat) (X Y:List (List Lit)) (w:World) (hX:Hid (X.length=n)) (hY:Hid (Y.length=m)) (hA:Hid (SlK 164 2 (fun b=>b<w.1.size) w A X)) (hB:Hid (SlK 164 2 (fun b=>b<w.1.size) w B Y)) (hn:n≤maxLen) (hm:m≤maxLen) :
 Calls prog 48 #[.agg #[.int .i64 T,.slice A n c],.agg #[.int .i64 U,.slice B m d]] w fun e w'=>e=.returned (.bool (decide (T=U) && decide (X=Y)))∧Below w.1.size w w':=by
 unfold maxLen at hn hm
 by_cases hT:T=U
 ·subst hT;rw[decide_eq_true (rfl:T=T),Bool.true_and];have hTT:(T != T)=false:=by rw[bne_eq_false_iff_eq]
  by_cases hnm:n=m
  ·subst hnm;have hnn:((n:Int) != (n:Int))=false:=by rw[bne_eq_false_iff_eq]
   have HPT:Hid (X=Y→decide (X=Y)=true):=hid fun h=>decide_eq_true h
   have HPF:Hid (X≠Y→decide (X=Y)=false):=hid fun h=>decide_eq_false h
   generalize decide (X=Y)=R at *;go_enter func48,ntmps48
   go_upto_region 1 with(first
    | (refine qr rfl _ _ rfl #[.int .i64 T,.slice A n c] rfl ?_;intro W1 hW;have HK1:=hid (Blk.newL (L:=[.int .i64 T,.slice A n c]) hW rfl);have HB1:=hid hW.bel;clear hW)
    | (refine qr rfl _ _ rfl #[.int .i64 T,.slice B n d] rfl ?_;intro W2 hW;have HK2:=hid (Blk.newL (L:=[.int .i64 T,.slice B n d]) hW rfl);have HK12:=hid (HK1.out.on hW.bel);have HB2:=hid (qb HB1.out hW.bel);clear hW))
   have g0:=HK12.out.cell 0 (v:=.int .i64 T) rfl;have g1:=HK12.out.cell 1 (v:=.slice A n c) rfl;have g2:=HK2.out.cell 0 (v:=.int .i64 T) rfl;have g3:=HK2.out.cell 1 (v:=.slice B n d) rfl;go_wp2_with fail;clear g0 g1 g2 g3
   go_loopg [5] n (fun g s13 wr=>∃k:Nat,k≤n∧n-k≤g∧s13=.int .i64 k∧Hid (Below W2.1.size W2 wr)∧Hid (∀j,j<k→X[j]?=Y[j]?))
   case atStart=>exact⟨0,Nat.zero_le _,by omega,rfl,Below.refl _ _,fun j hj=>absurd hj (Nat.not_lt_zero _)⟩
   case round=>
    obtain⟨k,hk,hg,rfl,HB,HP⟩:=hrel;have HK1r:=hid (HK12.out.on HB.out);have HK2r:=hid (HK2.out.on HB.out);have HBw:=hid (qb HB2.out HB.out);have g1:=HK1r.out.cell 1 (v:=.slice A n c) rfl
    by_cases hlt:k<n
    ·have hx:k<X.length:=by rw[hX.out];exact hlt
     have hy:k<Y.length:=by rw[hY.out];exact hlt
     obtain⟨b1,o1,L1,hA1,hq1,hr1,hv1⟩:=hA.out k hx;obtain⟨b2,o2,L2,hA2,hq2,hr2,hv2⟩:=hB.out k hy;subst hA1 hA2;have hb1:b1<wr.1.size:=Nat.lt_of_lt_of_le hq1 HBw.out.size;have hb2:b2<wr.1.size:=Nat.lt_of_lt_of_le hq2 HBw.out.size;have hr1:=hid (zl hr1 HBw.out hq1);have hr2:=hid (zl hr2 HBw.out hq2);have hl1:=hid (hv1.struct_len underlying164);have hl2:=hid (hv2.struct_len underlying164);have hne:=hid (avg (m:=10) underlying164 kr dc hv1 hv2);have i1:(0:Int) ≤(k:Int):=Int.natCast_nonneg _;have i2:(k:Int)<(n:Int):=by omega
     by_cases he:X[k]=Y[k]
     ·have HP2:=hid (ajm hx hy HP.out he);have hNE:Hid (∀W,(binOp .neq 164 (.agg L1.toArray) (.agg L2.toArray)).run prog W=.ok (.bool false) W):=hid fun W=>by rw[hne.out W,decide_eq_true he];rfl
      clear he hne HP hv1 hv2 hx hy hq1 hq2;go_wp2_with fail
      try (apply wp_seq_k;intro K_ HK_)
      have hS0:Below wr.1.size wr wr.drew:=(Below.refl _ _).drew;refine wp_region_held_drew (S:=fun w'=>Below wr.1.size wr w') kr hS0 (fun hHeld0=>?_);refine tkA 0 27 rfl ?_
      try go_frame
      refine tkQ (i:=1) (oi:=⟨some 28,_,_,_,_,_⟩) (v:=?_) rfl (Or.inl ⟨by rfl,?_⟩) ?_;rotate_left
      ·intro w' hSw;have c1:=(HK1r.out.on hSw).cell 1 (v:=.slice (some ⟨b1,o1,none⟩) n c) rfl;go_simp
       try with_reducible rfl
      try go_frame
      refine tkA 2 29 rfl ?_
      try go_frame
      refine tkA 3 30 rfl ?_
      try go_frame
      refine tkQ (i:=4) (oi:=⟨some 31,_,_,_,_,_⟩) (v:=_) rfl (yieldsIf_load_mid (by rfl) 164 _ rfl b1 (o1+k*2) rfl L1 _ (fun w' hSw=>zl hr1.out hSw hb1) underlying164 rfl (by rw[hl1.out];exact an3.out)) ?_
      try go_frame
      refine tkA 5 32 rfl ?_
      try go_frame
      refine tkQ (i:=6) (oi:=⟨some 33,_,_,_,_,_⟩) (v:=?_) rfl (Or.inl ⟨by rfl,?_⟩) ?_;rotate_left
      ·intro w' hSw;have c2:=(HK2r.out.on hSw).cell 1 (v:=.slice (some ⟨b2,o2,none⟩) n d) rfl;go_simp
       try with_reducible rfl
      try go_frame
      refine tkA 7 34 rfl ?_
      try go_frame
      refine tkA 8 35 rfl ?_
      try go_frame
      refine tkQ (i:=9) (oi:=⟨some 36,_,_,_,_,_⟩) (v:=_) rfl (yieldsIf_load_mid (by rfl) 164 _ rfl b2 (o2+k*2) rfl L2 _ (fun w' hSw=>zl hr2.out hSw hb2) underlying164 rfl (by rw[hl2.out];exact an3.out)) ?_
      try go_frame
      refine tkQ (i:=10) (oi:=⟨some 37,_,_,_,_,_⟩) (v:=.bool false) rfl (aan (by rfl) .neq 164 (.tmp 31) (.tmp 36) 164 rfl (u:=.agg L1.toArray) (v:=.agg L2.toArray) kr kr (fun W=>by kernel_rfl) hNE.out) ?_
      try go_frame
      refine wpAnyH_done kr ?_ _
      try go_frame
      go_wp2_with fail
      go_roundg (n-(k+1))
      case measure=>omega
      case rel=>exact⟨k+1,by omega,by omega,by go_num,HB.out.drew,HP2⟩
     ·have HPN:=hid (HPF.out (ap0 hx hy he));have hNE:Hid (∀W,(binOp .neq 164 (.agg L1.toArray) (.agg L2.toArray)).run prog W=.ok (.bool true) W):=hid fun W=>by rw[hne.out W,decide_eq_false he];rfl
      clear he hne HP hv1 hv2 hx hy hq1 hq2 HPF HPT;go_wp2_with fail
      try (apply wp_seq_k;intro K_ HK_)
      have hS0:Below wr.1.size wr wr.drew:=(Below.refl _ _).drew;refine wp_region_held_drew (S:=fun w'=>Below wr.1.size wr w') kr hS0 (fun hHeld0=>?_);refine tkA 0 27 rfl ?_
      try go_frame
      refine tkQ (i:=1) (oi:=⟨some 28,_,_,_,_,_⟩) (v:=?_) rfl (Or.inl ⟨by rfl,?_⟩) ?_;rotate_left
      ·intro w' hSw;have c1:=(HK1r.out.on hSw).cell 1 (v:=.slice (some ⟨b1,o1,none⟩) n c) rfl;go_simp
       try with_reducible rfl
      try go_frame
      refine tkA 2 29 rfl ?_
      try go_frame
      refine tkA 3 30 rfl ?_
      try go_frame
      refine tkQ (i:=4) (oi:=⟨some 31,_,_,_,_,_⟩) (v:=_) rfl (yieldsIf_load_mid (by rfl) 164 _ rfl b1 (o1+k*2) rfl L1 _ (fun w' hSw=>zl hr1.out hSw hb1) underlying164 rfl (by rw[hl1.out];exact an3.out)) ?_
      try go_frame
      refine tkA 5 32 rfl ?_
      try go_frame
      refine tkQ (i:=6) (oi:=⟨some 33,_,_,_,_,_⟩) (v:=?_) rfl (Or.inl ⟨by rfl,?_⟩) ?_;rotate_left
      ·intro w' hSw;have c2:=(HK2r.out.on hSw).cell 1 (v:=.slice (some ⟨b2,o2,none⟩) n d) rfl;go_simp
       try with_reducible rfl
      try go_frame
      refine tkA 7 34 rfl ?_
      try go_frame
      refine tkA 8 35 rfl ?_
      try go_frame
      refine tkQ (i:=9) (oi:=⟨some 36,_,_,_,_,_⟩) (v:=_) rfl (yieldsIf_load_mid (by rfl) 164 _ rfl b2 (o2+k*2) rfl L2 _ (fun w' hSw=>zl hr2.out hSw hb2) underlying164 rfl (by rw[hl2.out];exact an3.out)) ?_
      try go_frame
      refine tkQ (i:=10) (oi:=⟨some 37,_,_,_,_,_⟩) (v:=.bool true) rfl (aan (by rfl) .neq 164 (.tmp 31) (.tmp 36) 164 rfl (u:=.agg L1.toArray) (v:=.agg L2.toArray) kr kr (fun W=>by kernel_rfl) hNE.out) ?_
      try go_frame
      refine wpAnyH_done kr ?_ _
      try go_frame
      go_wp2_with fail;go_ret;rw[HPN.out];exact⟨rfl,HBw.out.drew⟩
    ·have hkn:k=n:=by omega
     subst hkn;have HPN:=hid (HPT.out (aqh (hX.out.trans hY.out.symm) (fun j hj=>HP.out j (by rw[← hX.out];exact hj))));clear HPT HPF;go_wp2_with fail;go_ret;rw[HPN.out];exact⟨rfl,HBw.out⟩
  ·have hne:((n:Int) != (m:Int))=true:=by rw[bne_iff_ne];omega
   have HPN:Hid (decide (X=Y)=false):=hid (decide_eq_false fun e=>hnm (by rw[← hX.out,← hY.out,e]));clear hnm;generalize decide (X=Y)=R at *;go_enter func48,ntmps48
   go_upto_region 1 with(first
    | (refine qr rfl _ _ rfl #[.int .i64 T,.slice A n c] rfl ?_;intro W1 hW;have HK1:=hid (Blk.newL (L:=[.int .i64 T,.slice A n c]) hW rfl);have HB1:=hid hW.bel;clear hW)
    | (refine qr rfl _ _ rfl #[.int .i64 T,.slice B m d] rfl ?_;intro W2 hW;have HK2:=hid (Blk.newL (L:=[.int .i64 T,.slice B m d]) hW rfl);have HK12:=hid (HK1.out.on hW.bel);have HB2:=hid (qb HB1.out hW.bel);clear hW))
   have g0:=HK12.out.cell 0 (v:=.int .i64 T) rfl;have g1:=HK12.out.cell 1 (v:=.slice A n c) rfl;have g2:=HK2.out.cell 0 (v:=.int .i64 T) rfl;have g3:=HK2.out.cell 1 (v:=.slice B m d) rfl;go_wp2_with fail;go_ret;rw[HPN.out];exact⟨rfl,HB2.out⟩
 ·have hne:(T != U)=true:=by rw[bne_iff_ne];exact hT
  rw[decide_eq_false hT,Bool.false_and];clear hT;go_enter func48,ntmps48
  go_upto_region 1 with(first
   | (refine qr rfl _ _ rfl #[.int .i64 T,.slice A n c] rfl ?_;intro W1 hW;have HK1:=hid (Blk.newL (L:=[.int .i64 T,.slice A n c]) hW rfl);have HB1:=hid hW.bel;clear hW)
   | (refine qr rfl _ _ rfl #[.int .i64 U,.slice B m d] rfl ?_;intro W2 hW;have HK2:=hid (Blk.newL (L:=[.int .i64 U,.slice B m d]) hW rfl);have HK12:=hid (HK1.out.on hW.bel);have HB2:=hid (qb HB1.out hW.bel);clear hW))
  have g0:=HK12.out.cell 0 (v:=.int .i64 T) rfl;have g2:=HK2.out.cell 0 (v:=.int .i64 U) rfl;go_wp2_with fail;go_ret;exact⟨rfl,HB2.out⟩
theorem xr {w:World} {b o n:Nat} {A B:List Value} (h:w.rangeAt b o (A++B)) (hn:A.length=n):w.rangeAt b o A∧w.rangeAt b (o+n) B:=by
 subst hn;exact World.rangeAt_append.1 h
theorem zn {w:World} {b o:Nat} {v:Value} (h:w.rangeAt b o [v]):w.cell? ⟨b,o,none⟩=some v:=h 0 v rfl
theorem a44 {sq sqq:Int} {sy syq:Int} {cm cmq:Int} {id idq:Int} {vs vsq:Value} {b0:Bool} {b1:Bool} {b2:Bool} {b3:Bool} {b4:Bool} {w:World} (h0:Hid ((sq==sqq)=b0)) (h1:Hid ((sy==syq)=b1)) (h2:Hid ((cm==cmq)=b2)) (h3:Hid ((id==idq)=b3)) (h4:Hid (∀W,Below w.1.size w W→Calls prog 51 #[vs,vsq] W fun e w'=>e=.returned (.bool b4)∧Below W.1.size W w')) :
 Calls prog 29 #[.agg ([Value.int .i64 sq] ++([Value.int .i64 sy] ++([Value.int .i64 cm] ++([Value.int .i64 id] ++([vs]))))).toArray,.agg ([Value.int .i64 sqq] ++([Value.int .i64 syq] ++([Value.int .i64 cmq] ++([Value.int .i64 idq] ++([vsq]))))).toArray] w fun e w'=>e=.returned (.bool (b0 && (b1 && (b2 && (b3 && (b4))))))∧Below w.1.size w w':=by
 have SP:∀(W:World) (b:Nat),W.rangeAt b 0 ([Value.int .i64 sq] ++([Value.int .i64 sy] ++([Value.int .i64 cm] ++([Value.int .i64 id] ++([vs])))))→W.rangeAt b 0 ([Value.int .i64 sq])∧W.rangeAt b 1 ([Value.int .i64 sy])∧W.rangeAt b 2 ([Value.int .i64 cm])∧W.rangeAt b 3 ([Value.int .i64 id])∧W.rangeAt b 4 ([vs]):=fun W b h=>by
  obtain⟨r0,s0⟩:=xr h (n:=1) rfl;obtain⟨r1,s1⟩:=xr s0 (n:=1) rfl;obtain⟨r2,s2⟩:=xr s1 (n:=1) rfl;obtain⟨r3,s3⟩:=xr s2 (n:=1) rfl;exact⟨r0,r1,r2,r3,s3⟩
 have SQ:∀(W:World) (b:Nat),W.rangeAt b 0 ([Value.int .i64 sqq] ++([Value.int .i64 syq] ++([Value.int .i64 cmq] ++([Value.int .i64 idq] ++([vsq])))))→W.rangeAt b 0 ([Value.int .i64 sqq])∧W.rangeAt b 1 ([Value.int .i64 syq])∧W.rangeAt b 2 ([Value.int .i64 cmq])∧W.rangeAt b 3 ([Value.int .i64 idq])∧W.rangeAt b 4 ([vsq]):=fun W b h=>by
  obtain⟨r0,s0⟩:=xr h (n:=1) rfl;obtain⟨r1,s1⟩:=xr s0 (n:=1) rfl;obtain⟨r2,s2⟩:=xr s1 (n:=1) rfl;obtain⟨r3,s3⟩:=xr s2 (n:=1) rfl;exact⟨r0,r1,r2,r3,s3⟩
 have HSP:=hid SP;have HSQ:=hid SQ;clear SP SQ;go_enter func29,ntmps29
 go_upto_region 1 with(first
  | (refine qr rfl _ _ rfl ([Value.int .i64 sq] ++([Value.int .i64 sy] ++([Value.int .i64 cm] ++([Value.int .i64 id] ++([vs]))))).toArray rfl ?_;intro W1 hW;have K1:=hid (Blk.newL (L:=[Value.int .i64 sq] ++([Value.int .i64 sy] ++([Value.int .i64 cm] ++([Value.int .i64 id] ++([vs]))))) hW List.toList_toArray);have HB1:=hid hW.bel;clear hW)
  | (refine qr rfl _ _ rfl ([Value.int .i64 sqq] ++([Value.int .i64 syq] ++([Value.int .i64 cmq] ++([Value.int .i64 idq] ++([vsq]))))).toArray rfl ?_;intro W2 hW;have Kq:=hid (Blk.newL (L:=[Value.int .i64 sqq] ++([Value.int .i64 syq] ++([Value.int .i64 cmq] ++([Value.int .i64 idq] ++([vsq]))))) hW List.toList_toArray);have Kp:=hid (K1.out.on hW.bel);have HBb:=hid (qb HB1.out hW.bel);clear hW K1 HB1))
 try go_frame
 have a0:=zn ((HSP.out _ _ Kp.out.rg).1);have c0:=zn ((HSQ.out _ _ Kq.out.rg).1);have a1:=zn ((HSP.out _ _ Kp.out.rg).2.1);have c1:=zn ((HSQ.out _ _ Kq.out.rg).2.1);have a2:=zn ((HSP.out _ _ Kp.out.rg).2.2.1);have c2:=zn ((HSQ.out _ _ Kq.out.rg).2.2.1);have a3:=zn ((HSP.out _ _ Kp.out.rg).2.2.2.1);have c3:=zn ((HSQ.out _ _ Kq.out.rg).2.2.2.1);have a4:=zn ((HSP.out _ _ Kp.out.rg).2.2.2.2);have c4:=zn ((HSQ.out _ _ Kq.out.rg).2.2.2.2)
 try (apply wp_seq_k;intro K_ HK_)
 apply wp_region_lit;cases b0
 ·have g0:=h0.out;go_wp2_with fail;go_ret;exact⟨by rfl,HBb.out⟩
 have g0:=h0.out;cases b1
 ·have g1:=h1.out;go_wp2_with fail;go_ret;exact⟨by rfl,HBb.out⟩
 have g1:=h1.out;cases b2
 ·have g2:=h2.out;go_wp2_with fail;go_ret;exact⟨by rfl,HBb.out⟩
 have g2:=h2.out;cases b3
 ·have g3:=h3.out;go_wp2_with fail;go_ret;exact⟨by rfl,HBb.out⟩
 have g3:=h3.out;go_wp2_with fail;refine(h4.out _ HBb.out).mono ?_;rintro e V1 ⟨rfl,hb⟩;have Kp1:=hid (Kp.out.on hb);have Kq1:=hid (Kq.out.on hb);have HB_1:=hid (qb HBb.out hb);clear hb;dsimp only;go_wp2_with fail;go_ret;exact⟨by rfl,HB_1.out⟩
theorem a42 {kd kdq:Int} {P Pq:List Value} {Z Zq:List Value} {D Dq:List Value} {A Aq:List Value} {Y Yq:List Value} {b0:Bool} {b1:Bool} {b2:Bool} {b3:Bool} {b4:Bool} {b5:Bool} {w:World} (lP:Hid (P.length=32)) (lPq:Hid (Pq.length=32)) (lZ:Hid (Z.length=2)) (lZq:Hid (Zq.length=2)) (lD:Hid (D.length=8)) (lDq:Hid (Dq.length=8)) (lA:Hid (A.length=3)) (lAq:Hid (Aq.length=3)) (lY:Hid (Y.length=2)) (lYq:Hid (Yq.length=2)) (h0:Hid ((kd==kdq)=b0)) (h1:Hid (∀W,(binOp .eql 26 (.agg P.toArray) (.agg Pq.toArray)).run prog W=.ok (.bool b1) W)) (h2:Hid (∀W,Below w.1.size w W→Calls prog 47 #[.agg Z.toArray,.agg Zq.toArray] W fun e w'=>e=.returned (.bool b2)∧Below W.1.size W w')) (h3:Hid (∀W,(binOp .eql 31 (.agg D.toArray) (.agg Dq.toArray)).run prog W=.ok (.bool b3) W)) (h4:Hid (∀W,(binOp .eql 33 (.agg A.toArray) (.agg Aq.toArray)).run prog W=.ok (.bool b4) W)) (h5:Hid (∀W,Below w.1.size w W→Calls prog 48 #[.agg Y.toArray,.agg Yq.toArray] W fun e w'=>e=.returned (.bool b5)∧Below W.1.size W w')) :
 Calls prog 27 #[.agg ([Value.int .i64 kd] ++(P ++(Z ++(D ++(A ++(Y)))))).toArray,.agg ([Value.int .i64 kdq] ++(Pq ++(Zq ++(Dq ++(Aq ++(Yq)))))).toArray] w fun e w'=>e=.returned (.bool (b0 && (b1 && (b2 && (b3 && (b4 && (b5)))))))∧Below w.1.size w w':=by
 have SP:∀(W:World) (b:Nat),W.rangeAt b 0 ([Value.int .i64 kd] ++(P ++(Z ++(D ++(A ++(Y))))))→W.rangeAt b 0 ([Value.int .i64 kd])∧W.rangeAt b 1 (P)∧W.rangeAt b 33 (Z)∧W.rangeAt b 35 (D)∧W.rangeAt b 43 (A)∧W.rangeAt b 46 (Y):=fun W b h=>by
  obtain⟨r0,s0⟩:=xr h (n:=1) rfl;obtain⟨r1,s1⟩:=xr s0 (n:=32) lP.out;obtain⟨r2,s2⟩:=xr s1 (n:=2) lZ.out;obtain⟨r3,s3⟩:=xr s2 (n:=8) lD.out;obtain⟨r4,s4⟩:=xr s3 (n:=3) lA.out;exact⟨r0,r1,r2,r3,r4,s4⟩
 have SQ:∀(W:World) (b:Nat),W.rangeAt b 0 ([Value.int .i64 kdq] ++(Pq ++(Zq ++(Dq ++(Aq ++(Yq))))))→W.rangeAt b 0 ([Value.int .i64 kdq])∧W.rangeAt b 1 (Pq)∧W.rangeAt b 33 (Zq)∧W.rangeAt b 35 (Dq)∧W.rangeAt b 43 (Aq)∧W.rangeAt b 46 (Yq):=fun W b h=>by
  obtain⟨r0,s0⟩:=xr h (n:=1) rfl;obtain⟨r1,s1⟩:=xr s0 (n:=32) lPq.out;obtain⟨r2,s2⟩:=xr s1 (n:=2) lZq.out;obtain⟨r3,s3⟩:=xr s2 (n:=8) lDq.out;obtain⟨r4,s4⟩:=xr s3 (n:=3) lAq.out;exact⟨r0,r1,r2,r3,r4,s4⟩
 have HSP:=hid SP;have HSQ:=hid SQ;clear SP SQ;go_enter func27,ntmps27
 go_upto_region 1 with(first
  | (refine qr rfl _ _ rfl ([Value.int .i64 kd] ++(P ++(Z ++(D ++(A ++(Y)))))).toArray rfl ?_;intro W1 hW;have K1:=hid (Blk.newL (L:=[Value.int .i64 kd] ++(P ++(Z ++(D ++(A ++(Y)))))) hW List.toList_toArray);have HB1:=hid hW.bel;clear hW)
  | (refine qr rfl _ _ rfl ([Value.int .i64 kdq] ++(Pq ++(Zq ++(Dq ++(Aq ++(Yq)))))).toArray rfl ?_;intro W2 hW;have Kq:=hid (Blk.newL (L:=[Value.int .i64 kdq] ++(Pq ++(Zq ++(Dq ++(Aq ++(Yq)))))) hW List.toList_toArray);have Kp:=hid (K1.out.on hW.bel);have HBb:=hid (qb HB1.out hW.bel);clear hW K1 HB1))
 try go_frame
 have a0:=zn ((HSP.out _ _ Kp.out.rg).1);have c0:=zn ((HSQ.out _ _ Kq.out.rg).1)
 try (apply wp_seq_k;intro K_ HK_)
 apply wp_region_lit;cases b0
 ·have g0:=h0.out;go_wp2_with fail;go_ret;exact⟨by rfl,HBb.out⟩
 have g0:=h0.out
 repeat (fail_if_success (show Oper.wp _ ⟨some 12,_,_,_,_,_⟩ _ _ _ _)
         first|go_values|go_skip|go_guarded|go_step|go_upon)
 refine wp_load_mid _ _ rfl w.1.size 1 rfl P _ (HSP.out _ _ Kp.out.rg).2.1 underlying26 rfl (by rw[lP.out];kernel_rfl) ?_
 repeat (fail_if_success (show Oper.wp _ ⟨some 14,_,_,_,_,_⟩ _ _ _ _)
         first|go_values|go_skip|go_guarded|go_step|go_upon)
 refine wp_load_mid _ _ rfl W1.1.size 1 rfl Pq _ (HSQ.out _ _ Kq.out.rg).2.1 underlying26 rfl (by rw[lPq.out];kernel_rfl) ?_;go_step;go_simp
 go_guarded
 refine amg .eql 26 (.tmp 12) (.tmp 14) 26 kr (u:=.agg P.toArray) (v:=.agg Pq.toArray) kr kr kr (h1.out _) ?_;cases b1
 ·go_wp2_with fail;go_ret;exact⟨by rfl,HBb.out⟩
 repeat (fail_if_success (show Oper.wp _ ⟨some 19,_,_,_,_,_⟩ _ _ _ _)
         first|go_values|go_skip|go_guarded|go_step|go_upon)
 refine wp_load_mid _ _ rfl w.1.size 33 rfl Z _ (HSP.out _ _ Kp.out.rg).2.2.1 underlying29 rfl (by rw[lZ.out];kernel_rfl) ?_
 repeat (fail_if_success (show Oper.wp _ ⟨some 21,_,_,_,_,_⟩ _ _ _ _)
         first|go_values|go_skip|go_guarded|go_step|go_upon)
 refine wp_load_mid _ _ rfl W1.1.size 33 rfl Zq _ (HSQ.out _ _ Kq.out.rg).2.2.1 underlying29 rfl (by rw[lZq.out];kernel_rfl) ?_;go_wp2_with fail;refine(h2.out _ HBb.out).mono ?_;rintro e V1 ⟨rfl,hb⟩;have Kp1:=hid (Kp.out.on hb);have Kq1:=hid (Kq.out.on hb);have HB_1:=hid (qb HBb.out hb);clear hb;dsimp only;cases b2
 ·go_wp2_with fail;go_ret;exact⟨by rfl,HB_1.out⟩
 repeat (fail_if_success (show Oper.wp _ ⟨some 26,_,_,_,_,_⟩ _ _ _ _)
         first|go_values|go_skip|go_guarded|go_step|go_upon)
 refine wp_load_mid _ _ rfl w.1.size 35 rfl D _ (HSP.out _ _ Kp1.out.rg).2.2.2.1 underlying31 rfl (by rw[lD.out];kernel_rfl) ?_
 repeat (fail_if_success (show Oper.wp _ ⟨some 28,_,_,_,_,_⟩ _ _ _ _)
         first|go_values|go_skip|go_guarded|go_step|go_upon)
 refine wp_load_mid _ _ rfl W1.1.size 35 rfl Dq _ (HSQ.out _ _ Kq1.out.rg).2.2.2.1 underlying31 rfl (by rw[lDq.out];kernel_rfl) ?_;go_step;go_simp
 go_guarded
 refine amg .eql 31 (.tmp 26) (.tmp 28) 31 kr (u:=.agg D.toArray) (v:=.agg Dq.toArray) kr kr kr (h3.out _) ?_;cases b3
 ·go_wp2_with fail;go_ret;exact⟨by rfl,HB_1.out⟩
 repeat (fail_if_success (show Oper.wp _ ⟨some 33,_,_,_,_,_⟩ _ _ _ _)
         first|go_values|go_skip|go_guarded|go_step|go_upon)
 refine wp_load_mid _ _ rfl w.1.size 43 rfl A _ (HSP.out _ _ Kp1.out.rg).2.2.2.2.1 underlying33 rfl (by rw[lA.out];kernel_rfl) ?_
 repeat (fail_if_success (show Oper.wp _ ⟨some 35,_,_,_,_,_⟩ _ _ _ _)
         first|go_values|go_skip|go_guarded|go_step|go_upon)
 refine wp_load_mid _ _ rfl W1.1.size 43 rfl Aq _ (HSQ.out _ _ Kq1.out.rg).2.2.2.2.1 underlying33 rfl (by rw[lAq.out];kernel_rfl) ?_;go_step;go_simp
 go_guarded
 refine amg .eql 33 (.tmp 33) (.tmp 35) 33 kr (u:=.agg A.toArray) (v:=.agg Aq.toArray) kr kr kr (h4.out _) ?_;cases b4
 ·go_wp2_with fail;go_ret;exact⟨by rfl,HB_1.out⟩
 repeat (fail_if_success (show Oper.wp _ ⟨some 40,_,_,_,_,_⟩ _ _ _ _)
         first|go_values|go_skip|go_guarded|go_step|go_upon)
 refine wp_load_mid _ _ rfl w.1.size 46 rfl Y _ (HSP.out _ _ Kp1.out.rg).2.2.2.2.2 underlying36 rfl (by rw[lY.out];kernel_rfl) ?_
 repeat (fail_if_success (show Oper.wp _ ⟨some 42,_,_,_,_,_⟩ _ _ _ _)
         first|go_values|go_skip|go_guarded|go_step|go_upon)
 refine wp_load_mid _ _ rfl W1.1.size 46 rfl Yq _ (HSQ.out _ _ Kq1.out.rg).2.2.2.2.2 underlying36 rfl (by rw[lYq.out];kernel_rfl) ?_;go_wp2_with fail;refine(h5.out _ HB_1.out).mono ?_;rintro e V2 ⟨rfl,hb⟩;have Kp2:=hid (Kp1.out.on hb);have Kq2:=hid (Kq1.out.on hb);have HB_2:=hid (qb HB_1.out hb);clear hb;dsimp only;go_wp2_with fail;go_ret;exact⟨by rfl,HB_2.out⟩
def kq (k:Nat):Int:=((10^k:Nat):Int)
theorem bbi:kq 0=1:=rfl
theorem at0 (k:Nat):kq (k+1)=kq k*10:=by unfold kq;rw[Nat.pow_succ];omega
theorem ahn (k:Nat):1≤kq k:=by
 unfold kq;have:0<10^k:=Nat.pow_pos dc;omega
theorem a7n {k n:Nat} (h:k≤n):kq k≤kq n:=by
 unfold kq;have:10^k≤10^n:=Nat.pow_le_pow_right dc h;omega
theorem bid:kq 18=1000000000000000000:=by decide
theorem bic:kq 17=100000000000000000:=by decide
theorem aw3 (n:Nat) (w:World) (hn:n≤18) :
 Calls prog 232 #[.int .i64 (n:Int)] w fun e w'=>e=.returned (.int .i64 (kq n))∧w=w':=by
 go_enter func232,ntmps232;go_wp2
 go_loop [3,5] (fun p i=>∃k:Nat,k≤n∧i=.int .i64 k∧p=.int .i64 (kq k)) (fun _ i=>n-(intOf i).toNat)
 case atStart=>exact⟨0,Nat.zero_le _,rfl,rfl⟩
 case round=>
  obtain⟨k,hk,rfl,rfl⟩:=hrel
  by_cases hlt:k<n
  ·have h1:=ahn k;have h2:=a7n (show k≤17 by omega);rw[bic]at h2;have h3:=hid (at0 k);generalize kq k=T at *;go_wp2
   go_round
   case rel=>exact⟨k+1,by omega,by go_num,by rw[h3.out]⟩
   case measure=>simp[intOf];omega
  ·obtain rfl:k=n:=by omega
   go_wp2;go_ret;exact⟨rfl,rfl⟩
abbrev j7 (W M F L H:Int):Value:=.agg #[.int .i64 W,.int .i64 M,.int .i64 F,.int .i64 L,.int .i64 H]
def abi (W M F L H:Int):Bool:=decide (1≤W∧W≤M∧M≤12∧0≤F∧F≤6∧L≤H∧-kq (M+F).toNat<L∧H<kq (M+F).toNat)
theorem bcb (W M F L H:Int) (w:World) (h:W<1∨1≤W∧M<W∨1≤W∧W≤M∧12<M) :
 Calls prog 222 #[j7 W M F L H] w fun e w'=>e=.returned (.bool false)∧Below w.1.size w w':=by
 rcases h with h|⟨h0,h⟩|⟨h0,h1,h⟩
 all_goals
  go_enter func222,ntmps222;go_wp2;go_ret;exact⟨rfl,qa _ _⟩
theorem a70 (W M F L H:Int) (w:World) (h0:1≤W) (h1:W≤M) (h2:M≤12) (h:F<0∨0≤F∧6<F∨0≤F∧F≤6∧H<L) :
 Calls prog 222 #[j7 W M F L H] w fun e w'=>e=.returned (.bool false)∧Below w.1.size w w':=by
 rcases h with h|⟨h3,h⟩|⟨h3,h4,h⟩
 all_goals
  go_enter func222,ntmps222;go_wp2;go_ret;exact⟨rfl,qa _ _⟩
theorem a7z (W L H:Int) (m f:Nat) (w:World) (h0:1≤W) (h1:W ≤(m:Int)) (h2:m≤12) (h3:f≤6) (h4:L≤H) :
 Calls prog 222 #[j7 W m f L H] w fun e w'=>e=.returned (.bool (decide (-kq (m+f)<L∧H<kq (m+f))))∧Below w.1.size w w':=by
 have HT:=fun W=>hid (aw3 (m+f) W om)
 rw[Int.natCast_add]at HT;have t1:=ahn (m+f);have t2:=a7n (show m+f≤18 by omega);rw[bid]at t2;generalize kq (m+f)=T at *
 by_cases h5:-T<L
 ·have e:decide (-T<L∧H<T)=decide (H<T):=by simp[h5]
  rw[e];clear e;go_enter func222,ntmps222;go_wp2_with fail;refine(HT _).out.mono ?_;rintro e w' ⟨rfl,rfl⟩;go_wp2_with fail;go_ret;exact⟨rfl,qa _ _⟩
 ·have e:decide (-T<L∧H<T)=false:=by simp[h5]
  rw[e];clear e;go_enter func222,ntmps222;go_wp2_with fail;refine(HT _).out.mono ?_;rintro e w' ⟨rfl,rfl⟩;go_wp2_with fail;go_ret;exact⟨rfl,qa _ _⟩
theorem a7y (W M F L H:Int) (w:World):Calls prog 222 #[j7 W M F L H] w fun e w'=>e=.returned (.bool (abi W M F L H))∧Below w.1.size w w':=by
 by_cases h:1≤W∧W≤M∧M≤12
 ·obtain⟨h0,h1,h2⟩:=h
  by_cases h:0≤F∧F≤6∧L≤H
  ·obtain⟨h3,h4,h5⟩:=h;obtain⟨m,rfl⟩:=Int.eq_ofNat_of_zero_le (show 0≤M by omega);obtain⟨f,rfl⟩:=Int.eq_ofNat_of_zero_le h3
   have e:abi W m f L H=decide (-kq (m+f)<L∧H<kq (m+f)):=by
    unfold abi;rw[show ((m:Int) +(f:Int)).toNat=m+f from by omega];simp only[h0,h1,h2,h3,h4,h5,true_and]
   rw[e];exact a7z W L H m f w h0 h1 om om h5
  ·have e:abi W M F L H=false:=by
    unfold abi;rw[decide_eq_false_iff_not];rintro⟨_,_,_,a,b,c,_⟩;exact h ⟨a,b,c⟩
   rw[e];exact a70 W M F L H w h0 h1 h2 om
 ·have e:abi W M F L H=false:=by
   unfold abi;rw[decide_eq_false_iff_not];rintro⟨a,b,c,_⟩;exact h ⟨a,b,c⟩
  rw[e];exact bcb W M F L H w om
