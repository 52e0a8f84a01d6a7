/- General small lemmas over any program: texts, bytes, the worlds of a walk. -/
import Derived.WalkKit
import Derived.WalkSpells
import Derived.WalkLawsBesides
import Derived.Lib.Hide
import Derived.Deep.MidRow
import Derived.Deep.Upon
import Derived.Deep.RegionHeld
import Derived.Deep.AppendLies
import Derived.ArgAppend
import Derived.Laws.IdiomCopy
import Derived.Test.YtdkhlkfleggbaaaGreatProg
import Derived.DeepKeys
import Derived.DeepKeys2
import Derived.OrdersHeld
import Derived.Deep.LoopGhost
import Derived.IntWalk
import Derived.Deep.QuietTactic
import Derived.BigQuiet
import Derived.Deep.DeepCutAuto
namespace Go.Proofs.YtdkhlkfleggbaaaGreat
open Lib (hid)
open Tryz
set_option linter.unusedVariables false
open Go.RowKit
theorem om {p:Prop} (h:p:=by omega):p:=h
theorem sm {p:Prop} (h:p:=by simp):p:=h
theorem dc {p:Prop} (h:p:=by decide):p:=h
theorem kr {p:Prop} (h:p:=by kernel_rfl):p:=h
theorem bku {a b:Int} (h:a=b):Ending.returned (.int .u8 a)=.returned (.int .u8 b):=by rw[h]
theorem a62 {a b:Int} (h:a=b):Ending.returned (.int .i64 a)=.returned (.int .i64 b):=by rw[h]
theorem ap1 {a b:Bool} (h:a=b):Ending.returned (.bool a)=.returned (.bool b):=by rw[h]
theorem qb {w w1 w2:World} (h1:Below w.1.size w w1) (h2:Below w1.1.size w1 w2):Below w.1.size w w2:=h1.trans (h2.mono h1.size)
theorem abl {B:Nat} {a w:World} (h:Below B a w) (n:Nat):Below B a (w.drewN n):=⟨h.os,h.tape,h.output,h.size,h.block⟩
theorem abx {B:Nat} {a w:World} (h:Below B a w):Below B a w.drew:=⟨h.os,h.tape,h.output,h.size,h.block⟩
theorem ba2 (s:ByteArray) (k:Nat) (h:k<s.size):s.data.toList.take (k+1)=s.data.toList.take k++[s[k]]:=by
 rw[List.take_succ_eq_append_getElem (by simpa using h)];rfl
theorem bk1 (a b:UInt8):Value.int IntKind.u8 (bits BinOp.xor IntKind.u8 (a.toNat:Int) (b.toNat:Int))=Value.int IntKind.u8 ((a ^^^ b).toNat:Int):=by
 rw[u8_xor_nat _ _ a.toNat_lt b.toNat_lt,UInt8.toNat_xor]
theorem afv {P:Program} (w:World) (src dst e:TypeId) (a:Addr) (cap:Nat) (ns:List Int)
 (hs:P.underlying src=some (.slice e)) (he:P.underlying e=some (.int .u8)) (hd:P.underlying dst=some .string)
 (hc:∀j (hj:j<ns.length),w.cell? (a.add j)=some (.int .u8 ns[j])) :
 (convert src dst (.slice (some a) ns.length cap)).run P w=.ok (.string ⟨(ns.map fun n=>UInt8.ofNat n.toNat).toArray⟩) w:=by
 rw[run_convert_bytes_string w src dst e (some a) ns.length cap hs he hd]
 have hl:=run_loadCells_list (P:=P) w a (ns.map (Value.int .u8)) (fun j v hj=>by
  have hjl:j<ns.length:=by
   rcases Nat.lt_or_ge j ns.length with h|h
   ·exact h
   ·simp[List.getElem?_eq_none (show (ns.map (Value.int .u8)).length≤j by simpa using h)]at hj
  rw[hc j hjl]
  simpa [List.getElem?_eq_getElem hjl]using hj)
 rw[List.length_map]at hl;rw[run_bytesToString w a ns.length cap ns hl]
 congr 2
 have:∀(l:List Int) (r:ByteArray),l.foldl (fun r n=>r.push (UInt8.ofNat n.toNat)) r=⟨r.data ++(l.map fun n=>UInt8.ofNat n.toNat).toArray⟩:=by
  intro l
  induction l with
  | nil=>intro r;simp
  | cons n l ih=>
   intro r;simp only[List.foldl_cons,List.map_cons];rw[ih]
   congr 1
   apply Array.ext';simp[ByteArray.push]
 rw[this];simp
def vg (w:World) (B:Nat) (A:Option Addr) (fs:List ByteArray):Prop:=
 ∀k (hk:k<fs.length),∃b off,A=some ⟨b,off,none⟩∧b<B∧w.cell? ⟨b,off+k,none⟩=some (.string (fs[k]'hk))
theorem vg.keep {w w':World} {B:Nat} {A:Option Addr} {fs:List ByteArray} (h:vg w B A fs) (hk:∀p:Addr,p.block<B→w'.cell? p=w.cell? p):vg w' B A fs:=by
 intro k hk';obtain⟨b,off,hA,hb,hc⟩:=h k hk';exact⟨b,off,hA,hb,(hk _ hb).trans hc⟩
theorem vg.below {w w':World} {B B':Nat} {A:Option Addr} {fs:List ByteArray} (h:vg w B A fs) (hb:Below B' w w') (hB:B≤B'):vg w' B A fs:=
 h.keep fun _ hp=>hb.cell (Nat.lt_of_lt_of_le hp hB)
theorem vg.more {w:World} {B B':Nat} {A:Option Addr} {fs:List ByteArray} (h:vg w B A fs) (hB:B≤B'):vg w B' A fs:=by
 intro k hk';obtain⟨b,off,hA,hb,hc⟩:=h k hk';exact⟨b,off,hA,by omega,hc⟩
def aag (lo:Nat) (A:Option Addr):Prop:=∀a,A=some a→lo≤a.block
theorem aag.none_ {lo:Nat}:aag lo none:=fun a h=>by cases h
theorem aag.less {lo lo':Nat} {A:Option Addr} (h:aag lo A) (hl:lo'≤lo):aag lo' A:=fun a e=>Nat.le_trans hl (h a e)
theorem vg.setCell {w:World} {B lo:Nat} {A:Option Addr} {fs:List ByteArray} (h:vg w B A fs) (hf:aag lo A) {p:Addr} (hp:p.block<lo) (v:Value):vg (w.setCell p v) B A fs:=by
 intro k hk';obtain⟨b,off,hA,hb,hc⟩:=h k hk';have hlo:=hf _ hA;exact⟨b,off,hA,hb,(World.cell?_setCell_other w p _ v (fun e=>by subst e;exact absurd hp (Nat.not_lt.2 hlo))).trans hc⟩
theorem qa (w:World) (o:Obj):Below w.1.size w (w.alloc o):=(Below.refl _ _).alloc (Nat.le_refl _) _
theorem qx {B:Nat} {W w1:World} (hb:Below B W w1):(∀b o,b<B→w1.cell? ⟨b,o,none⟩=W.cell? ⟨b,o,none⟩) ∧(∀b o,b<B→w1.frozen? ⟨b,o,none⟩=W.frozen? ⟨b,o,none⟩):=
 ⟨fun b o h=>hb.cell (p:=⟨b,o,none⟩) h,fun b o h=>hb.frozen (p:=⟨b,o,none⟩) h⟩
section
variable {P : Program} {ops : Array Oper} {rest : List Oper} {o : Oper} {a : Act} {w W : World} {Q : Exit → Act → World → Prop}
theorem abv (hgd:o.guard=none) {v:Value} (hex:(execOp a.eval o).run P w=.ok (.value v) W) (h:wpList P ops Q rest (a.put o.dst v) W):wpList P ops Q (o::rest) a w:=
 wpList_plain hgd fun K hK=>by unfold Oper.wp;rw[hex];exact hK _ _ h
theorem aa1 (hgd:o.guard=none) (t:TypeId) (parts:Array (Nat×Operand)) (ho:o.op=.build t parts) {v:Value} (ps:Array (Nat×Value)) (hp:(parts.map fun(i,x)=>(i,a.eval x))=ps) (hr:(Instr.build t ps).run P w=.ok v w)
 (h:wpList P ops Q rest (a.put o.dst v) w):wpList P ops Q (o::rest) a w:=
 abv hgd (by unfold execOp;rw[ho];simp only[hp,Sem.run_bind,hr,Result.andThen_ok,Sem.run_pure]) h
theorem zn (hgd:o.guard=none) (t:TypeId) (ho:o.op=.build t #[]) {v:Value} (hr:(Instr.build t #[]).run P w=.ok v w)
 (h:wpList P ops Q rest (a.put o.dst v) w):wpList P ops Q (o::rest) a w:=aa1 hgd t _ ho #[] sm hr h
theorem zg (hgd:o.guard=none) (t:TypeId) (i:Nat) (x:Operand) (ho:o.op=.build t #[(i,x)]) {u v:Value} (hx:a.eval x=u) (hr:(Instr.build t #[(i,u)]).run P w=.ok v w)
 (h:wpList P ops Q rest (a.put o.dst v) w):wpList P ops Q (o::rest) a w:=aa1 hgd t _ ho #[(i,u)] (by simp[hx]) hr h
theorem acm (hgd:o.guard=none) (t:TypeId) (i j:Nat) (x y:Operand) (ho:o.op=.build t #[(i,x),(j,y)]) {u u' v:Value} (hx:a.eval x=u) (hy:a.eval y=u') (hr:(Instr.build t #[(i,u),(j,u')]).run P w=.ok v w)
 (h:wpList P ops Q rest (a.put o.dst v) w):wpList P ops Q (o::rest) a w:=aa1 hgd t _ ho #[(i,u),(j,u')] (by simp[hx,hy]) hr h
theorem za (hgd:o.guard=none) (x:Operand) (xT aT:TypeId) (ok:Bool) (ho:o.op=.typeAssert x xT aT ok) {u v:Value} (hx:a.eval x=u) (hr:(Instr.typeAssert u xT aT ok).run P w=.ok v w)
 (h:wpList P ops Q rest (a.put o.dst v) w):wpList P ops Q (o::rest) a w:=
 abv hgd (by unfold execOp;rw[ho];simp only[hx,Sem.run_bind,hr,Result.andThen_ok,Sem.run_pure]) h
end
theorem World.rangeAt_append {w:World} {b o:Nat} {l m:List Value}:w.rangeAt b o (l++m)↔w.rangeAt b o l∧w.rangeAt b (o+l.length) m:=by
 constructor
 ·intro h;refine⟨fun j v hv=>h j v ?_,fun j v hv=>?_⟩
  ·have hj:j<l.length:=by
    rcases Nat.lt_or_ge j l.length with q|q
    ·exact q
    ·rw[List.getElem?_eq_none q]at hv;cases hv
   rw[List.getElem?_append_left hj];exact hv
  ·have:=h (l.length+j) v (by rw[List.getElem?_append_right om];simpa using hv);rw[Nat.add_assoc];exact this
 ·rintro⟨h1,h2⟩ j v hv;rcases Nat.lt_or_ge j l.length with q|q
  ·exact h1 j v (by rw[List.getElem?_append_left q]at hv;exact hv)
  ·rw[List.getElem?_append_right q]at hv;have:=h2 _ _ hv;rw[show o+l.length +(j-l.length)=o+j from by omega]at this;exact this
theorem World.rangeAt_cons {w:World} {b o:Nat} {v:Value} {m:List Value}:w.rangeAt b o (v::m)↔w.cell? ⟨b,o,none⟩=some v∧w.rangeAt b (o+1) m:=by
 rw[show v::m=[v]++m from rfl,World.rangeAt_append]
 exact and_congr ⟨fun h=>h 0 v rfl,fun h j u hu=>by
  cases j with
  | zero=>injection hu with hu;subst hu;exact h
  | succ j=>simp at hu⟩ Iff.rfl
theorem afu {w w':World} {b o:Nat} {l:List Value} (h:w.rangeAt b o l) (hk:w'.heap[b]?=w.heap[b]?):w'.rangeAt b o l:=fun j v hv=>(World.cell?_of_block (a:=⟨b,o+j,none⟩) hk).trans (h j v hv)
theorem a9p (w:World) (C:Array Value) (t:TypeId):(w.alloc (.cells C t)).rangeAt w.1.size 0 C.toList:=fun j v hv=>by
 rw[Nat.zero_add];exact(World.cell?_alloc_at (w:=w) _ _ _ _ rfl).trans (by rw[Array.getElem?_toList]at hv;exact hv)
structure a2e (w W:World) (C:Array Value):Prop where
 sz:W.1.size=w.1.size+1
 bel:Below w.1.size w W
 rg:W.rangeAt w.1.size 0 C.toList
 fz:∀o,W.frozen? ⟨w.1.size,o,none⟩=false
theorem qg (w:World) (C:Array Value) (t:TypeId):a2e w (w.alloc (.cells C t)) C:=
 ⟨by simp,qa _ _,a9p w C t,fun o=>by rw[frozen?_alloc_cells];simp[World.frozen?]⟩
structure qp (w W:World) (b o:Nat) (cs:List Value):Prop where
 os:W.os=w.os
 tape:W.tape=w.tape
 output:W.output=w.output
 sz:W.1.size=w.1.size
 far:∀k,k≠b→W.heap[k]?=w.heap[k]?
 fz:∀x,W.frozen? x=w.frozen? x
 rg:W.rangeAt b o cs
 apart:∀o' l,w.rangeAt b o' l →(o'+l.length≤o∨o+cs.length≤o')→W.rangeAt b o' l
 there:∀b' o' n,w.there b' o' n→W.there b' o' n
theorem aiv (b:Nat):∀(vs:List Value) (o:Nat) (w:World),(w.setCells b o vs).os=w.os ∧(w.setCells b o vs).tape=w.tape ∧(w.setCells b o vs).output=w.output ∧(w.setCells b o vs).1.size=w.1.size∧∀k,k≠b →(w.setCells b o vs).heap[k]?=w.heap[k]?
 | [],o,w=>⟨rfl,rfl,rfl,rfl,fun _ _=>rfl⟩
 | v::r,o,w=>by
  obtain⟨h1,h2,h3,h4,h5⟩:=aiv b r (o+1) (w.setCell ⟨b,o,none⟩ v);have hb:Below b w (w.setCell ⟨b,o,none⟩ v):=(Below.refl b w).setCell (Nat.le_refl _) v;exact⟨h1.trans hb.os,h2.trans hb.tape,h3.trans hb.output,h4.trans sm,fun k hk=>(h5 k hk).trans (Below.heap_setCell _ _ _ _ hk)⟩
theorem qo {w:World} {b o:Nat} {cs:List Value} (ht:w.there b o cs.length):qp w (w.setCells b o cs) b o cs:=by
 obtain⟨h1,h2,h3,h4,h5⟩:=aiv b cs o w;exact⟨h1,h2,h3,h4,h5,fun x=>World.frozen?_setCells _ _ _ _ _,World.rangeAt_setCells_same _ _ _ _ ht,fun o' l hl ha=>World.rangeAt_setCells_apart hl _ _ _ (.inr ha),fun b' o' n h=>World.there_setCells h _ _ _⟩
theorem ze {w:World} {b o:Nat} {v:Value} (ht:w.there b o 1):qp w (w.setCell ⟨b,o,none⟩ v) b o [v]:=qo (cs:=[v]) ht
theorem qp.below {w W:World} {b o B:Nat} {cs:List Value} (h:qp w W b o cs) (hb:B≤b):Below B w W:=⟨h.os,h.tape,h.output,by rw[h.sz];exact Nat.le_refl _,fun k hk=>h.far k om⟩
theorem World.there.sub {w:World} {b o n:Nat} (h:w.there b o n) (k m:Nat) (hm:k+m≤n):w.there b (o+k) m:=fun j hj=>by
 have:=h (k+j) om
 rwa [← Nat.add_assoc]at this
section
variable {P : Program} {ops : Array Oper} {rest : List Oper} {o : Oper} {a : Act} {w : World} {Q : Exit → Act → World → Prop}
theorem ab6 (hgd:o.guard=none) (T:TypeId) (x:Operand) (ho:o.op=.box T x) (C:Array Value) (hx:a.eval x=.agg C) (h:∀W,a2e w W C→wpList P ops Q rest (a.put o.dst (.pointer (some ⟨w.1.size,0,none⟩))) W):wpList P ops Q (o::rest) a w:=
 abv hgd (W:=w.alloc (.cells C T)) (by unfold execOp;rw[ho];simp[hx,Instr.box,newVar,newRow,Value.cells]) (h _ (qg w C T))
theorem qc (hgd:o.guard=none) (T:TypeId) (ho:o.op=.alloc T) (Z:Array Value) (hz:(zeroValue T).run P w=.ok (.agg Z) w) (h:∀W,a2e w W Z→wpList P ops Q rest (a.put o.dst (.pointer (some ⟨w.1.size,0,none⟩))) W):wpList P ops Q (o::rest) a w:=
 abv hgd (W:=w.alloc (.cells Z T)) (by unfold execOp;rw[ho];simp[Instr.alloc,hz,newVar,newRow,Value.cells]) (h _ (qg w Z T))
theorem ana (w:World) (b f:Nat) (ty:TypeId) (v:Value) (ht:w.there b f 1) (hi:(P.info? ty).map (·.size)=some 1) (hc:v.cells=#[v]) (h1:v.oneCell'=true) :
 (Instr.storeAt ty (.pointer (some ⟨b,f,none⟩)) v).run P w=.ok () (w.setCell ⟨b,f,none⟩ v):=by
 have:=run_storeCells_cells (P:=P) b f [v] 0 w (fun j hj=>by simpa using (ht j (by simpa using hj)).1) (fun j hj=>by simpa using (ht j (by simpa using hj)).2) (fun u hu=>by simp at hu;subst hu;exact h1);cases hq:P.info? ty with
 | none=>simp[hq]at hi
 | some i=>
  have hs:1=i.size:=by simp[hq]at hi;omega
  simp only[Nat.add_zero]at this;simp only[Instr.storeAt,Instr.sureAddr,Sem.run_bind,Sem.run_pure,Result.andThen_ok];simp[storeVar,sizeOf,typeInfo,hq,hc,← hs,this,World.setCells]
theorem aa2 {K:Act→World→Prop} (T:TypeId) (x y:Operand) (ho:o.op=.store T x y) (b f:Nat) (v:Value) (hx:a.eval x=.pointer (some ⟨b,f,none⟩)) (hy:a.eval y=v) (ht:w.there b f 1) (hi:(P.info? T).map (·.size)=some 1) (hc:v.cells=#[v]) (h1:v.oneCell'=true)
 (h:∀W,qp w W b f [v]→K (a.put o.dst undef) W):o.wp P a w K Q:=by
 unfold Oper.wp execOp;simp only[ho,hx,hy,Sem.run_bind,ana w b f T v ht hi hc h1,Result.andThen_ok,Sem.run_pure];exact h _ (ze ht)
theorem act {K:Act→World→Prop} (T:TypeId) (x y:Operand) (ho:o.op=.store T x y) (b f:Nat) (C:Array Value) (hx:a.eval x=.pointer (some ⟨b,f,none⟩)) (hy:a.eval y=.agg C) (ht:w.there b f C.size) (hi:(P.info? T).map (·.size)=some C.size) (h1:C.all (·.oneCell')=true)
 (h:∀W,qp w W b f C.toList→K (a.put o.dst undef) W):o.wp P a w K Q:=
 wp_store_mid T x y ho b f C hx hy ht hi h1 (h _ (qo (by simpa using ht)))
theorem ae6 (hgd:o.guard=none) (T:TypeId) (x y:Operand) (ho:o.op=.store T x y) (b f:Nat) (v:Value) (hx:a.eval x=.pointer (some ⟨b,f,none⟩)) (hy:a.eval y=v) (ht:w.there b f 1) (hi:(P.info? T).map (·.size)=some 1) (hc:v.cells=#[v]) (h1:v.oneCell'=true)
 (h:∀W,qp w W b f [v]→wpList P ops Q rest (a.put o.dst undef) W):wpList P ops Q (o::rest) a w:=
 wpList_plain hgd fun _ hK=>aa2 T x y ho b f v hx hy ht hi hc h1 fun W hW=>hK _ _ (h W hW)
theorem qe (hgd:o.guard=none) (T:TypeId) (x y:Operand) (ho:o.op=.store T x y) (b f:Nat) (C:Array Value) (hx:a.eval x=.pointer (some ⟨b,f,none⟩)) (hy:a.eval y=.agg C) (ht:w.there b f C.size) (hi:(P.info? T).map (·.size)=some C.size) (h1:C.all (·.oneCell')=true)
 (h:∀W,qp w W b f C.toList→wpList P ops Q rest (a.put o.dst undef) W):wpList P ops Q (o::rest) a w:=
 wpList_store_mid hgd T x y ho b f C hx hy ht hi h1 (h _ (qo (by simpa using ht)))
end
theorem tkQ {P:Program} {md:Region.Mode} {ops:Array Oper} {Q:Exit→Act→World→Prop} {S:World→Prop} {i:Nat} {oi:Oper} {v:Value} {fuel:Nat} {listed:Array Bool} {a:Act} {w:World} (hi:ops[i]?=some oi) (hy:YieldsIf P ops S oi v a)
 (h:wpAnyH P md ops Q S fuel (listed.setIfInBounds i true) (a.put oi.dst v) w) (hs:Region.noSelect ops=true:=by kernel_rfl) (hf:Region.free md ops listed i=true:=by kernel_rfl) (hr:(Region.ready md ops listed).contains i=true:=by kernel_rfl)
 (hQ:∀c a w,Q (.panic c) (a.put oi.dst v) w→Q (.panic c) a w:=by exact fun _ _ _ h=>h) (hS:S w:=by assumption):wpAnyH P md ops Q S (fuel+1) listed a w:=wpAnyH_take hi hs hf hr hQ hy hS h
theorem tkA {P:Program} {md:Region.Mode} {ops:Array Oper} {Q:Exit→Act→World→Prop} {S:World→Prop} (i d:Nat) {o t p f g} {v:Value} {fuel:Nat} {listed:Array Bool} {a:Act} {w:World} (hi:ops[i]?=some ⟨some d,o,t,p,f,g⟩)
 (h:wpAnyH P md ops Q S fuel (listed.setIfInBounds i true) (a.put (some d) v) w) (hy:YieldsIf P ops S ⟨some d,o,t,p,f,g⟩ v a:=by
  refine Or.inl ⟨by rfl,?_⟩;intro w' hSw;go_simp
  try with_reducible rfl) (hs:Region.noSelect ops=true:=by kernel_rfl) (hf:Region.free md ops listed i=true:=by kernel_rfl) (hr:(Region.ready md ops listed).contains i=true:=by kernel_rfl)
 (hQ:∀c a w,Q (.panic c) (a.put (some d) v) w→Q (.panic c) a w:=by exact fun _ _ _ h=>h) (hS:S w:=by assumption):wpAnyH P md ops Q S (fuel+1) listed a w:=wpAnyH_take hi hs hf hr hQ hy hS h
theorem tkU {P:Program} {md:Region.Mode} {ops:Array Oper} {Q:Exit→Act→World→Prop} {S:World→Prop} (i d:Nat) {o t p f g} {fuel:Nat} {listed:Array Bool} {a:Act} {w:World} (hi:ops[i]?=some ⟨some d,o,t,p,f,g⟩)
 (h:wpAnyH P md ops Q S fuel (listed.setIfInBounds i true) (a.put (some d) undef) w) (hy:YieldsIf P ops S ⟨some d,o,t,p,f,g⟩ undef a:=by exact Or.inr ⟨by rfl,rfl⟩) (hs:Region.noSelect ops=true:=by kernel_rfl) (hf:Region.free md ops listed i=true:=by kernel_rfl) (hr:(Region.ready md ops listed).contains i=true:=by kernel_rfl)
 (hQ:∀c a w,Q (.panic c) (a.put (some d) undef) w→Q (.panic c) a w:=by exact fun _ _ _ h=>h) (hS:S w:=by assumption):wpAnyH P md ops Q S (fuel+1) listed a w:=wpAnyH_take hi hs hf hr hQ hy hS h
theorem rdA {P:Program} {md:Region.Mode} {ops:Array Oper} {Q:Exit→Act→World→Prop} {S:World→Prop} (i d:Nat) {o t p f g} {fuel:Nat} {listed:Array Bool} {a:Act} {w:World} (hi:ops[i]?=some ⟨some d,o,t,p,f,g⟩)
 (h:∀K':Act→World→Prop,Shut (∀a w,S w →(S w→wpAnyH P md ops Q S fuel (listed.setIfInBounds i true) a w)→K' a w)→if Region.wanted ⟨some d,o,t,p,f,g⟩ (yielded ops a.tmps)=true then Oper.wp P ⟨some d,o,t,p,f,g⟩ a w K' Q else K' (a.put (some d) undef) w)
 (hr:Region.ready md ops listed=[i]:=by kernel_rfl):wpAnyH P md ops Q S (fuel+1) listed a w:=wpAnyH_ready hr (by simp) (AllReadyH.cons hi h AllReadyH.nil)
theorem rdB {P:Program} {md:Region.Mode} {ops:Array Oper} {Q:Exit→Act→World→Prop} {S:World→Prop} (i d:Nat) {o t p f g} {fuel:Nat} {listed:Array Bool} {a:Act} {w:World} (hi:ops[i]?=some ⟨some d,o,t,p,f,g⟩)
 (h:∀K':Act→World→Prop,Shut (∀a w,S w →(S w→wpAnyH P md ops Q S fuel (listed.setIfInBounds i true) a w)→K' a w)→Oper.wp P ⟨some d,o,t,p,f,g⟩ a w K' Q)
 (hr:Region.ready md ops listed=[i]:=by kernel_rfl) (hw:Region.wanted ⟨some d,o,t,p,f,g⟩ (yielded ops a.tmps)=true:=by rfl):wpAnyH P md ops Q S (fuel+1) listed a w:=rdA i d hi (fun K hK=>by rw[if_pos hw];exact h K hK) hr
structure Blk (W:World) (b:Nat) (L:List Value):Prop where
 rg:W.rangeAt b 0 L
 fz:∀o,W.frozen? ⟨b,o,none⟩=false
 lt:b<W.1.size
theorem Blk.new {w W:World} {C:Array Value} (h:a2e w W C):Blk W w.1.size C.toList:=⟨h.rg,h.fz,by have:=h.sz;omega⟩
theorem Blk.newL {w W:World} {C:Array Value} {L:List Value} (h:a2e w W C) (e:C.toList=L):Blk W w.1.size L:=e▸Blk.new h
theorem Blk.kept {w W:World} {b:Nat} {L:List Value} (h:Blk w b L) (hk:W.heap[b]?=w.heap[b]?) (hz:w.1.size≤W.1.size):Blk W b L:=
 ⟨afu h.rg hk,fun o=>(World.frozen?_of_block (a:=⟨b,o,none⟩) hk).trans (h.fz o),Nat.lt_of_lt_of_le h.lt hz⟩
theorem Blk.below {w W:World} {b B:Nat} {L:List Value} (h:Blk w b L) (hb:Below B w W) (hB:b<B):Blk W b L:=h.kept (hb.block b hB) hb.size
theorem Blk.on {w W:World} {b:Nat} {L:List Value} (h:Blk w b L) (hb:Below w.1.size w W):Blk W b L:=h.below hb h.lt
theorem Blk.grew {w W:World} {C:Array Value} {b:Nat} {L:List Value} (h:Blk w b L) (hg:a2e w W C):Blk W b L:=h.on hg.bel
theorem Blk.far {w W:World} {b b' o:Nat} {L cs:List Value} (h:Blk w b L) (hs:qp w W b' o cs) (hn:b≠b'):Blk W b L:=h.kept (hs.far b hn) (Nat.le_of_eq hs.sz.symm)
theorem Blk.drew {w:World} {b:Nat} {L:List Value} (h:Blk w b L):Blk w.drew b L:=⟨h.rg,h.fz,h.lt⟩
theorem Blk.sub {w:World} {b:Nat} {A M D:List Value} (h:Blk w b (A++M++D)):w.rangeAt b A.length M:=by
 have h1:=(World.rangeAt_append.1 (World.rangeAt_append.1 h.rg).1).2
 rwa [Nat.zero_add]at h1
theorem Blk.there {w:World} {b:Nat} {L:List Value} (h:Blk w b L) (o n:Nat) (hn:o+n≤L.length):w.there b o n:=fun j hj=>
 ⟨by have:=h.rg.isSome (o+j) om;rwa [Nat.zero_add]at this,h.fz _⟩
theorem Blk.cell {w:World} {b:Nat} {L:List Value} (h:Blk w b L) (o:Nat) {v:Value} (hv:L[o]?=some v):w.cell? ⟨b,o,none⟩=some v:=by
 have:=h.rg o v hv
 rwa [Nat.zero_add]at this
theorem Blk.put {w W:World} {b o:Nat} {A M D cs:List Value} (h:Blk w b (A++M++D)) (hs:qp w W b o cs) (ho:A.length=o) (hc:cs.length=M.length):Blk W b (A++cs++D):=by
 subst ho;have h0:=World.rangeAt_append.1 h.rg;have h1:=World.rangeAt_append.1 h0.1;refine⟨World.rangeAt_append.2 ⟨World.rangeAt_append.2 ⟨hs.apart 0 A h1.1 (.inl om),?_⟩,?_⟩,fun o=>(hs.fz _).trans (h.fz o),by rw[hs.sz];exact h.lt⟩
 ·rw[Nat.zero_add];exact hs.rg
 ·have:=hs.apart _ D h0.2 (.inr (by simp;omega));rw[List.length_append]at this ⊢;rw[hc];exact this
theorem Blk.all {w W:World} {b:Nat} {L cs:List Value} (h:Blk w b L) (hs:qp w W b 0 cs) (hc:cs.length=L.length):Blk W b cs:=by
 have:=Blk.put (A:=[]) (M:=L) (D:=[]) (by simpa using h) hs rfl hc
 simpa using this
theorem qp.drew {w W:World} {b o:Nat} {cs:List Value} (h:qp w.drew W b o cs):qp w W b o cs:=⟨h.os,h.tape,h.output,h.sz,h.far,h.fz,h.rg,h.apart,h.there⟩
theorem k9 {C:Array Value} (h:∀v∈C.toList,v.oneCell'=true):C.all (·.oneCell')=true:=by
 rw[Array.all_eq_true_iff_forall_mem];intro v hv;exact h v (by simpa using hv)
theorem acc (b off j:Nat):(⟨b,off,none⟩:Addr).add j=⟨b,off+j,none⟩:=by unfold Addr.add;split<;>simp_all
def qf (Q:Nat→Prop) (w:World) (A:Option Addr) (xs:List Value):Prop:=∀(j:Nat) u,xs[j]?=some u→∃b off,A=some ⟨b,off,none⟩∧Q b∧w.cell? ⟨b,off+j,none⟩=some u
theorem qf.nil (Q:Nat→Prop) (w:World) (A:Option Addr):qf Q w A []:=fun j u hu=>by simp at hu
theorem qf.less {Q R:Nat→Prop} {w:World} {A:Option Addr} {xs:List Value} (h:qf Q w A xs) (hr:∀b,Q b→R b):qf R w A xs:=fun j u hu=>by
 obtain⟨b,off,h1,h2,h3⟩:=h j u hu;exact⟨b,off,h1,hr b h2,h3⟩
theorem qf.keep {Q:Nat→Prop} {w w':World} {A:Option Addr} {xs:List Value} (h:qf Q w A xs) (hk:∀b,Q b→w'.heap[b]?=w.heap[b]?):qf Q w' A xs:=fun j u hu=>by
 obtain⟨b,off,h1,h2,h3⟩:=h j u hu;exact⟨b,off,h1,h2,(World.cell?_of_block (a:=⟨b,off+j,none⟩) (hk b h2)).trans h3⟩
theorem qf.below {Q:Nat→Prop} {w w':World} {A:Option Addr} {xs:List Value} {B:Nat} (h:qf Q w A xs) (hb:Below B w w') (hq:∀b,Q b→b<B):qf Q w' A xs:=h.keep fun b hq'=>hb.block b (hq b hq')
theorem qf.lt {Q:Nat→Prop} {w:World} {A:Option Addr} {xs:List Value} (h:qf Q w A xs):qf (fun b=>Q b∧b<w.1.size) w A xs:=fun j u hu=>by
 obtain⟨b,off,h1,h2,h3⟩:=h j u hu;exact⟨b,off,h1,⟨h2,World.block_lt_of_cell? w _ h3⟩,h3⟩
structure qk (S:Nat→Prop) (w w':World):Prop where
 os:w'.os=w.os
 tape:w'.tape=w.tape
 output:w'.output=w.output
 size:w.1.size≤w'.1.size
 block:∀k,S k→w'.heap[k]?=w.heap[k]?
theorem qk.refl (S:Nat→Prop) (w:World):qk S w w:=⟨rfl,rfl,rfl,Nat.le_refl _,fun _ _=>rfl⟩
theorem qk.trans {S:Nat→Prop} {w w1 w2:World} (h:qk S w w1) (k:qk S w1 w2):qk S w w2:=
 ⟨k.os.trans h.os,k.tape.trans h.tape,k.output.trans h.output,Nat.le_trans h.size k.size,fun i hi=>(k.block i hi).trans (h.block i hi)⟩
theorem qk.of_below {S:Nat→Prop} {B:Nat} {w w':World} (h:Below B w w') (hb:∀k,S k→k<B):qk S w w':=
 ⟨h.os,h.tape,h.output,h.size,fun k hk=>h.block k (hb k hk)⟩
theorem qk.below {S:Nat→Prop} {B:Nat} {w w':World} (h:qk S w w') (hb:∀k,k<B→S k):Below B w w':=
 ⟨h.os,h.tape,h.output,h.size,fun k hk=>h.block k (hb k hk)⟩
theorem qk.less {S T:Nat→Prop} {w w':World} (h:qk S w w') (hT:∀k,T k→S k):qk T w w':=⟨h.os,h.tape,h.output,h.size,fun k hk=>h.block k (hT k hk)⟩
theorem qk.cell {S:Nat→Prop} {w w':World} (h:qk S w w') {b o:Nat} (hb:S b):w'.cell? ⟨b,o,none⟩=w.cell? ⟨b,o,none⟩:=World.cell?_of_block (a:=⟨b,o,none⟩) (h.block b hb)
theorem qk.drewN {S:Nat→Prop} {w w':World} (h:qk S w w') (n:Nat):qk S w (w'.drewN n):=⟨h.os,h.tape,h.output,h.size,h.block⟩
theorem qk.drew {S:Nat→Prop} {w w':World} (h:qk S w w'):qk S w w'.drew:=⟨h.os,h.tape,h.output,h.size,h.block⟩
theorem qk.set {S:Nat→Prop} {w w':World} (h:qk S w w') {g:Nat} (hg:¬S g) (o:Nat) (v:Value):qk S w (w'.setCell ⟨g,o,none⟩ v):=
 ⟨h.os,h.tape,h.output,by simpa using h.size,fun k hk=>(Below.heap_setCell _ _ _ _ (fun(e:k=g)=>hg (e▸hk))).trans (h.block k hk)⟩
theorem qf.kept {Q S:Nat→Prop} {w w':World} {A:Option Addr} {xs:List Value} (h:qf Q w A xs) (hk:qk S w w') (hq:∀b,Q b→S b):qf Q w' A xs:=h.keep fun b hb=>hk.block b (hq b hb)
theorem aas {w:World} {b o:Nat} {v:Value} (hv:w.cell? ⟨b,o,none⟩=some v):b<w.1.size:=by
 refine Nat.lt_of_not_le fun q=>?_
 simp[World.cell?,Array.getElem?_eq_none q]at hv
theorem xv {w:World} {base:Nat} {e:TypeId} {size n:Nat} {v:Value} {xs:List Value} (h:w.ownsRow base e size v n xs):∃A c,v=.slice A n c∧n≤c∧qf (fun b=>base≤b∧b<w.1.size) w A xs ∧(A=none→n=0∧c=0):=by
 rcases h.2 with⟨hv,h0⟩|⟨g,cap,cur,hv,hb,hg,hcap,-⟩
 ·have hx:xs=[]:=List.eq_nil_of_length_eq_zero (by rw[h.1,h0];simp);exact⟨none,0,by rw[hv,h0],by omega,by rw[hx];exact qf.nil _ _ _,fun _=>⟨h0,rfl⟩⟩
 ·subst hv;exact⟨some ⟨g,0,none⟩,cap,rfl,hcap,fun j u hu=>⟨g,0,rfl,⟨hb,(Array.getElem?_eq_some_iff.1 hg).1⟩,by have:=h.cells (g:=g) rfl j u hu;rw[acc]at this;exact this⟩,fun q=>by cases q⟩
section
variable {P : Program}
theorem ka (w:World) (t ty e:TypeId) (i:TypeInfo) (z:Value) (size bytes:Nat) (h1:P.underlying t=some (.slice e)) (h2:P.info? e=some i) (h3:i.zero=some z) (h4:i.size=size) (h5:i.bytes=bytes) (h6:z.cells.size=size) (h7:0<size)
 {R:Nat→Prop} (base:Nat) (v:Value) (n:Nat) (xs:List Value) (hown:w.ownsRow base e size v n xs)
 (X:Option Addr) (m c:Nat) (news:List Value) (hn:news.length=m*size) (hc:qf R w X news) (h1c:∀u∈news,u.oneCell'=true)
 (b1:n+m≤maxLen) (b2:(n+m)*bytes≤140737488355328) (hb:base≤w.1.size) :
 ∃v' w',(Builtin.append_ #[t,t] ty #[v,.slice X m c]).run P w=.ok v' w'∧w'.ownsRow base e size v' (n+m) (xs++news)∧w.grownBy w' v.ownBlock ∧(v'.ownBlock=v.ownBlock∨v'.ownBlock=some w.1.size):=by
 by_cases hm:m=0
 ·subst hm;obtain rfl:news=[]:=List.eq_nil_of_length_eq_zero (by rw[hn];simp);obtain⟨A,cap,rfl,hcap,-,-⟩:=xv hown;have hrun:=run_append_nothing (P:=P) w t t ty e i h1 h2 A n cap hcap (.slice X 0 c) ⟨.inl ⟨e,h1⟩,fun w'=>by simp[Builtin.lenOf],by cases X<;>simp[Builtin.firstCells,h4,loadCells,loadCellsFrom],by cases X<;>simp[Builtin.firstCells,h4,loadCells,loadCellsFrom],by simp,fun u hu=>by cases hu⟩;exact⟨_,w,hrun,by rw[List.append_nil];exact hown,⟨rfl,rfl,rfl,Nat.le_refl _,fun _ _ _=>rfl⟩,.inl rfl⟩
 ·have hpos:0<news.length:=by rw[hn];exact Nat.mul_pos om h7
  obtain⟨xb,xo,hX,-,-⟩:=hc 0 news[0] (List.getElem?_eq_getElem hpos);subst hX
  have hnews:∀j u,news[j]?=some u→w.cell? ((⟨xb,xo,none⟩:Addr).add j)=some u:=fun j u hu=>by
   obtain⟨b',off,e1,-,e3⟩:=hc j u hu;injection e1 with e1
   injection e1 with e1 e2
   subst e1 e2;rw[acc];exact e3
  obtain⟨v',w',hr,h8,h9,-,h10⟩:=run_append_own_at (P:=P) w base t ty e i z size bytes h1 h2 h3 h4 h5 h6 h7 v n xs hown ⟨xb,xo,none⟩ m c news hn hnews h1c b1 b2 hb;exact⟨v',w',hr,h8,h9,h10⟩
theorem agd {w W:World} {o:Oper} {a:Act} {K:Act→World→Prop} {Q:Exit→Act→World→Prop} (s x:Operand) (t:TypeId)
 (ho:o.op=.call {callee:=.builtin .append,args:=#[s,x],argTypes:=#[t,t]}) (v u r:Value) (hs:a.eval s=v) (hx:a.eval x=u)
 (hr:(Builtin.append_ #[t,t] o.type #[v,u]).run P w=.ok r W) (h:K (a.put o.dst r) W):o.wp P a w K Q:=by
 unfold Oper.wp execOp;simp only[ho,resolve,invoke,builtin,Sem.run_bind,Sem.run_pure,Result.andThen_ok,List.map_toArray,List.map_cons,List.map_nil,hs,hx,hr];exact h
theorem q6 {w W:World} {ops:Array Oper} {rest:List Oper} {o:Oper} {a:Act} {Q:Exit→Act→World→Prop} (hgd:o.guard=none) (s x:Operand) (t:TypeId)
 (ho:o.op=.call {callee:=.builtin .append,args:=#[s,x],argTypes:=#[t,t]}) (v u r:Value) (hs:a.eval s=v) (hx:a.eval x=u)
 (hr:(Builtin.append_ #[t,t] o.type #[v,u]).run P w=.ok r W) (h:wpList P ops Q rest (a.put o.dst r) W):wpList P ops Q (o::rest) a w:=
 wpList_plain hgd fun _ hK=>agd s x t ho v u r hs hx hr (hK _ _ h)
theorem ab4 {w W:World} {ops:Array Oper} {o:Oper} {a:Act} {K:Act→World→Prop} {Q:Exit→Act→World→Prop} {E:Prop} (hgd:o.guard=none) (s x:Operand) (t:TypeId)
 (ho:o.op=.call {callee:=.builtin .append,args:=#[s,x],argTypes:=#[t,t]}) (v u r:Value) (hs:a.eval s=v) (hx:a.eval x=u)
 (hr:(Builtin.append_ #[t,t] o.type #[v,u]).run P w=.ok r W) (h:K (a.put o.dst r) W):if Region.wanted o (yielded ops a.tmps)=true then Oper.wp P o a w K Q else E:=by
 have hw:Region.wanted o (yielded ops a.tmps)=true:=by simp[Region.wanted,hgd]
 rw[if_pos hw];exact agd s x t ho v u r hs hx hr h
end
theorem Blk.set {w:World} {b o:Nat} {L:List Value} (h:Blk w b L) (ho:o<L.length) (x:Value):Blk (w.setCell ⟨b,o,none⟩ x) b (L.set o x)∧qp w (w.setCell ⟨b,o,none⟩ x) b o [x]:=by
 have s1:qp w (w.setCell ⟨b,o,none⟩ x) b o [x]:=ze (h.there o 1 om);refine⟨?_,s1⟩
 have e:L=L.take o++[L[o]]++L.drop (o+1):=by
  rw[← List.take_succ_eq_append_getElem ho,List.take_append_drop]
 have h2:=h;rw[e]at h2;have:=h2.put s1 (by rw[List.length_take];omega) rfl
 rwa [List.set_eq_take_append_cons_drop,if_pos ho,show L.take o++x::L.drop (o+1)=L.take o++[x]++L.drop (o+1)from by simp]
def aam (w0:World) (e:TypeId) (size:Nat) (v:Value) (n:Nat) (xs:List Value) (w:World):Prop:=w.ownsRow w0.1.size e size v n xs∧Below w0.1.size w0 w
theorem aam.on {w0:World} {e:TypeId} {size:Nat} {v:Value} {n:Nat} {xs:List Value} {w w':World} (h:aam w0 e size v n xs w) (hb:Below w.1.size w w'):aam w0 e size v n xs w':=by
 refine⟨⟨h.1.1,?_⟩,qb h.2 hb⟩;rcases h.1.2 with q|⟨g,cap,cur,h1,h2,h3,h4⟩
 ·exact .inl q
 ·exact .inr ⟨g,cap,cur,h1,h2,by rw[hb.block g (Array.getElem?_eq_some_iff.1 h3).1];exact h3,h4⟩
theorem aam.nil (w0:World) (e:TypeId) (size:Nat) {w:World} (hb:Below w0.1.size w0 w):aam w0 e size (.slice none 0 0) 0 [] w:=⟨World.ownsRow_nil _ _ _ _,hb⟩
theorem aam.flat {w0:World} {e:TypeId} {size:Nat} {v:Value} {n:Nat} {xs:List Value} {w:World} (h:aam w0 e size v n xs w):∃A c,v=.slice A n c∧n≤c∧qf (fun b=>w0.1.size≤b∧b<w.1.size) w A xs:=by
 obtain⟨A,c,h1,h2,h3,-⟩:=xv h.1;exact⟨A,c,h1,h2,h3⟩
theorem aam.app {P:Program} {w0:World} {t ty e:TypeId} {i:TypeInfo} {z:Value} {size bytes:Nat} {v:Value} {n:Nat} {xs:List Value} {w:World} (h:aam w0 e size v n xs w) (hi:P.info? e=some i∧i.zero=some z∧i.size=size∧i.bytes=bytes) (h1:P.underlying t=some (.slice e)) (h6:z.cells.size=size) (h7:0<size)
 {R:Nat→Prop} (X:Option Addr) (m c:Nat) (news:List Value) (hn:news.length=m*size) (hc:qf R w X news) (h1c:∀u∈news,u.oneCell'=true) (b1:n+m≤maxLen) (b2:(n+m)*bytes≤140737488355328) :
 ∃v' w',(Builtin.append_ #[t,t] ty #[v,.slice X m c]).run P w=.ok v' w'∧aam w0 e size v' (n+m) (xs++news) w':=by
 obtain⟨v',w',q1,q2,q3,-⟩:=ka (P:=P) w t ty e i z size bytes h1 hi.1 hi.2.1 hi.2.2.1 hi.2.2.2 h6 h7 w0.1.size v n xs h.1 X m c news hn hc h1c b1 b2 h.2.size;refine⟨v',w',q1,q2,h.2.grown q3 h.2.size (fun k hk=>?_)⟩;obtain⟨A,cap,rfl,-,-⟩:=h.flat;rcases h.1.2 with⟨q,-⟩|⟨g,cap',cur,q,hb,-⟩
 ·injection q with q _ _;subst q;cases hk
 ·injection q with q _ _;subst q
  simp only[Value.ownBlock,Option.some.injEq]at hk;omega
theorem aei {w w':World} {B:Nat} {e:TypeId} {size:Nat} {v:Value} {n:Nat} {xs:List Value} (h:w.ownsRow B e size v n xs) (hb:Below w.1.size w w'):w'.ownsRow B e size v n xs:=by
 refine⟨h.1,?_⟩;rcases h.2 with q|⟨g,cap,cur,h1,h2,h3,h4⟩
 ·exact .inl q
 ·exact .inr ⟨g,cap,cur,h1,h2,by rw[hb.block g (Array.getElem?_eq_some_iff.1 h3).1];exact h3,h4⟩
theorem akn {w:World} {B b o:Nat} {e:TypeId} {size:Nat} {v:Value} {n:Nat} {xs:List Value} (h:w.ownsRow B e size v n xs) (hb:b<B) (u:Value):(w.setCell ⟨b,o,none⟩ u).ownsRow B e size v n xs:=by
 refine⟨h.1,?_⟩;rcases h.2 with q|⟨g,cap,cur,h1,h2,h3,h4⟩
 ·exact .inl q
 ·exact .inr ⟨g,cap,cur,h1,h2,(Below.heap_setCell _ _ _ _ (fun(q:g=b)=>by omega)).trans h3,h4⟩
theorem ahx {P:Program} {B:Nat} {t ty e:TypeId} {i:TypeInfo} {z:Value} {size bytes:Nat} {v:Value} {n:Nat} {xs:List Value} {w:World} (h:w.ownsRow B e size v n xs) (hB:B≤w.1.size) (hi:P.info? e=some i∧i.zero=some z∧i.size=size∧i.bytes=bytes) (h1:P.underlying t=some (.slice e)) (h6:z.cells.size=size) (h7:0<size)
 {R:Nat→Prop} (X:Option Addr) (m c:Nat) (news:List Value) (hn:news.length=m*size) (hc:qf R w X news) (h1c:∀u∈news,u.oneCell'=true) (b1:n+m≤maxLen) (b2:(n+m)*bytes≤140737488355328) :
 ∃v' w',(Builtin.append_ #[t,t] ty #[v,.slice X m c]).run P w=.ok v' w'∧w'.ownsRow B e size v' (n+m) (xs++news)∧Below B w w':=by
 obtain⟨v',w',q1,q2,q3,-⟩:=ka (P:=P) w t ty e i z size bytes h1 hi.1 hi.2.1 hi.2.2.1 hi.2.2.2 h6 h7 B v n xs h X m c news hn hc h1c b1 b2 hB;refine⟨v',w',q1,q2,(Below.refl B w).grown q3 hB (fun k hk=>?_)⟩;obtain⟨A,cap,rfl,-,-⟩:=xv h;rcases h.2 with⟨q,-⟩|⟨g,cap',cur,q,hb,-⟩
 ·injection q with q _ _;subst q;cases hk
 ·injection q with q _ _;subst q
  simp only[Value.ownBlock,Option.some.injEq]at hk;omega
instance litDec:DecidableEq Lit
 | .bool x,.bool y=>decidable_of_iff (x=y) ⟨fun h=>by rw[h],fun h=>by cases h;rfl⟩
 | .int k x,.int j y=>decidable_of_iff (k=j∧x=y) ⟨fun h=>by rw[h.1,h.2],fun h=>by cases h;exact⟨rfl,rfl⟩⟩
 | .float k x,.float j y=>decidable_of_iff (k=j∧x=y) ⟨fun h=>by rw[h.1,h.2],fun h=>by cases h;exact⟨rfl,rfl⟩⟩
 | .string x,.string y=>decidable_of_iff (x=y) ⟨fun h=>by rw[h],fun h=>by cases h;rfl⟩
 | .nil,.nil=>isTrue rfl
 | .bool _,.int _ _=>isFalse (fun h=>by cases h)
 | .bool _,.float _ _=>isFalse (fun h=>by cases h)
 | .bool _,.string _=>isFalse (fun h=>by cases h)
 | .bool _,.nil=>isFalse (fun h=>by cases h)
 | .int _ _,.bool _=>isFalse (fun h=>by cases h)
 | .int _ _,.float _ _=>isFalse (fun h=>by cases h)
 | .int _ _,.string _=>isFalse (fun h=>by cases h)
 | .int _ _,.nil=>isFalse (fun h=>by cases h)
 | .float _ _,.bool _=>isFalse (fun h=>by cases h)
 | .float _ _,.int _ _=>isFalse (fun h=>by cases h)
 | .float _ _,.string _=>isFalse (fun h=>by cases h)
 | .float _ _,.nil=>isFalse (fun h=>by cases h)
 | .string _,.bool _=>isFalse (fun h=>by cases h)
 | .string _,.int _ _=>isFalse (fun h=>by cases h)
 | .string _,.float _ _=>isFalse (fun h=>by cases h)
 | .string _,.nil=>isFalse (fun h=>by cases h)
 | .nil,.bool _=>isFalse (fun h=>by cases h)
 | .nil,.int _ _=>isFalse (fun h=>by cases h)
 | .nil,.float _ _=>isFalse (fun h=>by cases h)
 | .nil,.string _=>isFalse (fun h=>by cases h)
def KV (t:TypeId) (X:List Value) (l:List Lit):Prop:=∃D,Tryz.prog.keyLits D t X=some l
theorem KV.struct_len {t:TypeId} {fs:Array Field} {X:List Value} {l:List Lit} (hu:Tryz.prog.underlying t=some (.struct fs)) (h:KV t X l):X.length=Tryz.prog.cellsOf t:=by
 obtain⟨D,h⟩:=h;cases D with
 | zero=>simp[Program.keyLits]at h
 | succ D=>
  simp only[Program.keyLits,hu]at h
  split at h
  ·next hc=>exact hc.1
  ·cases h
theorem KV.ones {m:Nat} {t:TypeId} {X:List Value} {l:List Lit} (ht:Tryz.prog.tiled m t=true) (h:KV t X l):∀v∈X,v.oneCell'=true:=by
 obtain⟨D,h⟩:=h;rw[cells_of_lits m t ht D X l h];intro v hv;obtain⟨x,-,rfl⟩:=List.mem_map.1 hv;cases x<;>rfl
theorem bgk {m n:Nat} {t:TypeId} (hk:Tryz.prog.keyTypeAt m t=true) (hm:m≤n):EqAt Tryz.prog n t:=by
 have:=run_equalIn_deep (P:=Tryz.prog) (n-m) m t hk
 rwa [Nat.sub_add_cancel hm]at this
theorem arv {m:Nat} {t:TypeId} {fs:Array Field} (hu:Tryz.prog.underlying t=some (.struct fs)) (hk:Tryz.prog.keyTypeAt m t=true) (hm:m≤10000) {X Y:List Value} {lx ly:List Lit} (hx:KV t X lx) (hy:KV t Y ly) (w:World) :
 (Op.equalIn 10000 t (.agg X.toArray) (.agg Y.toArray)).run Tryz.prog w=.ok (decide (lx=ly)) w:=by
 have l1:=hx.struct_len hu;have l2:=hy.struct_len hu;obtain⟨D,hx⟩:=hx;obtain⟨D',hy⟩:=hy;obtain⟨r,hr,hiff⟩:=(bgk hk hm:EqAt Tryz.prog 10000 t) w D D' (.agg X.toArray) (.agg Y.toArray) lx ly (by simp[Value.formed,hu,l1]) (by simp[Value.formed,hu,l2]) (by simpa [Value.cells]using hx) (by simpa [Value.cells]using hy);have e:r=decide (lx=ly):=by rw[Bool.eq_iff_iff,hiff,decide_eq_true_iff]
 rw[hr,e]
theorem bg4 {m:Nat} {t:TypeId} {fs:Array Field} (hu:Tryz.prog.underlying t=some (.struct fs)) (hk:Tryz.prog.keyTypeAt m t=true) (hm:m≤10000) {X Y:List Value} {lx ly:List Lit} (hx:KV t X lx) (hy:KV t Y ly) (w:World) :
 (binOp .neq t (.agg X.toArray) (.agg Y.toArray)).run Tryz.prog w=.ok (.bool (!decide (lx=ly))) w:=by
 rw[run_neq_struct,arv hu hk hm hx hy];rfl
def SlK (t:TypeId) (size:Nat) (Q:Nat→Prop) (w:World) (A:Option Addr) (X:List (List Lit)):Prop:=
 ∀k (h:k<X.length),∃b off L,A=some ⟨b,off,none⟩∧Q b∧w.rangeAt b (off+k*size) L∧KV t L X[k]
theorem anh {P:Program} {ops:Array Oper} {S:World→Prop} {o:Oper} {a:Act} (hw:Region.wanted o (yielded ops a.tmps)=true) (bo:BinOp) (xT:TypeId) (x y:Operand) (yT:TypeId) (ho:o.op=.binOp bo xT x y yT) {u v r:Value} (hx:a.eval x=u) (hy:a.eval y=v) (hg:∀w,(eqGuard bo xT x y u v).run P w=.ok () w) (hr:∀w,(binOp bo xT u v).run P w=.ok r w):YieldsIf P ops S o r a:=
 .inl ⟨hw,fun w _=>by
  unfold execOp;rw[ho];simp only[hx,hy,Sem.run_bind,hg,hr,Result.andThen_ok,Sem.run_pure]⟩
def anm (tI:TypeId):Nat→List Field→Bool
 | _,[]=>true
 | o,f::L=>decide (f.type=tI) && (decide (f.offset=o) && anm tI (o+1) L)
theorem as5 {tI:TypeId} {k:IntKind} (hi:Tryz.prog.underlying tI=some (.int k)) (hc:Tryz.prog.cellsOf tI=1) (D:Nat):∀(L:List Field) (pre:List Value) (v:List Int),anm tI pre.length L=true→v.length=L.length →(∀n∈v,(Lit.int k n).wf=true) →
 L.mapM (fun f=>Tryz.prog.keyLits (D+1) f.type (List.take (Tryz.prog.cellsOf f.type) (List.drop f.offset (pre++v.map (Value.int k)))))=some (v.map fun n=>[Lit.int k n])
 | [],pre,v,_,hl,_=>by
  obtain rfl:=List.eq_nil_of_length_eq_zero (by simpa using hl);rfl
 | f::L,pre,[],_,hl,_=>by simp at hl
 | f::L,pre,n::v,h,hl,hr=>by
  simp only[anm,Bool.and_eq_true,decide_eq_true_eq]at h;obtain⟨h1,h2,h3⟩:=h;have ih:=as5 hi hc D L (pre++[Value.int k n]) v (by rw[List.length_append];exact h3) (by simpa using hl) (fun m hm=>hr m (List.mem_cons_of_mem _ hm));have e:pre ++(n::v).map (Value.int k)=(pre++[Value.int k n])++v.map (Value.int k):=by simp
  rw[e,List.mapM_cons,ih]
  have e2:List.take (Tryz.prog.cellsOf f.type) (List.drop f.offset ((pre++[Value.int k n])++v.map (Value.int k)))=[Value.int k n]:=by
   rw[h1,hc,h2,List.append_assoc,List.drop_left];rfl
  have hw:(Lit.int k n).wf=true:=hr n (List.mem_cons_self ..)
  have e3:Tryz.prog.keyLits (D+1) f.type [Value.int k n]=some [Lit.int k n]:=by
   rw[h1];simp only[Program.keyLits,hi];rw[if_pos (by simp[hw])]
  rw[e2,e3];rfl
theorem agv {t:TypeId} {fs:Array Field} {X:List Value} {D:Nat} {p:List (List Lit)} (hu:Tryz.prog.underlying t=some (.struct fs)) (hnm:(fs.all fun x=>x.name != "_")=true) (hl:X.length=Tryz.prog.cellsOf t)
 (h:fs.toList.mapM (fun f=>Tryz.prog.keyLits D f.type (List.take (Tryz.prog.cellsOf f.type) (List.drop f.offset X)))=some p):Tryz.prog.keyLits (D+1) t X=some p.flatten:=by
 simp only[Program.keyLits,hu];rw[if_pos ⟨hl,hnm⟩,h];rfl
theorem aki {t tI:TypeId} {fs:Array Field} {k:IntKind} (hu:Tryz.prog.underlying t=some (.struct fs)) (hi:Tryz.prog.underlying tI=some (.int k)) (hc:Tryz.prog.cellsOf tI=1) (hL:anm tI 0 fs.toList=true) (hnm:(fs.all fun x=>x.name != "_")=true) (hn:Tryz.prog.cellsOf t=fs.size) (v:List Int) (hl:v.length=fs.size) (hr:∀n∈v,(Lit.int k n).wf=true):KV t (v.map (Value.int k)) (v.map (Lit.int k)):=by
 have:=as5 hi hc 0 fs.toList [] v hL (by rw[hl];simp) hr;rw[List.nil_append]at this;have h:=agv hu hnm (by rw[List.length_map,hl,hn]) this;refine⟨_,h.trans (congrArg some ?_)⟩;clear this h hr hl
 induction v with
 | nil=>rfl
 | cons n v ih=>simp only[List.map_cons,List.flatten_cons,ih];rfl
theorem al3 {n:Int} (h:-9223372036854775808≤n∧n≤9223372036854775807):(Lit.int .i64 n).wf=true:=by
 simp only[Lit.wf,Bool.and_eq_true,decide_eq_true_eq];exact h
theorem blz (c:UInt8):(Lit.int .u8 (c.toNat:Int)).wf=true:=by
 have:=c.toNat_lt;simp only[Lit.wf,Bool.and_eq_true,decide_eq_true_eq];exact⟨(Int.natCast_nonneg _:(0:Int)≤_),(by omega:(c.toNat:Int)≤255)⟩
end Go.Proofs.YtdkhlkfleggbaaaGreat
