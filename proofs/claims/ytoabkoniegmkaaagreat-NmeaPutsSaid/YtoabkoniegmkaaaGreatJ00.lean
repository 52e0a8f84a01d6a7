/- General small lemmas over any program: texts, bytes, the worlds of a walk. -/
import Derived.WalkKit
import Derived.WalkSpells
import Derived.WalkLawsBesides
import Derived.Lib.Hide
import Derived.Deep.MidRow
import Derived.Deep.Upon
import Derived.Test.YtoabkoniegmkaaaGreatProg
import Derived.Deep.RegionHeld
import Derived.BigQuiet
import Derived.Lib.TrimByte
import Derived.Deep.QuietTactic
import Derived.Deep.AppendLies
import Derived.ArgAppend
import Derived.Laws.IdiomCopy
import Derived.ProofKit
import Derived.Lib.SmallJoins
namespace Go.Proofs.YtoabkoniegmkaaaGreat
set_option linter.unusedVariables false
open Go.RowKit
theorem ret_u8 {a b:Int} (h:a=b):Ending.returned (.int .u8 a)=.returned (.int .u8 b):=by rw [h]
theorem ret_i64 {a b:Int} (h:a=b):Ending.returned (.int .i64 a)=.returned (.int .i64 b):=by rw [h]
theorem ret_str {a b:ByteArray} (h:a=b):Ending.returned (.string a)=.returned (.string b):=by rw [h]
theorem ret_bool {a b:Bool} (h:a=b):Ending.returned (.bool a)=.returned (.bool b):=by rw [h]
theorem bthen {w w1 w2:World} (h1:Below w.heap.size w w1) (h2:Below w1.heap.size w1 w2):Below w.heap.size w w2:=h1.trans (h2.mono h1.size)
theorem bdrewN {B:Nat} {a w:World} (h:Below B a w) (n:Nat):Below B a (w.drewN n):=⟨h.os,h.tape,h.output,h.size,h.block⟩
theorem bdrew {B:Nat} {a w:World} (h:Below B a w):Below B a w.drew:=⟨h.os,h.tape,h.output,h.size,h.block⟩
theorem take_snoc (s:ByteArray) (k:Nat) (h:k < s.size):s.data.toList.take (k+1)=s.data.toList.take k++[s[k]]:=by
  rw [List.take_succ_eq_append_getElem (by simpa using h)];rfl
theorem xor_u8 (a b:UInt8):Value.int IntKind.u8 (bits BinOp.xor IntKind.u8 (a.toNat:Int) (b.toNat:Int))=Value.int IntKind.u8 ((a ^^^ b).toNat:Int):=by
  rw [u8_xor_nat _ _ a.toNat_lt b.toNat_lt,UInt8.toNat_xor]
theorem run_conv_row {P:Program} (w:World) (src dst e:TypeId) (a:Addr) (cap:Nat) (ns:List Int)
    (hs:P.underlying src=some (.slice e)) (he:P.underlying e=some (.int .u8)) (hd:P.underlying dst=some .string)
    (hc:∀ j (hj:j < ns.length),w.cell? (a.add j)=some (.int .u8 ns[j])) :
    (convert src dst (.slice (some a) ns.length cap)).run P w=.ok (.string ⟨(ns.map fun n=>UInt8.ofNat n.toNat).toArray⟩) w:=by
  rw [run_convert_bytes_string w src dst e (some a) ns.length cap hs he hd]
  have hl:=run_loadCells_list (P:=P) w a (ns.map (Value.int .u8)) (fun j v hj=>by
    have hjl:j < ns.length:=by
      rcases Nat.lt_or_ge j ns.length with h | h
      · exact h
      · simp [List.getElem?_eq_none (show (ns.map (Value.int .u8)).length≤j by simpa using h)] at hj
    rw [hc j hjl]
    simpa [List.getElem?_eq_getElem hjl] using hj)
  rw [List.length_map] at hl
  rw [run_bytesToString w a ns.length cap ns hl]
  congr 2
  have:∀ (l:List Int) (r:ByteArray),l.foldl (fun r n=>r.push (UInt8.ofNat n.toNat)) r=⟨r.data++(l.map fun n=>UInt8.ofNat n.toNat).toArray⟩:=by
    intro l
    induction l with
    | nil=>intro r;simp
    | cons n l ih=>
      intro r
      simp only [List.foldl_cons,List.map_cons]
      rw [ih]
      congr 1
      apply Array.ext'
      simp [ByteArray.push]
  rw [this]
  simp
theorem run_conv1 {P:Program} (src dst e:TypeId) (hs:P.underlying src=some (.slice e)) (he:P.underlying e=some (.int .u8)) (hd:P.underlying dst=some .string)
    (w:World) (a:Int) (n:Nat) (hn:n=w.heap.size) :
    (convert src dst (.slice (some ⟨n,0,none⟩) 1 1)).run P (w.alloc (.cells #[.int .u8 a] e))=.ok (.string ⟨#[UInt8.ofNat a.toNat]⟩) (w.alloc (.cells #[.int .u8 a] e)):=by
  subst hn
  exact run_conv_row (w.alloc (.cells #[.int .u8 a] e)) src dst e ⟨w.heap.size,0,none⟩ 1 [a] hs he hd (fun j hj=>by
    have:j=0:=by simp at hj;omega
    subst this
    simp [Addr.add,World.cell?_alloc_new])
theorem run_conv2 {P:Program} (src dst e:TypeId) (hs:P.underlying src=some (.slice e)) (he:P.underlying e=some (.int .u8)) (hd:P.underlying dst=some .string)
    (w:World) (a b:Int) (n:Nat) (hn:n=w.heap.size) :
    (convert src dst (.slice (some ⟨n,0,none⟩) 2 2)).run P (w.alloc (.cells #[.int .u8 a,.int .u8 b] e))=.ok (.string ⟨#[UInt8.ofNat a.toNat,UInt8.ofNat b.toNat]⟩) (w.alloc (.cells #[.int .u8 a,.int .u8 b] e)):=by
  subst hn
  exact run_conv_row (w.alloc (.cells #[.int .u8 a,.int .u8 b] e)) src dst e ⟨w.heap.size,0,none⟩ 2 [a,b] hs he hd (fun j hj=>by
    have hj2:j < 2:=by simpa using hj
    have:j=0∨j=1:=by omega
    rcases this with rfl | rfl <;> simp [Addr.add,World.cell?_alloc_new])
def Strs (w:World) (B:Nat) (A:Option Addr) (fs:List ByteArray):Prop:=
  ∀ k (hk:k < fs.length),∃ b off,A=some ⟨b,off,none⟩∧b < B∧w.cell? ⟨b,off+k,none⟩=some (.string (fs[k]'hk))
theorem Strs.keep {w w':World} {B:Nat} {A:Option Addr} {fs:List ByteArray} (h:Strs w B A fs) (hk:∀ p:Addr,p.block < B→w'.cell? p=w.cell? p):Strs w' B A fs:=by
  intro k hk'
  obtain⟨b,off,hA,hb,hc⟩:=h k hk'
  exact⟨b,off,hA,hb,(hk _ hb).trans hc⟩
theorem Strs.below {w w':World} {B B':Nat} {A:Option Addr} {fs:List ByteArray} (h:Strs w B A fs) (hb:Below B' w w') (hB:B≤B'):Strs w' B A fs:=
  h.keep fun _ hp=>hb.cell (Nat.lt_of_lt_of_le hp hB)
theorem Strs.more {w:World} {B B':Nat} {A:Option Addr} {fs:List ByteArray} (h:Strs w B A fs) (hB:B≤B'):Strs w B' A fs:=by
  intro k hk'
  obtain⟨b,off,hA,hb,hc⟩:=h k hk'
  exact⟨b,off,hA,by omega,hc⟩
def FreshA (lo:Nat) (A:Option Addr):Prop:=∀ a,A=some a→lo≤a.block
theorem FreshA.none_ {lo:Nat}:FreshA lo none:=fun a h=>by cases h
theorem FreshA.less {lo lo':Nat} {A:Option Addr} (h:FreshA lo A) (hl:lo'≤lo):FreshA lo' A:=fun a e=>Nat.le_trans hl (h a e)
theorem Strs.setCell {w:World} {B lo:Nat} {A:Option Addr} {fs:List ByteArray} (h:Strs w B A fs) (hf:FreshA lo A) {p:Addr} (hp:p.block < lo) (v:Value):Strs (w.setCell p v) B A fs:=by
  intro k hk'
  obtain⟨b,off,hA,hb,hc⟩:=h k hk'
  have hlo:=hf _ hA
  exact⟨b,off,hA,hb,(World.cell?_setCell_other w p _ v (fun e=>by subst e;exact absurd hp (Nat.not_lt.2 hlo))).trans hc⟩
theorem below_new (w:World) (o:Obj):Below w.heap.size w (w.alloc o):=(Below.refl _ _).alloc (Nat.le_refl _) _
theorem bcell {B:Nat} {W w1:World} (hb:Below B W w1):(∀ b o,b < B→w1.cell? ⟨b,o,none⟩=W.cell? ⟨b,o,none⟩)∧(∀ b o,b < B→w1.frozen? ⟨b,o,none⟩=W.frozen? ⟨b,o,none⟩):=
  ⟨fun b o h=>hb.cell (p:=⟨b,o,none⟩) h,fun b o h=>hb.frozen (p:=⟨b,o,none⟩) h⟩
section
variable {P : Program} {ops : Array Oper} {rest : List Oper} {o : Oper} {a : Act} {w W : World} {Q : Exit → Act → World → Prop}
theorem wpList_exec (hgd:o.guard=none) {v:Value} (hex:(execOp a.eval o).run P w=.ok (.value v) W) (h:wpList P ops Q rest (a.put o.dst v) W):wpList P ops Q (o :: rest) a w:=
  wpList_plain hgd fun K hK=>by unfold Oper.wp;rw [hex];exact hK _ _ h
theorem wpList_build (hgd:o.guard=none) (t:TypeId) (parts:Array (Nat×Operand)) (ho:o.op=.build t parts) {v:Value} (ps:Array (Nat×Value)) (hp:(parts.map fun (i,x)=>(i,a.eval x))=ps) (hr:(Instr.build t ps).run P w=.ok v w)
    (h:wpList P ops Q rest (a.put o.dst v) w):wpList P ops Q (o :: rest) a w:=
  wpList_exec hgd (by unfold execOp;rw [ho];simp only [hp,Sem.run_bind,hr,Result.andThen_ok,Sem.run_pure]) h
theorem wpList_build0 (hgd:o.guard=none) (t:TypeId) (ho:o.op=.build t #[]) {v:Value} (hr:(Instr.build t #[]).run P w=.ok v w)
    (h:wpList P ops Q rest (a.put o.dst v) w):wpList P ops Q (o :: rest) a w:=wpList_build hgd t _ ho #[] (by simp) hr h
theorem wpList_build1 (hgd:o.guard=none) (t:TypeId) (i:Nat) (x:Operand) (ho:o.op=.build t #[(i,x)]) {u v:Value} (hx:a.eval x=u) (hr:(Instr.build t #[(i,u)]).run P w=.ok v w)
    (h:wpList P ops Q rest (a.put o.dst v) w):wpList P ops Q (o :: rest) a w:=wpList_build hgd t _ ho #[(i,u)] (by simp [hx]) hr h
theorem wpList_build2 (hgd:o.guard=none) (t:TypeId) (i j:Nat) (x y:Operand) (ho:o.op=.build t #[(i,x),(j,y)]) {u u' v:Value} (hx:a.eval x=u) (hy:a.eval y=u') (hr:(Instr.build t #[(i,u),(j,u')]).run P w=.ok v w)
    (h:wpList P ops Q rest (a.put o.dst v) w):wpList P ops Q (o :: rest) a w:=wpList_build hgd t _ ho #[(i,u),(j,u')] (by simp [hx,hy]) hr h
theorem wpList_assert (hgd:o.guard=none) (x:Operand) (xT aT:TypeId) (ok:Bool) (ho:o.op=.typeAssert x xT aT ok) {u v:Value} (hx:a.eval x=u) (hr:(Instr.typeAssert u xT aT ok).run P w=.ok v w)
    (h:wpList P ops Q rest (a.put o.dst v) w):wpList P ops Q (o :: rest) a w:=
  wpList_exec hgd (by unfold execOp;rw [ho];simp only [hx,Sem.run_bind,hr,Result.andThen_ok,Sem.run_pure]) h
end
theorem World.rangeAt_append {w:World} {b o:Nat} {l m:List Value}:w.rangeAt b o (l++m)↔w.rangeAt b o l∧w.rangeAt b (o+l.length) m:=by
  constructor
  · intro h
    refine⟨fun j v hv=>h j v ?_,fun j v hv=>?_⟩
    · have hj:j < l.length:=by
        rcases Nat.lt_or_ge j l.length with q | q
        · exact q
        · rw [List.getElem?_eq_none q] at hv;cases hv
      rw [List.getElem?_append_left hj];exact hv
    · have:=h (l.length+j) v (by rw [List.getElem?_append_right (by omega)];simpa using hv)
      rw [Nat.add_assoc];exact this
  · rintro ⟨h1,h2⟩ j v hv
    rcases Nat.lt_or_ge j l.length with q | q
    · exact h1 j v (by rw [List.getElem?_append_left q] at hv;exact hv)
    · rw [List.getElem?_append_right q] at hv
      have:=h2 _ _ hv
      rw [show o+l.length+(j - l.length)=o+j from by omega] at this
      exact this
theorem World.rangeAt_cons {w:World} {b o:Nat} {v:Value} {m:List Value}:w.rangeAt b o (v :: m)↔w.cell? ⟨b,o,none⟩=some v∧w.rangeAt b (o+1) m:=by
  rw [show v :: m=[v]++m from rfl,World.rangeAt_append]
  exact and_congr ⟨fun h=>h 0 v rfl,fun h j u hu=>by
    cases j with
    | zero=>injection hu with hu;subst hu;exact h
    | succ j=>simp at hu⟩ Iff.rfl
theorem range_kept {w w':World} {b o:Nat} {l:List Value} (h:w.rangeAt b o l) (hk:w'.heap[b]?=w.heap[b]?):w'.rangeAt b o l:=fun j v hv=>(World.cell?_of_block (a:=⟨b,o+j,none⟩) hk).trans (h j v hv)
theorem range_new (w:World) (C:Array Value) (t:TypeId):(w.alloc (.cells C t)).rangeAt w.heap.size 0 C.toList:=fun j v hv=>by
  rw [Nat.zero_add]
  exact (World.cell?_alloc_at (w:=w) _ _ _ _ rfl).trans (by rw [Array.getElem?_toList] at hv;exact hv)
structure Grew (w W:World) (C:Array Value):Prop where
  sz:W.heap.size=w.heap.size+1
  bel:Below w.heap.size w W
  rg:W.rangeAt w.heap.size 0 C.toList
  fz:∀ o,W.frozen? ⟨w.heap.size,o,none⟩=false
theorem grew_alloc (w:World) (C:Array Value) (t:TypeId):Grew w (w.alloc (.cells C t)) C:=
  ⟨by simp,below_new _ _,range_new w C t,fun o=>by rw [frozen?_alloc_cells];simp [World.frozen?]⟩
structure Stored (w W:World) (b o:Nat) (cs:List Value):Prop where
  os:W.os=w.os
  tape:W.tape=w.tape
  output:W.output=w.output
  sz:W.heap.size=w.heap.size
  far:∀ k,k≠b→W.heap[k]?=w.heap[k]?
  fz:∀ x,W.frozen? x=w.frozen? x
  rg:W.rangeAt b o cs
  apart:∀ o' l,w.rangeAt b o' l→(o'+l.length≤o∨o+cs.length≤o')→W.rangeAt b o' l
  there:∀ b' o' n,w.there b' o' n→W.there b' o' n
theorem setCells_heap (b:Nat):∀ (vs:List Value) (o:Nat) (w:World),(w.setCells b o vs).os=w.os∧(w.setCells b o vs).tape=w.tape∧(w.setCells b o vs).output=w.output∧(w.setCells b o vs).heap.size=w.heap.size∧∀ k,k≠b→(w.setCells b o vs).heap[k]?=w.heap[k]?
  | [],o,w=>⟨rfl,rfl,rfl,rfl,fun _ _=>rfl⟩
  | v :: r,o,w=>by
    obtain⟨h1,h2,h3,h4,h5⟩:=setCells_heap b r (o+1) (w.setCell ⟨b,o,none⟩ v)
    have hb:Below b w (w.setCell ⟨b,o,none⟩ v):=(Below.refl b w).setCell (Nat.le_refl _) v
    exact⟨h1.trans hb.os,h2.trans hb.tape,h3.trans hb.output,h4.trans (by simp),fun k hk=>(h5 k hk).trans (Below.heap_setCell _ _ _ _ hk)⟩
theorem stored_setCells {w:World} {b o:Nat} {cs:List Value} (ht:w.there b o cs.length):Stored w (w.setCells b o cs) b o cs:=by
  obtain⟨h1,h2,h3,h4,h5⟩:=setCells_heap b cs o w
  exact⟨h1,h2,h3,h4,h5,fun x=>World.frozen?_setCells _ _ _ _ _,World.rangeAt_setCells_same _ _ _ _ ht,fun o' l hl ha=>World.rangeAt_setCells_apart hl _ _ _ (.inr ha),fun b' o' n h=>World.there_setCells h _ _ _⟩
theorem stored_setCell {w:World} {b o:Nat} {v:Value} (ht:w.there b o 1):Stored w (w.setCell ⟨b,o,none⟩ v) b o [v]:=stored_setCells (cs:=[v]) ht
theorem Stored.below {w W:World} {b o B:Nat} {cs:List Value} (h:Stored w W b o cs) (hb:B≤b):Below B w W:=⟨h.os,h.tape,h.output,by rw [h.sz];exact Nat.le_refl _,fun k hk=>h.far k (by omega)⟩
theorem World.there.sub {w:World} {b o n:Nat} (h:w.there b o n) (k m:Nat) (hm:k+m≤n):w.there b (o+k) m:=fun j hj=>by
  have:=h (k+j) (by omega)
  rwa [← Nat.add_assoc] at this
section
variable {P : Program} {ops : Array Oper} {rest : List Oper} {o : Oper} {a : Act} {w : World} {Q : Exit → Act → World → Prop}
theorem wpList_box_new (hgd:o.guard=none) (T:TypeId) (x:Operand) (ho:o.op=.box T x) (C:Array Value) (hx:a.eval x=.agg C) (h:∀ W,Grew w W C→wpList P ops Q rest (a.put o.dst (.pointer (some ⟨w.heap.size,0,none⟩))) W):wpList P ops Q (o :: rest) a w:=
  wpList_exec hgd (W:=w.alloc (.cells C T)) (by unfold execOp;rw [ho];simp [hx,Instr.box,newVar,newRow,Value.cells]) (h _ (grew_alloc w C T))
theorem wpList_alloc_new (hgd:o.guard=none) (T:TypeId) (ho:o.op=.alloc T) (Z:Array Value) (hz:(zeroValue T).run P w=.ok (.agg Z) w) (h:∀ W,Grew w W Z→wpList P ops Q rest (a.put o.dst (.pointer (some ⟨w.heap.size,0,none⟩))) W):wpList P ops Q (o :: rest) a w:=
  wpList_exec hgd (W:=w.alloc (.cells Z T)) (by unfold execOp;rw [ho];simp [Instr.alloc,hz,newVar,newRow,Value.cells]) (h _ (grew_alloc w Z T))
theorem run_storeAt_one (w:World) (b f:Nat) (ty:TypeId) (v:Value) (ht:w.there b f 1) (hi:(P.info? ty).map (·.size)=some 1) (hc:v.cells=#[v]) (h1:v.oneCell'=true) :
    (Instr.storeAt ty (.pointer (some ⟨b,f,none⟩)) v).run P w=.ok () (w.setCell ⟨b,f,none⟩ v):=by
  have:=run_storeCells_cells (P:=P) b f [v] 0 w (fun j hj=>by simpa using (ht j (by simpa using hj)).1) (fun j hj=>by simpa using (ht j (by simpa using hj)).2) (fun u hu=>by simp at hu;subst hu;exact h1)
  cases hq:P.info? ty with
  | none=>simp [hq] at hi
  | some i=>
    have hs:1=i.size:=by simp [hq] at hi;omega
    simp only [Nat.add_zero] at this
    simp only [Instr.storeAt,Instr.sureAddr,Sem.run_bind,Sem.run_pure,Result.andThen_ok]
    simp [storeVar,sizeOf,typeInfo,hq,hc,← hs,this,World.setCells]
theorem wp_store_one {K:Act→World→Prop} (T:TypeId) (x y:Operand) (ho:o.op=.store T x y) (b f:Nat) (v:Value) (hx:a.eval x=.pointer (some ⟨b,f,none⟩)) (hy:a.eval y=v) (ht:w.there b f 1) (hi:(P.info? T).map (·.size)=some 1) (hc:v.cells=#[v]) (h1:v.oneCell'=true)
    (h:∀ W,Stored w W b f [v]→K (a.put o.dst undef) W):o.wp P a w K Q:=by
  unfold Oper.wp execOp
  simp only [ho,hx,hy,Sem.run_bind,run_storeAt_one w b f T v ht hi hc h1,Result.andThen_ok,Sem.run_pure]
  exact h _ (stored_setCell ht)
theorem wp_store_in {K:Act→World→Prop} (T:TypeId) (x y:Operand) (ho:o.op=.store T x y) (b f:Nat) (C:Array Value) (hx:a.eval x=.pointer (some ⟨b,f,none⟩)) (hy:a.eval y=.agg C) (ht:w.there b f C.size) (hi:(P.info? T).map (·.size)=some C.size) (h1:C.all (·.oneCell')=true)
    (h:∀ W,Stored w W b f C.toList→K (a.put o.dst undef) W):o.wp P a w K Q:=
  wp_store_mid T x y ho b f C hx hy ht hi h1 (h _ (stored_setCells (by simpa using ht)))
theorem wpList_store_one (hgd:o.guard=none) (T:TypeId) (x y:Operand) (ho:o.op=.store T x y) (b f:Nat) (v:Value) (hx:a.eval x=.pointer (some ⟨b,f,none⟩)) (hy:a.eval y=v) (ht:w.there b f 1) (hi:(P.info? T).map (·.size)=some 1) (hc:v.cells=#[v]) (h1:v.oneCell'=true)
    (h:∀ W,Stored w W b f [v]→wpList P ops Q rest (a.put o.dst undef) W):wpList P ops Q (o :: rest) a w:=
  wpList_plain hgd fun _ hK=>wp_store_one T x y ho b f v hx hy ht hi hc h1 fun W hW=>hK _ _ (h W hW)
theorem wpList_store_in (hgd:o.guard=none) (T:TypeId) (x y:Operand) (ho:o.op=.store T x y) (b f:Nat) (C:Array Value) (hx:a.eval x=.pointer (some ⟨b,f,none⟩)) (hy:a.eval y=.agg C) (ht:w.there b f C.size) (hi:(P.info? T).map (·.size)=some C.size) (h1:C.all (·.oneCell')=true)
    (h:∀ W,Stored w W b f C.toList→wpList P ops Q rest (a.put o.dst undef) W):wpList P ops Q (o :: rest) a w:=
  wpList_store_mid hgd T x y ho b f C hx hy ht hi h1 (h _ (stored_setCells (by simpa using ht)))
end
def nmL (k:Int) (t:ByteArray) (G R S V U:List Value):List Value:=.int .i64 k :: .string t :: (G++(R++(S++(V++U))))
structure Lens (G R S V U:List Value):Prop where
  g:G.length=22
  r:R.length=20
  s:S.length=9
  v:V.length=8
  u:U.length=4
theorem nmL_len {k:Int} {t:ByteArray} {G R S V U:List Value} (h:Lens G R S V U):(nmL k t G R S V U).length=65:=by
  obtain⟨h1,h2,h3,h4,h5⟩:=h
  simp [nmL];omega
theorem nm_size:(Tryz.prog.info? 46).map (·.size)=some 65:=by kernel_rfl
structure NmAt (W:World) (b:Nat) (k:Int) (t:ByteArray) (G R S V U:List Value):Prop where
  c0:W.cell? ⟨b,0,none⟩=some (.int .i64 k)
  c1:W.cell? ⟨b,1,none⟩=some (.string t)
  g:W.rangeAt b 2 G
  r:W.rangeAt b 24 R
  s:W.rangeAt b 44 S
  v:W.rangeAt b 53 V
  u:W.rangeAt b 61 U
theorem nmAt_iff {W:World} {b:Nat} {k:Int} {t:ByteArray} {G R S V U:List Value} (h:Lens G R S V U):W.rangeAt b 0 (nmL k t G R S V U)↔NmAt W b k t G R S V U:=by
  unfold nmL
  rw [World.rangeAt_cons,World.rangeAt_cons,World.rangeAt_append,World.rangeAt_append,World.rangeAt_append,World.rangeAt_append,h.g,h.r,h.s,h.v]
  exact⟨fun ⟨a,b,c,d,e,f,g⟩=>⟨a,b,c,d,e,f,g⟩,fun ⟨a,b,c,d,e,f,g⟩=>⟨a,b,c,d,e,f,g⟩⟩
theorem Grew.nm {w W:World} {C:Array Value} {k:Int} {t:ByteArray} {G R S V U:List Value} (h:Grew w W C) (hC:C.toList=nmL k t G R S V U) (hl:Lens G R S V U):NmAt W w.heap.size k t G R S V U:=(nmAt_iff hl).1 (hC ▸ h.rg)
theorem onGga_size:(Tryz.prog.info? 32).map (·.size)=some 22:=by kernel_rfl
theorem build_onGga (G:List Value) (h:G.length=22) (w:World):(Instr.build 95 #[(0,.agg G.toArray)]).run Tryz.prog w=.ok (.agg G.toArray) w:=by
  match G,h with
  | [g0,g1,g2,g3,g4,g5,g6,g7,g8,g9,g10,g11,g12,g13,g14,g15,g16,g17,g18,g19,g20,g21],_=>
    show _=_
    kernel_rfl
theorem onRmc_size:(Tryz.prog.info? 36).map (·.size)=some 20:=by kernel_rfl
theorem build_onRmc (G:List Value) (h:G.length=20) (w:World):(Instr.build 97 #[(0,.agg G.toArray)]).run Tryz.prog w=.ok (.agg G.toArray) w:=by
  match G,h with
  | [g0,g1,g2,g3,g4,g5,g6,g7,g8,g9,g10,g11,g12,g13,g14,g15,g16,g17,g18,g19],_=>
    show _=_
    kernel_rfl
theorem onGsa_size:(Tryz.prog.info? 39).map (·.size)=some 9:=by kernel_rfl
theorem build_onGsa (G:List Value) (h:G.length=9) (w:World):(Instr.build 99 #[(0,.agg G.toArray)]).run Tryz.prog w=.ok (.agg G.toArray) w:=by
  match G,h with
  | [g0,g1,g2,g3,g4,g5,g6,g7,g8],_=>
    show _=_
    kernel_rfl
theorem onVtg_size:(Tryz.prog.info? 41).map (·.size)=some 8:=by kernel_rfl
theorem build_onVtg (G:List Value) (h:G.length=8) (w:World):(Instr.build 101 #[(0,.agg G.toArray)]).run Tryz.prog w=.ok (.agg G.toArray) w:=by
  match G,h with
  | [g0,g1,g2,g3,g4,g5,g6,g7],_=>
    show _=_
    kernel_rfl
theorem onGsv_size:(Tryz.prog.info? 44).map (·.size)=some 4:=by kernel_rfl
theorem build_onGsv (G:List Value) (h:G.length=4) (w:World):(Instr.build 103 #[(0,.agg G.toArray)]).run Tryz.prog w=.ok (.agg G.toArray) w:=by
  match G,h with
  | [g0,g1,g2,g3],_=>
    show _=_
    kernel_rfl
def partV (k:Int) (G R S V U:List Value):Value:=
  if k=1 then .iface 95 (.agg G.toArray) else if k=2 then .iface 97 (.agg R.toArray) else if k=3 then .iface 99 (.agg S.toArray) else if k=4 then .iface 101 (.agg V.toArray) else if k=5 then .iface 103 (.agg U.toArray) else .nilIface
set_option maxRecDepth 8000 in
set_option maxHeartbeats 2000000 in
theorem nmof_1 {C:Array Value} {t:ByteArray} {G R S V U:List Value} (hC:Hid (C.toList=nmL 1 t G R S V U)) (hl:Hid (Lens G R S V U)) (w:World):Calls Tryz.prog 35 #[.agg C] w fun e w'=>e=.returned (.iface 95 (.agg G.toArray))∧Below w.heap.size w w':=by
  have hs:(Tryz.prog.info? 32).map (·.size)=some G.length:=by rw [hl.out.g];exact onGga_size
  have HS:=Lib.hid hs
  have HB:=fun W=>Lib.hid (build_onGga G hl.out.g W)
  clear hs
  go_enter Tryz.func35,Tryz.ntmps35
  go_wp2_with (first
    | (refine wpList_box_new rfl _ _ rfl C rfl ?_;intro W1 hW1;have hN:=hW1.nm hC.out hl.out;have HBE:=Lib.hid hW1.bel;have c0:=hN.c0;have HG:=Lib.hid hN.g;clear hN hW1)
    | (refine wpList_load_mid rfl 32 _ rfl w.heap.size 2 rfl G _ HG.out Tryz.underlying32 rfl HS.out ?_)
    | (refine wpList_build1 (u:=.agg G.toArray) rfl 95 0 _ rfl rfl (HB _).out ?_))
  go_ret
  exact⟨rfl,HBE.out⟩
set_option maxRecDepth 8000 in
set_option maxHeartbeats 2000000 in
theorem nmof_2 {C:Array Value} {t:ByteArray} {G R S V U:List Value} (hC:Hid (C.toList=nmL 2 t G R S V U)) (hl:Hid (Lens G R S V U)) (w:World):Calls Tryz.prog 35 #[.agg C] w fun e w'=>e=.returned (.iface 97 (.agg R.toArray))∧Below w.heap.size w w':=by
  have hs:(Tryz.prog.info? 36).map (·.size)=some R.length:=by rw [hl.out.r];exact onRmc_size
  have HS:=Lib.hid hs
  have HB:=fun W=>Lib.hid (build_onRmc R hl.out.r W)
  clear hs
  go_enter Tryz.func35,Tryz.ntmps35
  go_wp2_with (first
    | (refine wpList_box_new rfl _ _ rfl C rfl ?_;intro W1 hW1;have hN:=hW1.nm hC.out hl.out;have HBE:=Lib.hid hW1.bel;have c0:=hN.c0;have HG:=Lib.hid hN.r;clear hN hW1)
    | (refine wpList_load_mid rfl 36 _ rfl w.heap.size 24 rfl R _ HG.out Tryz.underlying36 rfl HS.out ?_)
    | (refine wpList_build1 (u:=.agg R.toArray) rfl 97 0 _ rfl rfl (HB _).out ?_))
  go_ret
  exact⟨rfl,HBE.out⟩
set_option maxRecDepth 8000 in
set_option maxHeartbeats 2000000 in
theorem nmof_3 {C:Array Value} {t:ByteArray} {G R S V U:List Value} (hC:Hid (C.toList=nmL 3 t G R S V U)) (hl:Hid (Lens G R S V U)) (w:World):Calls Tryz.prog 35 #[.agg C] w fun e w'=>e=.returned (.iface 99 (.agg S.toArray))∧Below w.heap.size w w':=by
  have hs:(Tryz.prog.info? 39).map (·.size)=some S.length:=by rw [hl.out.s];exact onGsa_size
  have HS:=Lib.hid hs
  have HB:=fun W=>Lib.hid (build_onGsa S hl.out.s W)
  clear hs
  go_enter Tryz.func35,Tryz.ntmps35
  go_wp2_with (first
    | (refine wpList_box_new rfl _ _ rfl C rfl ?_;intro W1 hW1;have hN:=hW1.nm hC.out hl.out;have HBE:=Lib.hid hW1.bel;have c0:=hN.c0;have HG:=Lib.hid hN.s;clear hN hW1)
    | (refine wpList_load_mid rfl 39 _ rfl w.heap.size 44 rfl S _ HG.out Tryz.underlying39 rfl HS.out ?_)
    | (refine wpList_build1 (u:=.agg S.toArray) rfl 99 0 _ rfl rfl (HB _).out ?_))
  go_ret
  exact⟨rfl,HBE.out⟩
set_option maxRecDepth 8000 in
set_option maxHeartbeats 2000000 in
theorem nmof_4 {C:Array Value} {t:ByteArray} {G R S V U:List Value} (hC:Hid (C.toList=nmL 4 t G R S V U)) (hl:Hid (Lens G R S V U)) (w:World):Calls Tryz.prog 35 #[.agg C] w fun e w'=>e=.returned (.iface 101 (.agg V.toArray))∧Below w.heap.size w w':=by
  have hs:(Tryz.prog.info? 41).map (·.size)=some V.length:=by rw [hl.out.v];exact onVtg_size
  have HS:=Lib.hid hs
  have HB:=fun W=>Lib.hid (build_onVtg V hl.out.v W)
  clear hs
  go_enter Tryz.func35,Tryz.ntmps35
  go_wp2_with (first
    | (refine wpList_box_new rfl _ _ rfl C rfl ?_;intro W1 hW1;have hN:=hW1.nm hC.out hl.out;have HBE:=Lib.hid hW1.bel;have c0:=hN.c0;have HG:=Lib.hid hN.v;clear hN hW1)
    | (refine wpList_load_mid rfl 41 _ rfl w.heap.size 53 rfl V _ HG.out Tryz.underlying41 rfl HS.out ?_)
    | (refine wpList_build1 (u:=.agg V.toArray) rfl 101 0 _ rfl rfl (HB _).out ?_))
  go_ret
  exact⟨rfl,HBE.out⟩
set_option maxRecDepth 8000 in
set_option maxHeartbeats 2000000 in
theorem nmof_5 {C:Array Value} {t:ByteArray} {G R S V U:List Value} (hC:Hid (C.toList=nmL 5 t G R S V U)) (hl:Hid (Lens G R S V U)) (w:World):Calls Tryz.prog 35 #[.agg C] w fun e w'=>e=.returned (.iface 103 (.agg U.toArray))∧Below w.heap.size w w':=by
  have hs:(Tryz.prog.info? 44).map (·.size)=some U.length:=by rw [hl.out.u];exact onGsv_size
  have HS:=Lib.hid hs
  have HB:=fun W=>Lib.hid (build_onGsv U hl.out.u W)
  clear hs
  go_enter Tryz.func35,Tryz.ntmps35
  go_wp2_with (first
    | (refine wpList_box_new rfl _ _ rfl C rfl ?_;intro W1 hW1;have hN:=hW1.nm hC.out hl.out;have HBE:=Lib.hid hW1.bel;have c0:=hN.c0;have HG:=Lib.hid hN.u;clear hN hW1)
    | (refine wpList_load_mid rfl 44 _ rfl w.heap.size 61 rfl U _ HG.out Tryz.underlying44 rfl HS.out ?_)
    | (refine wpList_build1 (u:=.agg U.toArray) rfl 103 0 _ rfl rfl (HB _).out ?_))
  go_ret
  exact⟨rfl,HBE.out⟩
set_option maxRecDepth 8000 in
set_option maxHeartbeats 2000000 in
theorem nmof_no {C:Array Value} {k:Int} {t:ByteArray} {G R S V U:List Value} (hC:Hid (C.toList=nmL k t G R S V U)) (hl:Hid (Lens G R S V U)) (w:World) (h:¬ (1≤k∧k≤5)):Calls Tryz.prog 35 #[.agg C] w fun e w'=>e=.returned .nilIface∧Below w.heap.size w w':=by
  have b1:(k==1)=false:=by simp;omega
  have b2:(k==2)=false:=by simp;omega
  have b3:(k==3)=false:=by simp;omega
  have b4:(k==4)=false:=by simp;omega
  have b5:(k==5)=false:=by simp;omega
  clear h
  go_enter Tryz.func35,Tryz.ntmps35
  go_wp2_with (refine wpList_box_new rfl _ _ rfl C rfl ?_;intro W1 hW1;have hN:=hW1.nm hC.out hl.out;have HBE:=Lib.hid hW1.bel;have c0:=hN.c0;clear hN hW1)
  go_ret
  exact⟨rfl,HBE.out⟩
theorem nmof_any {C:Array Value} {k:Int} {t:ByteArray} {G R S V U:List Value} (hC:Hid (C.toList=nmL k t G R S V U)) (hl:Hid (Lens G R S V U)) (w:World):Calls Tryz.prog 35 #[.agg C] w fun e w'=>e=.returned (partV k G R S V U)∧Below w.heap.size w w':=by
  by_cases h:1≤k∧k≤5
  · rcases (by omega:k=1∨k=2∨k=3∨k=4∨k=5) with rfl | rfl | rfl | rfl | rfl
    · exact nmof_1 hC hl w
    · exact nmof_2 hC hl w
    · exact nmof_3 hC hl w
    · exact nmof_4 hC hl w
    · exact nmof_5 hC hl w
  · have:partV k G R S V U=.nilIface:=by
      unfold partV
      rw [if_neg (by omega),if_neg (by omega),if_neg (by omega),if_neg (by omega),if_neg (by omega)]
    rw [this]
    exact nmof_no hC hl w h
structure Blk (W:World) (b:Nat) (L:List Value):Prop where
  rg:W.rangeAt b 0 L
  fz:∀ o,W.frozen? ⟨b,o,none⟩=false
  lt:b < W.heap.size
theorem Blk.new {w W:World} {C:Array Value} (h:Grew w W C):Blk W w.heap.size C.toList:=⟨h.rg,h.fz,by have:=h.sz;omega⟩
theorem Blk.newL {w W:World} {C:Array Value} {L:List Value} (h:Grew w W C) (e:C.toList=L):Blk W w.heap.size L:=e ▸ Blk.new h
theorem Blk.kept {w W:World} {b:Nat} {L:List Value} (h:Blk w b L) (hk:W.heap[b]?=w.heap[b]?) (hz:w.heap.size≤W.heap.size):Blk W b L:=
  ⟨range_kept h.rg hk,fun o=>(World.frozen?_of_block (a:=⟨b,o,none⟩) hk).trans (h.fz o),Nat.lt_of_lt_of_le h.lt hz⟩
theorem Blk.below {w W:World} {b B:Nat} {L:List Value} (h:Blk w b L) (hb:Below B w W) (hB:b < B):Blk W b L:=h.kept (hb.block b hB) hb.size
theorem Blk.on {w W:World} {b:Nat} {L:List Value} (h:Blk w b L) (hb:Below w.heap.size w W):Blk W b L:=h.below hb h.lt
theorem Blk.grew {w W:World} {C:Array Value} {b:Nat} {L:List Value} (h:Blk w b L) (hg:Grew w W C):Blk W b L:=h.on hg.bel
theorem Blk.far {w W:World} {b b' o:Nat} {L cs:List Value} (h:Blk w b L) (hs:Stored w W b' o cs) (hn:b≠b'):Blk W b L:=h.kept (hs.far b hn) (Nat.le_of_eq hs.sz.symm)
theorem Blk.drew {w:World} {b:Nat} {L:List Value} (h:Blk w b L):Blk w.drew b L:=⟨h.rg,h.fz,h.lt⟩
theorem Blk.there {w:World} {b:Nat} {L:List Value} (h:Blk w b L) (o n:Nat) (hn:o+n≤L.length):w.there b o n:=fun j hj=>
  ⟨by have:=h.rg.isSome (o+j) (by omega);rwa [Nat.zero_add] at this,h.fz _⟩
theorem Blk.cell {w:World} {b:Nat} {L:List Value} (h:Blk w b L) (o:Nat) {v:Value} (hv:L[o]?=some v):w.cell? ⟨b,o,none⟩=some v:=by
  have:=h.rg o v hv
  rwa [Nat.zero_add] at this
theorem Blk.put {w W:World} {b o:Nat} {A M D cs:List Value} (h:Blk w b (A++M++D)) (hs:Stored w W b o cs) (ho:A.length=o) (hc:cs.length=M.length):Blk W b (A++cs++D):=by
  subst ho
  have h0:=World.rangeAt_append.1 h.rg
  have h1:=World.rangeAt_append.1 h0.1
  refine⟨World.rangeAt_append.2 ⟨World.rangeAt_append.2 ⟨hs.apart 0 A h1.1 (.inl (by omega)),?_⟩,?_⟩,fun o=>(hs.fz _).trans (h.fz o),by rw [hs.sz];exact h.lt⟩
  · rw [Nat.zero_add];exact hs.rg
  · have:=hs.apart _ D h0.2 (.inr (by simp;omega))
    rw [List.length_append] at this ⊢
    rw [hc]
    exact this
theorem Blk.all {w W:World} {b:Nat} {L cs:List Value} (h:Blk w b L) (hs:Stored w W b 0 cs) (hc:cs.length=L.length):Blk W b cs:=by
  have:=Blk.put (A:=[]) (M:=L) (D:=[]) (by simpa using h) hs rfl hc
  simpa using this
theorem Stored.drew {w W:World} {b o:Nat} {cs:List Value} (h:Stored w.drew W b o cs):Stored w W b o cs:=⟨h.os,h.tape,h.output,h.sz,h.far,h.fz,h.rg,h.apart,h.there⟩
theorem toList_all {C:Array Value} (h:∀ v∈C.toList,v.oneCell'=true):C.all (·.oneCell')=true:=by
  rw [Array.all_eq_true_iff_forall_mem]
  intro v hv
  exact h v (by simpa using hv)
def Ones (L:List Value):Prop:=∀ v∈L,v.oneCell'=true
theorem Ones.of {L:List Value} (h:L.all (·.oneCell')=true):Ones L:=List.all_eq_true.1 h
theorem Ones.arr {L:List Value} (h:Ones L):L.toArray.all (·.oneCell')=true:=all_oneCell_toArray h
def zGga:List Value:=[.bool false,.int .i64 0,.int .i64 0,.int .i64 0,.int .i64 0,.bool false,.int .i64 0,.bool false,.int .i64 0,.int .i64 0,.bool false,.int .i64 0,.bool false,.int .i64 0,.bool false,.int .i64 0,.bool false,.int .i64 0,.bool false,.int .i64 0,.bool false,.int .i64 0]
def zRmc:List Value:=[.bool false,.int .i64 0,.int .i64 0,.int .i64 0,.int .i64 0,.bool false,.bool false,.int .i64 0,.bool false,.int .i64 0,.bool false,.int .i64 0,.bool false,.int .i64 0,.bool false,.int .i64 0,.bool false,.int .i64 0,.int .i64 0,.int .i64 0]
def zGsa:List Value:=[.bool false,.int .i64 0,.slice none 0 0,.bool false,.int .i64 0,.bool false,.int .i64 0,.bool false,.int .i64 0]
def zVtg:List Value:=[.bool false,.int .i64 0,.bool false,.int .i64 0,.bool false,.int .i64 0,.bool false,.int .i64 0]
def zGsv:List Value:=[.int .i64 0,.int .i64 0,.int .i64 0,.slice none 0 0]
theorem zLens:Lens zGga zRmc zGsa zVtg zGsv:=⟨rfl,rfl,rfl,rfl,rfl⟩
def zNm:Array Value:=(nmL 0 ByteArray.empty zGga zRmc zGsa zVtg zGsv).toArray
theorem zero_Nm (w:World):(zeroValue 46).run Tryz.prog w=.ok (.agg zNm) w:=by kernel_rfl
theorem build_Nm (t:ByteArray) (w:World):(Instr.build 46 #[(1,.string t)]).run Tryz.prog w=.ok (.agg (nmL 0 t zGga zRmc zGsa zVtg zGsv).toArray) w:=by kernel_rfl
theorem build_Nm0 (w:World):(Instr.build 46 #[]).run Tryz.prog w=.ok (.agg zNm) w:=by kernel_rfl
theorem zero_onGga (w:World):(zeroValue 95).run Tryz.prog w=.ok (.agg zGga.toArray) w:=by kernel_rfl
theorem size_onGga:(Tryz.prog.info? 95).map (·.size)=some 22:=by kernel_rfl
theorem zero_onRmc (w:World):(zeroValue 97).run Tryz.prog w=.ok (.agg zRmc.toArray) w:=by kernel_rfl
theorem size_onRmc:(Tryz.prog.info? 97).map (·.size)=some 20:=by kernel_rfl
theorem zero_onGsa (w:World):(zeroValue 99).run Tryz.prog w=.ok (.agg zGsa.toArray) w:=by kernel_rfl
theorem size_onGsa:(Tryz.prog.info? 99).map (·.size)=some 9:=by kernel_rfl
theorem zero_onVtg (w:World):(zeroValue 101).run Tryz.prog w=.ok (.agg zVtg.toArray) w:=by kernel_rfl
theorem size_onVtg:(Tryz.prog.info? 101).map (·.size)=some 8:=by kernel_rfl
theorem zero_onGsv (w:World):(zeroValue 103).run Tryz.prog w=.ok (.agg zGsv.toArray) w:=by kernel_rfl
theorem size_onGsv:(Tryz.prog.info? 103).map (·.size)=some 4:=by kernel_rfl
theorem assert_Gga_Gga (G:List Value) (w:World):(Instr.typeAssert (.iface 95 (.agg G.toArray)) 65 95 true).run Tryz.prog w=.ok (.tuple #[.agg G.toArray,.bool true]) w:=by kernel_rfl
theorem assert_Rmc_Gga (G:List Value) (w:World):(Instr.typeAssert (.iface 97 (.agg G.toArray)) 65 95 true).run Tryz.prog w=.ok (.tuple #[.agg zGga.toArray,.bool false]) w:=by kernel_rfl
theorem assert_Rmc_Rmc (G:List Value) (w:World):(Instr.typeAssert (.iface 97 (.agg G.toArray)) 65 97 true).run Tryz.prog w=.ok (.tuple #[.agg G.toArray,.bool true]) w:=by kernel_rfl
theorem assert_Gsa_Gga (G:List Value) (w:World):(Instr.typeAssert (.iface 99 (.agg G.toArray)) 65 95 true).run Tryz.prog w=.ok (.tuple #[.agg zGga.toArray,.bool false]) w:=by kernel_rfl
theorem assert_Gsa_Rmc (G:List Value) (w:World):(Instr.typeAssert (.iface 99 (.agg G.toArray)) 65 97 true).run Tryz.prog w=.ok (.tuple #[.agg zRmc.toArray,.bool false]) w:=by kernel_rfl
theorem assert_Gsa_Gsa (G:List Value) (w:World):(Instr.typeAssert (.iface 99 (.agg G.toArray)) 65 99 true).run Tryz.prog w=.ok (.tuple #[.agg G.toArray,.bool true]) w:=by kernel_rfl
theorem assert_Vtg_Gga (G:List Value) (w:World):(Instr.typeAssert (.iface 101 (.agg G.toArray)) 65 95 true).run Tryz.prog w=.ok (.tuple #[.agg zGga.toArray,.bool false]) w:=by kernel_rfl
theorem assert_Vtg_Rmc (G:List Value) (w:World):(Instr.typeAssert (.iface 101 (.agg G.toArray)) 65 97 true).run Tryz.prog w=.ok (.tuple #[.agg zRmc.toArray,.bool false]) w:=by kernel_rfl
theorem assert_Vtg_Gsa (G:List Value) (w:World):(Instr.typeAssert (.iface 101 (.agg G.toArray)) 65 99 true).run Tryz.prog w=.ok (.tuple #[.agg zGsa.toArray,.bool false]) w:=by kernel_rfl
theorem assert_Vtg_Vtg (G:List Value) (w:World):(Instr.typeAssert (.iface 101 (.agg G.toArray)) 65 101 true).run Tryz.prog w=.ok (.tuple #[.agg G.toArray,.bool true]) w:=by kernel_rfl
theorem assert_Gsv_Gga (G:List Value) (w:World):(Instr.typeAssert (.iface 103 (.agg G.toArray)) 65 95 true).run Tryz.prog w=.ok (.tuple #[.agg zGga.toArray,.bool false]) w:=by kernel_rfl
theorem assert_Gsv_Rmc (G:List Value) (w:World):(Instr.typeAssert (.iface 103 (.agg G.toArray)) 65 97 true).run Tryz.prog w=.ok (.tuple #[.agg zRmc.toArray,.bool false]) w:=by kernel_rfl
theorem assert_Gsv_Gsa (G:List Value) (w:World):(Instr.typeAssert (.iface 103 (.agg G.toArray)) 65 99 true).run Tryz.prog w=.ok (.tuple #[.agg zGsa.toArray,.bool false]) w:=by kernel_rfl
theorem assert_Gsv_Vtg (G:List Value) (w:World):(Instr.typeAssert (.iface 103 (.agg G.toArray)) 65 101 true).run Tryz.prog w=.ok (.tuple #[.agg zVtg.toArray,.bool false]) w:=by kernel_rfl
theorem assert_Gsv_Gsv (G:List Value) (w:World):(Instr.typeAssert (.iface 103 (.agg G.toArray)) 65 103 true).run Tryz.prog w=.ok (.tuple #[.agg G.toArray,.bool true]) w:=by kernel_rfl
theorem assert_nil_Gga (w:World):(Instr.typeAssert .nilIface 65 95 true).run Tryz.prog w=.ok (.tuple #[.agg zGga.toArray,.bool false]) w:=by kernel_rfl
theorem assert_nil_Rmc (w:World):(Instr.typeAssert .nilIface 65 97 true).run Tryz.prog w=.ok (.tuple #[.agg zRmc.toArray,.bool false]) w:=by kernel_rfl
theorem assert_nil_Gsa (w:World):(Instr.typeAssert .nilIface 65 99 true).run Tryz.prog w=.ok (.tuple #[.agg zGsa.toArray,.bool false]) w:=by kernel_rfl
theorem assert_nil_Vtg (w:World):(Instr.typeAssert .nilIface 65 101 true).run Tryz.prog w=.ok (.tuple #[.agg zVtg.toArray,.bool false]) w:=by kernel_rfl
theorem assert_nil_Gsv (w:World):(Instr.typeAssert .nilIface 65 103 true).run Tryz.prog w=.ok (.tuple #[.agg zGsv.toArray,.bool false]) w:=by kernel_rfl
theorem nmL_ones {k:Int} {t:ByteArray} {G R S V U:List Value} (h1:Ones G) (h2:Ones R) (h3:Ones S) (h4:Ones V) (h5:Ones U):Ones (nmL k t G R S V U):=fun v hv=>by
  simp only [nmL,List.mem_cons,List.mem_append] at hv
  rcases hv with rfl | rfl | hv | hv | hv | hv | hv
  · rfl
  · rfl
  · exact h1 v hv
  · exact h2 v hv
  · exact h3 v hv
  · exact h4 v hv
  · exact h5 v hv
theorem zones:Ones zGga∧Ones zRmc∧Ones zGsa∧Ones zVtg∧Ones zGsv:=⟨Ones.of rfl,Ones.of rfl,Ones.of rfl,Ones.of rfl,Ones.of rfl⟩
theorem Blk.putK {w W:World} {b:Nat} {k k':Int} {t:ByteArray} {G R S V U:List Value} (h:Blk w b (nmL k t G R S V U)) (hs:Stored w W b 0 [.int .i64 k']):Blk W b (nmL k' t G R S V U):=
  Blk.put (A:=[]) (M:=[.int .i64 k]) (D:=.string t :: (G++(R++(S++(V++U))))) h hs rfl rfl
theorem nm_sizeL {k:Int} {t:ByteArray} {G R S V U:List Value} (h:Lens G R S V U):(Tryz.prog.info? 46).map (·.size)=some (nmL k t G R S V U).toArray.size:=by rw [nm_size,List.size_toArray,nmL_len h]
theorem Blk.thereA {w:World} {b:Nat} {L M:List Value} (h:Blk w b L) (hl:M.length=L.length):w.there b 0 M.toArray.size:=h.there 0 _ (by simp [hl])
theorem nmL_same {k k':Int} {t t':ByteArray} {G R S V U G' R' S' V' U':List Value} (h:Lens G R S V U) (h':Lens G' R' S' V' U'):(nmL k t G R S V U).length=(nmL k' t' G' R' S' V' U').length:=(nmL_len h).trans (nmL_len h').symm
theorem Blk.nm65 {w:World} {b:Nat} {k:Int} {t:ByteArray} {G R S V U:List Value} (h:Blk w b (nmL k t G R S V U)) (hl:Lens G R S V U):w.there b 0 65:=h.there 0 65 (by rw [nmL_len hl];exact Nat.le_refl _)
theorem Blk.putG {w W:World} {b:Nat} {k:Int} {t:ByteArray} {G R S V U G':List Value} (h:Blk w b (nmL k t G R S V U)) (hs:Stored w W b 2 G') (hl:Lens G R S V U) (he:G'.length=22):Blk W b (nmL k t G' R S V U):=by
  have:=Blk.put (A:=[.int .i64 k,.string t]) (M:=G) (D:=R++S++V++U) (by simpa [nmL] using h) hs (rfl) (by rw [he];exact hl.g.symm)
  simpa [nmL] using this
theorem Lens.withG {G R S V U G':List Value} (h:Lens G R S V U) (hl:G'.length=22):Lens G' R S V U:=⟨hl,h.r,h.s,h.v,h.u⟩
theorem Blk.putR {w W:World} {b:Nat} {k:Int} {t:ByteArray} {G R S V U R':List Value} (h:Blk w b (nmL k t G R S V U)) (hs:Stored w W b 24 R') (hl:Lens G R S V U) (he:R'.length=20):Blk W b (nmL k t G R' S V U):=by
  have:=Blk.put (A:=[.int .i64 k,.string t]++G) (M:=R) (D:=S++V++U) (by simpa [nmL] using h) hs (by simp [hl.g]) (by rw [he];exact hl.r.symm)
  simpa [nmL] using this
theorem Lens.withR {G R S V U R':List Value} (h:Lens G R S V U) (hl:R'.length=20):Lens G R' S V U:=⟨h.g,hl,h.s,h.v,h.u⟩
theorem Blk.putS {w W:World} {b:Nat} {k:Int} {t:ByteArray} {G R S V U S':List Value} (h:Blk w b (nmL k t G R S V U)) (hs:Stored w W b 44 S') (hl:Lens G R S V U) (he:S'.length=9):Blk W b (nmL k t G R S' V U):=by
  have:=Blk.put (A:=[.int .i64 k,.string t]++G++R) (M:=S) (D:=V++U) (by simpa [nmL] using h) hs (by simp [hl.g,hl.r]) (by rw [he];exact hl.s.symm)
  simpa [nmL] using this
theorem Lens.withS {G R S V U S':List Value} (h:Lens G R S V U) (hl:S'.length=9):Lens G R S' V U:=⟨h.g,h.r,hl,h.v,h.u⟩
theorem Blk.putV {w W:World} {b:Nat} {k:Int} {t:ByteArray} {G R S V U V':List Value} (h:Blk w b (nmL k t G R S V U)) (hs:Stored w W b 53 V') (hl:Lens G R S V U) (he:V'.length=8):Blk W b (nmL k t G R S V' U):=by
  have:=Blk.put (A:=[.int .i64 k,.string t]++G++R++S) (M:=V) (D:=U) (by simpa [nmL] using h) hs (by simp [hl.g,hl.r,hl.s]) (by rw [he];exact hl.v.symm)
  simpa [nmL] using this
theorem Lens.withV {G R S V U V':List Value} (h:Lens G R S V U) (hl:V'.length=8):Lens G R S V' U:=⟨h.g,h.r,h.s,hl,h.u⟩
theorem Blk.putU {w W:World} {b:Nat} {k:Int} {t:ByteArray} {G R S V U U':List Value} (h:Blk w b (nmL k t G R S V U)) (hs:Stored w W b 61 U') (hl:Lens G R S V U) (he:U'.length=4):Blk W b (nmL k t G R S V U'):=by
  have:=Blk.put (A:=[.int .i64 k,.string t]++G++R++S++V) (M:=U) (D:=[]) (by simpa [nmL] using h) hs (by simp [hl.g,hl.r,hl.s,hl.v]) (by rw [he];exact hl.u.symm)
  simpa [nmL] using this
theorem Lens.withU {G R S V U U':List Value} (h:Lens G R S V U) (hl:U'.length=4):Lens G R S V U':=⟨h.g,h.r,h.s,h.v,hl⟩
def tenI (k:Nat):Int:=((10 ^ k:Nat):Int)
theorem tenI_zero:tenI 0=1:=rfl
theorem tenI_succ (k:Nat):tenI (k+1)=tenI k * 10:=by unfold tenI;rw [Nat.pow_succ];omega
theorem tenI_pos (k:Nat):1≤tenI k:=by
  unfold tenI
  have:0 < 10 ^ k:=Nat.pow_pos (by decide)
  omega
theorem tenI_le {k n:Nat} (h:k≤n):tenI k≤tenI n:=by
  unfold tenI
  have:10 ^ k≤10 ^ n:=Nat.pow_le_pow_right (by decide) h
  omega
theorem tenI_18:tenI 18=1000000000000000000:=by decide
theorem tenI_17:tenI 17=100000000000000000:=by decide
set_option maxHeartbeats 1000000 in
theorem ten_any (n:Nat) (w:World) (hn:n≤18) :
    Calls Tryz.prog 201 #[.int .i64 (n:Int)] w fun e w'=>e=.returned (.int .i64 (tenI n))∧w=w':=by
  go_enter Tryz.func201,Tryz.ntmps201
  go_wp2
  go_loop [3,5] (fun p i=>∃ k:Nat,k≤n∧i=.int .i64 k∧p=.int .i64 (tenI k)) (fun _ i=>n - (intOf i).toNat)
  case atStart=>exact⟨0,Nat.zero_le _,rfl,rfl⟩
  case round=>
    obtain⟨k,hk,rfl,rfl⟩:=hrel
    by_cases hlt:k < n
    · have h1:=tenI_pos k
      have h2:=tenI_le (show k≤17 by omega)
      rw [tenI_17] at h2
      have h3:=Lib.hid (tenI_succ k)
      generalize tenI k=T at *
      go_wp2
      go_round
      case rel=>exact⟨k+1,by omega,by go_num,by rw [h3.out]⟩
      case measure=>simp [intOf];omega
    · obtain rfl:k=n:=by omega
      go_wp2
      go_ret
      exact⟨rfl,rfl⟩
set_option maxHeartbeats 1000000 in
theorem r23Ten_any (n:Nat) (w:World) (hn:n≤18) :
    Calls Tryz.prog 189 #[.int .i64 (n:Int)] w fun e w'=>e=.returned (.int .i64 (tenI n))∧w=w':=by
  go_enter Tryz.func189,Tryz.ntmps189
  go_wp2
  go_loop [3,4] (fun p i=>∃ k:Nat,k≤n∧i=.int .i64 k∧p=.int .i64 (tenI k)) (fun _ i=>n - (intOf i).toNat)
  case atStart=>exact⟨0,Nat.zero_le _,rfl,rfl⟩
  case round=>
    obtain⟨k,hk,rfl,rfl⟩:=hrel
    by_cases hlt:k < n
    · have h1:=tenI_pos k
      have h2:=tenI_le (show k≤17 by omega)
      rw [tenI_17] at h2
      have h3:Hid (tenI (k+1)=10 * tenI k):=by show _=_;rw [tenI_succ,Int.mul_comm]
      generalize tenI k=T at *
      go_wp2
      go_round
      case rel=>exact⟨k+1,by omega,by go_num,by rw [h3.out]⟩
      case measure=>simp [intOf];omega
    · obtain rfl:k=n:=by omega
      go_wp2
      go_ret
      exact⟨rfl,rfl⟩
abbrev colV (W M F L H:Int):Value:=.agg #[.int .i64 W,.int .i64 M,.int .i64 F,.int .i64 L,.int .i64 H]
def rightB (W M F L H:Int):Bool:=decide (1≤W∧W≤M∧M≤12∧0≤F∧F≤6∧L≤H∧-tenI (M+F).toNat < L∧H < tenI (M+F).toNat)
set_option maxHeartbeats 2000000 in
theorem Right_no (W M F L H:Int) (w:World) (h:W < 1∨1≤W∧M < W∨1≤W∧W≤M∧12 < M) :
    Calls Tryz.prog 190 #[colV W M F L H] w fun e w'=>e=.returned (.bool false)∧Below w.heap.size w w':=by
  rcases h with h | ⟨h0,h⟩ | ⟨h0,h1,h⟩
  all_goals
    go_enter Tryz.func190,Tryz.ntmps190
    go_wp2
    go_ret
    exact⟨rfl,below_new _ _⟩
set_option maxHeartbeats 2000000 in
theorem Right_no2 (W M F L H:Int) (w:World) (h0:1≤W) (h1:W≤M) (h2:M≤12) (h:F < 0∨0≤F∧6 < F∨0≤F∧F≤6∧H < L) :
    Calls Tryz.prog 190 #[colV W M F L H] w fun e w'=>e=.returned (.bool false)∧Below w.heap.size w w':=by
  rcases h with h | ⟨h3,h⟩ | ⟨h3,h4,h⟩
  all_goals
    go_enter Tryz.func190,Tryz.ntmps190
    go_wp2
    go_ret
    exact⟨rfl,below_new _ _⟩
set_option maxHeartbeats 2000000 in
theorem Right_end (W L H:Int) (m f:Nat) (w:World) (h0:1≤W) (h1:W≤(m:Int)) (h2:m≤12) (h3:f≤6) (h4:L≤H) :
    Calls Tryz.prog 190 #[colV W m f L H] w fun e w'=>e=.returned (.bool (decide (-tenI (m+f) < L∧H < tenI (m+f))))∧Below w.heap.size w w':=by
  have HT:=fun W=>Lib.hid (ten_any (m+f) W (by omega))
  rw [Int.natCast_add] at HT
  have t1:=tenI_pos (m+f)
  have t2:=tenI_le (show m+f≤18 by omega)
  rw [tenI_18] at t2
  generalize tenI (m+f)=T at *
  by_cases h5:-T < L
  · have e:decide (-T < L∧H < T)=decide (H < T):=by simp [h5]
    rw [e]
    clear e
    go_enter Tryz.func190,Tryz.ntmps190
    go_wp2_with fail
    refine (HT _).out.mono ?_
    rintro e w' ⟨rfl,rfl⟩
    go_wp2_with fail
    go_ret
    exact⟨rfl,below_new _ _⟩
  · have e:decide (-T < L∧H < T)=false:=by simp [h5]
    rw [e]
    clear e
    go_enter Tryz.func190,Tryz.ntmps190
    go_wp2_with fail
    refine (HT _).out.mono ?_
    rintro e w' ⟨rfl,rfl⟩
    go_wp2_with fail
    go_ret
    exact⟨rfl,below_new _ _⟩
theorem Right_any (W M F L H:Int) (w:World):Calls Tryz.prog 190 #[colV W M F L H] w fun e w'=>e=.returned (.bool (rightB W M F L H))∧Below w.heap.size w w':=by
  by_cases h:1≤W∧W≤M∧M≤12
  · obtain⟨h0,h1,h2⟩:=h
    by_cases h:0≤F∧F≤6∧L≤H
    · obtain⟨h3,h4,h5⟩:=h
      obtain⟨m,rfl⟩:=Int.eq_ofNat_of_zero_le (show 0≤M by omega)
      obtain⟨f,rfl⟩:=Int.eq_ofNat_of_zero_le h3
      have e:rightB W m f L H=decide (-tenI (m+f) < L∧H < tenI (m+f)):=by
        unfold rightB
        rw [show ((m:Int)+(f:Int)).toNat=m+f from by omega]
        simp only [h0,h1,h2,h3,h4,h5,true_and]
      rw [e]
      exact Right_end W L H m f w h0 h1 (by omega) (by omega) h5
    · have e:rightB W M F L H=false:=by
        unfold rightB
        rw [decide_eq_false_iff_not]
        rintro ⟨_,_,_,a,b,c,_⟩
        exact h ⟨a,b,c⟩
      rw [e]
      exact Right_no2 W M F L H w h0 h1 h2 (by omega)
  · have e:rightB W M F L H=false:=by
      unfold rightB
      rw [decide_eq_false_iff_not]
      rintro ⟨a,b,c,_⟩
      exact h ⟨a,b,c⟩
    rw [e]
    exact Right_no W M F L H w (by omega)
set_option maxHeartbeats 2000000 in
theorem r23Right_no (W M F L H:Int) (w:World) (h:W < 1∨1≤W∧M < W∨1≤W∧W≤M∧12 < M∨(1≤W∧W≤M∧M≤12)∧F < 0∨(1≤W∧W≤M∧M≤12)∧0≤F∧6 < F∨(1≤W∧W≤M∧M≤12)∧0≤F∧F≤6∧H < L) :
    Calls Tryz.prog 181 #[colV W M F L H] w fun e w'=>e=.returned (.bool false)∧Below w.heap.size w w':=by
  rcases h with h | ⟨h0,h⟩ | ⟨h0,h1,h⟩ | ⟨⟨h0,h1,h2⟩,h⟩ | ⟨⟨h0,h1,h2⟩,h3,h⟩ | ⟨⟨h0,h1,h2⟩,h3,h4,h⟩
  all_goals
    go_enter Tryz.func181,Tryz.ntmps181
    go_wp2
    go_ret
    exact⟨rfl,below_new _ _⟩
set_option maxHeartbeats 2000000 in
theorem r23Right_end (W L H:Int) (m f:Nat) (w:World) (h0:1≤W) (h1:W≤(m:Int)) (h2:m≤12) (h3:f≤6) (h4:L≤H) :
    Calls Tryz.prog 181 #[colV W m f L H] w fun e w'=>e=.returned (.bool (decide (-tenI (m+f) < L∧H < tenI (m+f))))∧Below w.heap.size w w':=by
  have HT:=fun W=>Lib.hid (r23Ten_any (m+f) W (by omega))
  rw [Int.natCast_add] at HT
  have t1:=tenI_pos (m+f)
  have t2:=tenI_le (show m+f≤18 by omega)
  rw [tenI_18] at t2
  generalize tenI (m+f)=T at *
  by_cases h5:-T < L
  · by_cases h6:L < T
    · have h7:-T < H:=by omega
      have e:decide (-T < L∧H < T)=decide (H < T):=by simp [h5]
      rw [e]
      clear e
      go_enter Tryz.func181,Tryz.ntmps181
      go_wp2_with fail
      refine (HT _).out.mono ?_
      rintro e w' ⟨rfl,rfl⟩
      go_wp2_with fail
      go_ret
      exact⟨rfl,below_new _ _⟩
    · have e:decide (-T < L∧H < T)=false:=by rw [decide_eq_false_iff_not];omega
      rw [e]
      clear e
      go_enter Tryz.func181,Tryz.ntmps181
      go_wp2_with fail
      refine (HT _).out.mono ?_
      rintro e w' ⟨rfl,rfl⟩
      go_wp2_with fail
      go_ret
      exact⟨rfl,below_new _ _⟩
  · have e:decide (-T < L∧H < T)=false:=by simp [h5]
    rw [e]
    clear e
    go_enter Tryz.func181,Tryz.ntmps181
    go_wp2_with fail
    refine (HT _).out.mono ?_
    rintro e w' ⟨rfl,rfl⟩
    go_wp2_with fail
    go_ret
    exact⟨rfl,below_new _ _⟩
theorem rightB_no {W M F L H:Int} (h:¬ ((1≤W∧W≤M∧M≤12)∧0≤F∧F≤6∧L≤H)):rightB W M F L H=false:=by
  unfold rightB
  rw [decide_eq_false_iff_not]
  rintro ⟨a,b,c,d,e,f,_⟩
  exact h ⟨⟨a,b,c⟩,d,e,f⟩
theorem r23Right_any (W M F L H:Int) (w:World):Calls Tryz.prog 181 #[colV W M F L H] w fun e w'=>e=.returned (.bool (rightB W M F L H))∧Below w.heap.size w w':=by
  by_cases h:(1≤W∧W≤M∧M≤12)∧0≤F∧F≤6∧L≤H
  · obtain⟨⟨h0,h1,h2⟩,h3,h4,h5⟩:=h
    obtain⟨m,rfl⟩:=Int.eq_ofNat_of_zero_le (show 0≤M by omega)
    obtain⟨f,rfl⟩:=Int.eq_ofNat_of_zero_le h3
    have e:rightB W m f L H=decide (-tenI (m+f) < L∧H < tenI (m+f)):=by
      unfold rightB
      rw [show ((m:Int)+(f:Int)).toNat=m+f from by omega]
      simp only [h0,h1,h2,h3,h4,h5,true_and]
    rw [e]
    exact r23Right_end W L H m f w h0 h1 (by omega) (by omega) h5
  · rw [rightB_no h]
    exact r23Right_no W M F L H w (by omega)
abbrev numV (b:Bool) (n:Int):Value:=.agg #[.bool b,.int .i64 n]
def fitsB (b:Bool) (n lo hi:Int):Bool:=if b then decide (lo≤n∧n≤hi) else decide (n=0)
set_option maxHeartbeats 2000000 in
theorem fits_any (b:Bool) (n lo hi:Int) (w:World):Calls Tryz.prog 192 #[numV b n,.int .i64 lo,.int .i64 hi] w fun e w'=>e=.returned (.bool (fitsB b n lo hi))∧Below w.heap.size w w':=by
  cases b with
  | false=>
    by_cases h:n=0
    · subst h
      have e:fitsB false 0 lo hi=true:=by unfold fitsB;simp
      rw [e]
      clear e
      go_enter Tryz.func192,Tryz.ntmps192
      go_wp2
      go_ret
      exact⟨rfl,below_new _ _⟩
    · have e:fitsB false n lo hi=false:=by unfold fitsB;simp [h]
      rw [e]
      clear e
      go_enter Tryz.func192,Tryz.ntmps192
      go_wp2
      go_ret
      exact⟨rfl,below_new _ _⟩
  | true=>
    by_cases h:lo≤n
    · have e:fitsB true n lo hi=decide (n≤hi):=by unfold fitsB;rw [if_pos rfl];simp [h]
      rw [e]
      clear e
      go_enter Tryz.func192,Tryz.ntmps192
      go_wp2
      go_ret
      exact⟨rfl,below_new _ _⟩
    · have e:fitsB true n lo hi=false:=by unfold fitsB;rw [if_pos rfl];simp [h]
      rw [e]
      clear e
      go_enter Tryz.func192,Tryz.ntmps192
      go_wp2
      go_ret
      exact⟨rfl,below_new _ _⟩
def digF:Nat→Nat→Nat→List UInt8
  | 0,_,_=>[]
  | f+1,n,l=>if 0 < n∨0 < l then digF f (n / 10) (l - 1)++[UInt8.ofNat (48+n % 10)] else []
def digL (n l:Nat):List UInt8:=digF 20 n l
theorem digF_stop (f:Nat):digF f 0 0=[]:=by cases f <;> simp [digF]
theorem digF_step (f n l:Nat) (h:0 < n∨0 < l):digF (f+1) n l=digF f (n / 10) (l - 1)++[UInt8.ofNat (48+n % 10)]:=by rw [digF,if_pos h]
theorem digF_len (f:Nat):∀ n l,(digF f n l).length≤f:=by
  induction f with
  | zero=>intro n l;simp [digF]
  | succ f ih=>
    intro n l
    unfold digF
    split
    · have:=ih (n / 10) (l - 1);simp;omega
    · simp
def Tail (w:World) (g:Nat) (suf:List UInt8):Prop:=
  (∀ j,j < 20→∃ v,w.cell? ⟨g,j,none⟩=some v)∧∀ j (h:j < suf.length),w.cell? ⟨g,20 - suf.length+j,none⟩=some (.int .u8 (suf[j].toNat:Int))
theorem Tail.put {w:World} {g:Nat} {suf:List UInt8} (h:Tail w g suf) (a:Nat) (ha:a+suf.length=19) (c:UInt8) (z:Int) (hz:z=(c.toNat:Int)):Tail (w.setCell ⟨g,a,none⟩ (.int .u8 z)) g (c :: suf):=by
  subst hz
  obtain⟨h1,h2⟩:=h
  have key:∀ j,j≠a→(w.setCell ⟨g,a,none⟩ (.int .u8 (c.toNat:Int))).cell? ⟨g,j,none⟩=w.cell? ⟨g,j,none⟩:=fun j hj=>World.cell?_setCell_other w _ _ _ (fun e=>by injection e with _ e;exact hj e.symm)
  obtain⟨v,hv⟩:=h1 a (by omega)
  have same:(w.setCell ⟨g,a,none⟩ (.int .u8 (c.toNat:Int))).cell? ⟨g,a,none⟩=some (.int .u8 (c.toNat:Int)):=World.cell?_setCell_same w _ _ hv
  refine⟨fun j hj=>?_,fun j hj=>?_⟩
  · by_cases e:j=a
    · subst e;exact⟨_,same⟩
    · rw [key j e];exact h1 j hj
  · cases j with
    | zero=>
      rw [List.length_cons,show 20 - (suf.length+1)+0=a from by omega]
      exact same
    | succ j=>
      rw [List.length_cons] at hj ⊢
      rw [show 20 - (suf.length+1)+(j+1)=20 - suf.length+j from by omega,key _ (by omega)]
      exact h2 j (by omega)
theorem digits_new (w:World) (o:Array Value) (T:TypeId) (ho:o.size=20):Tail (w.alloc (.cells o T)) w.heap.size []:=by
  refine⟨fun j hj=>?_,fun j hj=>absurd hj (by simp)⟩
  rw [World.cell?_alloc_new]
  exact⟨o[j]'(by omega),by rw [Array.getElem?_eq_getElem]⟩
def digits_next (n l:Nat) (w:World) (a m:Nat) (suf:List UInt8) (wr:World):Prop:=
  a+suf.length=20∧a≤20∧m≤1000000000000000000∧m < 10 ^ (a - 1)∧digL n l=digF a m (l - suf.length)++suf∧Tail wr w.heap.size suf∧Below w.heap.size w wr∧w.heap.size < wr.heap.size∧∀ o,wr.frozen? ⟨w.heap.size,o,none⟩=false
theorem digits_rel {n l:Nat} {w:World} {b m:Nat} {suf:List UInt8} {wr:World} (h:digits_next n l w b (m / 10) suf wr) :
    ∃ (m2 a:Nat) (suf2:List UInt8),Value.int .i64 ((m:Int) / 10)=.int .i64 (m2:Int)∧Value.int .i64 (b:Int)=.int .i64 (a:Int)∧Hid (a+suf2.length=20)∧a≤20∧m2≤1000000000000000000∧Hid (m2 < 10 ^ (a - 1))∧Hid (digL n l=digF a m2 (l - suf2.length)++suf2)∧Hid (Tail wr w.heap.size suf2)∧Hid (Below w.heap.size w wr)∧w.heap.size < wr.heap.size∧Hid (∀ o,wr.frozen? ⟨w.heap.size,o,none⟩=false):=by
  obtain⟨h1,h2,h3,h4,h5,h6,h7,h8,h9⟩:=h
  exact⟨m / 10,b,suf,rfl,rfl,h1,h2,h3,h4,h5,h6,h7,h8,h9⟩
theorem digits_round {n l:Nat} {w wr:World} {b m:Nat} {suf:List UInt8} (hs:b+1+suf.length=20) (hm:m≤1000000000000000000) (hp:m < 10 ^ (b+1 - 1)) (hd:digL n l=digF (b+1) m (l - suf.length)++suf) (ht:Tail wr w.heap.size suf) (hb:Below w.heap.size w wr) (hz:w.heap.size < wr.heap.size) (hf:∀ o,wr.frozen? ⟨w.heap.size,o,none⟩=false) (hgo:0 < m∨suf.length < l) :
    digits_next n l w b (m / 10) (UInt8.ofNat (48+m % 10) :: suf) (wr.setCell ⟨w.heap.size,b,none⟩ (.int .u8 (48+(m:Int) % 10))):=by
  refine⟨by rw [List.length_cons];omega,by omega,by omega,?_,?_,ht.put b (by omega) _ _ ?_,hb.setCell (Nat.le_refl _) _,by simpa using hz,fun o=>by simpa using hf o⟩
  · rw [Nat.add_sub_cancel] at hp
    cases b with
    | zero=>have:m < 1:=hp;show m / 10 < 1;omega
    | succ b=>
      rw [Nat.add_sub_cancel]
      rw [Nat.pow_succ] at hp
      omega
  · rw [hd,digF_step _ _ _ (by omega),List.append_assoc,List.length_cons]
    rfl
  · have:(UInt8.ofNat (48+m % 10)).toNat=48+m % 10:=by simp;omega
    rw [this]
    omega
set_option maxRecDepth 8000 in
set_option maxHeartbeats 2000000 in
theorem digits_any (n l:Nat) (w:World) (hn:n≤1000000000000000000) (hl:l≤18) :
    Calls Tryz.prog 241 #[.int .i64 (n:Int),.int .i64 (l:Int)] w fun e w'=>e=.returned (.string ⟨(digL n l).toArray⟩)∧Below w.heap.size w w':=by
  have HN19:Hid (n < 10 ^ (20 - 1)):=by
    have:(10:Nat) ^ (20 - 1)=10000000000000000000:=by decide
    show n < _
    omega
  go_enter Tryz.func241,Tryz.ntmps241
  go_wp2
  go_loopw [0,6] (fun v at_ wr=>∃ (m a:Nat) (suf:List UInt8),v=.int .i64 (m:Int)∧at_=.int .i64 (a:Int)∧Hid (a+suf.length=20)∧a≤20∧m≤1000000000000000000∧Hid (m < 10 ^ (a - 1))∧Hid (digL n l=digF a m (l - suf.length)++suf)∧Hid (Tail wr w.heap.size suf)∧Hid (Below w.heap.size w wr)∧w.heap.size < wr.heap.size∧Hid (∀ o,wr.frozen? ⟨w.heap.size,o,none⟩=false)) (fun v at_ _=>(intOf at_).toNat)
  case atStart=>
    refine⟨n,20,[],rfl,rfl,rfl,Nat.le_refl _,hn,HN19,Lib.hid (by show digL n l=digF 20 n (l - 0)++[];rw [List.append_nil];rfl),Lib.hid (digits_new w _ _ rfl),Lib.hid (below_new w _),by simp,Lib.hid (fun o=>?_)⟩
    simp
  case round=>
    obtain⟨m,a,suf,rfl,rfl,hs,ha,hm,hp,hd,ht,hb,hz,hf⟩:=hrel
    by_cases hgo:0 < m∨suf.length < l
    · have ha1:1≤a:=by
        have h1:=hs.out
        have h2:=hp.out
        rcases Nat.eq_zero_or_pos a with h | h
        · subst h
          have:m < 1:=h2
          omega
        · exact h
      obtain⟨b,rfl⟩:∃ b,a=b+1:=⟨a - 1,by omega⟩
      obtain⟨v,hv⟩:=ht.out.1 b (by omega)
      have hfb:=hf.out b
      have e1:((b+1:Nat):Int) - 1=(b:Int):=by omega
      have hgo2:0 < (m:Int)∨(m:Int)≤0∧(20:Int) - ((b+1:Nat):Int) < (l:Int):=by have:=hs.out;omega
      have hnext:Hid (digits_next n l w b (m / 10) (UInt8.ofNat (48+m % 10) :: suf) (wr.setCell ⟨w.heap.size,b,none⟩ (.int .u8 (48+(m:Int) % 10)))):=digits_round hs.out hm hp.out hd.out ht.out hb.out hz hf.out hgo
      clear hs hp hd ht hb hf hgo
      rcases hgo2 with h | ⟨h,h'⟩
      · go_wp2
        go_round
        case rel=>exact digits_rel hnext.out
        case measure=>simp [intOf]
      · obtain rfl:m=0:=by omega
        clear h
        go_wp2
        go_round
        case rel=>exact digits_rel hnext.out
        case measure=>simp [intOf]
    · have h1:(m:Int)≤0:=by omega
      have h2:(l:Int)≤20 - (a:Int):=by have:=hs.out;omega
      have hres:Hid (digL n l=suf):=by
        have h3:=hd.out
        rw [show m=0 from by omega,show l - suf.length=0 from by omega,digF_stop] at h3
        exact h3
      have kc:∀ cap,(convert 141 9 (.slice (some ⟨w.heap.size,a,none⟩) (20 - a) cap)).run Tryz.prog wr=.ok (.string ⟨suf.toArray⟩) wr:=by
        intro cap
        have h4:=run_conv_row (P:=Tryz.prog) wr 141 9 5 ⟨w.heap.size,a,none⟩ cap (suf.map fun c=>(c.toNat:Int)) Tryz.underlying141 Tryz.underlying5 Tryz.underlying9 (fun j hj=>by
          rw [List.length_map] at hj
          have h5:=ht.out.2 j hj
          rw [List.getElem_map]
          rw [show 20 - suf.length=a from by have:=hs.out;omega] at h5
          rw [show (⟨w.heap.size,a,none⟩:Addr).add j=⟨w.heap.size,a+j,none⟩ from by simp [Addr.add]]
          exact h5)
        rw [List.length_map,show suf.length=20 - a from by have:=hs.out;omega,List.map_map] at h4
        have e:∀ q:List UInt8,List.map ((fun n:Int=>UInt8.ofNat n.toNat) ∘ fun c:UInt8=>(c.toNat:Int)) q=q:=fun q=>(List.map_congr_left (fun c _=>by simp)).trans (List.map_id q)
        rw [e] at h4
        exact h4
      have i1:(0:Int)≤(a:Int):=Int.natCast_nonneg _
      have i2:(a:Int)≤20:=by omega
      have k0:(convert 141 9 (.slice (some ⟨w.heap.size,0,none⟩) 0 0)).run Tryz.prog wr=.ok (.string ⟨#[]⟩) wr:=
        run_conv_row (P:=Tryz.prog) wr 141 9 5 ⟨w.heap.size,0,none⟩ 0 [] Tryz.underlying141 Tryz.underlying5 Tryz.underlying9 (fun j hj=>absurd hj (by simp))
      by_cases h20:a=20
      · have hnil:Hid (suf=[]):=by have:=hs.out;show _=_;exact List.eq_nil_of_length_eq_zero (by omega)
        subst h20
        clear hs hp hd ht hf hgo HN19 hm hn kc
        go_wp2
        go_ret
        exact⟨by rw [hres.out,hnil.out];rfl,hb.out⟩
      · have i3:a < 20:=by omega
        have i4:¬ (20 - a=0):=by omega
        clear hs hp hd ht hf hgo HN19 hm hn k0 h20
        go_wp2
        go_ret
        exact⟨by rw [hres.out];rfl,hb.out⟩
def toB (l:List UInt8):ByteArray:=⟨l.toArray⟩
theorem B_toList (t:ByteArray):toB t.data.toList=t:=by obtain⟨⟨l⟩⟩:=t;rfl
theorem toList_B (l:List UInt8):(toB l).data.toList=l:=by simp [toB]
theorem size_B (l:List UInt8):(toB l).size=l.length:=by show l.toArray.size=_;simp
theorem toB_append (a b:List UInt8):toB a++toB b=toB (a++b):=by
  apply ByteArray.ext
  simp [toB,ByteArray.data_append]
theorem trimR_eq (l:List UInt8) (c:UInt8):Lib.trimRightB (l++[c]) c=Lib.trimRightB l c:=by simp [Lib.trimRightB]
theorem trimR_ne (l:List UInt8) (x c:UInt8) (h:x≠c):Lib.trimRightB (l++[x]) c=l++[x]:=by simp [Lib.trimRightB,h]
theorem last_parted (t:ByteArray) (n:Nat) (h:t.size=n+1):t.data.toList=(t.extract 0 n).data.toList++[t[n]'(by omega)]:=by
  have hl:n < t.data.toList.length:=by simpa using (show n < t.size by omega)
  have e1:(t.extract 0 n).data.toList=t.data.toList.take n:=by rw [Lib.extract_upto]
  have e2:t.data.toList[n]'hl=t[n]'(by omega):=rfl
  have e3:t.data.toList.length=n+1:=by simpa using h
  rw [e1,← e2,← List.take_succ_eq_append_getElem hl,List.take_of_length_le (by omega)]
set_option maxHeartbeats 1000000 in
theorem trimByte_any (s:ByteArray) (c:UInt8) (w:World) (hs:s.size≤1000000) :
    Calls Tryz.prog 245 #[.string s,.int .u8 (c.toNat:Int)] w fun e w'=>e=.returned (.string (toB (Lib.trimRightB s.data.toList c)))∧w=w':=by
  go_enter Tryz.func245,Tryz.ntmps245
  go_wp2
  go_loop [0] (fun v=>∃ t:ByteArray,v=.string t∧t.size≤1000000∧Hid (Lib.trimRightB s.data.toList c=Lib.trimRightB t.data.toList c)) (fun v=>Lib.strSize v)
  case atStart=>exact⟨s,rfl,hs,rfl⟩
  case round=>
    obtain⟨t,rfl,ht,hR⟩:=hrel
    by_cases h0:t.size=0
    · have hf:Hid (Lib.trimRightB s.data.toList c=t.data.toList):=by
        have:t.data.toList=[]:=List.eq_nil_of_length_eq_zero (by simpa using h0)
        show _=_
        rw [hR.out,this];rfl
      go_wp2
      go_ret
      exact⟨by rw [hf.out,B_toList];rfl,rfl⟩
    · obtain⟨n,hn⟩:∃ n,t.size=n+1:=⟨t.size - 1,by omega⟩
      have hlt:n < t.size:=by omega
      have hp:=Lib.hid (last_parted t n hn)
      have e1:(t.size:Int) - 1=(n:Int):=by omega
      have hpos:(0:Int) < (t.size:Int):=by omega
      by_cases hc:t[n]=c
      · have hb:(((t[n]'hlt).toNat:Int)==(c.toNat:Int))=true:=by rw [hc];simp
        have hR2:Hid (Lib.trimRightB s.data.toList c=Lib.trimRightB (t.extract 0 n).data.toList c):=by
          show _=_
          rw [hR.out,hp.out,hc,trimR_eq]
        have hz:(t.extract 0 n).size=n:=by rw [ByteArray.size_extract];omega
        clear hp hc hn h0
        go_wp2
        go_round
        case rel=>exact⟨_,rfl,by omega,hR2⟩
        case measure=>rw [Lib.strSize_string,Lib.strSize_string];omega
      · have hb:(((t[n]'hlt).toNat:Int)==(c.toNat:Int))=false:=by
          rw [beq_eq_false_iff_ne]
          exact fun k=>hc (UInt8.toNat_inj.1 (by omega))
        have hf:Hid (Lib.trimRightB s.data.toList c=t.data.toList):=by
          show _=_
          rw [hR.out,hp.out,trimR_ne _ _ _ hc]
        clear hp hc hn h0
        go_wp2
        go_ret
        exact⟨by rw [hf.out,B_toList];rfl,rfl⟩
theorem toList_len (s:ByteArray):s.toList.length=s.size:=by rw [ByteArray.toList_eq];simp
theorem nonempty_forms {s:ByteArray} (h:0 < s.size):s.toList.isEmpty=false∧(s.toList==[])=false:=by
  have hl:=toList_len s
  cases hs:s.toList with
  | nil=>rw [hs] at hl;simp at hl;omega
  | cons a l=>exact⟨rfl,rfl⟩
set_option maxRecDepth 20000 in
set_option maxHeartbeats 1000000 in
theorem trimRight_any (s:ByteArray) (w:World) (hs:s.size≤1000000) (h0:0 < s.size) :
    Calls Tryz.prog 243 #[.string s,.string ⟨#[48]⟩] w fun e w'=>e=.returned (.string (toB (Lib.trimRightB s.data.toList 48)))∧w=w':=by
  obtain⟨f1,f2⟩:=nonempty_forms h0
  have HT:=fun W=>Lib.hid (trimByte_any s 48 W hs)
  go_enter Tryz.func243,Tryz.ntmps243
  go_wp2_with fail
  refine (HT _).out.mono ?_
  rintro e w' ⟨rfl,rfl⟩
  go_wp2_with fail
  go_ret
  exact⟨rfl,rfl⟩
set_option maxRecDepth 8000 in
set_option maxHeartbeats 2000000 in
theorem r23Digits_any (n l:Nat) (w:World) (hn:n≤1000000000000000000) (hl:l≤18) :
    Calls Tryz.prog 164 #[.int .i64 (n:Int),.int .i64 (l:Int)] w fun e w'=>e=.returned (.string (toB (digL n l)))∧Below w.heap.size w w':=by
  have HN19:Hid (n < 10 ^ (20 - 0 - 1)):=by
    have:(10:Nat) ^ (20 - 0 - 1)=10000000000000000000:=by decide
    show n < _
    omega
  have kc:=run_conv1 (P:=Tryz.prog) 141 9 5 Tryz.underlying141 Tryz.underlying5 Tryz.underlying9
  go_enter Tryz.func164,Tryz.ntmps164
  go_wp2
  go_loopw [0,5] (fun v s wr=>∃ (m:Nat) (S:ByteArray),v=.int .i64 (m:Int)∧s=.string S∧S.size≤20∧m≤1000000000000000000∧Hid (m < 10 ^ (20 - S.size - 1))∧Hid (digL n l=digF (20 - S.size) m (l - S.size)++S.data.toList)∧Hid (Below w.heap.size w wr)) (fun _ s _=>20 - Lib.strSize s)
  case atStart=>
    exact⟨n,⟨#[]⟩,rfl,rfl,by decide,hn,HN19,Lib.hid (by show digL n l=digF 20 n (l - 0)++[];rw [List.append_nil];rfl),Lib.hid (Below.refl _ _)⟩
  case round=>
    obtain⟨m,S,rfl,rfl,hz,hm,hp,hd,hb⟩:=hrel
    by_cases hgo:0 < m∨S.size < l
    · have hz1:S.size < 20:=by
        have h2:=hp.out
        rcases Nat.lt_or_ge S.size 20 with h | h
        · exact h
        · have e:20 - S.size - 1=0:=by omega
          rw [e] at h2
          have:m < 1:=h2
          omega
      have hp2:Hid (m / 10 < 10 ^ (20 - (S.size+1) - 1)):=by
        have h2:=hp.out
        show _ < _
        by_cases e:S.size=19
        · rw [e] at h2 ⊢
          have:m < 1:=h2
          show m / 10 < 1
          omega
        · rw [show 20 - S.size - 1=(20 - (S.size+1) - 1)+1 from by omega,Nat.pow_succ] at h2
          omega
      have hd2:Hid (digL n l=digF (20 - (S.size+1)) (m / 10) (l - (S.size+1))++(UInt8.ofNat (48+m % 10) :: S.data.toList)):=by
        show _=_
        rw [hd.out,show 20 - S.size=(20 - (S.size+1))+1 from by omega,digF_step _ _ _ (by omega),List.append_assoc]
        rfl
      have hgo2:0 < (m:Int)∨(m:Int)≤0∧(S.size:Int) < (l:Int):=by omega
      have hof:UInt8.ofNat (48+m % 10)=48+UInt8.ofNat (m % 10):=by rw [UInt8.ofNat_add];rfl
      rw [hof] at hd2
      have hnext:Hid (∃ (m2:Nat) (S2:ByteArray),Value.int .i64 ((m:Int) / 10)=.int .i64 (m2:Int)∧Value.string (⟨#[48+UInt8.ofNat (m % 10)]⟩++S)=.string S2∧S2.size≤20∧m2≤1000000000000000000∧Hid (m2 < 10 ^ (20 - S2.size - 1))∧Hid (digL n l=digF (20 - S2.size) m2 (l - S2.size)++S2.data.toList)):=by
        have z1:(ByteArray.mk #[48+UInt8.ofNat (m % 10)]++S).size=S.size+1:=by
          rw [ByteArray.size_append]
          have:(ByteArray.mk #[48+UInt8.ofNat (m % 10)]).size=1:=rfl
          omega
        refine⟨m / 10,_,rfl,rfl,by omega,by omega,by rw [z1];exact hp2,?_⟩
        rw [z1]
        show _=_
        rw [hd2.out]
        congr 1
      have hbn:Hid (∀ z:Int,Below w.heap.size w (wr.alloc (.cells #[.int .u8 z] 5))):=fun z=>hb.out.alloc hb.out.size _
      have hms:20 - Lib.strSize (.string (⟨#[48+UInt8.ofNat (m % 10)]⟩++S)) < 20 - Lib.strSize (.string S):=by
        rw [Lib.strSize_string,Lib.strSize_string,ByteArray.size_append]
        have:(ByteArray.mk #[48+UInt8.ofNat (m % 10)]).size=1:=rfl
        omega
      have HMS:=Lib.hid hms
      clear hp hd hgo hof hd2 hp2 hms HN19 hn
      rcases hgo2 with h | ⟨h,h'⟩
      · go_wp2
        go_round
        case rel=>
          obtain⟨m2,S2,q1,q2,q3,q4,q5,q6⟩:=hnext.out
          exact⟨m2,S2,q1,q2,q3,q4,q5,q6,Lib.hid (hbn.out _)⟩
        case measure=>exact HMS.out
      · obtain rfl:m=0:=by omega
        clear h
        go_wp2
        go_round
        case rel=>
          obtain⟨m2,S2,q1,q2,q3,q4,q5,q6⟩:=hnext.out
          exact⟨m2,S2,q1,q2,q3,q4,q5,q6,Lib.hid (hbn.out _)⟩
        case measure=>exact HMS.out
    · have h1:(m:Int)≤0:=by omega
      have h2:(l:Int)≤(S.size:Int):=by omega
      have hres:Hid (digL n l=S.data.toList):=by
        have h3:=hd.out
        rw [show m=0 from by omega,show l - S.size=0 from by omega,digF_stop] at h3
        exact h3
      clear hp hd hgo HN19 hn hm
      go_wp2
      go_ret
      exact⟨by rw [hres.out,B_toList];rfl,hb.out⟩
theorem digF_enough (f:Nat):∀ n l,n < 10 ^ f→l≤f→digF (f+1) n l=digF f n l:=by
  induction f with
  | zero=>
    intro n l h1 h2
    have:n < 1:=h1
    rw [show n=0 from by omega,show l=0 from by omega]
    rfl
  | succ f ih=>
    intro n l h1 h2
    by_cases h:0 < n∨0 < l
    · rw [digF_step (f+1) n l h,digF_step f n l h,ih (n / 10) (l - 1) (by rw [Nat.pow_succ] at h1;omega) (by omega)]
    · rw [show n=0 from by omega,show l=0 from by omega,digF_stop,digF_stop]
theorem digL_step (n l:Nat) (hn:n≤1000000000000000000) (hl:l≤18) (h:0 < n∨0 < l):digL n l=digL (n / 10) (l - 1)++[UInt8.ofNat (48+n % 10)]:=by
  unfold digL
  rw [digF_step 19 n l h, ← digF_enough 19 (n / 10) (l - 1) (by have : (10 : Nat) ^ 19 = 10000000000000000000 := by decide
                                                                omega) (by omega)]
theorem ofNat_48 (m:Nat) (h:m < 10):UInt8.ofNat (48+m)=48↔m=0:=by
  constructor
  · intro k
    have:=congrArg UInt8.toNat k
    simp at this
    omega
  · rintro rfl;rfl
def tailB (r f:Nat):List UInt8:=if r=0 then [] else Lib.trimRightB (46 :: digL r f) 48
theorem trim_down (r f:Nat) (hr:0 < r) (h:r % 10=0) (hm:r≤1000000000000000000) (hf:f≤18):Lib.trimRightB (46 :: digL r f) 48=Lib.trimRightB (46 :: digL (r / 10) (f - 1)) 48:=by
  rw [digL_step r f hm hf (.inl hr),(ofNat_48 (r % 10) (by omega)).2 h,← List.cons_append,trimR_eq]
theorem trim_stay (r f:Nat) (hr:0 < r) (h:r % 10≠0) (hm:r≤1000000000000000000) (hf:f≤18):Lib.trimRightB (46 :: digL r f) 48=46 :: digL r f:=by
  rw [digL_step r f hm hf (.inl hr),← List.cons_append,trimR_ne _ _ _ (fun k=>h ((ofNat_48 (r % 10) (by omega)).1 k))]
set_option maxRecDepth 8000 in
set_option maxHeartbeats 2000000 in
theorem r23behind_any (r f:Nat) (w:World) (hm:r≤1000000000000000000) (hf:f≤18) (hrf:r < 10 ^ f) :
    Calls Tryz.prog 188 #[.int .i64 (r:Int),.int .i64 (f:Int)] w fun e w'=>e=.returned (.string (toB (tailB r f)))∧Below w.heap.size w w':=by
  by_cases h0:r=0
  · subst h0
    have ht:tailB 0 f=[]:=rfl
    rw [ht]
    clear hrf
    go_enter Tryz.func188,Tryz.ntmps188
    go_wp2
    go_ret
    exact⟨rfl,Below.refl _ _⟩
  · have hr0:0 < (r:Int):=by omega
    have ht:Hid (tailB r f=Lib.trimRightB (46 :: digL r f) 48):=by show tailB r f=_;unfold tailB;rw [if_neg h0]
    have HRF:=Lib.hid hrf
    clear hrf
    go_enter Tryz.func188,Tryz.ntmps188
    go_wp2
    go_loop [0,1] (fun v u=>∃ r2 f2:Nat,v=.int .i64 (r2:Int)∧u=.int .i64 (f2:Int)∧0 < (r2:Int)∧r2≤1000000000000000000∧f2≤18∧Hid (r2 < 10 ^ f2)∧Hid (tailB r f=Lib.trimRightB (46 :: digL r2 f2) 48)) (fun v _=>(intOf v).toNat)
    case atStart=>exact⟨r,f,rfl,rfl,hr0,hm,hf,HRF,ht⟩
    case round=>
      obtain⟨r2,f2,rfl,rfl,k0,k1,k2,k3,k4⟩:=hrel
      by_cases h:r2 % 10=0
      · have hb:(((r2:Int) % 10)==0)=true:=by rw [beq_iff_eq];omega
        have k5:Hid (r2 / 10 < 10 ^ (f2 - 1)):=by
          have h2:=k3.out
          show _ < _
          cases f2 with
          | zero=>have:r2 < 1:=h2;omega
          | succ g=>rw [Nat.pow_succ] at h2;rw [Nat.add_sub_cancel];omega
        have k6:Hid (tailB r f=Lib.trimRightB (46 :: digL (r2 / 10) (f2 - 1)) 48):=by
          show tailB r f=_
          rw [k4.out,trim_down r2 f2 (by omega) h k1 k2]
        have k7:1≤f2:=by
          have h2:=k3.out
          rcases Nat.eq_zero_or_pos f2 with e | e
          · rw [e] at h2;have:r2 < 1:=h2;omega
          · exact e
        have k8:0 < (r2:Int) / 10:=by omega
        clear h k3 k4
        go_wp2
        go_round
        case rel=>exact⟨r2 / 10,f2 - 1,by go_num,by go_num,by omega,by omega,by omega,k5,k6⟩
        case measure=>simp [intOf];omega
      · have hb:(((r2:Int) % 10)==0)=false:=by rw [beq_eq_false_iff_ne];omega
        have k6:Hid (tailB r f=46 :: digL r2 f2):=by
          show tailB r f=_
          rw [k4.out,trim_stay r2 f2 (by omega) h k1 k2]
        have k7:Hid (toB (tailB r f)=⟨#[46]⟩++toB (digL r2 f2)):=by
          show _=_
          rw [k6.out]
          exact (toB_append [46] _).symm
        have hsz:(toB (digL r2 f2)).size≤20:=by rw [size_B];exact digF_len 20 r2 f2
        have HD:=fun W=>Lib.hid (r23Digits_any r2 f2 W k1 k2)
        generalize toB (digL r2 f2)=S at *
        clear h k3 k4 k6
        go_wp2_with fail
        refine (HD _).out.mono ?_
        rintro e w1 ⟨rfl,hb1⟩
        go_wp2_with fail
        go_ret
        exact⟨by rw [k7.out];rfl,hb1⟩
def pointL (n whole f:Nat):List UInt8:=digL (n / 10 ^ f) whole++tailB (n % 10 ^ f) f
set_option maxRecDepth 8000 in
set_option maxHeartbeats 2000000 in
theorem pointed_any (n whole f:Nat) (w:World) (hn:n≤1000000000000000000) (hw:whole≤18) (hf:f≤17) :
    Calls Tryz.prog 240 #[.int .i64 (n:Int),.int .i64 (whole:Int),.int .i64 (f:Int)] w fun e w'=>e=.returned (.string (toB (pointL n whole f)))∧Below w.heap.size w w':=by
  have hT:=fun W=>Lib.hid (ten_any f W (by omega))
  have t1:=tenI_pos f
  have t2:=tenI_le hf
  rw [tenI_17] at t2
  have hq:(n:Int) / tenI f=((n / 10 ^ f:Nat):Int):=by unfold tenI;rw [Int.natCast_ediv]
  have hr:(n:Int) % tenI f=((n % 10 ^ f:Nat):Int):=by unfold tenI;rw [Int.natCast_emod]
  have hq1:n / 10 ^ f≤1000000000000000000:=Nat.le_trans (Nat.div_le_self _ _) hn
  have hr1:n % 10 ^ f≤1000000000000000000:=Nat.le_trans (Nat.mod_le _ _) hn
  have HP:Hid (pointL n whole f=digL (n / 10 ^ f) whole++tailB (n % 10 ^ f) f):=rfl
  generalize n / 10 ^ f=q at *
  generalize n % 10 ^ f=r at *
  generalize tenI f=T at *
  have HD:=fun W=>Lib.hid (digits_any q whole W hq1 hw)
  have HD2:=fun W=>Lib.hid (digits_any r f W hr1 (by omega))
  have hA:(toB (digL q whole)).size≤20:=by rw [size_B];exact digF_len 20 q whole
  have hB:(toB (digL r f)).size≤20:=by rw [size_B];exact digF_len 20 r f
  change ∀ W,Hid (Calls Tryz.prog 241 #[.int .i64 (q:Int),.int .i64 (whole:Int)] W fun e w'=>e=.returned (.string (toB (digL q whole)))∧Below W.heap.size W w') at HD
  change ∀ W,Hid (Calls Tryz.prog 241 #[.int .i64 (r:Int),.int .i64 (f:Int)] W fun e w'=>e=.returned (.string (toB (digL r f)))∧Below W.heap.size W w') at HD2
  by_cases h0:r=0
  · subst h0
    have HR:Hid (toB (pointL n whole f)=toB (digL q whole)):=by
      show _=_
      rw [HP.out]
      show toB (digL q whole++[])=_
      rw [List.append_nil]
    clear HP HD2 hB hr1
    generalize toB (digL q whole)=A at *
    go_enter Tryz.func240,Tryz.ntmps240
    go_wp2_with fail
    refine (hT _).out.mono ?_
    rintro e w' ⟨rfl,rfl⟩
    go_wp2_with fail
    refine (HD _).out.mono ?_
    rintro e w1 ⟨rfl,hb1⟩
    go_wp2_with fail
    refine (hT _).out.mono ?_
    rintro e w' ⟨rfl,rfl⟩
    go_wp2_with fail
    go_ret
    exact⟨by rw [HR.out];rfl,hb1⟩
  · have hne:((r:Int) != 0)=true:=by rw [bne_iff_ne];omega
    have hBl:(toB (digL r f)).data.toList=digL r f:=toList_B _
    have hC:(⟨#[46]⟩++toB (digL r f):ByteArray).size≤21∧0 < (⟨#[46]⟩++toB (digL r f):ByteArray).size:=by
      have h1:(ByteArray.mk #[46]).size=1:=rfl
      rw [ByteArray.size_append];omega
    have hl:(⟨#[46]⟩++toB (digL r f):ByteArray).data.toList=46 :: digL r f:=by
      show (toB [46]++toB (digL r f)).data.toList=_
      rw [toB_append,toList_B];rfl
    have HTR:=fun W=>Lib.hid (trimRight_any (⟨#[46]⟩++toB (digL r f)) W (by omega) hC.2)
    rw [hl] at HTR
    have ht:tailB r f=Lib.trimRightB (46 :: digL r f) 48:=by unfold tailB;rw [if_neg h0]
    rw [← ht] at HTR
    have hD:(toB (tailB r f)).size≤21:=by
      rw [size_B,ht]
      have h1:(digL r f).length≤20:=digF_len 20 r f
      unfold Lib.trimRightB
      rw [List.length_reverse]
      have h2:=(List.dropWhile_suffix (fun x=>x==(48:UInt8)) (l:=(46 :: digL r f).reverse)).length_le
      rw [List.length_reverse,List.length_cons] at h2
      omega
    have HR:Hid (toB (pointL n whole f)=toB (digL q whole)++toB (tailB r f)):=by
      show _=_
      rw [HP.out,toB_append]
    clear HP hBl hl ht h0
    generalize toB (tailB r f)=D at *
    generalize toB (digL q whole)=A at *
    generalize toB (digL r f)=B at *
    go_enter Tryz.func240,Tryz.ntmps240
    go_wp2_with fail
    refine (hT _).out.mono ?_
    rintro e w' ⟨rfl,rfl⟩
    go_wp2_with fail
    refine (HD _).out.mono ?_
    rintro e w1 ⟨rfl,hb1⟩
    go_wp2_with fail
    refine (hT _).out.mono ?_
    rintro e w' ⟨rfl,rfl⟩
    go_wp2_with fail
    refine (HD2 _).out.mono ?_
    rintro e w2 ⟨rfl,hb2⟩
    go_wp2_with fail
    refine (HTR _).out.mono ?_
    rintro e w' ⟨rfl,rfl⟩
    go_wp2_with fail
    go_ret
    exact⟨by rw [HR.out];rfl,bthen hb1 hb2⟩
theorem toList_inj {a b:ByteArray} (h:a.toList=b.toList):a=b:=by
  rw [ByteArray.toList_eq,ByteArray.toList_eq] at h
  obtain⟨⟨l⟩⟩:=a
  obtain⟨⟨m⟩⟩:=b
  simp at h
  rw [h]
theorem beq_text (a b:ByteArray):(a.toList==b.toList)=decide (a=b):=by
  by_cases h:a=b
  · subst h;simp
  · rw [decide_eq_false h,beq_eq_false_iff_ne]
    exact fun k=>h (toList_inj k)
set_option maxHeartbeats 1000000 in
theorem r22Texts_len (A B:Option Addr) (n m c d:Nat) (w:World) (h:n≠m) :
    Calls Tryz.prog 42 #[.slice A n c,.slice B m d] w fun e w'=>e=.returned (.bool false)∧Below w.heap.size w w':=by
  have hb:((n:Int) != (m:Int))=true:=by rw [bne_iff_ne];omega
  go_enter Tryz.func42,Tryz.ntmps42
  go_wp2
  go_ret
  exact⟨rfl,Below.refl _ _⟩
set_option maxHeartbeats 2000000 in
theorem r22Texts_eq (A B:Option Addr) (fs gs:List ByteArray) (n c d:Nat) (w:World) (h0:n≤maxLen) (hf:Hid (fs.length=n)) (hg:Hid (gs.length=n)) (hA:Hid (Strs w w.heap.size A fs)) (hB:Hid (Strs w w.heap.size B gs)) :
    Calls Tryz.prog 42 #[.slice A n c,.slice B n d] w fun e w'=>e=.returned (.bool (decide (fs=gs)))∧Below w.heap.size w w':=by
  unfold maxLen at h0
  have hb:((n:Int) != (n:Int))=false:=by rw [bne_eq_false_iff_eq]
  go_enter Tryz.func42,Tryz.ntmps42
  go_wp2
  go_loopw [5] (fun i wr=>∃ k nq:Nat,k≤n∧i=.int .i64 k∧wr=w.drewN nq∧Hid (∀ j,j < k→fs[j]?=gs[j]?)) (fun i _=>n - (intOf i).toNat)
  case atStart=>exact⟨0,0,Nat.zero_le _,rfl,rfl,fun j h=>absurd h (Nat.not_lt_zero _)⟩
  case round=>
    obtain⟨k,nq,hk,rfl,rfl,hall⟩:=hrel
    by_cases hlt:k < n
    · have hkf:k < fs.length:=by rw [hf.out];exact hlt
      have hkg:k < gs.length:=by rw [hg.out];exact hlt
      obtain⟨a1,o1,hA1,hb1,hc1⟩:=hA.out k hkf
      obtain⟨a2,o2,hA2,hb2,hc2⟩:=hB.out k hkg
      subst hA1 hA2
      have i1:(0:Int)≤(k:Int):=Int.natCast_nonneg _
      have i2:(k:Int) < (n:Int):=by omega
      have hf?:Hid (fs[k]?=some fs[k]):=List.getElem?_eq_getElem hkf
      have hg?:Hid (gs[k]?=some gs[k]):=List.getElem?_eq_getElem hkg
      generalize fs[k]=f at hc1 hf?
      generalize gs[k]=g at hc2 hg?
      by_cases hfg:f=g
      · have ht:(f.toList==g.toList)=true:=by rw [beq_text,decide_eq_true hfg]
        have HE:=Lib.hid hfg
        clear hfg
        go_wp2_with fail
        go_quiet (fail)
        go_wp2_with fail
        go_roundw
        case rel=>
          refine⟨k+1,_,by omega,by go_num,rfl,fun j hj=>?_⟩
          rcases Nat.lt_or_ge j k with h | h
          · exact hall.out j h
          · obtain rfl:j=k:=by omega
            rw [hf?.out,hg?.out,HE.out]
        case measure=>simp [intOf];omega
      · have ht:(f.toList==g.toList)=false:=by rw [beq_text,decide_eq_false hfg]
        have HN:Hid (decide (fs=gs)=false):=decide_eq_false (fun h=>hfg (by have h1:=hf?.out;have h2:=hg?.out;rw [h] at h1;rw [h1] at h2;injection h2))
        clear hfg
        go_wp2_with fail
        go_quiet (fail)
        go_wp2_with fail
        go_ret
        exact⟨by rw [HN.out];rfl,bdrewN (bdrewN (Below.refl _ _) _) _⟩
    · have HY:Hid (decide (fs=gs)=true):=by
        refine decide_eq_true (List.ext_getElem? fun j=>?_)
        rcases Nat.lt_or_ge j k with h | h
        · exact hall.out j h
        · rw [List.getElem?_eq_none (by rw [hf.out];omega),List.getElem?_eq_none (by rw [hg.out];omega)]
      go_wp2_with fail
      go_ret
      exact⟨by rw [HY.out];rfl,bdrewN (Below.refl _ _) _⟩
theorem r22Texts_any (A B:Option Addr) (fs gs:List ByteArray) (c d:Nat) (w:World) (h0:fs.length≤maxLen) (hA:Strs w w.heap.size A fs) (hB:Strs w w.heap.size B gs) :
    Calls Tryz.prog 42 #[.slice A fs.length c,.slice B gs.length d] w fun e w'=>e=.returned (.bool (decide (fs=gs)))∧Below w.heap.size w w':=by
  by_cases h:fs.length=gs.length
  · rw [← h]
    exact r22Texts_eq A B fs gs _ c d w h0 rfl h.symm hA hB
  · rw [decide_eq_false (fun k=>h (by rw [k]))]
    exact r22Texts_len A B _ _ c d w h
set_option maxHeartbeats 2000000 in
theorem r22Same_any (t1 y1 t2 y2:ByteArray) (A B:Option Addr) (fs gs:List ByteArray) (c d:Nat) (w:World) (h0:fs.length≤maxLen) (hA:Strs w w.heap.size A fs) (hB:Strs w w.heap.size B gs) :
    Calls Tryz.prog 20 #[.agg #[.string t1,.string y1,.slice A fs.length c],.agg #[.string t2,.string y2,.slice B gs.length d]] w fun e w'=>e=.returned (.bool (decide (t1=t2∧y1=y2∧fs=gs)))∧Below w.heap.size w w':=by
  have b2:∀ o1 o2,Below w.heap.size w ((w.alloc o1).alloc o2):=fun o1 o2=>(below_new _ _).alloc (by simp) _
  have hT:∀ o1 o2,Hid (Calls Tryz.prog 42 #[.slice A fs.length c,.slice B gs.length d] ((w.alloc o1).alloc o2) fun e w'=>e=.returned (.bool (decide (fs=gs)))∧Below ((w.alloc o1).alloc o2).heap.size ((w.alloc o1).alloc o2) w'):=fun o1 o2=>
    r22Texts_any A B fs gs c d _ h0 ((hA.below (b2 o1 o2) (Nat.le_refl _)).more (by simp;omega)) ((hB.below (b2 o1 o2) (Nat.le_refl _)).more (by simp;omega))
  have HB:=Lib.hid b2
  clear b2 hA hB h0
  by_cases h1:t1=t2
  · have k1:(t1.toList==t2.toList)=true:=by rw [beq_text,decide_eq_true h1]
    by_cases h2:y1=y2
    · have k2:(y1.toList==y2.toList)=true:=by rw [beq_text,decide_eq_true h2]
      have HE:Hid (decide (t1=t2∧y1=y2∧fs=gs)=decide (fs=gs)):=by show _=_;simp [h1,h2]
      rw [HE.out]
      clear h1 h2
      generalize decide (fs=gs)=b at *
      generalize fs.length=n at *
      generalize gs.length=m at *
      go_enter Tryz.func20,Tryz.ntmps20
      go_wp2_with fail
      refine (hT _ _).out.mono ?_
      rintro e w1 ⟨rfl,hb1⟩
      go_wp2_with fail
      go_ret
      exact⟨rfl,(HB.out _ _).trans (hb1.mono (by simp;omega))⟩
    · have k2:(y1.toList==y2.toList)=false:=by rw [beq_text,decide_eq_false h2]
      have HE:Hid (decide (t1=t2∧y1=y2∧fs=gs)=false):=by show _=_;simp [h2]
      rw [HE.out]
      clear h1 h2
      go_enter Tryz.func20,Tryz.ntmps20
      go_wp2_with fail
      go_ret
      exact⟨rfl,HB.out _ _⟩
  · have k1:(t1.toList==t2.toList)=false:=by rw [beq_text,decide_eq_false h1]
    have HE:Hid (decide (t1=t2∧y1=y2∧fs=gs)=false):=by show _=_;simp [h1]
    rw [HE.out]
    clear h1
    go_enter Tryz.func20,Tryz.ntmps20
    go_wp2_with fail
    go_ret
    exact⟨rfl,HB.out _ _⟩
theorem addr_addQ (b off j:Nat):(⟨b,off,none⟩:Addr).add j=⟨b,off+j,none⟩:=by unfold Addr.add;split <;> simp_all
def FlatQ (Q:Nat→Prop) (w:World) (A:Option Addr) (xs:List Value):Prop:=∀ (j:Nat) u,xs[j]?=some u→∃ b off,A=some ⟨b,off,none⟩∧Q b∧w.cell? ⟨b,off+j,none⟩=some u
theorem FlatQ.nil (Q:Nat→Prop) (w:World) (A:Option Addr):FlatQ Q w A []:=fun j u hu=>by simp at hu
theorem FlatQ.less {Q R:Nat→Prop} {w:World} {A:Option Addr} {xs:List Value} (h:FlatQ Q w A xs) (hr:∀ b,Q b→R b):FlatQ R w A xs:=fun j u hu=>by
  obtain⟨b,off,h1,h2,h3⟩:=h j u hu
  exact⟨b,off,h1,hr b h2,h3⟩
theorem FlatQ.keep {Q:Nat→Prop} {w w':World} {A:Option Addr} {xs:List Value} (h:FlatQ Q w A xs) (hk:∀ b,Q b→w'.heap[b]?=w.heap[b]?):FlatQ Q w' A xs:=fun j u hu=>by
  obtain⟨b,off,h1,h2,h3⟩:=h j u hu
  exact⟨b,off,h1,h2,(World.cell?_of_block (a:=⟨b,off+j,none⟩) (hk b h2)).trans h3⟩
theorem FlatQ.below {Q:Nat→Prop} {w w':World} {A:Option Addr} {xs:List Value} {B:Nat} (h:FlatQ Q w A xs) (hb:Below B w w') (hq:∀ b,Q b→b < B):FlatQ Q w' A xs:=h.keep fun b hq'=>hb.block b (hq b hq')
theorem FlatQ.lt {Q:Nat→Prop} {w:World} {A:Option Addr} {xs:List Value} (h:FlatQ Q w A xs):FlatQ (fun b=>Q b∧b < w.heap.size) w A xs:=fun j u hu=>by
  obtain⟨b,off,h1,h2,h3⟩:=h j u hu
  exact⟨b,off,h1,⟨h2,World.block_lt_of_cell? w _ h3⟩,h3⟩
theorem flatq_own {w:World} {base:Nat} {e:TypeId} {size n:Nat} {v:Value} {xs:List Value} (h:w.ownsRow base e size v n xs):∃ A c,v=.slice A n c∧n≤c∧FlatQ (fun b=>base≤b∧b < w.heap.size) w A xs∧(A=none→n=0∧c=0):=by
  rcases h.2 with ⟨hv,h0⟩ | ⟨g,cap,cur,hv,hb,hg,hcap,-⟩
  · have hx:xs=[]:=List.eq_nil_of_length_eq_zero (by rw [h.1,h0];simp)
    exact⟨none,0,by rw [hv,h0],by omega,by rw [hx];exact FlatQ.nil _ _ _,fun _=>⟨h0,rfl⟩⟩
  · subst hv
    exact⟨some ⟨g,0,none⟩,cap,rfl,hcap,fun j u hu=>⟨g,0,rfl,⟨hb,(Array.getElem?_eq_some_iff.1 hg).1⟩,by have:=h.cells (g:=g) rfl j u hu;rw [addr_addQ] at this;exact this⟩,fun q=>by cases q⟩
section
variable {P : Program}
theorem run_append_mine (w:World) (t ty e:TypeId) (i:TypeInfo) (z:Value) (size bytes:Nat) (h1:P.underlying t=some (.slice e)) (h2:P.info? e=some i) (h3:i.zero=some z) (h4:i.size=size) (h5:i.bytes=bytes) (h6:z.cells.size=size) (h7:0 < size)
    {R:Nat→Prop} (base:Nat) (v:Value) (n:Nat) (xs:List Value) (hown:w.ownsRow base e size v n xs)
    (X:Option Addr) (m c:Nat) (news:List Value) (hn:news.length=m * size) (hc:FlatQ R w X news) (h1c:∀ u∈news,u.oneCell'=true)
    (b1:n+m≤maxLen) (b2:(n+m) * bytes≤140737488355328) (hb:base≤w.heap.size) :
    ∃ v' w',(Builtin.append_ #[t,t] ty #[v,.slice X m c]).run P w=.ok v' w'∧w'.ownsRow base e size v' (n+m) (xs++news)∧w.grownBy w' v.ownBlock∧(v'.ownBlock=v.ownBlock∨v'.ownBlock=some w.heap.size):=by
  by_cases hm:m=0
  · subst hm
    obtain rfl:news=[]:=List.eq_nil_of_length_eq_zero (by rw [hn];simp)
    obtain⟨A,cap,rfl,hcap,-,-⟩:=flatq_own hown
    have hrun:=run_append_nothing (P:=P) w t t ty e i h1 h2 A n cap hcap (.slice X 0 c) ⟨.inl ⟨e,h1⟩,fun w'=>by simp [Builtin.lenOf],by cases X <;> simp [Builtin.firstCells,h4,loadCells,loadCellsFrom],by cases X <;> simp [Builtin.firstCells,h4,loadCells,loadCellsFrom],by simp,fun u hu=>by cases hu⟩
    exact⟨_,w,hrun,by rw [List.append_nil];exact hown,⟨rfl,rfl,rfl,Nat.le_refl _,fun _ _ _=>rfl⟩,.inl rfl⟩
  · have hpos:0 < news.length:=by rw [hn];exact Nat.mul_pos (by omega) h7
    obtain⟨xb,xo,hX,-,-⟩:=hc 0 news[0] (List.getElem?_eq_getElem hpos)
    subst hX
    have hnews:∀ j u,news[j]?=some u→w.cell? ((⟨xb,xo,none⟩:Addr).add j)=some u:=fun j u hu=>by
      obtain⟨b',off,e1,-,e3⟩:=hc j u hu
      injection e1 with e1
      injection e1 with e1 e2
      subst e1 e2
      rw [addr_addQ]
      exact e3
    obtain⟨v',w',hr,h8,h9,-,h10⟩:=run_append_own_at (P:=P) w base t ty e i z size bytes h1 h2 h3 h4 h5 h6 h7 v n xs hown ⟨xb,xo,none⟩ m c news hn hnews h1c b1 b2 hb
    exact⟨v',w',hr,h8,h9,h10⟩
theorem wp_append_known {w W:World} {o:Oper} {a:Act} {K:Act→World→Prop} {Q:Exit→Act→World→Prop} (s x:Operand) (t:TypeId)
    (ho:o.op=.call { callee:=.builtin .append,args:=#[s,x],argTypes:=#[t,t] }) (v u r:Value) (hs:a.eval s=v) (hx:a.eval x=u)
    (hr:(Builtin.append_ #[t,t] o.type #[v,u]).run P w=.ok r W) (h:K (a.put o.dst r) W):o.wp P a w K Q:=by
  unfold Oper.wp execOp
  simp only [ho,resolve,invoke,builtin,Sem.run_bind,Sem.run_pure,Result.andThen_ok,List.map_toArray,List.map_cons,List.map_nil,hs,hx,hr]
  exact h
theorem wpList_append_known {w W:World} {ops:Array Oper} {rest:List Oper} {o:Oper} {a:Act} {Q:Exit→Act→World→Prop} (hgd:o.guard=none) (s x:Operand) (t:TypeId)
    (ho:o.op=.call { callee:=.builtin .append,args:=#[s,x],argTypes:=#[t,t] }) (v u r:Value) (hs:a.eval s=v) (hx:a.eval x=u)
    (hr:(Builtin.append_ #[t,t] o.type #[v,u]).run P w=.ok r W) (h:wpList P ops Q rest (a.put o.dst r) W):wpList P ops Q (o :: rest) a w:=
  wpList_plain hgd fun _ hK=>wp_append_known s x t ho v u r hs hx hr (hK _ _ h)
end
open Go.ChangeShapes Go.WideShapes Go.ChangeAt Go.RowKit Go.Joins Go.Deep
section
variable {H : Type} {enc : TypeId × Value → H} {P : Program} {w : World} {base : Nat} {spare : Nat → Bool} {held : Bool}
end
end Go.Proofs.YtoabkoniegmkaaaGreat
