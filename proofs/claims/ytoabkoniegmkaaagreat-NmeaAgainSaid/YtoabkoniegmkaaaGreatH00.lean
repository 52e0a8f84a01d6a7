/- General small lemmas over any program: texts, bytes, the worlds of a walk. -/
import Derived.WalkKit
import Derived.WalkSpells
import Derived.WalkLawsBesides
import Derived.Lib.Hide
import Derived.Deep.MidRow
import Derived.Deep.Upon
import Derived.Test.YtoabkoniegmkaaaGreatProg
import Derived.Deep.RegionHeld
import Derived.BigQuiet
import Derived.Lib.TrimByte
import Derived.Deep.AppendLies
import Derived.ArgAppend
import Derived.Laws.IdiomCopy
namespace Go.Proofs.YtoabkoniegmkaaaGreat
set_option linter.unusedVariables false
open Go.RowKit
theorem ret_u8 {a b:Int} (h:a=b):Ending.returned (.int .u8 a)=.returned (.int .u8 b):=by rw [h]
theorem ret_i64 {a b:Int} (h:a=b):Ending.returned (.int .i64 a)=.returned (.int .i64 b):=by rw [h]
theorem ret_bool {a b:Bool} (h:a=b):Ending.returned (.bool a)=.returned (.bool b):=by rw [h]
theorem bthen {w w1 w2:World} (h1:Below w.heap.size w w1) (h2:Below w1.heap.size w1 w2):Below w.heap.size w w2:=h1.trans (h2.mono h1.size)
theorem bdrewN {B:Nat} {a w:World} (h:Below B a w) (n:Nat):Below B a (w.drewN n):=⟨h.os,h.tape,h.output,h.size,h.block⟩
theorem bdrew {B:Nat} {a w:World} (h:Below B a w):Below B a w.drew:=⟨h.os,h.tape,h.output,h.size,h.block⟩
theorem take_snoc (s:ByteArray) (k:Nat) (h:k < s.size):s.data.toList.take (k+1)=s.data.toList.take k++[s[k]]:=by
  rw [List.take_succ_eq_append_getElem (by simpa using h)];rfl
theorem xor_u8 (a b:UInt8):Value.int IntKind.u8 (bits BinOp.xor IntKind.u8 (a.toNat:Int) (b.toNat:Int))=Value.int IntKind.u8 ((a ^^^ b).toNat:Int):=by
  rw [u8_xor_nat _ _ a.toNat_lt b.toNat_lt,UInt8.toNat_xor]
theorem run_conv_row {P:Program} (w:World) (src dst e:TypeId) (a:Addr) (cap:Nat) (ns:List Int)
    (hs:P.underlying src=some (.slice e)) (he:P.underlying e=some (.int .u8)) (hd:P.underlying dst=some .string)
    (hc:∀ j (hj:j < ns.length),w.cell? (a.add j)=some (.int .u8 ns[j])) :
    (convert src dst (.slice (some a) ns.length cap)).run P w=.ok (.string ⟨(ns.map fun n=>UInt8.ofNat n.toNat).toArray⟩) w:=by
  rw [run_convert_bytes_string w src dst e (some a) ns.length cap hs he hd]
  have hl:=run_loadCells_list (P:=P) w a (ns.map (Value.int .u8)) (fun j v hj=>by
    have hjl:j < ns.length:=by
      rcases Nat.lt_or_ge j ns.length with h | h
      · exact h
      · simp [List.getElem?_eq_none (show (ns.map (Value.int .u8)).length≤j by simpa using h)] at hj
    rw [hc j hjl]
    simpa [List.getElem?_eq_getElem hjl] using hj)
  rw [List.length_map] at hl
  rw [run_bytesToString w a ns.length cap ns hl]
  congr 2
  have:∀ (l:List Int) (r:ByteArray),l.foldl (fun r n=>r.push (UInt8.ofNat n.toNat)) r=⟨r.data++(l.map fun n=>UInt8.ofNat n.toNat).toArray⟩:=by
    intro l
    induction l with
    | nil=>intro r;simp
    | cons n l ih=>
      intro r
      simp only [List.foldl_cons,List.map_cons]
      rw [ih]
      congr 1
      apply Array.ext'
      simp [ByteArray.push]
  rw [this]
  simp
theorem run_conv1 {P:Program} (src dst e:TypeId) (hs:P.underlying src=some (.slice e)) (he:P.underlying e=some (.int .u8)) (hd:P.underlying dst=some .string)
    (w:World) (a:Int) (n:Nat) (hn:n=w.heap.size) :
    (convert src dst (.slice (some ⟨n,0,none⟩) 1 1)).run P (w.alloc (.cells #[.int .u8 a] e))=.ok (.string ⟨#[UInt8.ofNat a.toNat]⟩) (w.alloc (.cells #[.int .u8 a] e)):=by
  subst hn
  exact run_conv_row (w.alloc (.cells #[.int .u8 a] e)) src dst e ⟨w.heap.size,0,none⟩ 1 [a] hs he hd (fun j hj=>by
    have:j=0:=by simp at hj;omega
    subst this
    simp [Addr.add,World.cell?_alloc_new])
theorem run_conv2 {P:Program} (src dst e:TypeId) (hs:P.underlying src=some (.slice e)) (he:P.underlying e=some (.int .u8)) (hd:P.underlying dst=some .string)
    (w:World) (a b:Int) (n:Nat) (hn:n=w.heap.size) :
    (convert src dst (.slice (some ⟨n,0,none⟩) 2 2)).run P (w.alloc (.cells #[.int .u8 a,.int .u8 b] e))=.ok (.string ⟨#[UInt8.ofNat a.toNat,UInt8.ofNat b.toNat]⟩) (w.alloc (.cells #[.int .u8 a,.int .u8 b] e)):=by
  subst hn
  exact run_conv_row (w.alloc (.cells #[.int .u8 a,.int .u8 b] e)) src dst e ⟨w.heap.size,0,none⟩ 2 [a,b] hs he hd (fun j hj=>by
    have hj2:j < 2:=by simpa using hj
    have:j=0∨j=1:=by omega
    rcases this with rfl | rfl <;> simp [Addr.add,World.cell?_alloc_new])
def Strs (w:World) (B:Nat) (A:Option Addr) (fs:List ByteArray):Prop:=
  ∀ k (hk:k < fs.length),∃ b off,A=some ⟨b,off,none⟩∧b < B∧w.cell? ⟨b,off+k,none⟩=some (.string (fs[k]'hk))
theorem Strs.keep {w w':World} {B:Nat} {A:Option Addr} {fs:List ByteArray} (h:Strs w B A fs) (hk:∀ p:Addr,p.block < B→w'.cell? p=w.cell? p):Strs w' B A fs:=by
  intro k hk'
  obtain⟨b,off,hA,hb,hc⟩:=h k hk'
  exact⟨b,off,hA,hb,(hk _ hb).trans hc⟩
theorem Strs.below {w w':World} {B B':Nat} {A:Option Addr} {fs:List ByteArray} (h:Strs w B A fs) (hb:Below B' w w') (hB:B≤B'):Strs w' B A fs:=
  h.keep fun _ hp=>hb.cell (Nat.lt_of_lt_of_le hp hB)
theorem Strs.more {w:World} {B B':Nat} {A:Option Addr} {fs:List ByteArray} (h:Strs w B A fs) (hB:B≤B'):Strs w B' A fs:=by
  intro k hk'
  obtain⟨b,off,hA,hb,hc⟩:=h k hk'
  exact⟨b,off,hA,by omega,hc⟩
def FreshA (lo:Nat) (A:Option Addr):Prop:=∀ a,A=some a→lo≤a.block
theorem FreshA.none_ {lo:Nat}:FreshA lo none:=fun a h=>by cases h
theorem FreshA.less {lo lo':Nat} {A:Option Addr} (h:FreshA lo A) (hl:lo'≤lo):FreshA lo' A:=fun a e=>Nat.le_trans hl (h a e)
theorem Strs.setCell {w:World} {B lo:Nat} {A:Option Addr} {fs:List ByteArray} (h:Strs w B A fs) (hf:FreshA lo A) {p:Addr} (hp:p.block < lo) (v:Value):Strs (w.setCell p v) B A fs:=by
  intro k hk'
  obtain⟨b,off,hA,hb,hc⟩:=h k hk'
  have hlo:=hf _ hA
  exact⟨b,off,hA,hb,(World.cell?_setCell_other w p _ v (fun e=>by subst e;exact absurd hp (Nat.not_lt.2 hlo))).trans hc⟩
theorem below_new (w:World) (o:Obj):Below w.heap.size w (w.alloc o):=(Below.refl _ _).alloc (Nat.le_refl _) _
theorem bcell {B:Nat} {W w1:World} (hb:Below B W w1):(∀ b o,b < B→w1.cell? ⟨b,o,none⟩=W.cell? ⟨b,o,none⟩)∧(∀ b o,b < B→w1.frozen? ⟨b,o,none⟩=W.frozen? ⟨b,o,none⟩):=
  ⟨fun b o h=>hb.cell (p:=⟨b,o,none⟩) h,fun b o h=>hb.frozen (p:=⟨b,o,none⟩) h⟩
section
variable {P : Program} {ops : Array Oper} {rest : List Oper} {o : Oper} {a : Act} {w W : World} {Q : Exit → Act → World → Prop}
theorem wpList_exec (hgd:o.guard=none) {v:Value} (hex:(execOp a.eval o).run P w=.ok (.value v) W) (h:wpList P ops Q rest (a.put o.dst v) W):wpList P ops Q (o :: rest) a w:=
  wpList_plain hgd fun K hK=>by unfold Oper.wp;rw [hex];exact hK _ _ h
theorem wpList_build (hgd:o.guard=none) (t:TypeId) (parts:Array (Nat×Operand)) (ho:o.op=.build t parts) {v:Value} (ps:Array (Nat×Value)) (hp:(parts.map fun (i,x)=>(i,a.eval x))=ps) (hr:(Instr.build t ps).run P w=.ok v w)
    (h:wpList P ops Q rest (a.put o.dst v) w):wpList P ops Q (o :: rest) a w:=
  wpList_exec hgd (by unfold execOp;rw [ho];simp only [hp,Sem.run_bind,hr,Result.andThen_ok,Sem.run_pure]) h
theorem wpList_build0 (hgd:o.guard=none) (t:TypeId) (ho:o.op=.build t #[]) {v:Value} (hr:(Instr.build t #[]).run P w=.ok v w)
    (h:wpList P ops Q rest (a.put o.dst v) w):wpList P ops Q (o :: rest) a w:=wpList_build hgd t _ ho #[] (by simp) hr h
theorem wpList_build1 (hgd:o.guard=none) (t:TypeId) (i:Nat) (x:Operand) (ho:o.op=.build t #[(i,x)]) {u v:Value} (hx:a.eval x=u) (hr:(Instr.build t #[(i,u)]).run P w=.ok v w)
    (h:wpList P ops Q rest (a.put o.dst v) w):wpList P ops Q (o :: rest) a w:=wpList_build hgd t _ ho #[(i,u)] (by simp [hx]) hr h
theorem wpList_build2 (hgd:o.guard=none) (t:TypeId) (i j:Nat) (x y:Operand) (ho:o.op=.build t #[(i,x),(j,y)]) {u u' v:Value} (hx:a.eval x=u) (hy:a.eval y=u') (hr:(Instr.build t #[(i,u),(j,u')]).run P w=.ok v w)
    (h:wpList P ops Q rest (a.put o.dst v) w):wpList P ops Q (o :: rest) a w:=wpList_build hgd t _ ho #[(i,u),(j,u')] (by simp [hx,hy]) hr h
theorem wpList_assert (hgd:o.guard=none) (x:Operand) (xT aT:TypeId) (ok:Bool) (ho:o.op=.typeAssert x xT aT ok) {u v:Value} (hx:a.eval x=u) (hr:(Instr.typeAssert u xT aT ok).run P w=.ok v w)
    (h:wpList P ops Q rest (a.put o.dst v) w):wpList P ops Q (o :: rest) a w:=
  wpList_exec hgd (by unfold execOp;rw [ho];simp only [hx,Sem.run_bind,hr,Result.andThen_ok,Sem.run_pure]) h
end
theorem World.rangeAt_append {w:World} {b o:Nat} {l m:List Value}:w.rangeAt b o (l++m)↔w.rangeAt b o l∧w.rangeAt b (o+l.length) m:=by
  constructor
  · intro h
    refine⟨fun j v hv=>h j v ?_,fun j v hv=>?_⟩
    · have hj:j < l.length:=by
        rcases Nat.lt_or_ge j l.length with q | q
        · exact q
        · rw [List.getElem?_eq_none q] at hv;cases hv
      rw [List.getElem?_append_left hj];exact hv
    · have:=h (l.length+j) v (by rw [List.getElem?_append_right (by omega)];simpa using hv)
      rw [Nat.add_assoc];exact this
  · rintro ⟨h1,h2⟩ j v hv
    rcases Nat.lt_or_ge j l.length with q | q
    · exact h1 j v (by rw [List.getElem?_append_left q] at hv;exact hv)
    · rw [List.getElem?_append_right q] at hv
      have:=h2 _ _ hv
      rw [show o+l.length+(j - l.length)=o+j from by omega] at this
      exact this
theorem World.rangeAt_cons {w:World} {b o:Nat} {v:Value} {m:List Value}:w.rangeAt b o (v :: m)↔w.cell? ⟨b,o,none⟩=some v∧w.rangeAt b (o+1) m:=by
  rw [show v :: m=[v]++m from rfl,World.rangeAt_append]
  exact and_congr ⟨fun h=>h 0 v rfl,fun h j u hu=>by
    cases j with
    | zero=>injection hu with hu;subst hu;exact h
    | succ j=>simp at hu⟩ Iff.rfl
theorem range_kept {w w':World} {b o:Nat} {l:List Value} (h:w.rangeAt b o l) (hk:w'.heap[b]?=w.heap[b]?):w'.rangeAt b o l:=fun j v hv=>(World.cell?_of_block (a:=⟨b,o+j,none⟩) hk).trans (h j v hv)
theorem range_new (w:World) (C:Array Value) (t:TypeId):(w.alloc (.cells C t)).rangeAt w.heap.size 0 C.toList:=fun j v hv=>by
  rw [Nat.zero_add]
  exact (World.cell?_alloc_at (w:=w) _ _ _ _ rfl).trans (by rw [Array.getElem?_toList] at hv;exact hv)
structure Grew (w W:World) (C:Array Value):Prop where
  sz:W.heap.size=w.heap.size+1
  bel:Below w.heap.size w W
  rg:W.rangeAt w.heap.size 0 C.toList
  fz:∀ o,W.frozen? ⟨w.heap.size,o,none⟩=false
theorem grew_alloc (w:World) (C:Array Value) (t:TypeId):Grew w (w.alloc (.cells C t)) C:=
  ⟨by simp,below_new _ _,range_new w C t,fun o=>by rw [frozen?_alloc_cells];simp [World.frozen?]⟩
structure Stored (w W:World) (b o:Nat) (cs:List Value):Prop where
  os:W.os=w.os
  tape:W.tape=w.tape
  output:W.output=w.output
  sz:W.heap.size=w.heap.size
  far:∀ k,k≠b→W.heap[k]?=w.heap[k]?
  fz:∀ x,W.frozen? x=w.frozen? x
  rg:W.rangeAt b o cs
  apart:∀ o' l,w.rangeAt b o' l→(o'+l.length≤o∨o+cs.length≤o')→W.rangeAt b o' l
  there:∀ b' o' n,w.there b' o' n→W.there b' o' n
theorem setCells_heap (b:Nat):∀ (vs:List Value) (o:Nat) (w:World),(w.setCells b o vs).os=w.os∧(w.setCells b o vs).tape=w.tape∧(w.setCells b o vs).output=w.output∧(w.setCells b o vs).heap.size=w.heap.size∧∀ k,k≠b→(w.setCells b o vs).heap[k]?=w.heap[k]?
  | [],o,w=>⟨rfl,rfl,rfl,rfl,fun _ _=>rfl⟩
  | v :: r,o,w=>by
    obtain⟨h1,h2,h3,h4,h5⟩:=setCells_heap b r (o+1) (w.setCell ⟨b,o,none⟩ v)
    have hb:Below b w (w.setCell ⟨b,o,none⟩ v):=(Below.refl b w).setCell (Nat.le_refl _) v
    exact⟨h1.trans hb.os,h2.trans hb.tape,h3.trans hb.output,h4.trans (by simp),fun k hk=>(h5 k hk).trans (Below.heap_setCell _ _ _ _ hk)⟩
theorem stored_setCells {w:World} {b o:Nat} {cs:List Value} (ht:w.there b o cs.length):Stored w (w.setCells b o cs) b o cs:=by
  obtain⟨h1,h2,h3,h4,h5⟩:=setCells_heap b cs o w
  exact⟨h1,h2,h3,h4,h5,fun x=>World.frozen?_setCells _ _ _ _ _,World.rangeAt_setCells_same _ _ _ _ ht,fun o' l hl ha=>World.rangeAt_setCells_apart hl _ _ _ (.inr ha),fun b' o' n h=>World.there_setCells h _ _ _⟩
theorem stored_setCell {w:World} {b o:Nat} {v:Value} (ht:w.there b o 1):Stored w (w.setCell ⟨b,o,none⟩ v) b o [v]:=stored_setCells (cs:=[v]) ht
theorem Stored.below {w W:World} {b o B:Nat} {cs:List Value} (h:Stored w W b o cs) (hb:B≤b):Below B w W:=⟨h.os,h.tape,h.output,by rw [h.sz];exact Nat.le_refl _,fun k hk=>h.far k (by omega)⟩
theorem World.there.sub {w:World} {b o n:Nat} (h:w.there b o n) (k m:Nat) (hm:k+m≤n):w.there b (o+k) m:=fun j hj=>by
  have:=h (k+j) (by omega)
  rwa [← Nat.add_assoc] at this
section
variable {P : Program} {ops : Array Oper} {rest : List Oper} {o : Oper} {a : Act} {w : World} {Q : Exit → Act → World → Prop}
theorem wpList_box_new (hgd:o.guard=none) (T:TypeId) (x:Operand) (ho:o.op=.box T x) (C:Array Value) (hx:a.eval x=.agg C) (h:∀ W,Grew w W C→wpList P ops Q rest (a.put o.dst (.pointer (some ⟨w.heap.size,0,none⟩))) W):wpList P ops Q (o :: rest) a w:=
  wpList_exec hgd (W:=w.alloc (.cells C T)) (by unfold execOp;rw [ho];simp [hx,Instr.box,newVar,newRow,Value.cells]) (h _ (grew_alloc w C T))
theorem wpList_alloc_new (hgd:o.guard=none) (T:TypeId) (ho:o.op=.alloc T) (Z:Array Value) (hz:(zeroValue T).run P w=.ok (.agg Z) w) (h:∀ W,Grew w W Z→wpList P ops Q rest (a.put o.dst (.pointer (some ⟨w.heap.size,0,none⟩))) W):wpList P ops Q (o :: rest) a w:=
  wpList_exec hgd (W:=w.alloc (.cells Z T)) (by unfold execOp;rw [ho];simp [Instr.alloc,hz,newVar,newRow,Value.cells]) (h _ (grew_alloc w Z T))
theorem run_storeAt_one (w:World) (b f:Nat) (ty:TypeId) (v:Value) (ht:w.there b f 1) (hi:(P.info? ty).map (·.size)=some 1) (hc:v.cells=#[v]) (h1:v.oneCell'=true) :
    (Instr.storeAt ty (.pointer (some ⟨b,f,none⟩)) v).run P w=.ok () (w.setCell ⟨b,f,none⟩ v):=by
  have:=run_storeCells_cells (P:=P) b f [v] 0 w (fun j hj=>by simpa using (ht j (by simpa using hj)).1) (fun j hj=>by simpa using (ht j (by simpa using hj)).2) (fun u hu=>by simp at hu;subst hu;exact h1)
  cases hq:P.info? ty with
  | none=>simp [hq] at hi
  | some i=>
    have hs:1=i.size:=by simp [hq] at hi;omega
    simp only [Nat.add_zero] at this
    simp only [Instr.storeAt,Instr.sureAddr,Sem.run_bind,Sem.run_pure,Result.andThen_ok]
    simp [storeVar,sizeOf,typeInfo,hq,hc,← hs,this,World.setCells]
theorem wp_store_one {K:Act→World→Prop} (T:TypeId) (x y:Operand) (ho:o.op=.store T x y) (b f:Nat) (v:Value) (hx:a.eval x=.pointer (some ⟨b,f,none⟩)) (hy:a.eval y=v) (ht:w.there b f 1) (hi:(P.info? T).map (·.size)=some 1) (hc:v.cells=#[v]) (h1:v.oneCell'=true)
    (h:∀ W,Stored w W b f [v]→K (a.put o.dst undef) W):o.wp P a w K Q:=by
  unfold Oper.wp execOp
  simp only [ho,hx,hy,Sem.run_bind,run_storeAt_one w b f T v ht hi hc h1,Result.andThen_ok,Sem.run_pure]
  exact h _ (stored_setCell ht)
theorem wp_store_in {K:Act→World→Prop} (T:TypeId) (x y:Operand) (ho:o.op=.store T x y) (b f:Nat) (C:Array Value) (hx:a.eval x=.pointer (some ⟨b,f,none⟩)) (hy:a.eval y=.agg C) (ht:w.there b f C.size) (hi:(P.info? T).map (·.size)=some C.size) (h1:C.all (·.oneCell')=true)
    (h:∀ W,Stored w W b f C.toList→K (a.put o.dst undef) W):o.wp P a w K Q:=
  wp_store_mid T x y ho b f C hx hy ht hi h1 (h _ (stored_setCells (by simpa using ht)))
theorem wpList_store_one (hgd:o.guard=none) (T:TypeId) (x y:Operand) (ho:o.op=.store T x y) (b f:Nat) (v:Value) (hx:a.eval x=.pointer (some ⟨b,f,none⟩)) (hy:a.eval y=v) (ht:w.there b f 1) (hi:(P.info? T).map (·.size)=some 1) (hc:v.cells=#[v]) (h1:v.oneCell'=true)
    (h:∀ W,Stored w W b f [v]→wpList P ops Q rest (a.put o.dst undef) W):wpList P ops Q (o :: rest) a w:=
  wpList_plain hgd fun _ hK=>wp_store_one T x y ho b f v hx hy ht hi hc h1 fun W hW=>hK _ _ (h W hW)
theorem wpList_store_in (hgd:o.guard=none) (T:TypeId) (x y:Operand) (ho:o.op=.store T x y) (b f:Nat) (C:Array Value) (hx:a.eval x=.pointer (some ⟨b,f,none⟩)) (hy:a.eval y=.agg C) (ht:w.there b f C.size) (hi:(P.info? T).map (·.size)=some C.size) (h1:C.all (·.oneCell')=true)
    (h:∀ W,Stored w W b f C.toList→wpList P ops Q rest (a.put o.dst undef) W):wpList P ops Q (o :: rest) a w:=
  wpList_store_mid hgd T x y ho b f C hx hy ht hi h1 (h _ (stored_setCells (by simpa using ht)))
end
def nmL (k:Int) (t:ByteArray) (G R S V U:List Value):List Value:=.int .i64 k :: .string t :: (G++(R++(S++(V++U))))
structure Lens (G R S V U:List Value):Prop where
  g:G.length=22
  r:R.length=20
  s:S.length=9
  v:V.length=8
  u:U.length=4
theorem nmL_len {k:Int} {t:ByteArray} {G R S V U:List Value} (h:Lens G R S V U):(nmL k t G R S V U).length=65:=by
  obtain⟨h1,h2,h3,h4,h5⟩:=h
  simp [nmL];omega
theorem nm_size:(Tryz.prog.info? 46).map (·.size)=some 65:=by kernel_rfl
structure NmAt (W:World) (b:Nat) (k:Int) (t:ByteArray) (G R S V U:List Value):Prop where
  c0:W.cell? ⟨b,0,none⟩=some (.int .i64 k)
  c1:W.cell? ⟨b,1,none⟩=some (.string t)
  g:W.rangeAt b 2 G
  r:W.rangeAt b 24 R
  s:W.rangeAt b 44 S
  v:W.rangeAt b 53 V
  u:W.rangeAt b 61 U
theorem nmAt_iff {W:World} {b:Nat} {k:Int} {t:ByteArray} {G R S V U:List Value} (h:Lens G R S V U):W.rangeAt b 0 (nmL k t G R S V U)↔NmAt W b k t G R S V U:=by
  unfold nmL
  rw [World.rangeAt_cons,World.rangeAt_cons,World.rangeAt_append,World.rangeAt_append,World.rangeAt_append,World.rangeAt_append,h.g,h.r,h.s,h.v]
  exact⟨fun ⟨a,b,c,d,e,f,g⟩=>⟨a,b,c,d,e,f,g⟩,fun ⟨a,b,c,d,e,f,g⟩=>⟨a,b,c,d,e,f,g⟩⟩
theorem Grew.nm {w W:World} {C:Array Value} {k:Int} {t:ByteArray} {G R S V U:List Value} (h:Grew w W C) (hC:C.toList=nmL k t G R S V U) (hl:Lens G R S V U):NmAt W w.heap.size k t G R S V U:=(nmAt_iff hl).1 (hC ▸ h.rg)
theorem onGga_size:(Tryz.prog.info? 32).map (·.size)=some 22:=by kernel_rfl
theorem build_onGga (G:List Value) (h:G.length=22) (w:World):(Instr.build 95 #[(0,.agg G.toArray)]).run Tryz.prog w=.ok (.agg G.toArray) w:=by
  match G,h with
  | [g0,g1,g2,g3,g4,g5,g6,g7,g8,g9,g10,g11,g12,g13,g14,g15,g16,g17,g18,g19,g20,g21],_=>
    show _=_
    kernel_rfl
theorem onRmc_size:(Tryz.prog.info? 36).map (·.size)=some 20:=by kernel_rfl
theorem build_onRmc (G:List Value) (h:G.length=20) (w:World):(Instr.build 97 #[(0,.agg G.toArray)]).run Tryz.prog w=.ok (.agg G.toArray) w:=by
  match G,h with
  | [g0,g1,g2,g3,g4,g5,g6,g7,g8,g9,g10,g11,g12,g13,g14,g15,g16,g17,g18,g19],_=>
    show _=_
    kernel_rfl
theorem onGsa_size:(Tryz.prog.info? 39).map (·.size)=some 9:=by kernel_rfl
theorem build_onGsa (G:List Value) (h:G.length=9) (w:World):(Instr.build 99 #[(0,.agg G.toArray)]).run Tryz.prog w=.ok (.agg G.toArray) w:=by
  match G,h with
  | [g0,g1,g2,g3,g4,g5,g6,g7,g8],_=>
    show _=_
    kernel_rfl
theorem onVtg_size:(Tryz.prog.info? 41).map (·.size)=some 8:=by kernel_rfl
theorem build_onVtg (G:List Value) (h:G.length=8) (w:World):(Instr.build 101 #[(0,.agg G.toArray)]).run Tryz.prog w=.ok (.agg G.toArray) w:=by
  match G,h with
  | [g0,g1,g2,g3,g4,g5,g6,g7],_=>
    show _=_
    kernel_rfl
theorem onGsv_size:(Tryz.prog.info? 44).map (·.size)=some 4:=by kernel_rfl
theorem build_onGsv (G:List Value) (h:G.length=4) (w:World):(Instr.build 103 #[(0,.agg G.toArray)]).run Tryz.prog w=.ok (.agg G.toArray) w:=by
  match G,h with
  | [g0,g1,g2,g3],_=>
    show _=_
    kernel_rfl
def partV (k:Int) (G R S V U:List Value):Value:=
  if k=1 then .iface 95 (.agg G.toArray) else if k=2 then .iface 97 (.agg R.toArray) else if k=3 then .iface 99 (.agg S.toArray) else if k=4 then .iface 101 (.agg V.toArray) else if k=5 then .iface 103 (.agg U.toArray) else .nilIface
set_option maxRecDepth 8000 in
set_option maxHeartbeats 2000000 in
theorem nmof_1 {C:Array Value} {t:ByteArray} {G R S V U:List Value} (hC:Hid (C.toList=nmL 1 t G R S V U)) (hl:Hid (Lens G R S V U)) (w:World):Calls Tryz.prog 35 #[.agg C] w fun e w'=>e=.returned (.iface 95 (.agg G.toArray))∧Below w.heap.size w w':=by
  have hs:(Tryz.prog.info? 32).map (·.size)=some G.length:=by rw [hl.out.g];exact onGga_size
  have HS:=Lib.hid hs
  have HB:=fun W=>Lib.hid (build_onGga G hl.out.g W)
  clear hs
  go_enter Tryz.func35,Tryz.ntmps35
  go_wp2_with (first
    | (refine wpList_box_new rfl _ _ rfl C rfl ?_;intro W1 hW1;have hN:=hW1.nm hC.out hl.out;have HBE:=Lib.hid hW1.bel;have c0:=hN.c0;have HG:=Lib.hid hN.g;clear hN hW1)
    | (refine wpList_load_mid rfl 32 _ rfl w.heap.size 2 rfl G _ HG.out Tryz.underlying32 rfl HS.out ?_)
    | (refine wpList_build1 (u:=.agg G.toArray) rfl 95 0 _ rfl rfl (HB _).out ?_))
  go_ret
  exact⟨rfl,HBE.out⟩
set_option maxRecDepth 8000 in
set_option maxHeartbeats 2000000 in
theorem nmof_2 {C:Array Value} {t:ByteArray} {G R S V U:List Value} (hC:Hid (C.toList=nmL 2 t G R S V U)) (hl:Hid (Lens G R S V U)) (w:World):Calls Tryz.prog 35 #[.agg C] w fun e w'=>e=.returned (.iface 97 (.agg R.toArray))∧Below w.heap.size w w':=by
  have hs:(Tryz.prog.info? 36).map (·.size)=some R.length:=by rw [hl.out.r];exact onRmc_size
  have HS:=Lib.hid hs
  have HB:=fun W=>Lib.hid (build_onRmc R hl.out.r W)
  clear hs
  go_enter Tryz.func35,Tryz.ntmps35
  go_wp2_with (first
    | (refine wpList_box_new rfl _ _ rfl C rfl ?_;intro W1 hW1;have hN:=hW1.nm hC.out hl.out;have HBE:=Lib.hid hW1.bel;have c0:=hN.c0;have HG:=Lib.hid hN.r;clear hN hW1)
    | (refine wpList_load_mid rfl 36 _ rfl w.heap.size 24 rfl R _ HG.out Tryz.underlying36 rfl HS.out ?_)
    | (refine wpList_build1 (u:=.agg R.toArray) rfl 97 0 _ rfl rfl (HB _).out ?_))
  go_ret
  exact⟨rfl,HBE.out⟩
set_option maxRecDepth 8000 in
set_option maxHeartbeats 2000000 in
theorem nmof_3 {C:Array Value} {t:ByteArray} {G R S V U:List Value} (hC:Hid (C.toList=nmL 3 t G R S V U)) (hl:Hid (Lens G R S V U)) (w:World):Calls Tryz.prog 35 #[.agg C] w fun e w'=>e=.returned (.iface 99 (.agg S.toArray))∧Below w.heap.size w w':=by
  have hs:(Tryz.prog.info? 39).map (·.size)=some S.length:=by rw [hl.out.s];exact onGsa_size
  have HS:=Lib.hid hs
  have HB:=fun W=>Lib.hid (build_onGsa S hl.out.s W)
  clear hs
  go_enter Tryz.func35,Tryz.ntmps35
  go_wp2_with (first
    | (refine wpList_box_new rfl _ _ rfl C rfl ?_;intro W1 hW1;have hN:=hW1.nm hC.out hl.out;have HBE:=Lib.hid hW1.bel;have c0:=hN.c0;have HG:=Lib.hid hN.s;clear hN hW1)
    | (refine wpList_load_mid rfl 39 _ rfl w.heap.size 44 rfl S _ HG.out Tryz.underlying39 rfl HS.out ?_)
    | (refine wpList_build1 (u:=.agg S.toArray) rfl 99 0 _ rfl rfl (HB _).out ?_))
  go_ret
  exact⟨rfl,HBE.out⟩
set_option maxRecDepth 8000 in
set_option maxHeartbeats 2000000 in
theorem nmof_4 {C:Array Value} {t:ByteArray} {G R S V U:List Value} (hC:Hid (C.toList=nmL 4 t G R S V U)) (hl:Hid (Lens G R S V U)) (w:World):Calls Tryz.prog 35 #[.agg C] w fun e w'=>e=.returned (.iface 101 (.agg V.toArray))∧Below w.heap.size w w':=by
  have hs:(Tryz.prog.info? 41).map (·.size)=some V.length:=by rw [hl.out.v];exact onVtg_size
  have HS:=Lib.hid hs
  have HB:=fun W=>Lib.hid (build_onVtg V hl.out.v W)
  clear hs
  go_enter Tryz.func35,Tryz.ntmps35
  go_wp2_with (first
    | (refine wpList_box_new rfl _ _ rfl C rfl ?_;intro W1 hW1;have hN:=hW1.nm hC.out hl.out;have HBE:=Lib.hid hW1.bel;have c0:=hN.c0;have HG:=Lib.hid hN.v;clear hN hW1)
    | (refine wpList_load_mid rfl 41 _ rfl w.heap.size 53 rfl V _ HG.out Tryz.underlying41 rfl HS.out ?_)
    | (refine wpList_build1 (u:=.agg V.toArray) rfl 101 0 _ rfl rfl (HB _).out ?_))
  go_ret
  exact⟨rfl,HBE.out⟩
set_option maxRecDepth 8000 in
set_option maxHeartbeats 2000000 in
theorem nmof_5 {C:Array Value} {t:ByteArray} {G R S V U:List Value} (hC:Hid (C.toList=nmL 5 t G R S V U)) (hl:Hid (Lens G R S V U)) (w:World):Calls Tryz.prog 35 #[.agg C] w fun e w'=>e=.returned (.iface 103 (.agg U.toArray))∧Below w.heap.size w w':=by
  have hs:(Tryz.prog.info? 44).map (·.size)=some U.length:=by rw [hl.out.u];exact onGsv_size
  have HS:=Lib.hid hs
  have HB:=fun W=>Lib.hid (build_onGsv U hl.out.u W)
  clear hs
  go_enter Tryz.func35,Tryz.ntmps35
  go_wp2_with (first
    | (refine wpList_box_new rfl _ _ rfl C rfl ?_;intro W1 hW1;have hN:=hW1.nm hC.out hl.out;have HBE:=Lib.hid hW1.bel;have c0:=hN.c0;have HG:=Lib.hid hN.u;clear hN hW1)
    | (refine wpList_load_mid rfl 44 _ rfl w.heap.size 61 rfl U _ HG.out Tryz.underlying44 rfl HS.out ?_)
    | (refine wpList_build1 (u:=.agg U.toArray) rfl 103 0 _ rfl rfl (HB _).out ?_))
  go_ret
  exact⟨rfl,HBE.out⟩
set_option maxRecDepth 8000 in
set_option maxHeartbeats 2000000 in
theorem nmof_no {C:Array Value} {k:Int} {t:ByteArray} {G R S V U:List Value} (hC:Hid (C.toList=nmL k t G R S V U)) (hl:Hid (Lens G R S V U)) (w:World) (h:¬ (1≤k∧k≤5)):Calls Tryz.prog 35 #[.agg C] w fun e w'=>e=.returned .nilIface∧Below w.heap.size w w':=by
  have b1:(k==1)=false:=by simp;omega
  have b2:(k==2)=false:=by simp;omega
  have b3:(k==3)=false:=by simp;omega
  have b4:(k==4)=false:=by simp;omega
  have b5:(k==5)=false:=by simp;omega
  clear h
  go_enter Tryz.func35,Tryz.ntmps35
  go_wp2_with (refine wpList_box_new rfl _ _ rfl C rfl ?_;intro W1 hW1;have hN:=hW1.nm hC.out hl.out;have HBE:=Lib.hid hW1.bel;have c0:=hN.c0;clear hN hW1)
  go_ret
  exact⟨rfl,HBE.out⟩
theorem nmof_any {C:Array Value} {k:Int} {t:ByteArray} {G R S V U:List Value} (hC:Hid (C.toList=nmL k t G R S V U)) (hl:Hid (Lens G R S V U)) (w:World):Calls Tryz.prog 35 #[.agg C] w fun e w'=>e=.returned (partV k G R S V U)∧Below w.heap.size w w':=by
  by_cases h:1≤k∧k≤5
  · rcases (by omega:k=1∨k=2∨k=3∨k=4∨k=5) with rfl | rfl | rfl | rfl | rfl
    · exact nmof_1 hC hl w
    · exact nmof_2 hC hl w
    · exact nmof_3 hC hl w
    · exact nmof_4 hC hl w
    · exact nmof_5 hC hl w
  · have:partV k G R S V U=.nilIface:=by
      unfold partV
      rw [if_neg (by omega),if_neg (by omega),if_neg (by omega),if_neg (by omega),if_neg (by omega)]
    rw [this]
    exact nmof_no hC hl w h
structure Blk (W:World) (b:Nat) (L:List Value):Prop where
  rg:W.rangeAt b 0 L
  fz:∀ o,W.frozen? ⟨b,o,none⟩=false
  lt:b < W.heap.size
theorem Blk.new {w W:World} {C:Array Value} (h:Grew w W C):Blk W w.heap.size C.toList:=⟨h.rg,h.fz,by have:=h.sz;omega⟩
theorem Blk.newL {w W:World} {C:Array Value} {L:List Value} (h:Grew w W C) (e:C.toList=L):Blk W w.heap.size L:=e ▸ Blk.new h
theorem Blk.kept {w W:World} {b:Nat} {L:List Value} (h:Blk w b L) (hk:W.heap[b]?=w.heap[b]?) (hz:w.heap.size≤W.heap.size):Blk W b L:=
  ⟨range_kept h.rg hk,fun o=>(World.frozen?_of_block (a:=⟨b,o,none⟩) hk).trans (h.fz o),Nat.lt_of_lt_of_le h.lt hz⟩
theorem Blk.below {w W:World} {b B:Nat} {L:List Value} (h:Blk w b L) (hb:Below B w W) (hB:b < B):Blk W b L:=h.kept (hb.block b hB) hb.size
theorem Blk.on {w W:World} {b:Nat} {L:List Value} (h:Blk w b L) (hb:Below w.heap.size w W):Blk W b L:=h.below hb h.lt
theorem Blk.grew {w W:World} {C:Array Value} {b:Nat} {L:List Value} (h:Blk w b L) (hg:Grew w W C):Blk W b L:=h.on hg.bel
theorem Blk.far {w W:World} {b b' o:Nat} {L cs:List Value} (h:Blk w b L) (hs:Stored w W b' o cs) (hn:b≠b'):Blk W b L:=h.kept (hs.far b hn) (Nat.le_of_eq hs.sz.symm)
theorem Blk.drew {w:World} {b:Nat} {L:List Value} (h:Blk w b L):Blk w.drew b L:=⟨h.rg,h.fz,h.lt⟩
theorem Blk.there {w:World} {b:Nat} {L:List Value} (h:Blk w b L) (o n:Nat) (hn:o+n≤L.length):w.there b o n:=fun j hj=>
  ⟨by have:=h.rg.isSome (o+j) (by omega);rwa [Nat.zero_add] at this,h.fz _⟩
theorem Blk.cell {w:World} {b:Nat} {L:List Value} (h:Blk w b L) (o:Nat) {v:Value} (hv:L[o]?=some v):w.cell? ⟨b,o,none⟩=some v:=by
  have:=h.rg o v hv
  rwa [Nat.zero_add] at this
theorem Blk.put {w W:World} {b o:Nat} {A M D cs:List Value} (h:Blk w b (A++M++D)) (hs:Stored w W b o cs) (ho:A.length=o) (hc:cs.length=M.length):Blk W b (A++cs++D):=by
  subst ho
  have h0:=World.rangeAt_append.1 h.rg
  have h1:=World.rangeAt_append.1 h0.1
  refine⟨World.rangeAt_append.2 ⟨World.rangeAt_append.2 ⟨hs.apart 0 A h1.1 (.inl (by omega)),?_⟩,?_⟩,fun o=>(hs.fz _).trans (h.fz o),by rw [hs.sz];exact h.lt⟩
  · rw [Nat.zero_add];exact hs.rg
  · have:=hs.apart _ D h0.2 (.inr (by simp;omega))
    rw [List.length_append] at this ⊢
    rw [hc]
    exact this
theorem Blk.all {w W:World} {b:Nat} {L cs:List Value} (h:Blk w b L) (hs:Stored w W b 0 cs) (hc:cs.length=L.length):Blk W b cs:=by
  have:=Blk.put (A:=[]) (M:=L) (D:=[]) (by simpa using h) hs rfl hc
  simpa using this
theorem Stored.drew {w W:World} {b o:Nat} {cs:List Value} (h:Stored w.drew W b o cs):Stored w W b o cs:=⟨h.os,h.tape,h.output,h.sz,h.far,h.fz,h.rg,h.apart,h.there⟩
def Ones (L:List Value):Prop:=∀ v∈L,v.oneCell'=true
theorem Ones.of {L:List Value} (h:L.all (·.oneCell')=true):Ones L:=List.all_eq_true.1 h
theorem Ones.arr {L:List Value} (h:Ones L):L.toArray.all (·.oneCell')=true:=all_oneCell_toArray h
def zGga:List Value:=[.bool false,.int .i64 0,.int .i64 0,.int .i64 0,.int .i64 0,.bool false,.int .i64 0,.bool false,.int .i64 0,.int .i64 0,.bool false,.int .i64 0,.bool false,.int .i64 0,.bool false,.int .i64 0,.bool false,.int .i64 0,.bool false,.int .i64 0,.bool false,.int .i64 0]
def zRmc:List Value:=[.bool false,.int .i64 0,.int .i64 0,.int .i64 0,.int .i64 0,.bool false,.bool false,.int .i64 0,.bool false,.int .i64 0,.bool false,.int .i64 0,.bool false,.int .i64 0,.bool false,.int .i64 0,.bool false,.int .i64 0,.int .i64 0,.int .i64 0]
def zGsa:List Value:=[.bool false,.int .i64 0,.slice none 0 0,.bool false,.int .i64 0,.bool false,.int .i64 0,.bool false,.int .i64 0]
def zVtg:List Value:=[.bool false,.int .i64 0,.bool false,.int .i64 0,.bool false,.int .i64 0,.bool false,.int .i64 0]
def zGsv:List Value:=[.int .i64 0,.int .i64 0,.int .i64 0,.slice none 0 0]
theorem zLens:Lens zGga zRmc zGsa zVtg zGsv:=⟨rfl,rfl,rfl,rfl,rfl⟩
def zNm:Array Value:=(nmL 0 ByteArray.empty zGga zRmc zGsa zVtg zGsv).toArray
theorem zero_Nm (w:World):(zeroValue 46).run Tryz.prog w=.ok (.agg zNm) w:=by kernel_rfl
theorem build_Nm (t:ByteArray) (w:World):(Instr.build 46 #[(1,.string t)]).run Tryz.prog w=.ok (.agg (nmL 0 t zGga zRmc zGsa zVtg zGsv).toArray) w:=by kernel_rfl
theorem build_Nm0 (w:World):(Instr.build 46 #[]).run Tryz.prog w=.ok (.agg zNm) w:=by kernel_rfl
theorem zero_onGga (w:World):(zeroValue 95).run Tryz.prog w=.ok (.agg zGga.toArray) w:=by kernel_rfl
theorem size_onGga:(Tryz.prog.info? 95).map (·.size)=some 22:=by kernel_rfl
theorem zero_onRmc (w:World):(zeroValue 97).run Tryz.prog w=.ok (.agg zRmc.toArray) w:=by kernel_rfl
theorem size_onRmc:(Tryz.prog.info? 97).map (·.size)=some 20:=by kernel_rfl
theorem zero_onGsa (w:World):(zeroValue 99).run Tryz.prog w=.ok (.agg zGsa.toArray) w:=by kernel_rfl
theorem size_onGsa:(Tryz.prog.info? 99).map (·.size)=some 9:=by kernel_rfl
theorem zero_onVtg (w:World):(zeroValue 101).run Tryz.prog w=.ok (.agg zVtg.toArray) w:=by kernel_rfl
theorem size_onVtg:(Tryz.prog.info? 101).map (·.size)=some 8:=by kernel_rfl
theorem zero_onGsv (w:World):(zeroValue 103).run Tryz.prog w=.ok (.agg zGsv.toArray) w:=by kernel_rfl
theorem size_onGsv:(Tryz.prog.info? 103).map (·.size)=some 4:=by kernel_rfl
theorem assert_Gga_Gga (G:List Value) (w:World):(Instr.typeAssert (.iface 95 (.agg G.toArray)) 65 95 true).run Tryz.prog w=.ok (.tuple #[.agg G.toArray,.bool true]) w:=by kernel_rfl
theorem assert_Rmc_Gga (G:List Value) (w:World):(Instr.typeAssert (.iface 97 (.agg G.toArray)) 65 95 true).run Tryz.prog w=.ok (.tuple #[.agg zGga.toArray,.bool false]) w:=by kernel_rfl
theorem assert_Rmc_Rmc (G:List Value) (w:World):(Instr.typeAssert (.iface 97 (.agg G.toArray)) 65 97 true).run Tryz.prog w=.ok (.tuple #[.agg G.toArray,.bool true]) w:=by kernel_rfl
theorem assert_Gsa_Gga (G:List Value) (w:World):(Instr.typeAssert (.iface 99 (.agg G.toArray)) 65 95 true).run Tryz.prog w=.ok (.tuple #[.agg zGga.toArray,.bool false]) w:=by kernel_rfl
theorem assert_Gsa_Rmc (G:List Value) (w:World):(Instr.typeAssert (.iface 99 (.agg G.toArray)) 65 97 true).run Tryz.prog w=.ok (.tuple #[.agg zRmc.toArray,.bool false]) w:=by kernel_rfl
theorem assert_Gsa_Gsa (G:List Value) (w:World):(Instr.typeAssert (.iface 99 (.agg G.toArray)) 65 99 true).run Tryz.prog w=.ok (.tuple #[.agg G.toArray,.bool true]) w:=by kernel_rfl
theorem assert_Vtg_Gga (G:List Value) (w:World):(Instr.typeAssert (.iface 101 (.agg G.toArray)) 65 95 true).run Tryz.prog w=.ok (.tuple #[.agg zGga.toArray,.bool false]) w:=by kernel_rfl
theorem assert_Vtg_Rmc (G:List Value) (w:World):(Instr.typeAssert (.iface 101 (.agg G.toArray)) 65 97 true).run Tryz.prog w=.ok (.tuple #[.agg zRmc.toArray,.bool false]) w:=by kernel_rfl
theorem assert_Vtg_Gsa (G:List Value) (w:World):(Instr.typeAssert (.iface 101 (.agg G.toArray)) 65 99 true).run Tryz.prog w=.ok (.tuple #[.agg zGsa.toArray,.bool false]) w:=by kernel_rfl
theorem assert_Vtg_Vtg (G:List Value) (w:World):(Instr.typeAssert (.iface 101 (.agg G.toArray)) 65 101 true).run Tryz.prog w=.ok (.tuple #[.agg G.toArray,.bool true]) w:=by kernel_rfl
theorem assert_Gsv_Gga (G:List Value) (w:World):(Instr.typeAssert (.iface 103 (.agg G.toArray)) 65 95 true).run Tryz.prog w=.ok (.tuple #[.agg zGga.toArray,.bool false]) w:=by kernel_rfl
theorem assert_Gsv_Rmc (G:List Value) (w:World):(Instr.typeAssert (.iface 103 (.agg G.toArray)) 65 97 true).run Tryz.prog w=.ok (.tuple #[.agg zRmc.toArray,.bool false]) w:=by kernel_rfl
theorem assert_Gsv_Gsa (G:List Value) (w:World):(Instr.typeAssert (.iface 103 (.agg G.toArray)) 65 99 true).run Tryz.prog w=.ok (.tuple #[.agg zGsa.toArray,.bool false]) w:=by kernel_rfl
theorem assert_Gsv_Vtg (G:List Value) (w:World):(Instr.typeAssert (.iface 103 (.agg G.toArray)) 65 101 true).run Tryz.prog w=.ok (.tuple #[.agg zVtg.toArray,.bool false]) w:=by kernel_rfl
theorem assert_Gsv_Gsv (G:List Value) (w:World):(Instr.typeAssert (.iface 103 (.agg G.toArray)) 65 103 true).run Tryz.prog w=.ok (.tuple #[.agg G.toArray,.bool true]) w:=by kernel_rfl
theorem assert_nil_Gga (w:World):(Instr.typeAssert .nilIface 65 95 true).run Tryz.prog w=.ok (.tuple #[.agg zGga.toArray,.bool false]) w:=by kernel_rfl
theorem assert_nil_Rmc (w:World):(Instr.typeAssert .nilIface 65 97 true).run Tryz.prog w=.ok (.tuple #[.agg zRmc.toArray,.bool false]) w:=by kernel_rfl
theorem assert_nil_Gsa (w:World):(Instr.typeAssert .nilIface 65 99 true).run Tryz.prog w=.ok (.tuple #[.agg zGsa.toArray,.bool false]) w:=by kernel_rfl
theorem assert_nil_Vtg (w:World):(Instr.typeAssert .nilIface 65 101 true).run Tryz.prog w=.ok (.tuple #[.agg zVtg.toArray,.bool false]) w:=by kernel_rfl
theorem assert_nil_Gsv (w:World):(Instr.typeAssert .nilIface 65 103 true).run Tryz.prog w=.ok (.tuple #[.agg zGsv.toArray,.bool false]) w:=by kernel_rfl
theorem nmL_ones {k:Int} {t:ByteArray} {G R S V U:List Value} (h1:Ones G) (h2:Ones R) (h3:Ones S) (h4:Ones V) (h5:Ones U):Ones (nmL k t G R S V U):=fun v hv=>by
  simp only [nmL,List.mem_cons,List.mem_append] at hv
  rcases hv with rfl | rfl | hv | hv | hv | hv | hv
  · rfl
  · rfl
  · exact h1 v hv
  · exact h2 v hv
  · exact h3 v hv
  · exact h4 v hv
  · exact h5 v hv
theorem zones:Ones zGga∧Ones zRmc∧Ones zGsa∧Ones zVtg∧Ones zGsv:=⟨Ones.of rfl,Ones.of rfl,Ones.of rfl,Ones.of rfl,Ones.of rfl⟩
theorem Blk.putK {w W:World} {b:Nat} {k k':Int} {t:ByteArray} {G R S V U:List Value} (h:Blk w b (nmL k t G R S V U)) (hs:Stored w W b 0 [.int .i64 k']):Blk W b (nmL k' t G R S V U):=
  Blk.put (A:=[]) (M:=[.int .i64 k]) (D:=.string t :: (G++(R++(S++(V++U))))) h hs rfl rfl
theorem nm_sizeL {k:Int} {t:ByteArray} {G R S V U:List Value} (h:Lens G R S V U):(Tryz.prog.info? 46).map (·.size)=some (nmL k t G R S V U).toArray.size:=by rw [nm_size,List.size_toArray,nmL_len h]
theorem Blk.thereA {w:World} {b:Nat} {L M:List Value} (h:Blk w b L) (hl:M.length=L.length):w.there b 0 M.toArray.size:=h.there 0 _ (by simp [hl])
theorem nmL_same {k k':Int} {t t':ByteArray} {G R S V U G' R' S' V' U':List Value} (h:Lens G R S V U) (h':Lens G' R' S' V' U'):(nmL k t G R S V U).length=(nmL k' t' G' R' S' V' U').length:=(nmL_len h).trans (nmL_len h').symm
theorem Blk.nm65 {w:World} {b:Nat} {k:Int} {t:ByteArray} {G R S V U:List Value} (h:Blk w b (nmL k t G R S V U)) (hl:Lens G R S V U):w.there b 0 65:=h.there 0 65 (by rw [nmL_len hl];exact Nat.le_refl _)
theorem Blk.putG {w W:World} {b:Nat} {k:Int} {t:ByteArray} {G R S V U G':List Value} (h:Blk w b (nmL k t G R S V U)) (hs:Stored w W b 2 G') (hl:Lens G R S V U) (he:G'.length=22):Blk W b (nmL k t G' R S V U):=by
  have:=Blk.put (A:=[.int .i64 k,.string t]) (M:=G) (D:=R++S++V++U) (by simpa [nmL] using h) hs (rfl) (by rw [he];exact hl.g.symm)
  simpa [nmL] using this
theorem Lens.withG {G R S V U G':List Value} (h:Lens G R S V U) (hl:G'.length=22):Lens G' R S V U:=⟨hl,h.r,h.s,h.v,h.u⟩
theorem Blk.putR {w W:World} {b:Nat} {k:Int} {t:ByteArray} {G R S V U R':List Value} (h:Blk w b (nmL k t G R S V U)) (hs:Stored w W b 24 R') (hl:Lens G R S V U) (he:R'.length=20):Blk W b (nmL k t G R' S V U):=by
  have:=Blk.put (A:=[.int .i64 k,.string t]++G) (M:=R) (D:=S++V++U) (by simpa [nmL] using h) hs (by simp [hl.g]) (by rw [he];exact hl.r.symm)
  simpa [nmL] using this
theorem Lens.withR {G R S V U R':List Value} (h:Lens G R S V U) (hl:R'.length=20):Lens G R' S V U:=⟨h.g,hl,h.s,h.v,h.u⟩
theorem Blk.putS {w W:World} {b:Nat} {k:Int} {t:ByteArray} {G R S V U S':List Value} (h:Blk w b (nmL k t G R S V U)) (hs:Stored w W b 44 S') (hl:Lens G R S V U) (he:S'.length=9):Blk W b (nmL k t G R S' V U):=by
  have:=Blk.put (A:=[.int .i64 k,.string t]++G++R) (M:=S) (D:=V++U) (by simpa [nmL] using h) hs (by simp [hl.g,hl.r]) (by rw [he];exact hl.s.symm)
  simpa [nmL] using this
theorem Lens.withS {G R S V U S':List Value} (h:Lens G R S V U) (hl:S'.length=9):Lens G R S' V U:=⟨h.g,h.r,hl,h.v,h.u⟩
theorem Blk.putV {w W:World} {b:Nat} {k:Int} {t:ByteArray} {G R S V U V':List Value} (h:Blk w b (nmL k t G R S V U)) (hs:Stored w W b 53 V') (hl:Lens G R S V U) (he:V'.length=8):Blk W b (nmL k t G R S V' U):=by
  have:=Blk.put (A:=[.int .i64 k,.string t]++G++R++S) (M:=V) (D:=U) (by simpa [nmL] using h) hs (by simp [hl.g,hl.r,hl.s]) (by rw [he];exact hl.v.symm)
  simpa [nmL] using this
theorem Lens.withV {G R S V U V':List Value} (h:Lens G R S V U) (hl:V'.length=8):Lens G R S V' U:=⟨h.g,h.r,h.s,hl,h.u⟩
theorem Blk.putU {w W:World} {b:Nat} {k:Int} {t:ByteArray} {G R S V U U':List Value} (h:Blk w b (nmL k t G R S V U)) (hs:Stored w W b 61 U') (hl:Lens G R S V U) (he:U'.length=4):Blk W b (nmL k t G R S V U'):=by
  have:=Blk.put (A:=[.int .i64 k,.string t]++G++R++S++V) (M:=U) (D:=[]) (by simpa [nmL] using h) hs (by simp [hl.g,hl.r,hl.s,hl.v]) (by rw [he];exact hl.u.symm)
  simpa [nmL] using this
theorem Lens.withU {G R S V U U':List Value} (h:Lens G R S V U) (hl:U'.length=4):Lens G R S V U':=⟨h.g,h.r,h.s,h.v,hl⟩
def tenI (k:Nat):Int:=((10 ^ k:Nat):Int)
theorem tenI_zero:tenI 0=1:=rfl
theorem tenI_succ (k:Nat):tenI (k+1)=tenI k * 10:=by unfold tenI;rw [Nat.pow_succ];omega
theorem tenI_pos (k:Nat):1≤tenI k:=by
  unfold tenI
  have:0 < 10 ^ k:=Nat.pow_pos (by decide)
  omega
theorem tenI_le {k n:Nat} (h:k≤n):tenI k≤tenI n:=by
  unfold tenI
  have:10 ^ k≤10 ^ n:=Nat.pow_le_pow_right (by decide) h
  omega
theorem tenI_18:tenI 18=1000000000000000000:=by decide
theorem tenI_17:tenI 17=100000000000000000:=by decide
set_option maxHeartbeats 1000000 in
theorem ten_any (n:Nat) (w:World) (hn:n≤18) :
    Calls Tryz.prog 201 #[.int .i64 (n:Int)] w fun e w'=>e=.returned (.int .i64 (tenI n))∧w=w':=by
  go_enter Tryz.func201,Tryz.ntmps201
  go_wp2
  go_loop [3,5] (fun p i=>∃ k:Nat,k≤n∧i=.int .i64 k∧p=.int .i64 (tenI k)) (fun _ i=>n - (intOf i).toNat)
  case atStart=>exact⟨0,Nat.zero_le _,rfl,rfl⟩
  case round=>
    obtain⟨k,hk,rfl,rfl⟩:=hrel
    by_cases hlt:k < n
    · have h1:=tenI_pos k
      have h2:=tenI_le (show k≤17 by omega)
      rw [tenI_17] at h2
      have h3:=Lib.hid (tenI_succ k)
      generalize tenI k=T at *
      go_wp2
      go_round
      case rel=>exact⟨k+1,by omega,by go_num,by rw [h3.out]⟩
      case measure=>simp [intOf];omega
    · obtain rfl:k=n:=by omega
      go_wp2
      go_ret
      exact⟨rfl,rfl⟩
abbrev colV (W M F L H:Int):Value:=.agg #[.int .i64 W,.int .i64 M,.int .i64 F,.int .i64 L,.int .i64 H]
def rightB (W M F L H:Int):Bool:=decide (1≤W∧W≤M∧M≤12∧0≤F∧F≤6∧L≤H∧-tenI (M+F).toNat < L∧H < tenI (M+F).toNat)
set_option maxHeartbeats 2000000 in
theorem Right_no (W M F L H:Int) (w:World) (h:W < 1∨1≤W∧M < W∨1≤W∧W≤M∧12 < M) :
    Calls Tryz.prog 190 #[colV W M F L H] w fun e w'=>e=.returned (.bool false)∧Below w.heap.size w w':=by
  rcases h with h | ⟨h0,h⟩ | ⟨h0,h1,h⟩
  all_goals
    go_enter Tryz.func190,Tryz.ntmps190
    go_wp2
    go_ret
    exact⟨rfl,below_new _ _⟩
set_option maxHeartbeats 2000000 in
theorem Right_no2 (W M F L H:Int) (w:World) (h0:1≤W) (h1:W≤M) (h2:M≤12) (h:F < 0∨0≤F∧6 < F∨0≤F∧F≤6∧H < L) :
    Calls Tryz.prog 190 #[colV W M F L H] w fun e w'=>e=.returned (.bool false)∧Below w.heap.size w w':=by
  rcases h with h | ⟨h3,h⟩ | ⟨h3,h4,h⟩
  all_goals
    go_enter Tryz.func190,Tryz.ntmps190
    go_wp2
    go_ret
    exact⟨rfl,below_new _ _⟩
set_option maxHeartbeats 2000000 in
theorem Right_end (W L H:Int) (m f:Nat) (w:World) (h0:1≤W) (h1:W≤(m:Int)) (h2:m≤12) (h3:f≤6) (h4:L≤H) :
    Calls Tryz.prog 190 #[colV W m f L H] w fun e w'=>e=.returned (.bool (decide (-tenI (m+f) < L∧H < tenI (m+f))))∧Below w.heap.size w w':=by
  have HT:=fun W=>Lib.hid (ten_any (m+f) W (by omega))
  rw [Int.natCast_add] at HT
  have t1:=tenI_pos (m+f)
  have t2:=tenI_le (show m+f≤18 by omega)
  rw [tenI_18] at t2
  generalize tenI (m+f)=T at *
  by_cases h5:-T < L
  · have e:decide (-T < L∧H < T)=decide (H < T):=by simp [h5]
    rw [e]
    clear e
    go_enter Tryz.func190,Tryz.ntmps190
    go_wp2_with fail
    refine (HT _).out.mono ?_
    rintro e w' ⟨rfl,rfl⟩
    go_wp2_with fail
    go_ret
    exact⟨rfl,below_new _ _⟩
  · have e:decide (-T < L∧H < T)=false:=by simp [h5]
    rw [e]
    clear e
    go_enter Tryz.func190,Tryz.ntmps190
    go_wp2_with fail
    refine (HT _).out.mono ?_
    rintro e w' ⟨rfl,rfl⟩
    go_wp2_with fail
    go_ret
    exact⟨rfl,below_new _ _⟩
theorem Right_any (W M F L H:Int) (w:World):Calls Tryz.prog 190 #[colV W M F L H] w fun e w'=>e=.returned (.bool (rightB W M F L H))∧Below w.heap.size w w':=by
  by_cases h:1≤W∧W≤M∧M≤12
  · obtain⟨h0,h1,h2⟩:=h
    by_cases h:0≤F∧F≤6∧L≤H
    · obtain⟨h3,h4,h5⟩:=h
      obtain⟨m,rfl⟩:=Int.eq_ofNat_of_zero_le (show 0≤M by omega)
      obtain⟨f,rfl⟩:=Int.eq_ofNat_of_zero_le h3
      have e:rightB W m f L H=decide (-tenI (m+f) < L∧H < tenI (m+f)):=by
        unfold rightB
        rw [show ((m:Int)+(f:Int)).toNat=m+f from by omega]
        simp only [h0,h1,h2,h3,h4,h5,true_and]
      rw [e]
      exact Right_end W L H m f w h0 h1 (by omega) (by omega) h5
    · have e:rightB W M F L H=false:=by
        unfold rightB
        rw [decide_eq_false_iff_not]
        rintro ⟨_,_,_,a,b,c,_⟩
        exact h ⟨a,b,c⟩
      rw [e]
      exact Right_no2 W M F L H w h0 h1 h2 (by omega)
  · have e:rightB W M F L H=false:=by
      unfold rightB
      rw [decide_eq_false_iff_not]
      rintro ⟨a,b,c,_⟩
      exact h ⟨a,b,c⟩
    rw [e]
    exact Right_no W M F L H w (by omega)
abbrev numV (b:Bool) (n:Int):Value:=.agg #[.bool b,.int .i64 n]
def fitsB (b:Bool) (n lo hi:Int):Bool:=if b then decide (lo≤n∧n≤hi) else decide (n=0)
set_option maxHeartbeats 2000000 in
theorem fits_any (b:Bool) (n lo hi:Int) (w:World):Calls Tryz.prog 192 #[numV b n,.int .i64 lo,.int .i64 hi] w fun e w'=>e=.returned (.bool (fitsB b n lo hi))∧Below w.heap.size w w':=by
  cases b with
  | false=>
    by_cases h:n=0
    · subst h
      have e:fitsB false 0 lo hi=true:=by unfold fitsB;simp
      rw [e]
      clear e
      go_enter Tryz.func192,Tryz.ntmps192
      go_wp2
      go_ret
      exact⟨rfl,below_new _ _⟩
    · have e:fitsB false n lo hi=false:=by unfold fitsB;simp [h]
      rw [e]
      clear e
      go_enter Tryz.func192,Tryz.ntmps192
      go_wp2
      go_ret
      exact⟨rfl,below_new _ _⟩
  | true=>
    by_cases h:lo≤n
    · have e:fitsB true n lo hi=decide (n≤hi):=by unfold fitsB;rw [if_pos rfl];simp [h]
      rw [e]
      clear e
      go_enter Tryz.func192,Tryz.ntmps192
      go_wp2
      go_ret
      exact⟨rfl,below_new _ _⟩
    · have e:fitsB true n lo hi=false:=by unfold fitsB;rw [if_pos rfl];simp [h]
      rw [e]
      clear e
      go_enter Tryz.func192,Tryz.ntmps192
      go_wp2
      go_ret
      exact⟨rfl,below_new _ _⟩
def digF:Nat→Nat→Nat→List UInt8
  | 0,_,_=>[]
  | f+1,n,l=>if 0 < n∨0 < l then digF f (n / 10) (l - 1)++[UInt8.ofNat (48+n % 10)] else []
def digL (n l:Nat):List UInt8:=digF 20 n l
theorem digF_stop (f:Nat):digF f 0 0=[]:=by cases f <;> simp [digF]
theorem digF_step (f n l:Nat) (h:0 < n∨0 < l):digF (f+1) n l=digF f (n / 10) (l - 1)++[UInt8.ofNat (48+n % 10)]:=by rw [digF,if_pos h]
theorem digF_len (f:Nat):∀ n l,(digF f n l).length≤f:=by
  induction f with
  | zero=>intro n l;simp [digF]
  | succ f ih=>
    intro n l
    unfold digF
    split
    · have:=ih (n / 10) (l - 1);simp;omega
    · simp
def Tail (w:World) (g:Nat) (suf:List UInt8):Prop:=
  (∀ j,j < 20→∃ v,w.cell? ⟨g,j,none⟩=some v)∧∀ j (h:j < suf.length),w.cell? ⟨g,20 - suf.length+j,none⟩=some (.int .u8 (suf[j].toNat:Int))
theorem Tail.put {w:World} {g:Nat} {suf:List UInt8} (h:Tail w g suf) (a:Nat) (ha:a+suf.length=19) (c:UInt8) (z:Int) (hz:z=(c.toNat:Int)):Tail (w.setCell ⟨g,a,none⟩ (.int .u8 z)) g (c :: suf):=by
  subst hz
  obtain⟨h1,h2⟩:=h
  have key:∀ j,j≠a→(w.setCell ⟨g,a,none⟩ (.int .u8 (c.toNat:Int))).cell? ⟨g,j,none⟩=w.cell? ⟨g,j,none⟩:=fun j hj=>World.cell?_setCell_other w _ _ _ (fun e=>by injection e with _ e;exact hj e.symm)
  obtain⟨v,hv⟩:=h1 a (by omega)
  have same:(w.setCell ⟨g,a,none⟩ (.int .u8 (c.toNat:Int))).cell? ⟨g,a,none⟩=some (.int .u8 (c.toNat:Int)):=World.cell?_setCell_same w _ _ hv
  refine⟨fun j hj=>?_,fun j hj=>?_⟩
  · by_cases e:j=a
    · subst e;exact⟨_,same⟩
    · rw [key j e];exact h1 j hj
  · cases j with
    | zero=>
      rw [List.length_cons,show 20 - (suf.length+1)+0=a from by omega]
      exact same
    | succ j=>
      rw [List.length_cons] at hj ⊢
      rw [show 20 - (suf.length+1)+(j+1)=20 - suf.length+j from by omega,key _ (by omega)]
      exact h2 j (by omega)
theorem digits_new (w:World) (o:Array Value) (T:TypeId) (ho:o.size=20):Tail (w.alloc (.cells o T)) w.heap.size []:=by
  refine⟨fun j hj=>?_,fun j hj=>absurd hj (by simp)⟩
  rw [World.cell?_alloc_new]
  exact⟨o[j]'(by omega),by rw [Array.getElem?_eq_getElem]⟩
def digits_next (n l:Nat) (w:World) (a m:Nat) (suf:List UInt8) (wr:World):Prop:=
  a+suf.length=20∧a≤20∧m≤1000000000000000000∧m < 10 ^ (a - 1)∧digL n l=digF a m (l - suf.length)++suf∧Tail wr w.heap.size suf∧Below w.heap.size w wr∧w.heap.size < wr.heap.size∧∀ o,wr.frozen? ⟨w.heap.size,o,none⟩=false
theorem digits_rel {n l:Nat} {w:World} {b m:Nat} {suf:List UInt8} {wr:World} (h:digits_next n l w b (m / 10) suf wr) :
    ∃ (m2 a:Nat) (suf2:List UInt8),Value.int .i64 ((m:Int) / 10)=.int .i64 (m2:Int)∧Value.int .i64 (b:Int)=.int .i64 (a:Int)∧Hid (a+suf2.length=20)∧a≤20∧m2≤1000000000000000000∧Hid (m2 < 10 ^ (a - 1))∧Hid (digL n l=digF a m2 (l - suf2.length)++suf2)∧Hid (Tail wr w.heap.size suf2)∧Hid (Below w.heap.size w wr)∧w.heap.size < wr.heap.size∧Hid (∀ o,wr.frozen? ⟨w.heap.size,o,none⟩=false):=by
  obtain⟨h1,h2,h3,h4,h5,h6,h7,h8,h9⟩:=h
  exact⟨m / 10,b,suf,rfl,rfl,h1,h2,h3,h4,h5,h6,h7,h8,h9⟩
theorem digits_round {n l:Nat} {w wr:World} {b m:Nat} {suf:List UInt8} (hs:b+1+suf.length=20) (hm:m≤1000000000000000000) (hp:m < 10 ^ (b+1 - 1)) (hd:digL n l=digF (b+1) m (l - suf.length)++suf) (ht:Tail wr w.heap.size suf) (hb:Below w.heap.size w wr) (hz:w.heap.size < wr.heap.size) (hf:∀ o,wr.frozen? ⟨w.heap.size,o,none⟩=false) (hgo:0 < m∨suf.length < l) :
    digits_next n l w b (m / 10) (UInt8.ofNat (48+m % 10) :: suf) (wr.setCell ⟨w.heap.size,b,none⟩ (.int .u8 (48+(m:Int) % 10))):=by
  refine⟨by rw [List.length_cons];omega,by omega,by omega,?_,?_,ht.put b (by omega) _ _ ?_,hb.setCell (Nat.le_refl _) _,by simpa using hz,fun o=>by simpa using hf o⟩
  · rw [Nat.add_sub_cancel] at hp
    cases b with
    | zero=>have:m < 1:=hp;show m / 10 < 1;omega
    | succ b=>
      rw [Nat.add_sub_cancel]
      rw [Nat.pow_succ] at hp
      omega
  · rw [hd,digF_step _ _ _ (by omega),List.append_assoc,List.length_cons]
    rfl
  · have:(UInt8.ofNat (48+m % 10)).toNat=48+m % 10:=by simp;omega
    rw [this]
    omega
set_option maxRecDepth 8000 in
set_option maxHeartbeats 2000000 in
theorem digits_any (n l:Nat) (w:World) (hn:n≤1000000000000000000) (hl:l≤18) :
    Calls Tryz.prog 241 #[.int .i64 (n:Int),.int .i64 (l:Int)] w fun e w'=>e=.returned (.string ⟨(digL n l).toArray⟩)∧Below w.heap.size w w':=by
  have HN19:Hid (n < 10 ^ (20 - 1)):=by
    have:(10:Nat) ^ (20 - 1)=10000000000000000000:=by decide
    show n < _
    omega
  go_enter Tryz.func241,Tryz.ntmps241
  go_wp2
  go_loopw [0,6] (fun v at_ wr=>∃ (m a:Nat) (suf:List UInt8),v=.int .i64 (m:Int)∧at_=.int .i64 (a:Int)∧Hid (a+suf.length=20)∧a≤20∧m≤1000000000000000000∧Hid (m < 10 ^ (a - 1))∧Hid (digL n l=digF a m (l - suf.length)++suf)∧Hid (Tail wr w.heap.size suf)∧Hid (Below w.heap.size w wr)∧w.heap.size < wr.heap.size∧Hid (∀ o,wr.frozen? ⟨w.heap.size,o,none⟩=false)) (fun v at_ _=>(intOf at_).toNat)
  case atStart=>
    refine⟨n,20,[],rfl,rfl,rfl,Nat.le_refl _,hn,HN19,Lib.hid (by show digL n l=digF 20 n (l - 0)++[];rw [List.append_nil];rfl),Lib.hid (digits_new w _ _ rfl),Lib.hid (below_new w _),by simp,Lib.hid (fun o=>?_)⟩
    simp
  case round=>
    obtain⟨m,a,suf,rfl,rfl,hs,ha,hm,hp,hd,ht,hb,hz,hf⟩:=hrel
    by_cases hgo:0 < m∨suf.length < l
    · have ha1:1≤a:=by
        have h1:=hs.out
        have h2:=hp.out
        rcases Nat.eq_zero_or_pos a with h | h
        · subst h
          have:m < 1:=h2
          omega
        · exact h
      obtain⟨b,rfl⟩:∃ b,a=b+1:=⟨a - 1,by omega⟩
      obtain⟨v,hv⟩:=ht.out.1 b (by omega)
      have hfb:=hf.out b
      have e1:((b+1:Nat):Int) - 1=(b:Int):=by omega
      have hgo2:0 < (m:Int)∨(m:Int)≤0∧(20:Int) - ((b+1:Nat):Int) < (l:Int):=by have:=hs.out;omega
      have hnext:Hid (digits_next n l w b (m / 10) (UInt8.ofNat (48+m % 10) :: suf) (wr.setCell ⟨w.heap.size,b,none⟩ (.int .u8 (48+(m:Int) % 10)))):=digits_round hs.out hm hp.out hd.out ht.out hb.out hz hf.out hgo
      clear hs hp hd ht hb hf hgo
      rcases hgo2 with h | ⟨h,h'⟩
      · go_wp2
        go_round
        case rel=>exact digits_rel hnext.out
        case measure=>simp [intOf]
      · obtain rfl:m=0:=by omega
        clear h
        go_wp2
        go_round
        case rel=>exact digits_rel hnext.out
        case measure=>simp [intOf]
    · have h1:(m:Int)≤0:=by omega
      have h2:(l:Int)≤20 - (a:Int):=by have:=hs.out;omega
      have hres:Hid (digL n l=suf):=by
        have h3:=hd.out
        rw [show m=0 from by omega,show l - suf.length=0 from by omega,digF_stop] at h3
        exact h3
      have kc:∀ cap,(convert 141 9 (.slice (some ⟨w.heap.size,a,none⟩) (20 - a) cap)).run Tryz.prog wr=.ok (.string ⟨suf.toArray⟩) wr:=by
        intro cap
        have h4:=run_conv_row (P:=Tryz.prog) wr 141 9 5 ⟨w.heap.size,a,none⟩ cap (suf.map fun c=>(c.toNat:Int)) Tryz.underlying141 Tryz.underlying5 Tryz.underlying9 (fun j hj=>by
          rw [List.length_map] at hj
          have h5:=ht.out.2 j hj
          rw [List.getElem_map]
          rw [show 20 - suf.length=a from by have:=hs.out;omega] at h5
          rw [show (⟨w.heap.size,a,none⟩:Addr).add j=⟨w.heap.size,a+j,none⟩ from by simp [Addr.add]]
          exact h5)
        rw [List.length_map,show suf.length=20 - a from by have:=hs.out;omega,List.map_map] at h4
        have e:∀ q:List UInt8,List.map ((fun n:Int=>UInt8.ofNat n.toNat) ∘ fun c:UInt8=>(c.toNat:Int)) q=q:=fun q=>(List.map_congr_left (fun c _=>by simp)).trans (List.map_id q)
        rw [e] at h4
        exact h4
      have i1:(0:Int)≤(a:Int):=Int.natCast_nonneg _
      have i2:(a:Int)≤20:=by omega
      have k0:(convert 141 9 (.slice (some ⟨w.heap.size,0,none⟩) 0 0)).run Tryz.prog wr=.ok (.string ⟨#[]⟩) wr:=
        run_conv_row (P:=Tryz.prog) wr 141 9 5 ⟨w.heap.size,0,none⟩ 0 [] Tryz.underlying141 Tryz.underlying5 Tryz.underlying9 (fun j hj=>absurd hj (by simp))
      by_cases h20:a=20
      · have hnil:Hid (suf=[]):=by have:=hs.out;show _=_;exact List.eq_nil_of_length_eq_zero (by omega)
        subst h20
        clear hs hp hd ht hf hgo HN19 hm hn kc
        go_wp2
        go_ret
        exact⟨by rw [hres.out,hnil.out];rfl,hb.out⟩
      · have i3:a < 20:=by omega
        have i4:¬ (20 - a=0):=by omega
        clear hs hp hd ht hf hgo HN19 hm hn k0 h20
        go_wp2
        go_ret
        exact⟨by rw [hres.out];rfl,hb.out⟩
def toB (l:List UInt8):ByteArray:=⟨l.toArray⟩
theorem B_toList (t:ByteArray):toB t.data.toList=t:=by obtain⟨⟨l⟩⟩:=t;rfl
theorem toList_B (l:List UInt8):(toB l).data.toList=l:=by simp [toB]
theorem size_B (l:List UInt8):(toB l).size=l.length:=by show l.toArray.size=_;simp
theorem toB_append (a b:List UInt8):toB a++toB b=toB (a++b):=by
  apply ByteArray.ext
  simp [toB,ByteArray.data_append]
theorem trimR_eq (l:List UInt8) (c:UInt8):Lib.trimRightB (l++[c]) c=Lib.trimRightB l c:=by simp [Lib.trimRightB]
theorem trimR_ne (l:List UInt8) (x c:UInt8) (h:x≠c):Lib.trimRightB (l++[x]) c=l++[x]:=by simp [Lib.trimRightB,h]
theorem last_parted (t:ByteArray) (n:Nat) (h:t.size=n+1):t.data.toList=(t.extract 0 n).data.toList++[t[n]'(by omega)]:=by
  have hl:n < t.data.toList.length:=by simpa using (show n < t.size by omega)
  have e1:(t.extract 0 n).data.toList=t.data.toList.take n:=by rw [Lib.extract_upto]
  have e2:t.data.toList[n]'hl=t[n]'(by omega):=rfl
  have e3:t.data.toList.length=n+1:=by simpa using h
  rw [e1,← e2,← List.take_succ_eq_append_getElem hl,List.take_of_length_le (by omega)]
set_option maxHeartbeats 1000000 in
theorem trimByte_any (s:ByteArray) (c:UInt8) (w:World) (hs:s.size≤1000000) :
    Calls Tryz.prog 245 #[.string s,.int .u8 (c.toNat:Int)] w fun e w'=>e=.returned (.string (toB (Lib.trimRightB s.data.toList c)))∧w=w':=by
  go_enter Tryz.func245,Tryz.ntmps245
  go_wp2
  go_loop [0] (fun v=>∃ t:ByteArray,v=.string t∧t.size≤1000000∧Hid (Lib.trimRightB s.data.toList c=Lib.trimRightB t.data.toList c)) (fun v=>Lib.strSize v)
  case atStart=>exact⟨s,rfl,hs,rfl⟩
  case round=>
    obtain⟨t,rfl,ht,hR⟩:=hrel
    by_cases h0:t.size=0
    · have hf:Hid (Lib.trimRightB s.data.toList c=t.data.toList):=by
        have:t.data.toList=[]:=List.eq_nil_of_length_eq_zero (by simpa using h0)
        show _=_
        rw [hR.out,this];rfl
      go_wp2
      go_ret
      exact⟨by rw [hf.out,B_toList];rfl,rfl⟩
    · obtain⟨n,hn⟩:∃ n,t.size=n+1:=⟨t.size - 1,by omega⟩
      have hlt:n < t.size:=by omega
      have hp:=Lib.hid (last_parted t n hn)
      have e1:(t.size:Int) - 1=(n:Int):=by omega
      have hpos:(0:Int) < (t.size:Int):=by omega
      by_cases hc:t[n]=c
      · have hb:(((t[n]'hlt).toNat:Int)==(c.toNat:Int))=true:=by rw [hc];simp
        have hR2:Hid (Lib.trimRightB s.data.toList c=Lib.trimRightB (t.extract 0 n).data.toList c):=by
          show _=_
          rw [hR.out,hp.out,hc,trimR_eq]
        have hz:(t.extract 0 n).size=n:=by rw [ByteArray.size_extract];omega
        clear hp hc hn h0
        go_wp2
        go_round
        case rel=>exact⟨_,rfl,by omega,hR2⟩
        case measure=>rw [Lib.strSize_string,Lib.strSize_string];omega
      · have hb:(((t[n]'hlt).toNat:Int)==(c.toNat:Int))=false:=by
          rw [beq_eq_false_iff_ne]
          exact fun k=>hc (UInt8.toNat_inj.1 (by omega))
        have hf:Hid (Lib.trimRightB s.data.toList c=t.data.toList):=by
          show _=_
          rw [hR.out,hp.out,trimR_ne _ _ _ hc]
        clear hp hc hn h0
        go_wp2
        go_ret
        exact⟨by rw [hf.out,B_toList];rfl,rfl⟩
theorem addr_addQ (b off j:Nat):(⟨b,off,none⟩:Addr).add j=⟨b,off+j,none⟩:=by unfold Addr.add;split <;> simp_all
def FlatQ (Q:Nat→Prop) (w:World) (A:Option Addr) (xs:List Value):Prop:=∀ (j:Nat) u,xs[j]?=some u→∃ b off,A=some ⟨b,off,none⟩∧Q b∧w.cell? ⟨b,off+j,none⟩=some u
theorem FlatQ.nil (Q:Nat→Prop) (w:World) (A:Option Addr):FlatQ Q w A []:=fun j u hu=>by simp at hu
theorem FlatQ.less {Q R:Nat→Prop} {w:World} {A:Option Addr} {xs:List Value} (h:FlatQ Q w A xs) (hr:∀ b,Q b→R b):FlatQ R w A xs:=fun j u hu=>by
  obtain⟨b,off,h1,h2,h3⟩:=h j u hu
  exact⟨b,off,h1,hr b h2,h3⟩
theorem FlatQ.keep {Q:Nat→Prop} {w w':World} {A:Option Addr} {xs:List Value} (h:FlatQ Q w A xs) (hk:∀ b,Q b→w'.heap[b]?=w.heap[b]?):FlatQ Q w' A xs:=fun j u hu=>by
  obtain⟨b,off,h1,h2,h3⟩:=h j u hu
  exact⟨b,off,h1,h2,(World.cell?_of_block (a:=⟨b,off+j,none⟩) (hk b h2)).trans h3⟩
theorem FlatQ.below {Q:Nat→Prop} {w w':World} {A:Option Addr} {xs:List Value} {B:Nat} (h:FlatQ Q w A xs) (hb:Below B w w') (hq:∀ b,Q b→b < B):FlatQ Q w' A xs:=h.keep fun b hq'=>hb.block b (hq b hq')
theorem FlatQ.lt {Q:Nat→Prop} {w:World} {A:Option Addr} {xs:List Value} (h:FlatQ Q w A xs):FlatQ (fun b=>Q b∧b < w.heap.size) w A xs:=fun j u hu=>by
  obtain⟨b,off,h1,h2,h3⟩:=h j u hu
  exact⟨b,off,h1,⟨h2,World.block_lt_of_cell? w _ h3⟩,h3⟩
theorem flatq_own {w:World} {base:Nat} {e:TypeId} {size n:Nat} {v:Value} {xs:List Value} (h:w.ownsRow base e size v n xs):∃ A c,v=.slice A n c∧n≤c∧FlatQ (fun b=>base≤b∧b < w.heap.size) w A xs∧(A=none→n=0∧c=0):=by
  rcases h.2 with ⟨hv,h0⟩ | ⟨g,cap,cur,hv,hb,hg,hcap,-⟩
  · have hx:xs=[]:=List.eq_nil_of_length_eq_zero (by rw [h.1,h0];simp)
    exact⟨none,0,by rw [hv,h0],by omega,by rw [hx];exact FlatQ.nil _ _ _,fun _=>⟨h0,rfl⟩⟩
  · subst hv
    exact⟨some ⟨g,0,none⟩,cap,rfl,hcap,fun j u hu=>⟨g,0,rfl,⟨hb,(Array.getElem?_eq_some_iff.1 hg).1⟩,by have:=h.cells (g:=g) rfl j u hu;rw [addr_addQ] at this;exact this⟩,fun q=>by cases q⟩
section
variable {P : Program}
theorem run_append_mine (w:World) (t ty e:TypeId) (i:TypeInfo) (z:Value) (size bytes:Nat) (h1:P.underlying t=some (.slice e)) (h2:P.info? e=some i) (h3:i.zero=some z) (h4:i.size=size) (h5:i.bytes=bytes) (h6:z.cells.size=size) (h7:0 < size)
    {R:Nat→Prop} (base:Nat) (v:Value) (n:Nat) (xs:List Value) (hown:w.ownsRow base e size v n xs)
    (X:Option Addr) (m c:Nat) (news:List Value) (hn:news.length=m * size) (hc:FlatQ R w X news) (h1c:∀ u∈news,u.oneCell'=true)
    (b1:n+m≤maxLen) (b2:(n+m) * bytes≤140737488355328) (hb:base≤w.heap.size) :
    ∃ v' w',(Builtin.append_ #[t,t] ty #[v,.slice X m c]).run P w=.ok v' w'∧w'.ownsRow base e size v' (n+m) (xs++news)∧w.grownBy w' v.ownBlock∧(v'.ownBlock=v.ownBlock∨v'.ownBlock=some w.heap.size):=by
  by_cases hm:m=0
  · subst hm
    obtain rfl:news=[]:=List.eq_nil_of_length_eq_zero (by rw [hn];simp)
    obtain⟨A,cap,rfl,hcap,-,-⟩:=flatq_own hown
    have hrun:=run_append_nothing (P:=P) w t t ty e i h1 h2 A n cap hcap (.slice X 0 c) ⟨.inl ⟨e,h1⟩,fun w'=>by simp [Builtin.lenOf],by cases X <;> simp [Builtin.firstCells,h4,loadCells,loadCellsFrom],by cases X <;> simp [Builtin.firstCells,h4,loadCells,loadCellsFrom],by simp,fun u hu=>by cases hu⟩
    exact⟨_,w,hrun,by rw [List.append_nil];exact hown,⟨rfl,rfl,rfl,Nat.le_refl _,fun _ _ _=>rfl⟩,.inl rfl⟩
  · have hpos:0 < news.length:=by rw [hn];exact Nat.mul_pos (by omega) h7
    obtain⟨xb,xo,hX,-,-⟩:=hc 0 news[0] (List.getElem?_eq_getElem hpos)
    subst hX
    have hnews:∀ j u,news[j]?=some u→w.cell? ((⟨xb,xo,none⟩:Addr).add j)=some u:=fun j u hu=>by
      obtain⟨b',off,e1,-,e3⟩:=hc j u hu
      injection e1 with e1
      injection e1 with e1 e2
      subst e1 e2
      rw [addr_addQ]
      exact e3
    obtain⟨v',w',hr,h8,h9,-,h10⟩:=run_append_own_at (P:=P) w base t ty e i z size bytes h1 h2 h3 h4 h5 h6 h7 v n xs hown ⟨xb,xo,none⟩ m c news hn hnews h1c b1 b2 hb
    exact⟨v',w',hr,h8,h9,h10⟩
theorem wp_append_known {w W:World} {o:Oper} {a:Act} {K:Act→World→Prop} {Q:Exit→Act→World→Prop} (s x:Operand) (t:TypeId)
    (ho:o.op=.call { callee:=.builtin .append,args:=#[s,x],argTypes:=#[t,t] }) (v u r:Value) (hs:a.eval s=v) (hx:a.eval x=u)
    (hr:(Builtin.append_ #[t,t] o.type #[v,u]).run P w=.ok r W) (h:K (a.put o.dst r) W):o.wp P a w K Q:=by
  unfold Oper.wp execOp
  simp only [ho,resolve,invoke,builtin,Sem.run_bind,Sem.run_pure,Result.andThen_ok,List.map_toArray,List.map_cons,List.map_nil,hs,hx,hr]
  exact h
theorem wpList_append_known {w W:World} {ops:Array Oper} {rest:List Oper} {o:Oper} {a:Act} {Q:Exit→Act→World→Prop} (hgd:o.guard=none) (s x:Operand) (t:TypeId)
    (ho:o.op=.call { callee:=.builtin .append,args:=#[s,x],argTypes:=#[t,t] }) (v u r:Value) (hs:a.eval s=v) (hx:a.eval x=u)
    (hr:(Builtin.append_ #[t,t] o.type #[v,u]).run P w=.ok r W) (h:wpList P ops Q rest (a.put o.dst r) W):wpList P ops Q (o :: rest) a w:=
  wpList_plain hgd fun _ hK=>wp_append_known s x t ho v u r hs hx hr (hK _ _ h)
end
end Go.Proofs.YtoabkoniegmkaaaGreat
