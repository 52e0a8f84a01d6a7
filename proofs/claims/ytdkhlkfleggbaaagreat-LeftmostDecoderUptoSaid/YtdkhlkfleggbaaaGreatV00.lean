/- Parts. -/
import Derived.WalkKit
import Derived.WalkSpells
import Derived.WalkLawsBesides
import Derived.Lib.Hide
import Derived.Deep.MidRow
import Derived.Deep.Upon
import Derived.Deep.RegionHeld
import Derived.Deep.AppendLies
import Derived.ArgAppend
import Derived.Laws.IdiomCopy
import Derived.Test.YtdkhlkfleggbaaaGreatProg
import Derived.DeepKeys
import Derived.DeepKeys2
import Derived.OrdersHeld
import Derived.Deep.LoopGhost
import Derived.IntWalk
import Derived.Deep.QuietTactic
import Derived.BigQuiet
import Derived.Deep.DeepCutAuto
namespace Go.Proofs.YtdkhlkfleggbaaaGreat
set_option maxHeartbeats 1000000
set_option maxRecDepth 8000
open Tryz
set_option linter.unusedVariables false
open Go.RowKit
def Q_(p:Prop):Prop:=p
theorem q_{p:Prop}(h:p):Q_ p:=h
theorem Q_.o{p:Prop}(h:Q_ p):p:=h
abbrev a8:=@Nat.le_refl
abbrev a9:=@World.cell?_setCell_other
abbrev b8:=@World.cell?_alloc_at
abbrev b9:=@bodyPost_ret
abbrev d7:=@List.getElem?_eq_getElem
abbrev e9:=@List.length_append
abbrev i9:=@Nat.lt_of_lt_of_le
abbrev l6:=@frozen?_alloc_cells
abbrev l7:=@beq_eq_false_iff_ne
abbrev l8:=@List.length_take
abbrev l9:=@List.getD_eq_getElem?_getD
abbrev n5:=@List.length_drop
abbrev n6:=@List.length_cons
abbrev n7:=@World.cell?_alloc_past
abbrev n9:=@Below.refl
abbrev o3:=@And.intro
abbrev o4:=@yieldsIf_load_mid
abbrev o5:=@Int.natCast_nonneg
abbrev o6:=@List.size_toArray
abbrev o7:=@decide_eq_false
abbrev o8:=@Array.getElem?_eq_some_iff
abbrev o9:=@List.take_succ_eq_append_getElem
abbrev p9:=@Nat.le_trans
abbrev t6:=@wp_region_held_drew
abbrev t7:=@World.cell?_of_block
abbrev t8:=@decide_eq_true
abbrev t9:=@run_loadVar_mid
abbrev b0a:=@List.getElem?_append_right
abbrev b0b:=@bne_eq_false_iff_eq
abbrev b0c:=@List.getElem?_eq_none
abbrev b0d:=@Nat.zero_le
abbrev b0e:=@List.getElem?_append_left
abbrev b0f:=@World.cell?_setCell_same'
abbrev b0g:=@Bool.and_eq_true
abbrev b0h:=@Array.length_toList
abbrev b0i:=@AllReadyH.cons
abbrev b0j:=@Nat.zero_add
abbrev b0k:=@List.eq_nil_of_length_eq_zero
abbrev b0l:=@List.getElem?_map
abbrev b0m:=@wpAnyH_done
abbrev b0n:=@Below.setCell
abbrev b0o:=@List.length_map
abbrev b0p:=@List.append_nil
abbrev b0q:=@wpList_load_mid
abbrev b0r:=@bne_iff_ne
abbrev b0s:=@List.append_assoc
abbrev b0t:=@List.take_append_drop
abbrev b0u:=@List.cons_append
abbrev b0v:=@List.take_length
abbrev b0w:=@List.drop_eq_getElem_cons
abbrev b0x:=@World.cell?_setCell_same
abbrev b0y:=@List.nil_append
abbrev b0z:=@List.length_nil
abbrev b00:=@ByteArray.size_extract
abbrev b01:=@AllReadyH.nil
abbrev b03:=@List.mem_cons
abbrev b04:=@Nat.not_lt_zero
abbrev b05:=@IntWalk.i64_in
abbrev b06:=@Nat.pow_le_pow_right
abbrev b07:=@ByteArray.toList_eq
abbrev b08:=@Nat.lt_or_ge
abbrev b09:=@Nat.ne_of_lt
abbrev b1a:=@wpAnyH_ready
abbrev b1b:=@Nat.lt_trans
abbrev b1c:=@List.setIfInBounds_toArray
abbrev b1d:=@List.toList_toArray
abbrev b1e:=@Nat.le_of_eq
abbrev b1f:=@Result.andThen_ok
abbrev b1g:=@of_decide_eq_true
abbrev b1h:=@List.take_of_length_le
abbrev b1i:=@wp_load_mid
abbrev b1j:=@List.getElem_mem
abbrev b1k:=@Sem.run_bind
abbrev b1l:=@decide_eq_true_eq
abbrev b1m:=@Nat.min_eq_left
abbrev b1n:=@Array.replicate_succ
abbrev b1o:=@Array.replicate_zero
abbrev b1p:=@results_cell_tmp
abbrev b1q:=@wp_seq_k
abbrev b1r:=@List.length_replicate
abbrev b1s:=@List.append_toArray
abbrev b1t:=@World.frozen?_of_block
abbrev b1u:=@World.rangeAt_setCells_same
abbrev b1v:=@Int.toNat_natCast
abbrev b1w:=@beq_iff_eq
abbrev b1x:=@List.mem_cons_self
abbrev b1y:=@UInt8.toNat_inj
abbrev b1z:=@List.mem_append
abbrev b10:=@List.drop_drop
abbrev b11:=@List.getElem?_eq_some_iff
abbrev b12:=@List.push_toArray
abbrev b13:=@List.mem_cons_of_mem
abbrev b14:=@Below.heap_setCell
abbrev b15:=@List.set_cons_zero
abbrev b16:=@List.getElem?_take_of_lt
abbrev b17:=@List.map_append
abbrev b18:=@List.set_cons_succ
abbrev b19:=@List.drop_of_length_le
abbrev b2a:=@Int.natCast_mul
abbrev b2b:=@List.take_zero
abbrev b2c:=@List.all_eq_true
abbrev b2d:=@rounds_succ
abbrev b2e:=@Option.some.injEq
abbrev b2f:=@List.mem_map
abbrev b2g:=@List.getElem_append_left
abbrev b2h:=@Nat.le_of_lt
abbrev b2i:=@List.flatMap_cons
abbrev b2j:=@List.getElem?_toArray
abbrev b2k:=@List.drop_zero
abbrev b2l:=@List.foldl_cons
abbrev b2m:=@List.getElem?_cons_succ
abbrev b2n:=@Int.eq_ofNat_of_zero_le
abbrev b2o:=@List.not_mem_nil
abbrev b2p:=@World.ownsRow_nil
abbrev b2q:=@List.length_pos_iff
abbrev b2r:=@Nat.le_succ
abbrev b2s:=@List.getElem_append_right
abbrev b2t:=@Array.eq_empty_of_size_eq_zero
abbrev b2u:=@List.length_filter_le
abbrev b2v:=@List.mem_singleton
abbrev b2w:=@Bool.false_eq_true
abbrev b2x:=@Below.trans
abbrev b2y:=@List.map_cons
abbrev b2z:=@World.block_lt_of_cell?
abbrev b20:=@wp_region_lit
abbrev b21:=@Sem.run_pure
abbrev b22:=@Nat.pow_succ
abbrev b23:=@Nat.sub_self
abbrev b24:=@List.ext_getElem?
abbrev b25:=@Classical.not_not
abbrev b26:=@Option.map_some
abbrev b27:=@Option.map_eq_some_iff
abbrev b28:=@wpList_store_mid
abbrev b29:=@Nat.mod_eq_of_lt
abbrev b3a:=@Int.not_lt
abbrev b3b:=@Int.not_le
abbrev b3c:=@Nat.add_assoc
abbrev b3d:=@Nat.add_zero
abbrev b3e:=@ByteArray.size_append
abbrev b3f:=@run_underlying
abbrev b3g:=@List.mem_of_mem_take
abbrev b3h:=@List.take_succ_cons
abbrev b3i:=@List.length_reverse
abbrev b3j:=@List.flatten_append
abbrev b3k:=@List.getElem?_cons_zero
abbrev b3l:=@List.getElem_of_mem
abbrev b3m:=@List.getElem_map
abbrev b3n:=@List.take_append_of_le_length
abbrev b3o:=@List.drop_append_of_le_length
abbrev b3p:=@List.drop_eq_nil_of_le
abbrev b3q:=@List.getElem?_drop
abbrev b3r:=@Nat.mul_comm
abbrev b3s:=@List.sum_append
abbrev b3t:=@List.length_set
abbrev b3u:=@World.frozen?_setCell
abbrev b3v:=@List.foldl_append
abbrev b3w:=@IntWalk.u64_in
abbrev b3x:=@Nat.pow_pos
abbrev b3y:=@List.getElem?_range
abbrev b3z:=@Nat.pow_add
abbrev b30:=@Int.one_mul
abbrev b31:=@List.set_eq_take_append_cons_drop
abbrev b32:=@World.ownsRow_made
abbrev b33:=@ByteArray.ext
abbrev b34:=@UInt8.toNat_ofNat'
abbrev b35:=@Prod.mk.injEq
abbrev b36:=@List.getElem?_set_self
abbrev b37:=@List.flatten_cons
abbrev b38:=@List.getElem_drop
abbrev b39:=@IntWalk.wrap64_in
abbrev b4a:=@List.getElem_take
abbrev b4b:=@Nat.mul_le_mul
abbrev b4c:=@World.cell?_alloc_new
abbrev b4d:=@List.mem_flatMap
abbrev b4e:=@Nat.lt_succ_self
abbrev b4f:=@List.getElem?_set_ne
abbrev b4g:=@List.length_eraseIdx
abbrev b4h:=@ByteArray.extract_mk
abbrev b4i:=@Bool.eq_iff_iff
abbrev b4j:=@Nat.mul_one
abbrev b4k:=@List.replicate_succ
abbrev b4l:=@List.flatMap_append
abbrev b4m:=@List.drop_succ_cons
abbrev b4n:=@Bool.or_eq_true
abbrev b4o:=@List.takeWhile_cons
abbrev b4p:=@Nat.mul_lt_mul_of_pos_right
abbrev b4q:=@run_loadCells_list
abbrev b4r:=@decide_eq_true_iff
abbrev b4s:=@Nat.succ_mul
abbrev b4t:=@bodyPost_end
abbrev b4u:=@or_false
abbrev b4v:=@if_false
abbrev b4w:=@Nat.add_sub_cancel
abbrev b4x:=@Nat.eq_zero_or_pos
abbrev b4y:=@Nat.succ_pos
abbrev b4z:=@List.zip_cons_cons
abbrev b40:=@List.zip_nil_right
abbrev b41:=@List.foldl_toArray
abbrev b42:=@wp_loop_rounds
abbrev b43:=@wp_scope_straight
abbrev b44:=@List.reverse_cons
abbrev b45:=@wpList_append_own
abbrev b46:=@wpIn_wide
abbrev b47:=@Nat.mul_assoc
abbrev b48:=@u16_xor_nat
abbrev b49:=@IntWalk.i64_left
abbrev b5a:=@List.drop_length
abbrev b5b:=@List.zip_toArray
abbrev b5c:=@List.map_nil
abbrev b5d:=@Nat.min_le_left
abbrev b5e:=@List.take_left'
abbrev b5f:=@Nat.sub_zero
abbrev b5g:=@List.cons.injEq
abbrev b5h:=@List.drop_left'
abbrev b5i:=@List.map_map
abbrev b5j:=@Int.natCast_add
abbrev b5k:=@List.headD_cons
abbrev b5l:=@decode_ascii
abbrev b5m:=@Prod.ext
abbrev b5n:=@Int.neg_mul
abbrev b5o:=@wp_mono
abbrev b5p:=@if_true
abbrev b5q:=@dif_pos
theorem om {p:Prop} (h:p:=by omega):p:=h
theorem sm {p:Prop} (h:p:=by simp):p:=h
theorem dc {p:Prop} (h:p:=by decide):p:=h
theorem kr {p:Prop} (h:p:=by kernel_rfl):p:=h
theorem bnh {a b:Int} (h:a=b):Ending.returned (.int .u8 a)=.returned (.int .u8 b):=by rw[h]
theorem a9e {a b:Int} (h:a=b):Ending.returned (.int .i64 a)=.returned (.int .i64 b):=by rw[h]
theorem aq2 {a b:Bool} (h:a=b):Ending.returned (.bool a)=.returned (.bool b):=by rw[h]
theorem qb {w w1 w2:World} (h1:Below w.1.size w w1) (h2:Below w1.1.size w1 w2):Below w.1.size w w2:=h1.trans (h2.mono h1.size)
theorem aai {B:Nat} {a w:World} (h:Below B a w) (n:Nat):Below B a (w.drewN n):=⟨h.os,h.tape,h.output,h.size,h.block⟩
theorem acf {B:Nat} {a w:World} (h:Below B a w):Below B a w.drew:=⟨h.os,h.tape,h.output,h.size,h.block⟩
theorem bdh (s:ByteArray) (k:Nat) (h:k<s.size):s.data.toList.take (k+1)=s.data.toList.take k++[s[k]]:=by
 rw[o9 (by simpa using h)];rfl
theorem bnq (a b:UInt8):Value.int IntKind.u8 (bits BinOp.xor IntKind.u8 (a.toNat:Int) (b.toNat:Int))=Value.int IntKind.u8 ((a ^^^ b).toNat:Int):=by
 rw[u8_xor_nat _ _ a.toNat_lt b.toNat_lt,UInt8.toNat_xor]
theorem ale {P:Program} (w:World) (src dst e:TypeId) (a:Addr) (cap:Nat) (ns:List Int)
 (hs:P.underlying src=some (.slice e)) (he:P.underlying e=some (.int .u8)) (hd:P.underlying dst=some .string)
 (hc:∀j (hj:j<ns.length),w.cell? (a.add j)=some (.int .u8 ns[j])) :
 (convert src dst (.slice (some a) ns.length cap)).run P w=.ok (.string ⟨(ns.map λn=>UInt8.ofNat n.toNat).toArray⟩) w:=by
 rw[run_convert_bytes_string w src dst e (some a) ns.length cap hs he hd]
 have hl:=b4q (P:=P) w a (ns.map (Value.int .u8)) (λj v hj=>by
  have hjl:j<ns.length:=by
   rcases b08 j ns.length with h|h
   ·exact h
   ·simp[b0c (show (ns.map (Value.int .u8)).length<=j by simpa using h)]at hj
  rw[hc j hjl]
  simpa [d7 hjl]using hj)
 rw[b0o]at hl;rw[run_bytesToString w a ns.length cap ns hl]
 congr 2
 have:∀(l:List Int) (r:ByteArray),l.foldl (λr n=>r.push (UInt8.ofNat n.toNat)) r=⟨r.data ++(l.map λn=>UInt8.ofNat n.toNat).toArray⟩:=by
  intro l
  induction l with
  | nil=>intro r;simp
  | cons n l ih=>
   intro r;simp only[b2l,b2y];rw[ih]
   congr 1
   apply Array.ext';simp[ByteArray.push]
 rw[this];simp
def v6 (w:World) (B:Nat) (A:Option Addr) (fs:List ByteArray):Prop:=
 ∀k (hk:k<fs.length),∃b off,A=some ⟨b,off,none⟩/\b<B/\w.cell? ⟨b,off+k,none⟩=some (.string (fs[k]'hk))
theorem v6.keep {w w':World} {B:Nat} {A:Option Addr} {fs:List ByteArray} (h:v6 w B A fs) (hk:∀p:Addr,p.block<B->w'.cell? p=w.cell? p):v6 w' B A fs:=by
 intro k hk';obtain⟨b,off,hA,hb,hc⟩:=h k hk';exact⟨b,off,hA,hb,(hk _ hb).trans hc⟩
theorem v6.below {w w':World} {B B':Nat} {A:Option Addr} {fs:List ByteArray} (h:v6 w B A fs) (hb:Below B' w w') (hB:B<=B'):v6 w' B A fs:=
 h.keep λ_ hp=>hb.cell (i9 hp hB)
theorem v6.more {w:World} {B B':Nat} {A:Option Addr} {fs:List ByteArray} (h:v6 w B A fs) (hB:B<=B'):v6 w B' A fs:=by
 intro k hk';obtain⟨b,off,hA,hb,hc⟩:=h k hk';exact⟨b,off,hA,by omega,hc⟩
def aav (lo:Nat) (A:Option Addr):Prop:=∀a,A=some a->lo<=a.block
theorem aav.none_ {lo:Nat}:aav lo none:=λa h=>by cases h
theorem aav.less {lo lo':Nat} {A:Option Addr} (h:aav lo A) (hl:lo'<=lo):aav lo' A:=λa e=>p9 hl (h a e)
theorem v6.setCell {w:World} {B lo:Nat} {A:Option Addr} {fs:List ByteArray} (h:v6 w B A fs) (hf:aav lo A) {p:Addr} (hp:p.block<lo) (v:Value):v6 (w.setCell p v) B A fs:=by
 intro k hk';obtain⟨b,off,hA,hb,hc⟩:=h k hk';have hlo:=hf _ hA;exact⟨b,off,hA,hb,(a9 w p _ v (λe=>by subst e;exact absurd hp (Nat.not_lt.2 hlo))).trans hc⟩
theorem qa (w:World) (o:Obj):Below w.1.size w (w.alloc o):=(n9 _ _).alloc (a8 _) _
theorem qy {B:Nat} {W w1:World} (hb:Below B W w1):(∀b o,b<B->w1.cell? ⟨b,o,none⟩=W.cell? ⟨b,o,none⟩) /\(∀b o,b<B->w1.frozen? ⟨b,o,none⟩=W.frozen? ⟨b,o,none⟩):=
 ⟨λb o h=>hb.cell (p:=⟨b,o,none⟩) h,λb o h=>hb.frozen (p:=⟨b,o,none⟩) h⟩
section
variable {P : Program} {ops : Array Oper} {rest : List Oper} {o : Oper} {a : Act} {w W : World} {Q : Exit -> Act -> World -> Prop}
theorem aba (hgd:o.guard=none) {v:Value} (hex:(execOp a.eval o).run P w=.ok (.value v) W) (h:wpList P ops Q rest (a.put o.dst v) W):wpList P ops Q (o::rest) a w:=
 wpList_plain hgd λK hK=>by unfold Oper.wp;rw[hex];exact hK _ _ h
theorem abi (hgd:o.guard=none) (t:TypeId) (parts:Array (Nat×Operand)) (ho:o.op=.build t parts) {v:Value} (ps:Array (Nat×Value)) (hp:(parts.map fun(i,x)=>(i,a.eval x))=ps) (hr:(Instr.build t ps).run P w=.ok v w)
 (h:wpList P ops Q rest (a.put o.dst v) w):wpList P ops Q (o::rest) a w:=
 aba hgd (by unfold execOp;rw[ho];simp only[hp,b1k,hr,b1f,b21]) h
theorem zo (hgd:o.guard=none) (t:TypeId) (ho:o.op=.build t #[]) {v:Value} (hr:(Instr.build t #[]).run P w=.ok v w)
 (h:wpList P ops Q rest (a.put o.dst v) w):wpList P ops Q (o::rest) a w:=abi hgd t _ ho #[] sm hr h
theorem zf (hgd:o.guard=none) (t:TypeId) (i:Nat) (x:Operand) (ho:o.op=.build t #[(i,x)]) {u v:Value} (hx:a.eval x=u) (hr:(Instr.build t #[(i,u)]).run P w=.ok v w)
 (h:wpList P ops Q rest (a.put o.dst v) w):wpList P ops Q (o::rest) a w:=abi hgd t _ ho #[(i,u)] (by simp[hx]) hr h
theorem aff (hgd:o.guard=none) (t:TypeId) (i j:Nat) (x y:Operand) (ho:o.op=.build t #[(i,x),(j,y)]) {u u' v:Value} (hx:a.eval x=u) (hy:a.eval y=u') (hr:(Instr.build t #[(i,u),(j,u')]).run P w=.ok v w)
 (h:wpList P ops Q rest (a.put o.dst v) w):wpList P ops Q (o::rest) a w:=abi hgd t _ ho #[(i,u),(j,u')] (by simp[hx,hy]) hr h
theorem zc (hgd:o.guard=none) (x:Operand) (xT aT:TypeId) (ok:Bool) (ho:o.op=.typeAssert x xT aT ok) {u v:Value} (hx:a.eval x=u) (hr:(Instr.typeAssert u xT aT ok).run P w=.ok v w)
 (h:wpList P ops Q rest (a.put o.dst v) w):wpList P ops Q (o::rest) a w:=
 aba hgd (by unfold execOp;rw[ho];simp only[hx,b1k,hr,b1f,b21]) h
end
theorem World.rangeAt_append {w:World} {b o:Nat} {l m:List Value}:w.rangeAt b o (l++m)↔w.rangeAt b o l/\w.rangeAt b (o+l.length) m:=by
 constructor
 ·intro h;refine⟨λj v hv=>h j v ?_,λj v hv=>?_⟩
  ·have hj:j<l.length:=by
    rcases b08 j l.length with q|q
    ·exact q
    ·rw[b0c q]at hv;cases hv
   rw[b0e hj];exact hv
  ·have:=h (l.length+j) v (by rw[b0a om];simpa using hv);rw[b3c];exact this
 ·rintro⟨h1,h2⟩ j v hv;rcases b08 j l.length with q|q
  ·exact h1 j v (by rw[b0e q]at hv;exact hv)
  ·rw[b0a q]at hv;have:=h2 _ _ hv;rw[show o+l.length +(j-l.length)=o+j from by omega]at this;exact this
theorem World.rangeAt_cons {w:World} {b o:Nat} {v:Value} {m:List Value}:w.rangeAt b o (v::m)↔w.cell? ⟨b,o,none⟩=some v/\w.rangeAt b (o+1) m:=by
 rw[show v::m=[v]++m from rfl,World.rangeAt_append]
 exact and_congr ⟨λh=>h 0 v rfl,λh j u hu=>by
  cases j with
  | zero=>injection hu with hu;subst hu;exact h
  | succ j=>simp at hu⟩ Iff.rfl
theorem aa6 {w w':World} {b o:Nat} {l:List Value} (h:w.rangeAt b o l) (hk:w'.heap[b]?=w.heap[b]?):w'.rangeAt b o l:=λj v hv=>(t7 (a:=⟨b,o+j,none⟩) hk).trans (h j v hv)
theorem xf {w w':World} {b o B:Nat} {l:List Value} (h:w.rangeAt b o l) (hb:Below B w w') (hl:b<B):w'.rangeAt b o l:=aa6 h (hb.block b hl)
theorem bb6 (w:World) (C:Array Value) (t:TypeId):(w.alloc (.cells C t)).rangeAt w.1.size 0 C.toList:=λj v hv=>by
 rw[b0j];exact(b8 (w:=w) _ _ _ _ rfl).trans (by rw[Array.getElem?_toList]at hv;exact hv)
structure ayy (w W:World) (C:Array Value):Prop where
 sz:W.1.size=w.1.size+1
 bel:Below w.1.size w W
 rg:W.rangeAt w.1.size 0 C.toList
 fz:∀o,W.frozen? ⟨w.1.size,o,none⟩=false
theorem qg (w:World) (C:Array Value) (t:TypeId):ayy w (w.alloc (.cells C t)) C:=
 ⟨by simp,qa _ _,bb6 w C t,λo=>by rw[l6];simp[World.frozen?]⟩
structure qq (w W:World) (b o:Nat) (cs:List Value):Prop where
 os:W.os=w.os
 tape:W.tape=w.tape
 output:W.output=w.output
 sz:W.1.size=w.1.size
 far:∀k,k≠b->W.heap[k]?=w.heap[k]?
 fz:∀x,W.frozen? x=w.frozen? x
 rg:W.rangeAt b o cs
 apart:∀o' l,w.rangeAt b o' l ->(o'+l.length<=o\/o+cs.length<=o')->W.rangeAt b o' l
 there:∀b' o' n,w.there b' o' n->W.there b' o' n
theorem ajk (b:Nat):∀(vs:List Value) (o:Nat) (w:World),(w.setCells b o vs).os=w.os /\(w.setCells b o vs).tape=w.tape /\(w.setCells b o vs).output=w.output /\(w.setCells b o vs).1.size=w.1.size/\∀k,k≠b ->(w.setCells b o vs).heap[k]?=w.heap[k]?
 | [],o,w=>⟨rfl,rfl,rfl,rfl,λ_ _=>rfl⟩
 | v::r,o,w=>by
  obtain⟨h1,h2,h3,h4,h5⟩:=ajk b r (o+1) (w.setCell ⟨b,o,none⟩ v);have hb:Below b w (w.setCell ⟨b,o,none⟩ v):=(n9 b w).setCell (a8 _) v;exact⟨h1.trans hb.os,h2.trans hb.tape,h3.trans hb.output,h4.trans sm,λk hk=>(h5 k hk).trans (b14 _ _ _ _ hk)⟩
theorem qo {w:World} {b o:Nat} {cs:List Value} (ht:w.there b o cs.length):qq w (w.setCells b o cs) b o cs:=by
 obtain⟨h1,h2,h3,h4,h5⟩:=ajk b cs o w;exact⟨h1,h2,h3,h4,h5,λx=>World.frozen?_setCells _ _ _ _ _,b1u _ _ _ _ ht,λo' l hl ha=>World.rangeAt_setCells_apart hl _ _ _ (.inr ha),λb' o' n h=>World.there_setCells h _ _ _⟩
theorem zm {w:World} {b o:Nat} {v:Value} (ht:w.there b o 1):qq w (w.setCell ⟨b,o,none⟩ v) b o [v]:=qo (cs:=[v]) ht
theorem qq.below {w W:World} {b o B:Nat} {cs:List Value} (h:qq w W b o cs) (hb:B<=b):Below B w W:=⟨h.os,h.tape,h.output,by rw[h.sz];exact a8 _,λk hk=>h.far k om⟩
theorem World.there.sub {w:World} {b o n:Nat} (h:w.there b o n) (k m:Nat) (hm:k+m<=n):w.there b (o+k) m:=λj hj=>by
 have:=h (k+j) om
 rwa [<- b3c]at this
section
variable {P : Program} {ops : Array Oper} {rest : List Oper} {o : Oper} {a : Act} {w : World} {Q : Exit -> Act -> World -> Prop}
theorem qr (hgd:o.guard=none) (T:TypeId) (x:Operand) (ho:o.op=.box T x) (C:Array Value) (hx:a.eval x=.agg C) (h:∀W,ayy w W C->wpList P ops Q rest (a.put o.dst (.pointer (some ⟨w.1.size,0,none⟩))) W):wpList P ops Q (o::rest) a w:=
 aba hgd (W:=w.alloc (.cells C T)) (by unfold execOp;rw[ho];simp[hx,Instr.box,newVar,newRow,Value.cells]) (h _ (qg w C T))
theorem qc (hgd:o.guard=none) (T:TypeId) (ho:o.op=.alloc T) (Z:Array Value) (hz:(zeroValue T).run P w=.ok (.agg Z) w) (h:∀W,ayy w W Z->wpList P ops Q rest (a.put o.dst (.pointer (some ⟨w.1.size,0,none⟩))) W):wpList P ops Q (o::rest) a w:=
 aba hgd (W:=w.alloc (.cells Z T)) (by unfold execOp;rw[ho];simp[Instr.alloc,hz,newVar,newRow,Value.cells]) (h _ (qg w Z T))
theorem aof (w:World) (b f:Nat) (ty:TypeId) (v:Value) (ht:w.there b f 1) (hi:(P.info? ty).map (·.size)=some 1) (hc:v.cells=#[v]) (h1:v.oneCell'=true) :
 (Instr.storeAt ty (.pointer (some ⟨b,f,none⟩)) v).run P w=.ok () (w.setCell ⟨b,f,none⟩ v):=by
 have:=run_storeCells_cells (P:=P) b f [v] 0 w (λj hj=>by simpa using (ht j (by simpa using hj)).1) (λj hj=>by simpa using (ht j (by simpa using hj)).2) (λu hu=>by simp at hu;subst hu;exact h1);cases hq:P.info? ty with
 | none=>simp[hq]at hi
 | some i=>
  have hs:1=i.size:=by simp[hq]at hi;omega
  simp only[b3d]at this;simp only[Instr.storeAt,Instr.sureAddr,b1k,b21,b1f];simp[storeVar,sizeOf,typeInfo,hq,hc,<- hs,this,World.setCells]
theorem abj {K:Act->World->Prop} (T:TypeId) (x y:Operand) (ho:o.op=.store T x y) (b f:Nat) (v:Value) (hx:a.eval x=.pointer (some ⟨b,f,none⟩)) (hy:a.eval y=v) (ht:w.there b f 1) (hi:(P.info? T).map (·.size)=some 1) (hc:v.cells=#[v]) (h1:v.oneCell'=true)
 (h:∀W,qq w W b f [v]->K (a.put o.dst undef) W):o.wp P a w K Q:=by
 unfold Oper.wp execOp;simp only[ho,hx,hy,b1k,aof w b f T v ht hi hc h1,b1f,b21];exact h _ (zm ht)
theorem ac6 {K:Act->World->Prop} (T:TypeId) (x y:Operand) (ho:o.op=.store T x y) (b f:Nat) (C:Array Value) (hx:a.eval x=.pointer (some ⟨b,f,none⟩)) (hy:a.eval y=.agg C) (ht:w.there b f C.size) (hi:(P.info? T).map (·.size)=some C.size) (h1:C.all (·.oneCell')=true)
 (h:∀W,qq w W b f C.toList->K (a.put o.dst undef) W):o.wp P a w K Q:=
 wp_store_mid T x y ho b f C hx hy ht hi h1 (h _ (qo (by simpa using ht)))
theorem af2 (hgd:o.guard=none) (T:TypeId) (x y:Operand) (ho:o.op=.store T x y) (b f:Nat) (v:Value) (hx:a.eval x=.pointer (some ⟨b,f,none⟩)) (hy:a.eval y=v) (ht:w.there b f 1) (hi:(P.info? T).map (·.size)=some 1) (hc:v.cells=#[v]) (h1:v.oneCell'=true)
 (h:∀W,qq w W b f [v]->wpList P ops Q rest (a.put o.dst undef) W):wpList P ops Q (o::rest) a w:=
 wpList_plain hgd λ_ hK=>abj T x y ho b f v hx hy ht hi hc h1 λW hW=>hK _ _ (h W hW)
theorem qe (hgd:o.guard=none) (T:TypeId) (x y:Operand) (ho:o.op=.store T x y) (b f:Nat) (C:Array Value) (hx:a.eval x=.pointer (some ⟨b,f,none⟩)) (hy:a.eval y=.agg C) (ht:w.there b f C.size) (hi:(P.info? T).map (·.size)=some C.size) (h1:C.all (·.oneCell')=true)
 (h:∀W,qq w W b f C.toList->wpList P ops Q rest (a.put o.dst undef) W):wpList P ops Q (o::rest) a w:=
 b28 hgd T x y ho b f C hx hy ht hi h1 (h _ (qo (by simpa using ht)))
end
theorem tkQ {P:Program} {md:Region.Mode} {ops:Array Oper} {Q:Exit->Act->World->Prop} {S:World->Prop} {i:Nat} {oi:Oper} {v:Value} {fuel:Nat} {listed:Array Bool} {a:Act} {w:World} (hi:ops[i]?=some oi) (hy:YieldsIf P ops S oi v a)
 (h:wpAnyH P md ops Q S fuel (listed.setIfInBounds i true) (a.put oi.dst v) w) (hs:Region.noSelect ops=true:=by kernel_rfl) (hf:Region.free md ops listed i=true:=by kernel_rfl) (hr:(Region.ready md ops listed).contains i=true:=by kernel_rfl)
 (hQ:∀c a w,Q (.panic c) (a.put oi.dst v) w->Q (.panic c) a w:=by exact λ_ _ _ h=>h) (hS:S w:=by assumption):wpAnyH P md ops Q S (fuel+1) listed a w:=wpAnyH_take hi hs hf hr hQ hy hS h
theorem tkA {P:Program} {md:Region.Mode} {ops:Array Oper} {Q:Exit->Act->World->Prop} {S:World->Prop} (i d:Nat) {o t p f g} {v:Value} {fuel:Nat} {listed:Array Bool} {a:Act} {w:World} (hi:ops[i]?=some ⟨some d,o,t,p,f,g⟩)
 (h:wpAnyH P md ops Q S fuel (listed.setIfInBounds i true) (a.put (some d) v) w) (hy:YieldsIf P ops S ⟨some d,o,t,p,f,g⟩ v a:=by
  refine Or.inl ⟨by rfl,?_⟩;intro w' hSw;go_simp
  try with_reducible rfl) (hs:Region.noSelect ops=true:=by kernel_rfl) (hf:Region.free md ops listed i=true:=by kernel_rfl) (hr:(Region.ready md ops listed).contains i=true:=by kernel_rfl)
 (hQ:∀c a w,Q (.panic c) (a.put (some d) v) w->Q (.panic c) a w:=by exact λ_ _ _ h=>h) (hS:S w:=by assumption):wpAnyH P md ops Q S (fuel+1) listed a w:=wpAnyH_take hi hs hf hr hQ hy hS h
theorem tkU {P:Program} {md:Region.Mode} {ops:Array Oper} {Q:Exit->Act->World->Prop} {S:World->Prop} (i d:Nat) {o t p f g} {fuel:Nat} {listed:Array Bool} {a:Act} {w:World} (hi:ops[i]?=some ⟨some d,o,t,p,f,g⟩)
 (h:wpAnyH P md ops Q S fuel (listed.setIfInBounds i true) (a.put (some d) undef) w) (hy:YieldsIf P ops S ⟨some d,o,t,p,f,g⟩ undef a:=by exact Or.inr ⟨by rfl,rfl⟩) (hs:Region.noSelect ops=true:=by kernel_rfl) (hf:Region.free md ops listed i=true:=by kernel_rfl) (hr:(Region.ready md ops listed).contains i=true:=by kernel_rfl)
 (hQ:∀c a w,Q (.panic c) (a.put (some d) undef) w->Q (.panic c) a w:=by exact λ_ _ _ h=>h) (hS:S w:=by assumption):wpAnyH P md ops Q S (fuel+1) listed a w:=wpAnyH_take hi hs hf hr hQ hy hS h
theorem rdA {P:Program} {md:Region.Mode} {ops:Array Oper} {Q:Exit->Act->World->Prop} {S:World->Prop} (i d:Nat) {o t p f g} {fuel:Nat} {listed:Array Bool} {a:Act} {w:World} (hi:ops[i]?=some ⟨some d,o,t,p,f,g⟩)
 (h:∀K':Act->World->Prop,Shut (∀a w,S w ->(S w->wpAnyH P md ops Q S fuel (listed.setIfInBounds i true) a w)->K' a w)->if Region.wanted ⟨some d,o,t,p,f,g⟩ (yielded ops a.tmps)=true then Oper.wp P ⟨some d,o,t,p,f,g⟩ a w K' Q else K' (a.put (some d) undef) w)
 (hr:Region.ready md ops listed=[i]:=by kernel_rfl):wpAnyH P md ops Q S (fuel+1) listed a w:=b1a hr (by simp) (b0i hi h b01)
theorem rdB {P:Program} {md:Region.Mode} {ops:Array Oper} {Q:Exit->Act->World->Prop} {S:World->Prop} (i d:Nat) {o t p f g} {fuel:Nat} {listed:Array Bool} {a:Act} {w:World} (hi:ops[i]?=some ⟨some d,o,t,p,f,g⟩)
 (h:∀K':Act->World->Prop,Shut (∀a w,S w ->(S w->wpAnyH P md ops Q S fuel (listed.setIfInBounds i true) a w)->K' a w)->Oper.wp P ⟨some d,o,t,p,f,g⟩ a w K' Q)
 (hr:Region.ready md ops listed=[i]:=by kernel_rfl) (hw:Region.wanted ⟨some d,o,t,p,f,g⟩ (yielded ops a.tmps)=true:=by rfl):wpAnyH P md ops Q S (fuel+1) listed a w:=rdA i d hi (λK hK=>by rw[if_pos hw];exact h K hK) hr
structure Blk (W:World) (b:Nat) (L:List Value):Prop where
 rg:W.rangeAt b 0 L
 fz:∀o,W.frozen? ⟨b,o,none⟩=false
 lt:b<W.1.size
theorem Blk.new {w W:World} {C:Array Value} (h:ayy w W C):Blk W w.1.size C.toList:=⟨h.rg,h.fz,by have:=h.sz;omega⟩
theorem Blk.newL {w W:World} {C:Array Value} {L:List Value} (h:ayy w W C) (e:C.toList=L):Blk W w.1.size L:=e▸Blk.new h
theorem Blk.kept {w W:World} {b:Nat} {L:List Value} (h:Blk w b L) (hk:W.heap[b]?=w.heap[b]?) (hz:w.1.size<=W.1.size):Blk W b L:=
 ⟨aa6 h.rg hk,λo=>(b1t (a:=⟨b,o,none⟩) hk).trans (h.fz o),i9 h.lt hz⟩
theorem Blk.below {w W:World} {b B:Nat} {L:List Value} (h:Blk w b L) (hb:Below B w W) (hB:b<B):Blk W b L:=h.kept (hb.block b hB) hb.size
theorem Blk.on {w W:World} {b:Nat} {L:List Value} (h:Blk w b L) (hb:Below w.1.size w W):Blk W b L:=h.below hb h.lt
theorem Blk.grew {w W:World} {C:Array Value} {b:Nat} {L:List Value} (h:Blk w b L) (hg:ayy w W C):Blk W b L:=h.on hg.bel
theorem Blk.far {w W:World} {b b' o:Nat} {L cs:List Value} (h:Blk w b L) (hs:qq w W b' o cs) (hn:b≠b'):Blk W b L:=h.kept (hs.far b hn) (b1e hs.sz.symm)
theorem Blk.drew {w:World} {b:Nat} {L:List Value} (h:Blk w b L):Blk w.drew b L:=⟨h.rg,h.fz,h.lt⟩
theorem Blk.sub {w:World} {b:Nat} {A M D:List Value} (h:Blk w b (A++M++D)):w.rangeAt b A.length M:=by
 have h1:=(World.rangeAt_append.1 (World.rangeAt_append.1 h.rg).1).2
 rwa [b0j]at h1
theorem Blk.there {w:World} {b:Nat} {L:List Value} (h:Blk w b L) (o n:Nat) (hn:o+n<=L.length):w.there b o n:=λj hj=>
 ⟨by have:=h.rg.isSome (o+j) om;rwa [b0j]at this,h.fz _⟩
theorem Blk.cell {w:World} {b:Nat} {L:List Value} (h:Blk w b L) (o:Nat) {v:Value} (hv:L[o]?=some v):w.cell? ⟨b,o,none⟩=some v:=by
 have:=h.rg o v hv
 rwa [b0j]at this
theorem Blk.put {w W:World} {b o:Nat} {A M D cs:List Value} (h:Blk w b (A++M++D)) (hs:qq w W b o cs) (ho:A.length=o) (hc:cs.length=M.length):Blk W b (A++cs++D):=by
 subst ho;have h0:=World.rangeAt_append.1 h.rg;have h1:=World.rangeAt_append.1 h0.1;refine⟨World.rangeAt_append.2 ⟨World.rangeAt_append.2 ⟨hs.apart 0 A h1.1 (.inl om),?_⟩,?_⟩,λo=>(hs.fz _).trans (h.fz o),by rw[hs.sz];exact h.lt⟩
 ·rw[b0j];exact hs.rg
 ·have:=hs.apart _ D h0.2 (.inr (by simp;omega));rw[e9]at this ⊢;rw[hc];exact this
theorem Blk.all {w W:World} {b:Nat} {L cs:List Value} (h:Blk w b L) (hs:qq w W b 0 cs) (hc:cs.length=L.length):Blk W b cs:=by
 have:=Blk.put (A:=[]) (M:=L) (D:=[]) (by simpa using h) hs rfl hc
 simpa using this
theorem qq.drew {w W:World} {b o:Nat} {cs:List Value} (h:qq w.drew W b o cs):qq w W b o cs:=⟨h.os,h.tape,h.output,h.sz,h.far,h.fz,h.rg,h.apart,h.there⟩
theorem kf {C:Array Value} (h:∀v∈C.toList,v.oneCell'=true):C.all (·.oneCell')=true:=by
 rw[Array.all_eq_true_iff_forall_mem];intro v hv;exact h v (by simpa using hv)
theorem ads (b off j:Nat):(⟨b,off,none⟩:Addr).add j=⟨b,off+j,none⟩:=by unfold Addr.add;split<;>simp_all
def qf (Q:Nat->Prop) (w:World) (A:Option Addr) (xs:List Value):Prop:=∀(j:Nat) u,xs[j]?=some u->∃b off,A=some ⟨b,off,none⟩/\Q b/\w.cell? ⟨b,off+j,none⟩=some u
theorem qf.nil (Q:Nat->Prop) (w:World) (A:Option Addr):qf Q w A []:=λj u hu=>by simp at hu
theorem qf.less {Q R:Nat->Prop} {w:World} {A:Option Addr} {xs:List Value} (h:qf Q w A xs) (hr:∀b,Q b->R b):qf R w A xs:=λj u hu=>by
 obtain⟨b,off,h1,h2,h3⟩:=h j u hu;exact⟨b,off,h1,hr b h2,h3⟩
theorem qf.keep {Q:Nat->Prop} {w w':World} {A:Option Addr} {xs:List Value} (h:qf Q w A xs) (hk:∀b,Q b->w'.heap[b]?=w.heap[b]?):qf Q w' A xs:=λj u hu=>by
 obtain⟨b,off,h1,h2,h3⟩:=h j u hu;exact⟨b,off,h1,h2,(t7 (a:=⟨b,off+j,none⟩) (hk b h2)).trans h3⟩
theorem qf.below {Q:Nat->Prop} {w w':World} {A:Option Addr} {xs:List Value} {B:Nat} (h:qf Q w A xs) (hb:Below B w w') (hq:∀b,Q b->b<B):qf Q w' A xs:=h.keep λb hq'=>hb.block b (hq b hq')
theorem qf.lt {Q:Nat->Prop} {w:World} {A:Option Addr} {xs:List Value} (h:qf Q w A xs):qf (λb=>Q b/\b<w.1.size) w A xs:=λj u hu=>by
 obtain⟨b,off,h1,h2,h3⟩:=h j u hu;exact⟨b,off,h1,⟨h2,b2z w _ h3⟩,h3⟩
structure qi (S:Nat->Prop) (w w':World):Prop where
 os:w'.os=w.os
 tape:w'.tape=w.tape
 output:w'.output=w.output
 size:w.1.size<=w'.1.size
 block:∀k,S k->w'.heap[k]?=w.heap[k]?
theorem qi.refl (S:Nat->Prop) (w:World):qi S w w:=⟨rfl,rfl,rfl,a8 _,λ_ _=>rfl⟩
theorem qi.trans {S:Nat->Prop} {w w1 w2:World} (h:qi S w w1) (k:qi S w1 w2):qi S w w2:=
 ⟨k.os.trans h.os,k.tape.trans h.tape,k.output.trans h.output,p9 h.size k.size,λi hi=>(k.block i hi).trans (h.block i hi)⟩
theorem qi.of_below {S:Nat->Prop} {B:Nat} {w w':World} (h:Below B w w') (hb:∀k,S k->k<B):qi S w w':=
 ⟨h.os,h.tape,h.output,h.size,λk hk=>h.block k (hb k hk)⟩
theorem qi.below {S:Nat->Prop} {B:Nat} {w w':World} (h:qi S w w') (hb:∀k,k<B->S k):Below B w w':=
 ⟨h.os,h.tape,h.output,h.size,λk hk=>h.block k (hb k hk)⟩
theorem qi.less {S T:Nat->Prop} {w w':World} (h:qi S w w') (hT:∀k,T k->S k):qi T w w':=⟨h.os,h.tape,h.output,h.size,λk hk=>h.block k (hT k hk)⟩
theorem qi.cell {S:Nat->Prop} {w w':World} (h:qi S w w') {b o:Nat} (hb:S b):w'.cell? ⟨b,o,none⟩=w.cell? ⟨b,o,none⟩:=t7 (a:=⟨b,o,none⟩) (h.block b hb)
theorem qi.drewN {S:Nat->Prop} {w w':World} (h:qi S w w') (n:Nat):qi S w (w'.drewN n):=⟨h.os,h.tape,h.output,h.size,h.block⟩
theorem qi.drew {S:Nat->Prop} {w w':World} (h:qi S w w'):qi S w w'.drew:=⟨h.os,h.tape,h.output,h.size,h.block⟩
theorem qi.set {S:Nat->Prop} {w w':World} (h:qi S w w') {g:Nat} (hg:¬S g) (o:Nat) (v:Value):qi S w (w'.setCell ⟨g,o,none⟩ v):=
 ⟨h.os,h.tape,h.output,by simpa using h.size,λk hk=>(b14 _ _ _ _ (fun(e:k=g)=>hg (e▸hk))).trans (h.block k hk)⟩
theorem qf.kept {Q S:Nat->Prop} {w w':World} {A:Option Addr} {xs:List Value} (h:qf Q w A xs) (hk:qi S w w') (hq:∀b,Q b->S b):qf Q w' A xs:=h.keep λb hb=>hk.block b (hq b hb)
theorem ab6 {w:World} {b o:Nat} {v:Value} (hv:w.cell? ⟨b,o,none⟩=some v):b<w.1.size:=by
 refine Nat.lt_of_not_le λq=>?_
 simp[World.cell?,Array.getElem?_eq_none q]at hv
theorem zt {w:World} {base:Nat} {e:TypeId} {size n:Nat} {v:Value} {xs:List Value} (h:w.ownsRow base e size v n xs):∃A c,v=.slice A n c/\n<=c/\qf (λb=>base<=b/\b<w.1.size) w A xs /\(A=none->n=0/\c=0):=by
 rcases h.2 with⟨hv,h0⟩|⟨g,cap,cur,hv,hb,hg,hcap,-⟩
 ·have hx:xs=[]:=b0k (by rw[h.1,h0];simp);exact⟨none,0,by rw[hv,h0],by omega,by rw[hx];exact qf.nil _ _ _,λ_=>⟨h0,rfl⟩⟩
 ·subst hv;exact⟨some ⟨g,0,none⟩,cap,rfl,hcap,λj u hu=>⟨g,0,rfl,⟨hb,(o8.1 hg).1⟩,by have:=h.cells (g:=g) rfl j u hu;rw[ads]at this;exact this⟩,λq=>by cases q⟩
section
variable {P : Program}
theorem j6 (w:World) (t ty e:TypeId) (i:TypeInfo) (z:Value) (size bytes:Nat) (h1:P.underlying t=some (.slice e)) (h2:P.info? e=some i) (h3:i.zero=some z) (h4:i.size=size) (h5:i.bytes=bytes) (h6:z.cells.size=size) (h7:0<size)
 {R:Nat->Prop} (base:Nat) (v:Value) (n:Nat) (xs:List Value) (hown:w.ownsRow base e size v n xs)
 (X:Option Addr) (m c:Nat) (news:List Value) (hn:news.length=m*size) (hc:qf R w X news) (h1c:∀u∈news,u.oneCell'=true)
 (b1:n+m<=maxLen) (b2:(n+m)*bytes<=140737488355328) (hb:base<=w.1.size) :
 ∃v' w',(Builtin.append_ #[t,t] ty #[v,.slice X m c]).run P w=.ok v' w'/\w'.ownsRow base e size v' (n+m) (xs++news)/\w.grownBy w' v.ownBlock /\(v'.ownBlock=v.ownBlock\/v'.ownBlock=some w.1.size):=by
 by_cases hm:m=0
 ·subst hm;obtain rfl:news=[]:=b0k (by rw[hn];simp);obtain⟨A,cap,rfl,hcap,-,-⟩:=zt hown;have hrun:=run_append_nothing (P:=P) w t t ty e i h1 h2 A n cap hcap (.slice X 0 c) ⟨.inl ⟨e,h1⟩,λw'=>by simp[Builtin.lenOf],by cases X<;>simp[Builtin.firstCells,h4,loadCells,loadCellsFrom],by cases X<;>simp[Builtin.firstCells,h4,loadCells,loadCellsFrom],by simp,λu hu=>by cases hu⟩;exact⟨_,w,hrun,by rw[b0p];exact hown,⟨rfl,rfl,rfl,a8 _,λ_ _ _=>rfl⟩,.inl rfl⟩
 ·have hpos:0<news.length:=by rw[hn];exact Nat.mul_pos om h7
  obtain⟨xb,xo,hX,-,-⟩:=hc 0 news[0] (d7 hpos);subst hX
  have hnews:∀j u,news[j]?=some u->w.cell? ((⟨xb,xo,none⟩:Addr).add j)=some u:=λj u hu=>by
   obtain⟨b',off,e1,-,e3⟩:=hc j u hu;injection e1 with e1
   injection e1 with e1 e2
   subst e1 e2;rw[ads];exact e3
  obtain⟨v',w',hr,h8,h9,-,h10⟩:=run_append_own_at (P:=P) w base t ty e i z size bytes h1 h2 h3 h4 h5 h6 h7 v n xs hown ⟨xb,xo,none⟩ m c news hn hnews h1c b1 b2 hb;exact⟨v',w',hr,h8,h9,h10⟩
theorem j7 {w W:World} {o:Oper} {a:Act} {K:Act->World->Prop} {Q:Exit->Act->World->Prop} (s x:Operand) (t:TypeId)
 (ho:o.op=.call {callee:=.builtin .append,args:=#[s,x],argTypes:=#[t,t]}) (v u r:Value) (hs:a.eval s=v) (hx:a.eval x=u)
 (hr:(Builtin.append_ #[t,t] o.type #[v,u]).run P w=.ok r W) (h:K (a.put o.dst r) W):o.wp P a w K Q:=by
 unfold Oper.wp execOp;simp only[ho,resolve,invoke,builtin,b1k,b21,b1f,List.map_toArray,b2y,b5c,hs,hx,hr];exact h
theorem q9 {w W:World} {ops:Array Oper} {rest:List Oper} {o:Oper} {a:Act} {Q:Exit->Act->World->Prop} (hgd:o.guard=none) (s x:Operand) (t:TypeId)
 (ho:o.op=.call {callee:=.builtin .append,args:=#[s,x],argTypes:=#[t,t]}) (v u r:Value) (hs:a.eval s=v) (hx:a.eval x=u)
 (hr:(Builtin.append_ #[t,t] o.type #[v,u]).run P w=.ok r W) (h:wpList P ops Q rest (a.put o.dst r) W):wpList P ops Q (o::rest) a w:=
 wpList_plain hgd λ_ hK=>j7 s x t ho v u r hs hx hr (hK _ _ h)
theorem ack {w W:World} {ops:Array Oper} {o:Oper} {a:Act} {K:Act->World->Prop} {Q:Exit->Act->World->Prop} {E:Prop} (hgd:o.guard=none) (s x:Operand) (t:TypeId)
 (ho:o.op=.call {callee:=.builtin .append,args:=#[s,x],argTypes:=#[t,t]}) (v u r:Value) (hs:a.eval s=v) (hx:a.eval x=u)
 (hr:(Builtin.append_ #[t,t] o.type #[v,u]).run P w=.ok r W) (h:K (a.put o.dst r) W):if Region.wanted o (yielded ops a.tmps)=true then Oper.wp P o a w K Q else E:=by
 have hw:Region.wanted o (yielded ops a.tmps)=true:=by simp[Region.wanted,hgd]
 rw[if_pos hw];exact j7 s x t ho v u r hs hx hr h
end
theorem Blk.set {w:World} {b o:Nat} {L:List Value} (h:Blk w b L) (ho:o<L.length) (x:Value):Blk (w.setCell ⟨b,o,none⟩ x) b (L.set o x)/\qq w (w.setCell ⟨b,o,none⟩ x) b o [x]:=by
 have s1:qq w (w.setCell ⟨b,o,none⟩ x) b o [x]:=zm (h.there o 1 om);refine⟨?_,s1⟩
 have e:L=L.take o++[L[o]]++L.drop (o+1):=by
  rw[<- o9 ho,b0t]
 have h2:=h;rw[e]at h2;have:=h2.put s1 (by rw[l8];omega) rfl
 rwa [b31,if_pos ho,show L.take o++x::L.drop (o+1)=L.take o++[x]++L.drop (o+1)from by simp]
def aa0 (w0:World) (e:TypeId) (size:Nat) (v:Value) (n:Nat) (xs:List Value) (w:World):Prop:=w.ownsRow w0.1.size e size v n xs/\Below w0.1.size w0 w
theorem aa0.on {w0:World} {e:TypeId} {size:Nat} {v:Value} {n:Nat} {xs:List Value} {w w':World} (h:aa0 w0 e size v n xs w) (hb:Below w.1.size w w'):aa0 w0 e size v n xs w':=by
 refine⟨⟨h.1.1,?_⟩,qb h.2 hb⟩;rcases h.1.2 with q|⟨g,cap,cur,h1,h2,h3,h4⟩
 ·exact .inl q
 ·exact .inr ⟨g,cap,cur,h1,h2,by rw[hb.block g (o8.1 h3).1];exact h3,h4⟩
theorem aa0.nil (w0:World) (e:TypeId) (size:Nat) {w:World} (hb:Below w0.1.size w0 w):aa0 w0 e size (.slice none 0 0) 0 [] w:=⟨b2p _ _ _ _,hb⟩
theorem aa0.flat {w0:World} {e:TypeId} {size:Nat} {v:Value} {n:Nat} {xs:List Value} {w:World} (h:aa0 w0 e size v n xs w):∃A c,v=.slice A n c/\n<=c/\qf (λb=>w0.1.size<=b/\b<w.1.size) w A xs:=by
 obtain⟨A,c,h1,h2,h3,-⟩:=zt h.1;exact⟨A,c,h1,h2,h3⟩
theorem aa0.app {P:Program} {w0:World} {t ty e:TypeId} {i:TypeInfo} {z:Value} {size bytes:Nat} {v:Value} {n:Nat} {xs:List Value} {w:World} (h:aa0 w0 e size v n xs w) (hi:P.info? e=some i/\i.zero=some z/\i.size=size/\i.bytes=bytes) (h1:P.underlying t=some (.slice e)) (h6:z.cells.size=size) (h7:0<size)
 {R:Nat->Prop} (X:Option Addr) (m c:Nat) (news:List Value) (hn:news.length=m*size) (hc:qf R w X news) (h1c:∀u∈news,u.oneCell'=true) (b1:n+m<=maxLen) (b2:(n+m)*bytes<=140737488355328) :
 ∃v' w',(Builtin.append_ #[t,t] ty #[v,.slice X m c]).run P w=.ok v' w'/\aa0 w0 e size v' (n+m) (xs++news) w':=by
 obtain⟨v',w',q1,q2,q3,-⟩:=j6 (P:=P) w t ty e i z size bytes h1 hi.1 hi.2.1 hi.2.2.1 hi.2.2.2 h6 h7 w0.1.size v n xs h.1 X m c news hn hc h1c b1 b2 h.2.size;refine⟨v',w',q1,q2,h.2.grown q3 h.2.size (λk hk=>?_)⟩;obtain⟨A,cap,rfl,-,-⟩:=h.flat;rcases h.1.2 with⟨q,-⟩|⟨g,cap',cur,q,hb,-⟩
 ·injection q with q _ _;subst q;cases hk
 ·injection q with q _ _;subst q
  simp only[Value.ownBlock,b2e]at hk;omega
theorem afa {w w':World} {B:Nat} {e:TypeId} {size:Nat} {v:Value} {n:Nat} {xs:List Value} (h:w.ownsRow B e size v n xs) (hb:Below w.1.size w w'):w'.ownsRow B e size v n xs:=by
 refine⟨h.1,?_⟩;rcases h.2 with q|⟨g,cap,cur,h1,h2,h3,h4⟩
 ·exact .inl q
 ·exact .inr ⟨g,cap,cur,h1,h2,by rw[hb.block g (o8.1 h3).1];exact h3,h4⟩
theorem ala {w:World} {B b o:Nat} {e:TypeId} {size:Nat} {v:Value} {n:Nat} {xs:List Value} (h:w.ownsRow B e size v n xs) (hb:b<B) (u:Value):(w.setCell ⟨b,o,none⟩ u).ownsRow B e size v n xs:=by
 refine⟨h.1,?_⟩;rcases h.2 with q|⟨g,cap,cur,h1,h2,h3,h4⟩
 ·exact .inl q
 ·exact .inr ⟨g,cap,cur,h1,h2,(b14 _ _ _ _ (fun(q:g=b)=>by omega)).trans h3,h4⟩
theorem aip {P:Program} {B:Nat} {t ty e:TypeId} {i:TypeInfo} {z:Value} {size bytes:Nat} {v:Value} {n:Nat} {xs:List Value} {w:World} (h:w.ownsRow B e size v n xs) (hB:B<=w.1.size) (hi:P.info? e=some i/\i.zero=some z/\i.size=size/\i.bytes=bytes) (h1:P.underlying t=some (.slice e)) (h6:z.cells.size=size) (h7:0<size)
 {R:Nat->Prop} (X:Option Addr) (m c:Nat) (news:List Value) (hn:news.length=m*size) (hc:qf R w X news) (h1c:∀u∈news,u.oneCell'=true) (b1:n+m<=maxLen) (b2:(n+m)*bytes<=140737488355328) :
 ∃v' w',(Builtin.append_ #[t,t] ty #[v,.slice X m c]).run P w=.ok v' w'/\w'.ownsRow B e size v' (n+m) (xs++news)/\Below B w w':=by
 obtain⟨v',w',q1,q2,q3,-⟩:=j6 (P:=P) w t ty e i z size bytes h1 hi.1 hi.2.1 hi.2.2.1 hi.2.2.2 h6 h7 B v n xs h X m c news hn hc h1c b1 b2 hB;refine⟨v',w',q1,q2,(n9 B w).grown q3 hB (λk hk=>?_)⟩;obtain⟨A,cap,rfl,-,-⟩:=zt h;rcases h.2 with⟨q,-⟩|⟨g,cap',cur,q,hb,-⟩
 ·injection q with q _ _;subst q;cases hk
 ·injection q with q _ _;subst q
  simp only[Value.ownBlock,b2e]at hk;omega
instance litDec:DecidableEq Lit
 | .bool x,.bool y=>decidable_of_iff (x=y) ⟨λh=>by rw[h],λh=>by cases h;rfl⟩
 | .int k x,.int j y=>decidable_of_iff (k=j/\x=y) ⟨λh=>by rw[h.1,h.2],λh=>by cases h;exact⟨rfl,rfl⟩⟩
 | .float k x,.float j y=>decidable_of_iff (k=j/\x=y) ⟨λh=>by rw[h.1,h.2],λh=>by cases h;exact⟨rfl,rfl⟩⟩
 | .string x,.string y=>decidable_of_iff (x=y) ⟨λh=>by rw[h],λh=>by cases h;rfl⟩
 | .nil,.nil=>isTrue rfl
 | .bool _,.int _ _=>isFalse (λh=>by cases h)
 | .bool _,.float _ _=>isFalse (λh=>by cases h)
 | .bool _,.string _=>isFalse (λh=>by cases h)
 | .bool _,.nil=>isFalse (λh=>by cases h)
 | .int _ _,.bool _=>isFalse (λh=>by cases h)
 | .int _ _,.float _ _=>isFalse (λh=>by cases h)
 | .int _ _,.string _=>isFalse (λh=>by cases h)
 | .int _ _,.nil=>isFalse (λh=>by cases h)
 | .float _ _,.bool _=>isFalse (λh=>by cases h)
 | .float _ _,.int _ _=>isFalse (λh=>by cases h)
 | .float _ _,.string _=>isFalse (λh=>by cases h)
 | .float _ _,.nil=>isFalse (λh=>by cases h)
 | .string _,.bool _=>isFalse (λh=>by cases h)
 | .string _,.int _ _=>isFalse (λh=>by cases h)
 | .string _,.float _ _=>isFalse (λh=>by cases h)
 | .string _,.nil=>isFalse (λh=>by cases h)
 | .nil,.bool _=>isFalse (λh=>by cases h)
 | .nil,.int _ _=>isFalse (λh=>by cases h)
 | .nil,.float _ _=>isFalse (λh=>by cases h)
 | .nil,.string _=>isFalse (λh=>by cases h)
def KV (t:TypeId) (X:List Value) (l:List Lit):Prop:=∃D,prog.keyLits D t X=some l
theorem KV.struct_len {t:TypeId} {fs:Array Field} {X:List Value} {l:List Lit} (hu:prog.underlying t=some (.struct fs)) (h:KV t X l):X.length=prog.cellsOf t:=by
 obtain⟨D,h⟩:=h;cases D with
 | zero=>simp[Program.keyLits]at h
 | succ D=>
  simp only[Program.keyLits,hu]at h
  split at h
  ·next hc=>exact hc.1
  ·cases h
theorem KV.ones {m:Nat} {t:TypeId} {X:List Value} {l:List Lit} (ht:prog.tiled m t=true) (h:KV t X l):∀v∈X,v.oneCell'=true:=by
 obtain⟨D,h⟩:=h;rw[cells_of_lits m t ht D X l h];intro v hv;obtain⟨x,-,rfl⟩:=b2f.1 hv;cases x<;>rfl
theorem bi7 {m n:Nat} {t:TypeId} (hk:prog.keyTypeAt m t=true) (hm:m<=n):EqAt prog n t:=by
 have:=run_equalIn_deep (P:=prog) (n-m) m t hk
 rwa [Nat.sub_add_cancel hm]at this
theorem aji {m:Nat} {t:TypeId} {fs:Array Field} (hu:prog.underlying t=some (.struct fs)) (hk:prog.keyTypeAt m t=true) (hm:m<=10000) {X Y:List Value} {lx ly:List Lit} (hx:KV t X lx) (hy:KV t Y ly) (w:World) :
 (Op.equalIn 10000 t (.agg X.toArray) (.agg Y.toArray)).run prog w=.ok (decide (lx=ly)) w:=by
 have l1:=hx.struct_len hu;have l2:=hy.struct_len hu;obtain⟨D,hx⟩:=hx;obtain⟨D',hy⟩:=hy;obtain⟨r,hr,hiff⟩:=(bi7 hk hm:EqAt prog 10000 t) w D D' (.agg X.toArray) (.agg Y.toArray) lx ly (by simp[Value.formed,hu,l1]) (by simp[Value.formed,hu,l2]) (by simpa [Value.cells]using hx) (by simpa [Value.cells]using hy);have e:r=decide (lx=ly):=by rw[b4i,hiff,b4r]
 rw[hr,e]
theorem aot {m:Nat} {t:TypeId} {fs:Array Field} (hu:prog.underlying t=some (.struct fs)) (hk:prog.keyTypeAt m t=true) (hm:m<=10000) {X Y:List Value} {lx ly:List Lit} (hx:KV t X lx) (hy:KV t Y ly) (w:World) :
 (binOp .eql t (.agg X.toArray) (.agg Y.toArray)).run prog w=.ok (.bool (decide (lx=ly))) w:=by
 rw[run_eql_struct,aji hu hk hm hx hy];rfl
theorem awk {m:Nat} {t:TypeId} {fs:Array Field} (hu:prog.underlying t=some (.struct fs)) (hk:prog.keyTypeAt m t=true) (hm:m<=10000) {X Y:List Value} {lx ly:List Lit} (hx:KV t X lx) (hy:KV t Y ly) (w:World) :
 (binOp .neq t (.agg X.toArray) (.agg Y.toArray)).run prog w=.ok (.bool (!decide (lx=ly))) w:=by
 rw[run_neq_struct,aji hu hk hm hx hy];rfl
def SlK (t:TypeId) (size:Nat) (Q:Nat->Prop) (w:World) (A:Option Addr) (X:List (List Lit)):Prop:=
 ∀k (h:k<X.length),∃b off L,A=some ⟨b,off,none⟩/\Q b/\w.rangeAt b (off+k*size) L/\KV t L X[k]
theorem SlK.below {t:TypeId} {size:Nat} {Q:Nat->Prop} {w w':World} {B:Nat} {A:Option Addr} {X:List (List Lit)} (h:SlK t size Q w A X) (hb:Below B w w') (hq:∀b,Q b->b<B):SlK t size Q w' A X:=λk hk=>by
 obtain⟨b,off,L,h1,h2,h3,h4⟩:=h k hk;exact⟨b,off,L,h1,h2,xf h3 hb (hq b h2),h4⟩
theorem aat {P:Program} {ops:Array Oper} {S:World->Prop} {o:Oper} {a:Act} (hw:Region.wanted o (yielded ops a.tmps)=true) (bo:BinOp) (xT:TypeId) (x y:Operand) (yT:TypeId) (ho:o.op=.binOp bo xT x y yT) {u v r:Value} (hx:a.eval x=u) (hy:a.eval y=v) (hg:∀w,(eqGuard bo xT x y u v).run P w=.ok () w) (hr:∀w,(binOp bo xT u v).run P w=.ok r w):YieldsIf P ops S o r a:=
 .inl ⟨hw,λw _=>by
  unfold execOp;rw[ho];simp only[hx,hy,b1k,hg,hr,b1f,b21]⟩
theorem am7 {P:Program} {o:Oper} {a:Act} {w:World} {Q:Exit->Act->World->Prop} {K:Act->World->Prop} (bo:BinOp) (xT:TypeId) (x y:Operand) (yT:TypeId) (ho:o.op=.binOp bo xT x y yT) {u v r:Value} (hx:a.eval x=u) (hy:a.eval y=v) (hg:(eqGuard bo xT x y u v).run P w=.ok () w) (hr:(binOp bo xT u v).run P w=.ok r w)
 (h:K (a.put o.dst r) w):o.wp P a w K Q:=by
 unfold Oper.wp execOp;rw[ho];simp only[hx,hy,b1k,hg,hr,b1f,b21];exact h
def aor (tI:TypeId):Nat->List Field->Bool
 | _,[]=>true
 | o,f::L=>decide (f.type=tI) && (decide (f.offset=o) && aor tI (o+1) L)
theorem at7 {tI:TypeId} {k:IntKind} (hi:prog.underlying tI=some (.int k)) (hc:prog.cellsOf tI=1) (D:Nat):∀(L:List Field) (pre:List Value) (v:List Int),aor tI pre.length L=true->v.length=L.length ->(∀n∈v,(Lit.int k n).wf=true) ->
 L.mapM (λf=>prog.keyLits (D+1) f.type (List.take (prog.cellsOf f.type) (List.drop f.offset (pre++v.map (Value.int k)))))=some (v.map λn=>[Lit.int k n])
 | [],pre,v,_,hl,_=>by
  obtain rfl:=b0k (by simpa using hl);rfl
 | f::L,pre,[],_,hl,_=>by simp at hl
 | f::L,pre,n::v,h,hl,hr=>by
  simp only[aor,b0g,b1l]at h;obtain⟨h1,h2,h3⟩:=h;have ih:=at7 hi hc D L (pre++[Value.int k n]) v (by rw[e9];exact h3) (by simpa using hl) (λm hm=>hr m (b13 _ hm));have e:pre ++(n::v).map (Value.int k)=(pre++[Value.int k n])++v.map (Value.int k):=by simp
  rw[e,List.mapM_cons,ih]
  have e2:List.take (prog.cellsOf f.type) (List.drop f.offset ((pre++[Value.int k n])++v.map (Value.int k)))=[Value.int k n]:=by
   rw[h1,hc,h2,b0s,List.drop_left];rfl
  have hw:(Lit.int k n).wf=true:=hr n (b1x ..)
  have e3:prog.keyLits (D+1) f.type [Value.int k n]=some [Lit.int k n]:=by
   rw[h1];simp only[Program.keyLits,hi];rw[if_pos (by simp[hw])]
  rw[e2,e3];rfl
theorem ahr {t:TypeId} {fs:Array Field} {X:List Value} {D:Nat} {p:List (List Lit)} (hu:prog.underlying t=some (.struct fs)) (hnm:(fs.all λx=>x.name != "_")=true) (hl:X.length=prog.cellsOf t)
 (h:fs.toList.mapM (λf=>prog.keyLits D f.type (List.take (prog.cellsOf f.type) (List.drop f.offset X)))=some p):prog.keyLits (D+1) t X=some p.flatten:=by
 simp only[Program.keyLits,hu];rw[if_pos ⟨hl,hnm⟩,h];rfl
theorem ak5 {t tI:TypeId} {fs:Array Field} {k:IntKind} (hu:prog.underlying t=some (.struct fs)) (hi:prog.underlying tI=some (.int k)) (hc:prog.cellsOf tI=1) (hL:aor tI 0 fs.toList=true) (hnm:(fs.all λx=>x.name != "_")=true) (hn:prog.cellsOf t=fs.size) (v:List Int) (hl:v.length=fs.size) (hr:∀n∈v,(Lit.int k n).wf=true):KV t (v.map (Value.int k)) (v.map (Lit.int k)):=by
 have:=at7 hi hc 0 fs.toList [] v hL (by rw[hl];simp) hr;rw[b0y]at this;have h:=ahr hu hnm (by rw[b0o,hl,hn]) this;refine⟨_,h.trans (congrArg some ?_)⟩;clear this h hr hl
 induction v with
 | nil=>rfl
 | cons n v ih=>simp only[b2y,b37,ih];rfl
theorem akh {n:Int} (h:-9223372036854775808<=n/\n<=9223372036854775807):(Lit.int .i64 n).wf=true:=by
 simp only[Lit.wf,b0g,b1l];exact h
theorem bop (c:UInt8):(Lit.int .u8 (c.toNat:Int)).wf=true:=by
 have:=c.toNat_lt;simp only[Lit.wf,b0g,b1l];exact⟨(o5 _:(0:Int)<=_),(by omega:(c.toNat:Int)<=255)⟩
theorem aj9 {X Y:List (List Lit)} {k:Nat} (hX:k<X.length) (hY:k<Y.length) (hp:∀j,j<k->X[j]?=Y[j]?) (h:X[k]=Y[k]):∀j,j<k+1->X[j]?=Y[j]?:=λj hj=>by
 rcases b08 j k with q|q
 ·exact hp j q
 ·obtain rfl:j=k:=by omega
  rw[d7 hX,d7 hY,h]
theorem aq6 {X Y:List (List Lit)} (hl:X.length=Y.length) (hp:∀j,j<X.length->X[j]?=Y[j]?):X=Y:=by
 apply b24;intro j;rcases b08 j X.length with q|q
 ·exact hp j q
 ·rw[b0c q,b0c om]
theorem aqo {X Y:List (List Lit)} {k:Nat} (hX:k<X.length) (hY:k<Y.length) (h:X[k]≠Y[k]):X≠Y:=λe=>by
 subst e;exact h rfl
theorem av0:Q_ ((prog.info? 162).map (·.size)=some (prog.cellsOf 162)):=q_ kr
theorem aou:Q_ ((prog.info? 164).map (·.size)=some (prog.cellsOf 164)):=q_ kr
theorem KV.i64 {X:List Value} {l:List Lit} (h:KV 2 X l):∃n,X=[.int .i64 n]/\l=[.int .i64 n]:=by
 obtain⟨D,h⟩:=h;exact keyLits_int' underlying2 h
theorem a6r (A B:Option Addr) (n m c d:Nat) (X Y:List (List Lit)) (w:World) (hX:Q_ (X.length=n)) (hY:Q_ (Y.length=m)) (hA:Q_ (SlK 2 1 (λb=>b<w.1.size) w A X)) (hB:Q_ (SlK 2 1 (λb=>b<w.1.size) w B Y)) (hn:n<=maxLen) (hm:m<=maxLen) :
 Calls prog 51 #[.slice A n c,.slice B m d] w λe w'=>e=.returned (.bool (decide (X=Y)))/\Below w.1.size w w':=by
 unfold maxLen at hn hm
 by_cases hnm:n=m
 ·subst hnm;have HPT:Q_ (X=Y->decide (X=Y)=true):=q_ λh=>t8 h
  have HPF:Q_ (X≠Y->decide (X=Y)=false):=q_ λh=>o7 h
  generalize decide (X=Y)=R at *;have hnn:((n:Int) != (n:Int))=false:=by rw[b0b]
  go_enter func51,ntmps51;go_wp2_with fail
  go_loopg [5] n (λg s13 wr=>∃k:Nat,k<=n/\n-k<=g/\s13=.int .i64 k/\Q_ (Below w.1.size w wr)/\Q_ (∀j,j<k->X[j]?=Y[j]?))
  case atStart=>exact⟨0,b0d _,by omega,rfl,n9 _ _,λj hj=>absurd hj (b04 _)⟩
  case round=>
   obtain⟨k,hk,hg,rfl,HB,HP⟩:=hrel
   by_cases hlt:k<n
   ·have hx:k<X.length:=by rw[hX.o];exact hlt
    have hy:k<Y.length:=by rw[hY.o];exact hlt
    obtain⟨b1,o1,L1,hA1,hq1,hr1,hv1⟩:=hA.o k hx;obtain⟨b2,o2,L2,hA2,hq2,hr2,hv2⟩:=hB.o k hy;subst hA1 hA2;have hb1:b1<wr.1.size:=i9 hq1 HB.o.size;have hb2:b2<wr.1.size:=i9 hq2 HB.o.size;have hr1:=q_ (xf hr1 HB.o hq1);have hr2:=q_ (xf hr2 HB.o hq2)
    have c1:wr.cell? ⟨b1,o1+k,none⟩=L1[0]?:=by
     obtain⟨x,e,-⟩:=hv1.i64;have:=hr1.o 0 (.int .i64 x) (by rw[e];rfl);rw[b4j,b3d]at this;rw[this,e];rfl
    have c2:wr.cell? ⟨b2,o2+k,none⟩=L2[0]?:=by
     obtain⟨x,e,-⟩:=hv2.i64;have:=hr2.o 0 (.int .i64 x) (by rw[e];rfl);rw[b4j,b3d]at this;rw[this,e];rfl
    obtain⟨x,e1,l1⟩:=hv1.i64;obtain⟨y,e2,l2⟩:=hv2.i64;rw[e1]at c1;rw[e2]at c2;have c1:wr.cell? ⟨b1,o1+k,none⟩=some (.int .i64 x):=c1;have c2:wr.cell? ⟨b2,o2+k,none⟩=some (.int .i64 y):=c2;have i1:(0:Int) <=(k:Int):=o5 _;have i2:(k:Int)<(n:Int):=by omega
    by_cases he:X[k]=Y[k]
    ·have HP2:=q_ (aj9 hx hy HP.o he)
     have hxy:(x != y)=false:=by
      rw[l1,l2]at he;injection he with he
      injection he with he1 he2
      rw[b0b];exact he2
     clear e1 e2 l1 l2 hr1 hr2;clear he HP hv1 hv2 hx hy hq1 hq2;go_wp2_with fail
     go_quiet (fail)
     go_wp2_with fail
     go_roundg (n-(k+1))
     case measure=>omega
     case rel=>exact⟨k+1,by omega,by omega,by go_num,aai HB.o _,HP2⟩
    ·have HPN:=q_ (HPF.o (aqo hx hy he))
     have hxy:(x != y)=true:=by
      rw[l1,l2]at he;rw[b0r];intro q;exact he (by rw[q])
     clear e1 e2 l1 l2 hr1 hr2;clear he HP hv1 hv2 hx hy hq1 hq2 HPF HPT;go_wp2_with fail
     go_quiet (fail)
     go_wp2_with fail;go_ret;rw[HPN.o];exact⟨rfl,aai HB.o _⟩
   ·have hkn:k=n:=by omega
    subst hkn;have HPN:=q_ (HPT.o (aq6 (hX.o.trans hY.o.symm) (λj hj=>HP.o j (by rw[<- hX.o];exact hj))));clear HPT HPF;go_wp2_with fail;go_ret;rw[HPN.o];exact⟨rfl,HB.o⟩
 ·have hne:((n:Int) != (m:Int))=true:=by rw[b0r];omega
  have HPN:Q_ (decide (X=Y)=false):=q_ (o7 λe=>hnm (by rw[<- hX.o,<- hY.o,e]));clear hnm;generalize decide (X=Y)=R at *;go_enter func51,ntmps51;go_wp2_with fail;go_ret;rw[HPN.o];exact⟨rfl,n9 _ _⟩
theorem a6s (T U:Int) (A B:Option Addr) (n m c d:Nat) (X Y:List (List Lit)) (w:World) (hX:Q_ (X.length=n)) (hY:Q_ (Y.length=m)) (hA:Q_ (SlK 162 7 (λb=>b<w.1.size) w A X)) (hB:Q_ (SlK 162 7 (λb=>b<w.1.size) w B Y)) (hn:n<=maxLen) (hm:m<=maxLen) :
 Calls prog 47 #[.agg #[.int .i64 T,.slice A n c],.agg #[.int .i64 U,.slice B m d]] w λe w'=>e=.returned (.bool (decide (T=U) && decide (X=Y)))/\Below w.1.size w w':=by
 unfold maxLen at hn hm
 by_cases hT:T=U
 ·subst hT;rw[t8 (rfl:T=T),Bool.true_and];have hTT:(T != T)=false:=by rw[b0b]
  by_cases hnm:n=m
  ·subst hnm;have hnn:((n:Int) != (n:Int))=false:=by rw[b0b]
   have HPT:Q_ (X=Y->decide (X=Y)=true):=q_ λh=>t8 h
   have HPF:Q_ (X≠Y->decide (X=Y)=false):=q_ λh=>o7 h
   generalize decide (X=Y)=R at *;go_enter func47,ntmps47
   go_upto_region 1 with(first
    | (refine qr rfl _ _ rfl #[.int .i64 T,.slice A n c] rfl ?_;intro W1 hW;have HK1:=q_ (Blk.newL (L:=[.int .i64 T,.slice A n c]) hW rfl);have HB1:=q_ hW.bel;clear hW)
    | (refine qr rfl _ _ rfl #[.int .i64 T,.slice B n d] rfl ?_;intro W2 hW;have HK2:=q_ (Blk.newL (L:=[.int .i64 T,.slice B n d]) hW rfl);have HK12:=q_ (HK1.o.on hW.bel);have HB2:=q_ (qb HB1.o hW.bel);clear hW))
   have g0:=HK12.o.cell 0 (v:=.int .i64 T) rfl;have g1:=HK12.o.cell 1 (v:=.slice A n c) rfl;have g2:=HK2.o.cell 0 (v:=.int .i64 T) rfl;have g3:=HK2.o.cell 1 (v:=.slice B n d) rfl;go_wp2_with fail;clear g0 g1 g2 g3
   go_loopg [5] n (λg s13 wr=>∃k:Nat,k<=n/\n-k<=g/\s13=.int .i64 k/\Q_ (Below W2.1.size W2 wr)/\Q_ (∀j,j<k->X[j]?=Y[j]?))
   case atStart=>exact⟨0,b0d _,by omega,rfl,n9 _ _,λj hj=>absurd hj (b04 _)⟩
   case round=>
    obtain⟨k,hk,hg,rfl,HB,HP⟩:=hrel;have HK1r:=q_ (HK12.o.on HB.o);have HK2r:=q_ (HK2.o.on HB.o);have HBw:=q_ (qb HB2.o HB.o);have g1:=HK1r.o.cell 1 (v:=.slice A n c) rfl
    by_cases hlt:k<n
    ·have hx:k<X.length:=by rw[hX.o];exact hlt
     have hy:k<Y.length:=by rw[hY.o];exact hlt
     obtain⟨b1,o1,L1,hA1,hq1,hr1,hv1⟩:=hA.o k hx;obtain⟨b2,o2,L2,hA2,hq2,hr2,hv2⟩:=hB.o k hy;subst hA1 hA2;have hb1:b1<wr.1.size:=i9 hq1 HBw.o.size;have hb2:b2<wr.1.size:=i9 hq2 HBw.o.size;have hr1:=q_ (xf hr1 HBw.o hq1);have hr2:=q_ (xf hr2 HBw.o hq2);have hl1:=q_ (hv1.struct_len underlying162);have hl2:=q_ (hv2.struct_len underlying162);have hne:=q_ (awk (m:=10) underlying162 kr dc hv1 hv2);have i1:(0:Int) <=(k:Int):=o5 _;have i2:(k:Int)<(n:Int):=by omega
     by_cases he:X[k]=Y[k]
     ·have HP2:=q_ (aj9 hx hy HP.o he);have hNE:Q_ (∀W,(binOp .neq 162 (.agg L1.toArray) (.agg L2.toArray)).run prog W=.ok (.bool false) W):=q_ λW=>by rw[hne.o W,t8 he];rfl
      clear he hne HP hv1 hv2 hx hy hq1 hq2;go_wp2_with fail
      try (apply b1q;intro K_ HK_)
      have hS0:Below wr.1.size wr wr.drew:=(n9 _ _).drew;refine t6 (S:=λw'=>Below wr.1.size wr w') kr hS0 (λhHeld0=>?_);refine tkA 0 27 rfl ?_;go_frame;refine tkQ (i:=1) (oi:=⟨some 28,_,_,_,_,_⟩) (v:=?_) rfl (Or.inl ⟨by rfl,?_⟩) ?_;rotate_left
      ·intro w' hSw;have c1:=(HK1r.o.on hSw).cell 1 (v:=.slice (some ⟨b1,o1,none⟩) n c) rfl;go_simp
       try with_reducible rfl
      try go_frame
      refine tkA 2 29 rfl ?_;go_frame;refine tkA 3 30 rfl ?_;go_frame;refine tkQ (i:=4) (oi:=⟨some 31,_,_,_,_,_⟩) (v:=_) rfl (o4 (by rfl) 162 _ rfl b1 (o1+k*7) rfl L1 _ (λw' hSw=>xf hr1.o hSw hb1) underlying162 rfl (by rw[hl1.o];exact av0.o)) ?_;go_frame;refine tkA 5 32 rfl ?_;go_frame;refine tkQ (i:=6) (oi:=⟨some 33,_,_,_,_,_⟩) (v:=?_) rfl (Or.inl ⟨by rfl,?_⟩) ?_;rotate_left
      ·intro w' hSw;have c2:=(HK2r.o.on hSw).cell 1 (v:=.slice (some ⟨b2,o2,none⟩) n d) rfl;go_simp
       try with_reducible rfl
      try go_frame
      refine tkA 7 34 rfl ?_;go_frame;refine tkA 8 35 rfl ?_;go_frame;refine tkQ (i:=9) (oi:=⟨some 36,_,_,_,_,_⟩) (v:=_) rfl (o4 (by rfl) 162 _ rfl b2 (o2+k*7) rfl L2 _ (λw' hSw=>xf hr2.o hSw hb2) underlying162 rfl (by rw[hl2.o];exact av0.o)) ?_;go_frame;refine tkQ (i:=10) (oi:=⟨some 37,_,_,_,_,_⟩) (v:=.bool false) rfl (aat (by rfl) .neq 162 (.tmp 31) (.tmp 36) 162 rfl (u:=.agg L1.toArray) (v:=.agg L2.toArray) kr kr (λW=>by kernel_rfl) hNE.o) ?_;go_frame;refine b0m kr ?_ _
      try go_frame
      go_wp2_with fail
      go_roundg (n-(k+1))
      case measure=>omega
      case rel=>exact⟨k+1,by omega,by omega,by go_num,HB.o.drew,HP2⟩
     ·have HPN:=q_ (HPF.o (aqo hx hy he));have hNE:Q_ (∀W,(binOp .neq 162 (.agg L1.toArray) (.agg L2.toArray)).run prog W=.ok (.bool true) W):=q_ λW=>by rw[hne.o W,o7 he];rfl
      clear he hne HP hv1 hv2 hx hy hq1 hq2 HPF HPT;go_wp2_with fail
      try (apply b1q;intro K_ HK_)
      have hS0:Below wr.1.size wr wr.drew:=(n9 _ _).drew;refine t6 (S:=λw'=>Below wr.1.size wr w') kr hS0 (λhHeld0=>?_);refine tkA 0 27 rfl ?_;go_frame;refine tkQ (i:=1) (oi:=⟨some 28,_,_,_,_,_⟩) (v:=?_) rfl (Or.inl ⟨by rfl,?_⟩) ?_;rotate_left
      ·intro w' hSw;have c1:=(HK1r.o.on hSw).cell 1 (v:=.slice (some ⟨b1,o1,none⟩) n c) rfl;go_simp
       try with_reducible rfl
      try go_frame
      refine tkA 2 29 rfl ?_;go_frame;refine tkA 3 30 rfl ?_;go_frame;refine tkQ (i:=4) (oi:=⟨some 31,_,_,_,_,_⟩) (v:=_) rfl (o4 (by rfl) 162 _ rfl b1 (o1+k*7) rfl L1 _ (λw' hSw=>xf hr1.o hSw hb1) underlying162 rfl (by rw[hl1.o];exact av0.o)) ?_;go_frame;refine tkA 5 32 rfl ?_;go_frame;refine tkQ (i:=6) (oi:=⟨some 33,_,_,_,_,_⟩) (v:=?_) rfl (Or.inl ⟨by rfl,?_⟩) ?_;rotate_left
      ·intro w' hSw;have c2:=(HK2r.o.on hSw).cell 1 (v:=.slice (some ⟨b2,o2,none⟩) n d) rfl;go_simp
       try with_reducible rfl
      try go_frame
      refine tkA 7 34 rfl ?_;go_frame;refine tkA 8 35 rfl ?_;go_frame;refine tkQ (i:=9) (oi:=⟨some 36,_,_,_,_,_⟩) (v:=_) rfl (o4 (by rfl) 162 _ rfl b2 (o2+k*7) rfl L2 _ (λw' hSw=>xf hr2.o hSw hb2) underlying162 rfl (by rw[hl2.o];exact av0.o)) ?_;go_frame;refine tkQ (i:=10) (oi:=⟨some 37,_,_,_,_,_⟩) (v:=.bool true) rfl (aat (by rfl) .neq 162 (.tmp 31) (.tmp 36) 162 rfl (u:=.agg L1.toArray) (v:=.agg L2.toArray) kr kr (λW=>by kernel_rfl) hNE.o) ?_;go_frame;refine b0m kr ?_ _
      try go_frame
      go_wp2_with fail;go_ret;rw[HPN.o];exact⟨rfl,HBw.o.drew⟩
    ·have hkn:k=n:=by omega
     subst hkn;have HPN:=q_ (HPT.o (aq6 (hX.o.trans hY.o.symm) (λj hj=>HP.o j (by rw[<- hX.o];exact hj))));clear HPT HPF;go_wp2_with fail;go_ret;rw[HPN.o];exact⟨rfl,HBw.o⟩
  ·have hne:((n:Int) != (m:Int))=true:=by rw[b0r];omega
   have HPN:Q_ (decide (X=Y)=false):=q_ (o7 λe=>hnm (by rw[<- hX.o,<- hY.o,e]));clear hnm;generalize decide (X=Y)=R at *;go_enter func47,ntmps47
   go_upto_region 1 with(first
    | (refine qr rfl _ _ rfl #[.int .i64 T,.slice A n c] rfl ?_;intro W1 hW;have HK1:=q_ (Blk.newL (L:=[.int .i64 T,.slice A n c]) hW rfl);have HB1:=q_ hW.bel;clear hW)
    | (refine qr rfl _ _ rfl #[.int .i64 T,.slice B m d] rfl ?_;intro W2 hW;have HK2:=q_ (Blk.newL (L:=[.int .i64 T,.slice B m d]) hW rfl);have HK12:=q_ (HK1.o.on hW.bel);have HB2:=q_ (qb HB1.o hW.bel);clear hW))
   have g0:=HK12.o.cell 0 (v:=.int .i64 T) rfl;have g1:=HK12.o.cell 1 (v:=.slice A n c) rfl;have g2:=HK2.o.cell 0 (v:=.int .i64 T) rfl;have g3:=HK2.o.cell 1 (v:=.slice B m d) rfl;go_wp2_with fail;go_ret;rw[HPN.o];exact⟨rfl,HB2.o⟩
 ·have hne:(T != U)=true:=by rw[b0r];exact hT
  rw[o7 hT,Bool.false_and];clear hT;go_enter func47,ntmps47
  go_upto_region 1 with(first
   | (refine qr rfl _ _ rfl #[.int .i64 T,.slice A n c] rfl ?_;intro W1 hW;have HK1:=q_ (Blk.newL (L:=[.int .i64 T,.slice A n c]) hW rfl);have HB1:=q_ hW.bel;clear hW)
   | (refine qr rfl _ _ rfl #[.int .i64 U,.slice B m d] rfl ?_;intro W2 hW;have HK2:=q_ (Blk.newL (L:=[.int .i64 U,.slice B m d]) hW rfl);have HK12:=q_ (HK1.o.on hW.bel);have HB2:=q_ (qb HB1.o hW.bel);clear hW))
  have g0:=HK12.o.cell 0 (v:=.int .i64 T) rfl;have g2:=HK2.o.cell 0 (v:=.int .i64 U) rfl;go_wp2_with fail;go_ret;exact⟨rfl,HB2.o⟩
theorem a6t (T U:Int) (A B:Option Addr) (n m c d:Nat) (X Y:List (List Lit)) (w:World) (hX:Q_ (X.length=n)) (hY:Q_ (Y.length=m)) (hA:Q_ (SlK 164 2 (λb=>b<w.1.size) w A X)) (hB:Q_ (SlK 164 2 (λb=>b<w.1.size) w B Y)) (hn:n<=maxLen) (hm:m<=maxLen) :
 Calls prog 48 #[.agg #[.int .i64 T,.slice A n c],.agg #[.int .i64 U,.slice B m d]] w λe w'=>e=.returned (.bool (decide (T=U) && decide (X=Y)))/\Below w.1.size w w':=by
 unfold maxLen at hn hm
 by_cases hT:T=U
 ·subst hT;rw[t8 (rfl:T=T),Bool.true_and];have hTT:(T != T)=false:=by rw[b0b]
  by_cases hnm:n=m
  ·subst hnm;have hnn:((n:Int) != (n:Int))=false:=by rw[b0b]
   have HPT:Q_ (X=Y->decide (X=Y)=true):=q_ λh=>t8 h
   have HPF:Q_ (X≠Y->decide (X=Y)=false):=q_ λh=>o7 h
   generalize decide (X=Y)=R at *;go_enter func48,ntmps48
   go_upto_region 1 with(first
    | (refine qr rfl _ _ rfl #[.int .i64 T,.slice A n c] rfl ?_;intro W1 hW;have HK1:=q_ (Blk.newL (L:=[.int .i64 T,.slice A n c]) hW rfl);have HB1:=q_ hW.bel;clear hW)
    | (refine qr rfl _ _ rfl #[.int .i64 T,.slice B n d] rfl ?_;intro W2 hW;have HK2:=q_ (Blk.newL (L:=[.int .i64 T,.slice B n d]) hW rfl);have HK12:=q_ (HK1.o.on hW.bel);have HB2:=q_ (qb HB1.o hW.bel);clear hW))
   have g0:=HK12.o.cell 0 (v:=.int .i64 T) rfl;have g1:=HK12.o.cell 1 (v:=.slice A n c) rfl;have g2:=HK2.o.cell 0 (v:=.int .i64 T) rfl;have g3:=HK2.o.cell 1 (v:=.slice B n d) rfl;go_wp2_with fail;clear g0 g1 g2 g3
   go_loopg [5] n (λg s13 wr=>∃k:Nat,k<=n/\n-k<=g/\s13=.int .i64 k/\Q_ (Below W2.1.size W2 wr)/\Q_ (∀j,j<k->X[j]?=Y[j]?))
   case atStart=>exact⟨0,b0d _,by omega,rfl,n9 _ _,λj hj=>absurd hj (b04 _)⟩
   case round=>
    obtain⟨k,hk,hg,rfl,HB,HP⟩:=hrel;have HK1r:=q_ (HK12.o.on HB.o);have HK2r:=q_ (HK2.o.on HB.o);have HBw:=q_ (qb HB2.o HB.o);have g1:=HK1r.o.cell 1 (v:=.slice A n c) rfl
    by_cases hlt:k<n
    ·have hx:k<X.length:=by rw[hX.o];exact hlt
     have hy:k<Y.length:=by rw[hY.o];exact hlt
     obtain⟨b1,o1,L1,hA1,hq1,hr1,hv1⟩:=hA.o k hx;obtain⟨b2,o2,L2,hA2,hq2,hr2,hv2⟩:=hB.o k hy;subst hA1 hA2;have hb1:b1<wr.1.size:=i9 hq1 HBw.o.size;have hb2:b2<wr.1.size:=i9 hq2 HBw.o.size;have hr1:=q_ (xf hr1 HBw.o hq1);have hr2:=q_ (xf hr2 HBw.o hq2);have hl1:=q_ (hv1.struct_len underlying164);have hl2:=q_ (hv2.struct_len underlying164);have hne:=q_ (awk (m:=10) underlying164 kr dc hv1 hv2);have i1:(0:Int) <=(k:Int):=o5 _;have i2:(k:Int)<(n:Int):=by omega
     by_cases he:X[k]=Y[k]
     ·have HP2:=q_ (aj9 hx hy HP.o he);have hNE:Q_ (∀W,(binOp .neq 164 (.agg L1.toArray) (.agg L2.toArray)).run prog W=.ok (.bool false) W):=q_ λW=>by rw[hne.o W,t8 he];rfl
      clear he hne HP hv1 hv2 hx hy hq1 hq2;go_wp2_with fail
      try (apply b1q;intro K_ HK_)
      have hS0:Below wr.1.size wr wr.drew:=(n9 _ _).drew;refine t6 (S:=λw'=>Below wr.1.size wr w') kr hS0 (λhHeld0=>?_);refine tkA 0 27 rfl ?_;go_frame;refine tkQ (i:=1) (oi:=⟨some 28,_,_,_,_,_⟩) (v:=?_) rfl (Or.inl ⟨by rfl,?_⟩) ?_;rotate_left
      ·intro w' hSw;have c1:=(HK1r.o.on hSw).cell 1 (v:=.slice (some ⟨b1,o1,none⟩) n c) rfl;go_simp
       try with_reducible rfl
      try go_frame
      refine tkA 2 29 rfl ?_;go_frame;refine tkA 3 30 rfl ?_;go_frame;refine tkQ (i:=4) (oi:=⟨some 31,_,_,_,_,_⟩) (v:=_) rfl (o4 (by rfl) 164 _ rfl b1 (o1+k*2) rfl L1 _ (λw' hSw=>xf hr1.o hSw hb1) underlying164 rfl (by rw[hl1.o];exact aou.o)) ?_;go_frame;refine tkA 5 32 rfl ?_;go_frame;refine tkQ (i:=6) (oi:=⟨some 33,_,_,_,_,_⟩) (v:=?_) rfl (Or.inl ⟨by rfl,?_⟩) ?_;rotate_left
      ·intro w' hSw;have c2:=(HK2r.o.on hSw).cell 1 (v:=.slice (some ⟨b2,o2,none⟩) n d) rfl;go_simp
       try with_reducible rfl
      try go_frame
      refine tkA 7 34 rfl ?_;go_frame;refine tkA 8 35 rfl ?_;go_frame;refine tkQ (i:=9) (oi:=⟨some 36,_,_,_,_,_⟩) (v:=_) rfl (o4 (by rfl) 164 _ rfl b2 (o2+k*2) rfl L2 _ (λw' hSw=>xf hr2.o hSw hb2) underlying164 rfl (by rw[hl2.o];exact aou.o)) ?_;go_frame;refine tkQ (i:=10) (oi:=⟨some 37,_,_,_,_,_⟩) (v:=.bool false) rfl (aat (by rfl) .neq 164 (.tmp 31) (.tmp 36) 164 rfl (u:=.agg L1.toArray) (v:=.agg L2.toArray) kr kr (λW=>by kernel_rfl) hNE.o) ?_;go_frame;refine b0m kr ?_ _
      try go_frame
      go_wp2_with fail
      go_roundg (n-(k+1))
      case measure=>omega
      case rel=>exact⟨k+1,by omega,by omega,by go_num,HB.o.drew,HP2⟩
     ·have HPN:=q_ (HPF.o (aqo hx hy he));have hNE:Q_ (∀W,(binOp .neq 164 (.agg L1.toArray) (.agg L2.toArray)).run prog W=.ok (.bool true) W):=q_ λW=>by rw[hne.o W,o7 he];rfl
      clear he hne HP hv1 hv2 hx hy hq1 hq2 HPF HPT;go_wp2_with fail
      try (apply b1q;intro K_ HK_)
      have hS0:Below wr.1.size wr wr.drew:=(n9 _ _).drew;refine t6 (S:=λw'=>Below wr.1.size wr w') kr hS0 (λhHeld0=>?_);refine tkA 0 27 rfl ?_;go_frame;refine tkQ (i:=1) (oi:=⟨some 28,_,_,_,_,_⟩) (v:=?_) rfl (Or.inl ⟨by rfl,?_⟩) ?_;rotate_left
      ·intro w' hSw;have c1:=(HK1r.o.on hSw).cell 1 (v:=.slice (some ⟨b1,o1,none⟩) n c) rfl;go_simp
       try with_reducible rfl
      try go_frame
      refine tkA 2 29 rfl ?_;go_frame;refine tkA 3 30 rfl ?_;go_frame;refine tkQ (i:=4) (oi:=⟨some 31,_,_,_,_,_⟩) (v:=_) rfl (o4 (by rfl) 164 _ rfl b1 (o1+k*2) rfl L1 _ (λw' hSw=>xf hr1.o hSw hb1) underlying164 rfl (by rw[hl1.o];exact aou.o)) ?_;go_frame;refine tkA 5 32 rfl ?_;go_frame;refine tkQ (i:=6) (oi:=⟨some 33,_,_,_,_,_⟩) (v:=?_) rfl (Or.inl ⟨by rfl,?_⟩) ?_;rotate_left
      ·intro w' hSw;have c2:=(HK2r.o.on hSw).cell 1 (v:=.slice (some ⟨b2,o2,none⟩) n d) rfl;go_simp
       try with_reducible rfl
      try go_frame
      refine tkA 7 34 rfl ?_;go_frame;refine tkA 8 35 rfl ?_;go_frame;refine tkQ (i:=9) (oi:=⟨some 36,_,_,_,_,_⟩) (v:=_) rfl (o4 (by rfl) 164 _ rfl b2 (o2+k*2) rfl L2 _ (λw' hSw=>xf hr2.o hSw hb2) underlying164 rfl (by rw[hl2.o];exact aou.o)) ?_;go_frame;refine tkQ (i:=10) (oi:=⟨some 37,_,_,_,_,_⟩) (v:=.bool true) rfl (aat (by rfl) .neq 164 (.tmp 31) (.tmp 36) 164 rfl (u:=.agg L1.toArray) (v:=.agg L2.toArray) kr kr (λW=>by kernel_rfl) hNE.o) ?_;go_frame;refine b0m kr ?_ _
      try go_frame
      go_wp2_with fail;go_ret;rw[HPN.o];exact⟨rfl,HBw.o.drew⟩
    ·have hkn:k=n:=by omega
     subst hkn;have HPN:=q_ (HPT.o (aq6 (hX.o.trans hY.o.symm) (λj hj=>HP.o j (by rw[<- hX.o];exact hj))));clear HPT HPF;go_wp2_with fail;go_ret;rw[HPN.o];exact⟨rfl,HBw.o⟩
  ·have hne:((n:Int) != (m:Int))=true:=by rw[b0r];omega
   have HPN:Q_ (decide (X=Y)=false):=q_ (o7 λe=>hnm (by rw[<- hX.o,<- hY.o,e]));clear hnm;generalize decide (X=Y)=R at *;go_enter func48,ntmps48
   go_upto_region 1 with(first
    | (refine qr rfl _ _ rfl #[.int .i64 T,.slice A n c] rfl ?_;intro W1 hW;have HK1:=q_ (Blk.newL (L:=[.int .i64 T,.slice A n c]) hW rfl);have HB1:=q_ hW.bel;clear hW)
    | (refine qr rfl _ _ rfl #[.int .i64 T,.slice B m d] rfl ?_;intro W2 hW;have HK2:=q_ (Blk.newL (L:=[.int .i64 T,.slice B m d]) hW rfl);have HK12:=q_ (HK1.o.on hW.bel);have HB2:=q_ (qb HB1.o hW.bel);clear hW))
   have g0:=HK12.o.cell 0 (v:=.int .i64 T) rfl;have g1:=HK12.o.cell 1 (v:=.slice A n c) rfl;have g2:=HK2.o.cell 0 (v:=.int .i64 T) rfl;have g3:=HK2.o.cell 1 (v:=.slice B m d) rfl;go_wp2_with fail;go_ret;rw[HPN.o];exact⟨rfl,HB2.o⟩
 ·have hne:(T != U)=true:=by rw[b0r];exact hT
  rw[o7 hT,Bool.false_and];clear hT;go_enter func48,ntmps48
  go_upto_region 1 with(first
   | (refine qr rfl _ _ rfl #[.int .i64 T,.slice A n c] rfl ?_;intro W1 hW;have HK1:=q_ (Blk.newL (L:=[.int .i64 T,.slice A n c]) hW rfl);have HB1:=q_ hW.bel;clear hW)
   | (refine qr rfl _ _ rfl #[.int .i64 U,.slice B m d] rfl ?_;intro W2 hW;have HK2:=q_ (Blk.newL (L:=[.int .i64 U,.slice B m d]) hW rfl);have HK12:=q_ (HK1.o.on hW.bel);have HB2:=q_ (qb HB1.o hW.bel);clear hW))
  have g0:=HK12.o.cell 0 (v:=.int .i64 T) rfl;have g2:=HK2.o.cell 0 (v:=.int .i64 U) rfl;go_wp2_with fail;go_ret;exact⟨rfl,HB2.o⟩
theorem xw {w:World} {b o n:Nat} {A B:List Value} (h:w.rangeAt b o (A++B)) (hn:A.length=n):w.rangeAt b o A/\w.rangeAt b (o+n) B:=by
 subst hn;exact World.rangeAt_append.1 h
theorem zn {w:World} {b o:Nat} {v:Value} (h:w.rangeAt b o [v]):w.cell? ⟨b,o,none⟩=some v:=h 0 v rfl
theorem a6w {sq sqq:Int} {sy syq:Int} {cm cmq:Int} {id idq:Int} {vs vsq:Value} {b0:Bool} {b1:Bool} {b2:Bool} {b3:Bool} {b4:Bool} {w:World} (h0:Q_ ((sq==sqq)=b0)) (h1:Q_ ((sy==syq)=b1)) (h2:Q_ ((cm==cmq)=b2)) (h3:Q_ ((id==idq)=b3)) (h4:Q_ (∀W,Below w.1.size w W->Calls prog 51 #[vs,vsq] W λe w'=>e=.returned (.bool b4)/\Below W.1.size W w')) :
 Calls prog 29 #[.agg ([Value.int .i64 sq] ++([Value.int .i64 sy] ++([Value.int .i64 cm] ++([Value.int .i64 id] ++([vs]))))).toArray,.agg ([Value.int .i64 sqq] ++([Value.int .i64 syq] ++([Value.int .i64 cmq] ++([Value.int .i64 idq] ++([vsq]))))).toArray] w λe w'=>e=.returned (.bool (b0 && (b1 && (b2 && (b3 && (b4))))))/\Below w.1.size w w':=by
 have SP:∀(W:World) (b:Nat),W.rangeAt b 0 ([Value.int .i64 sq] ++([Value.int .i64 sy] ++([Value.int .i64 cm] ++([Value.int .i64 id] ++([vs])))))->W.rangeAt b 0 ([Value.int .i64 sq])/\W.rangeAt b 1 ([Value.int .i64 sy])/\W.rangeAt b 2 ([Value.int .i64 cm])/\W.rangeAt b 3 ([Value.int .i64 id])/\W.rangeAt b 4 ([vs]):=λW b h=>by
  obtain⟨r0,s0⟩:=xw h (n:=1) rfl;obtain⟨r1,s1⟩:=xw s0 (n:=1) rfl;obtain⟨r2,s2⟩:=xw s1 (n:=1) rfl;obtain⟨r3,s3⟩:=xw s2 (n:=1) rfl;exact⟨r0,r1,r2,r3,s3⟩
 have SQ:∀(W:World) (b:Nat),W.rangeAt b 0 ([Value.int .i64 sqq] ++([Value.int .i64 syq] ++([Value.int .i64 cmq] ++([Value.int .i64 idq] ++([vsq])))))->W.rangeAt b 0 ([Value.int .i64 sqq])/\W.rangeAt b 1 ([Value.int .i64 syq])/\W.rangeAt b 2 ([Value.int .i64 cmq])/\W.rangeAt b 3 ([Value.int .i64 idq])/\W.rangeAt b 4 ([vsq]):=λW b h=>by
  obtain⟨r0,s0⟩:=xw h (n:=1) rfl;obtain⟨r1,s1⟩:=xw s0 (n:=1) rfl;obtain⟨r2,s2⟩:=xw s1 (n:=1) rfl;obtain⟨r3,s3⟩:=xw s2 (n:=1) rfl;exact⟨r0,r1,r2,r3,s3⟩
 have HSP:=q_ SP;have HSQ:=q_ SQ;clear SP SQ;go_enter func29,ntmps29
 go_upto_region 1 with(first
  | (refine qr rfl _ _ rfl ([Value.int .i64 sq] ++([Value.int .i64 sy] ++([Value.int .i64 cm] ++([Value.int .i64 id] ++([vs]))))).toArray rfl ?_;intro W1 hW;have K1:=q_ (Blk.newL (L:=[Value.int .i64 sq] ++([Value.int .i64 sy] ++([Value.int .i64 cm] ++([Value.int .i64 id] ++([vs]))))) hW b1d);have HB1:=q_ hW.bel;clear hW)
  | (refine qr rfl _ _ rfl ([Value.int .i64 sqq] ++([Value.int .i64 syq] ++([Value.int .i64 cmq] ++([Value.int .i64 idq] ++([vsq]))))).toArray rfl ?_;intro W2 hW;have Kq:=q_ (Blk.newL (L:=[Value.int .i64 sqq] ++([Value.int .i64 syq] ++([Value.int .i64 cmq] ++([Value.int .i64 idq] ++([vsq]))))) hW b1d);have Kp:=q_ (K1.o.on hW.bel);have HBb:=q_ (qb HB1.o hW.bel);clear hW K1 HB1))
 try go_frame
 have a0:=zn ((HSP.o _ _ Kp.o.rg).1);have c0:=zn ((HSQ.o _ _ Kq.o.rg).1);have a1:=zn ((HSP.o _ _ Kp.o.rg).2.1);have c1:=zn ((HSQ.o _ _ Kq.o.rg).2.1);have a2:=zn ((HSP.o _ _ Kp.o.rg).2.2.1);have c2:=zn ((HSQ.o _ _ Kq.o.rg).2.2.1);have a3:=zn ((HSP.o _ _ Kp.o.rg).2.2.2.1);have c3:=zn ((HSQ.o _ _ Kq.o.rg).2.2.2.1);have a4:=zn ((HSP.o _ _ Kp.o.rg).2.2.2.2);have c4:=zn ((HSQ.o _ _ Kq.o.rg).2.2.2.2)
 try (apply b1q;intro K_ HK_)
 apply b20;cases b0
 ·have g0:=h0.o;go_wp2_with fail;go_ret;exact⟨by rfl,HBb.o⟩
 have g0:=h0.o;cases b1
 ·have g1:=h1.o;go_wp2_with fail;go_ret;exact⟨by rfl,HBb.o⟩
 have g1:=h1.o;cases b2
 ·have g2:=h2.o;go_wp2_with fail;go_ret;exact⟨by rfl,HBb.o⟩
 have g2:=h2.o;cases b3
 ·have g3:=h3.o;go_wp2_with fail;go_ret;exact⟨by rfl,HBb.o⟩
 have g3:=h3.o;go_wp2_with fail;refine(h4.o _ HBb.o).mono ?_;rintro e V1 ⟨rfl,hb⟩;have Kp1:=q_ (Kp.o.on hb);have Kq1:=q_ (Kq.o.on hb);have HB_1:=q_ (qb HBb.o hb);clear hb;dsimp only;go_wp2_with fail;go_ret;exact⟨by rfl,HB_1.o⟩
theorem a6u {kd kdq:Int} {P Pq:List Value} {Z Zq:List Value} {D Dq:List Value} {A Aq:List Value} {Y Yq:List Value} {b0:Bool} {b1:Bool} {b2:Bool} {b3:Bool} {b4:Bool} {b5:Bool} {w:World} (lP:Q_ (P.length=32)) (lPq:Q_ (Pq.length=32)) (lZ:Q_ (Z.length=2)) (lZq:Q_ (Zq.length=2)) (lD:Q_ (D.length=8)) (lDq:Q_ (Dq.length=8)) (lA:Q_ (A.length=3)) (lAq:Q_ (Aq.length=3)) (lY:Q_ (Y.length=2)) (lYq:Q_ (Yq.length=2)) (h0:Q_ ((kd==kdq)=b0)) (h1:Q_ (∀W,(binOp .eql 26 (.agg P.toArray) (.agg Pq.toArray)).run prog W=.ok (.bool b1) W)) (h2:Q_ (∀W,Below w.1.size w W->Calls prog 47 #[.agg Z.toArray,.agg Zq.toArray] W λe w'=>e=.returned (.bool b2)/\Below W.1.size W w')) (h3:Q_ (∀W,(binOp .eql 31 (.agg D.toArray) (.agg Dq.toArray)).run prog W=.ok (.bool b3) W)) (h4:Q_ (∀W,(binOp .eql 33 (.agg A.toArray) (.agg Aq.toArray)).run prog W=.ok (.bool b4) W)) (h5:Q_ (∀W,Below w.1.size w W->Calls prog 48 #[.agg Y.toArray,.agg Yq.toArray] W λe w'=>e=.returned (.bool b5)/\Below W.1.size W w')) :
 Calls prog 27 #[.agg ([Value.int .i64 kd] ++(P ++(Z ++(D ++(A ++(Y)))))).toArray,.agg ([Value.int .i64 kdq] ++(Pq ++(Zq ++(Dq ++(Aq ++(Yq)))))).toArray] w λe w'=>e=.returned (.bool (b0 && (b1 && (b2 && (b3 && (b4 && (b5)))))))/\Below w.1.size w w':=by
 have SP:∀(W:World) (b:Nat),W.rangeAt b 0 ([Value.int .i64 kd] ++(P ++(Z ++(D ++(A ++(Y))))))->W.rangeAt b 0 ([Value.int .i64 kd])/\W.rangeAt b 1 (P)/\W.rangeAt b 33 (Z)/\W.rangeAt b 35 (D)/\W.rangeAt b 43 (A)/\W.rangeAt b 46 (Y):=λW b h=>by
  obtain⟨r0,s0⟩:=xw h (n:=1) rfl;obtain⟨r1,s1⟩:=xw s0 (n:=32) lP.o;obtain⟨r2,s2⟩:=xw s1 (n:=2) lZ.o;obtain⟨r3,s3⟩:=xw s2 (n:=8) lD.o;obtain⟨r4,s4⟩:=xw s3 (n:=3) lA.o;exact⟨r0,r1,r2,r3,r4,s4⟩
 have SQ:∀(W:World) (b:Nat),W.rangeAt b 0 ([Value.int .i64 kdq] ++(Pq ++(Zq ++(Dq ++(Aq ++(Yq))))))->W.rangeAt b 0 ([Value.int .i64 kdq])/\W.rangeAt b 1 (Pq)/\W.rangeAt b 33 (Zq)/\W.rangeAt b 35 (Dq)/\W.rangeAt b 43 (Aq)/\W.rangeAt b 46 (Yq):=λW b h=>by
  obtain⟨r0,s0⟩:=xw h (n:=1) rfl;obtain⟨r1,s1⟩:=xw s0 (n:=32) lPq.o;obtain⟨r2,s2⟩:=xw s1 (n:=2) lZq.o;obtain⟨r3,s3⟩:=xw s2 (n:=8) lDq.o;obtain⟨r4,s4⟩:=xw s3 (n:=3) lAq.o;exact⟨r0,r1,r2,r3,r4,s4⟩
 have HSP:=q_ SP;have HSQ:=q_ SQ;clear SP SQ;go_enter func27,ntmps27
 go_upto_region 1 with(first
  | (refine qr rfl _ _ rfl ([Value.int .i64 kd] ++(P ++(Z ++(D ++(A ++(Y)))))).toArray rfl ?_;intro W1 hW;have K1:=q_ (Blk.newL (L:=[Value.int .i64 kd] ++(P ++(Z ++(D ++(A ++(Y)))))) hW b1d);have HB1:=q_ hW.bel;clear hW)
  | (refine qr rfl _ _ rfl ([Value.int .i64 kdq] ++(Pq ++(Zq ++(Dq ++(Aq ++(Yq)))))).toArray rfl ?_;intro W2 hW;have Kq:=q_ (Blk.newL (L:=[Value.int .i64 kdq] ++(Pq ++(Zq ++(Dq ++(Aq ++(Yq)))))) hW b1d);have Kp:=q_ (K1.o.on hW.bel);have HBb:=q_ (qb HB1.o hW.bel);clear hW K1 HB1))
 try go_frame
 have a0:=zn ((HSP.o _ _ Kp.o.rg).1);have c0:=zn ((HSQ.o _ _ Kq.o.rg).1)
 try (apply b1q;intro K_ HK_)
 apply b20;cases b0
 ·have g0:=h0.o;go_wp2_with fail;go_ret;exact⟨by rfl,HBb.o⟩
 have g0:=h0.o
 repeat (fail_if_success (show Oper.wp _ ⟨some 12,_,_,_,_,_⟩ _ _ _ _)
         first|go_values|go_skip|go_guarded|go_step|go_upon)
 refine b1i _ _ rfl w.1.size 1 rfl P _ (HSP.o _ _ Kp.o.rg).2.1 underlying26 rfl (by rw[lP.o];kernel_rfl) ?_
 repeat (fail_if_success (show Oper.wp _ ⟨some 14,_,_,_,_,_⟩ _ _ _ _)
         first|go_values|go_skip|go_guarded|go_step|go_upon)
 refine b1i _ _ rfl W1.1.size 1 rfl Pq _ (HSQ.o _ _ Kq.o.rg).2.1 underlying26 rfl (by rw[lPq.o];kernel_rfl) ?_;go_step;go_simp
 go_guarded
 refine am7 .eql 26 (.tmp 12) (.tmp 14) 26 kr (u:=.agg P.toArray) (v:=.agg Pq.toArray) kr kr kr (h1.o _) ?_;cases b1
 ·go_wp2_with fail;go_ret;exact⟨by rfl,HBb.o⟩
 repeat (fail_if_success (show Oper.wp _ ⟨some 19,_,_,_,_,_⟩ _ _ _ _)
         first|go_values|go_skip|go_guarded|go_step|go_upon)
 refine b1i _ _ rfl w.1.size 33 rfl Z _ (HSP.o _ _ Kp.o.rg).2.2.1 underlying29 rfl (by rw[lZ.o];kernel_rfl) ?_
 repeat (fail_if_success (show Oper.wp _ ⟨some 21,_,_,_,_,_⟩ _ _ _ _)
         first|go_values|go_skip|go_guarded|go_step|go_upon)
 refine b1i _ _ rfl W1.1.size 33 rfl Zq _ (HSQ.o _ _ Kq.o.rg).2.2.1 underlying29 rfl (by rw[lZq.o];kernel_rfl) ?_;go_wp2_with fail;refine(h2.o _ HBb.o).mono ?_;rintro e V1 ⟨rfl,hb⟩;have Kp1:=q_ (Kp.o.on hb);have Kq1:=q_ (Kq.o.on hb);have HB_1:=q_ (qb HBb.o hb);clear hb;dsimp only;cases b2
 ·go_wp2_with fail;go_ret;exact⟨by rfl,HB_1.o⟩
 repeat (fail_if_success (show Oper.wp _ ⟨some 26,_,_,_,_,_⟩ _ _ _ _)
         first|go_values|go_skip|go_guarded|go_step|go_upon)
 refine b1i _ _ rfl w.1.size 35 rfl D _ (HSP.o _ _ Kp1.o.rg).2.2.2.1 underlying31 rfl (by rw[lD.o];kernel_rfl) ?_
 repeat (fail_if_success (show Oper.wp _ ⟨some 28,_,_,_,_,_⟩ _ _ _ _)
         first|go_values|go_skip|go_guarded|go_step|go_upon)
 refine b1i _ _ rfl W1.1.size 35 rfl Dq _ (HSQ.o _ _ Kq1.o.rg).2.2.2.1 underlying31 rfl (by rw[lDq.o];kernel_rfl) ?_;go_step;go_simp
 go_guarded
 refine am7 .eql 31 (.tmp 26) (.tmp 28) 31 kr (u:=.agg D.toArray) (v:=.agg Dq.toArray) kr kr kr (h3.o _) ?_;cases b3
 ·go_wp2_with fail;go_ret;exact⟨by rfl,HB_1.o⟩
 repeat (fail_if_success (show Oper.wp _ ⟨some 33,_,_,_,_,_⟩ _ _ _ _)
         first|go_values|go_skip|go_guarded|go_step|go_upon)
 refine b1i _ _ rfl w.1.size 43 rfl A _ (HSP.o _ _ Kp1.o.rg).2.2.2.2.1 underlying33 rfl (by rw[lA.o];kernel_rfl) ?_
 repeat (fail_if_success (show Oper.wp _ ⟨some 35,_,_,_,_,_⟩ _ _ _ _)
         first|go_values|go_skip|go_guarded|go_step|go_upon)
 refine b1i _ _ rfl W1.1.size 43 rfl Aq _ (HSQ.o _ _ Kq1.o.rg).2.2.2.2.1 underlying33 rfl (by rw[lAq.o];kernel_rfl) ?_;go_step;go_simp
 go_guarded
 refine am7 .eql 33 (.tmp 33) (.tmp 35) 33 kr (u:=.agg A.toArray) (v:=.agg Aq.toArray) kr kr kr (h4.o _) ?_;cases b4
 ·go_wp2_with fail;go_ret;exact⟨by rfl,HB_1.o⟩
 repeat (fail_if_success (show Oper.wp _ ⟨some 40,_,_,_,_,_⟩ _ _ _ _)
         first|go_values|go_skip|go_guarded|go_step|go_upon)
 refine b1i _ _ rfl w.1.size 46 rfl Y _ (HSP.o _ _ Kp1.o.rg).2.2.2.2.2 underlying36 rfl (by rw[lY.o];kernel_rfl) ?_
 repeat (fail_if_success (show Oper.wp _ ⟨some 42,_,_,_,_,_⟩ _ _ _ _)
         first|go_values|go_skip|go_guarded|go_step|go_upon)
 refine b1i _ _ rfl W1.1.size 46 rfl Yq _ (HSQ.o _ _ Kq1.o.rg).2.2.2.2.2 underlying36 rfl (by rw[lYq.o];kernel_rfl) ?_;go_wp2_with fail;refine(h5.o _ HB_1.o).mono ?_;rintro e V2 ⟨rfl,hb⟩;have Kp2:=q_ (Kp1.o.on hb);have Kq2:=q_ (Kq1.o.on hb);have HB_2:=q_ (qb HB_1.o hb);clear hb;dsimp only;go_wp2_with fail;go_ret;exact⟨by rfl,HB_2.o⟩
theorem a6x {pr prq:Int} {od odq:Bool} {U Uq:List Value} {N Nq:List Value} {T Tq:List Value} {b0:Bool} {b1:Bool} {b2:Bool} {b3:Bool} {b4:Bool} {w:World} (lU:Q_ (U.length=48)) (lUq:Q_ (Uq.length=48)) (lN:Q_ (N.length=65)) (lNq:Q_ (Nq.length=65)) (lT:Q_ (T.length=5)) (lTq:Q_ (Tq.length=5)) (h0:Q_ ((pr==prq)=b0)) (h1:Q_ ((od==odq)=b1)) (h2:Q_ (∀W,Below w.1.size w W->Calls prog 27 #[.agg U.toArray,.agg Uq.toArray] W λe w'=>e=.returned (.bool b2)/\Below W.1.size W w')) (h3:Q_ (∀W,Below w.1.size w W->Calls prog 28 #[.agg N.toArray,.agg Nq.toArray] W λe w'=>e=.returned (.bool b3)/\Below W.1.size W w')) (h4:Q_ (∀W,Below w.1.size w W->Calls prog 29 #[.agg T.toArray,.agg Tq.toArray] W λe w'=>e=.returned (.bool b4)/\Below W.1.size W w')) :
 Calls prog 14 #[.agg ([Value.int .i64 pr] ++([Value.bool od] ++(U ++(N ++(T))))).toArray,.agg ([Value.int .i64 prq] ++([Value.bool odq] ++(Uq ++(Nq ++(Tq))))).toArray] w λe w'=>e=.returned (.bool (b0 && (b1 && (b2 && (b3 && (b4))))))/\Below w.1.size w w':=by
 have SP:∀(W:World) (b:Nat),W.rangeAt b 0 ([Value.int .i64 pr] ++([Value.bool od] ++(U ++(N ++(T)))))->W.rangeAt b 0 ([Value.int .i64 pr])/\W.rangeAt b 1 ([Value.bool od])/\W.rangeAt b 2 (U)/\W.rangeAt b 50 (N)/\W.rangeAt b 115 (T):=λW b h=>by
  obtain⟨r0,s0⟩:=xw h (n:=1) rfl;obtain⟨r1,s1⟩:=xw s0 (n:=1) rfl;obtain⟨r2,s2⟩:=xw s1 (n:=48) lU.o;obtain⟨r3,s3⟩:=xw s2 (n:=65) lN.o;exact⟨r0,r1,r2,r3,s3⟩
 have SQ:∀(W:World) (b:Nat),W.rangeAt b 0 ([Value.int .i64 prq] ++([Value.bool odq] ++(Uq ++(Nq ++(Tq)))))->W.rangeAt b 0 ([Value.int .i64 prq])/\W.rangeAt b 1 ([Value.bool odq])/\W.rangeAt b 2 (Uq)/\W.rangeAt b 50 (Nq)/\W.rangeAt b 115 (Tq):=λW b h=>by
  obtain⟨r0,s0⟩:=xw h (n:=1) rfl;obtain⟨r1,s1⟩:=xw s0 (n:=1) rfl;obtain⟨r2,s2⟩:=xw s1 (n:=48) lUq.o;obtain⟨r3,s3⟩:=xw s2 (n:=65) lNq.o;exact⟨r0,r1,r2,r3,s3⟩
 have HSP:=q_ SP;have HSQ:=q_ SQ;clear SP SQ;go_enter func14,ntmps14
 go_upto_region 1 with(first
  | (refine qr rfl _ _ rfl ([Value.int .i64 pr] ++([Value.bool od] ++(U ++(N ++(T))))).toArray rfl ?_;intro W1 hW;have K1:=q_ (Blk.newL (L:=[Value.int .i64 pr] ++([Value.bool od] ++(U ++(N ++(T))))) hW b1d);have HB1:=q_ hW.bel;clear hW)
  | (refine qr rfl _ _ rfl ([Value.int .i64 prq] ++([Value.bool odq] ++(Uq ++(Nq ++(Tq))))).toArray rfl ?_;intro W2 hW;have Kq:=q_ (Blk.newL (L:=[Value.int .i64 prq] ++([Value.bool odq] ++(Uq ++(Nq ++(Tq))))) hW b1d);have Kp:=q_ (K1.o.on hW.bel);have HBb:=q_ (qb HB1.o hW.bel);clear hW K1 HB1))
 try go_frame
 have a0:=zn ((HSP.o _ _ Kp.o.rg).1);have c0:=zn ((HSQ.o _ _ Kq.o.rg).1);have a1:=zn ((HSP.o _ _ Kp.o.rg).2.1);have c1:=zn ((HSQ.o _ _ Kq.o.rg).2.1)
 try (apply b1q;intro K_ HK_)
 apply b20;cases b0
 ·have g0:=h0.o;go_wp2_with fail;go_ret;exact⟨by rfl,HBb.o⟩
 have g0:=h0.o;cases b1
 ·have g1:=h1.o;go_wp2_with fail;go_ret;exact⟨by rfl,HBb.o⟩
 have g1:=h1.o
 repeat (fail_if_success (show Oper.wp _ ⟨some 19,_,_,_,_,_⟩ _ _ _ _)
         first|go_values|go_skip|go_guarded|go_step|go_upon)
 refine b1i _ _ rfl w.1.size 2 rfl U _ (HSP.o _ _ Kp.o.rg).2.2.1 underlying38 rfl (by rw[lU.o];kernel_rfl) ?_
 repeat (fail_if_success (show Oper.wp _ ⟨some 21,_,_,_,_,_⟩ _ _ _ _)
         first|go_values|go_skip|go_guarded|go_step|go_upon)
 refine b1i _ _ rfl W1.1.size 2 rfl Uq _ (HSQ.o _ _ Kq.o.rg).2.2.1 underlying38 rfl (by rw[lUq.o];kernel_rfl) ?_;go_wp2_with fail;refine(h2.o _ HBb.o).mono ?_;rintro e V1 ⟨rfl,hb⟩;have Kp1:=q_ (Kp.o.on hb);have Kq1:=q_ (Kq.o.on hb);have HB_1:=q_ (qb HBb.o hb);clear hb;dsimp only;cases b2
 ·go_wp2_with fail;go_ret;exact⟨by rfl,HB_1.o⟩
 repeat (fail_if_success (show Oper.wp _ ⟨some 26,_,_,_,_,_⟩ _ _ _ _)
         first|go_values|go_skip|go_guarded|go_step|go_upon)
 refine b1i _ _ rfl w.1.size 50 rfl N _ (HSP.o _ _ Kp1.o.rg).2.2.2.1 underlying58 rfl (by rw[lN.o];kernel_rfl) ?_
 repeat (fail_if_success (show Oper.wp _ ⟨some 28,_,_,_,_,_⟩ _ _ _ _)
         first|go_values|go_skip|go_guarded|go_step|go_upon)
 refine b1i _ _ rfl W1.1.size 50 rfl Nq _ (HSQ.o _ _ Kq1.o.rg).2.2.2.1 underlying58 rfl (by rw[lNq.o];kernel_rfl) ?_;go_wp2_with fail;refine(h3.o _ HB_1.o).mono ?_;rintro e V2 ⟨rfl,hb⟩;have Kp2:=q_ (Kp1.o.on hb);have Kq2:=q_ (Kq1.o.on hb);have HB_2:=q_ (qb HB_1.o hb);clear hb;dsimp only;cases b3
 ·go_wp2_with fail;go_ret;exact⟨by rfl,HB_2.o⟩
 repeat (fail_if_success (show Oper.wp _ ⟨some 33,_,_,_,_,_⟩ _ _ _ _)
         first|go_values|go_skip|go_guarded|go_step|go_upon)
 refine b1i _ _ rfl w.1.size 115 rfl T _ (HSP.o _ _ Kp2.o.rg).2.2.2.2 underlying62 rfl (by rw[lT.o];kernel_rfl) ?_
 repeat (fail_if_success (show Oper.wp _ ⟨some 35,_,_,_,_,_⟩ _ _ _ _)
         first|go_values|go_skip|go_guarded|go_step|go_upon)
 refine b1i _ _ rfl W1.1.size 115 rfl Tq _ (HSQ.o _ _ Kq2.o.rg).2.2.2.2 underlying62 rfl (by rw[lTq.o];kernel_rfl) ?_;go_wp2_with fail;refine(h4.o _ HB_2.o).mono ?_;rintro e V3 ⟨rfl,hb⟩;have Kp3:=q_ (Kp2.o.on hb);have Kq3:=q_ (Kq2.o.on hb);have HB_3:=q_ (qb HB_2.o hb);clear hb;dsimp only;go_wp2_with fail;go_ret;exact⟨by rfl,HB_3.o⟩
