/- Parts. -/
import Derived.Test.YtdkhlkfleggbaaaGreatQ00
import Derived.Deep.RegionLaw
import Derived.Deep.CutBlock
import Derived.RegionTactic
import Derived.Lib.SlBuf
import Derived.OwnWalk
import Derived.WalkMore
import Derived.ScopeJumps
import Derived.Stop.BytesEq
import Derived.ChangeKeysEq
import Derived.Laws.BitsAllLaws
import Derived.Deep.RegionHeld3
import Derived.Lib.SliceRun
import Derived.Deep.RegionWith
namespace Go.Proofs.YtdkhlkfleggbaaaGreat
set_option maxHeartbeats 2000000
set_option maxRecDepth 8000
open Lib (hid)
open Tryz
set_option linter.unusedVariables false
open Go.RowKit
def aa0 {α:Type} (D:List α) (o:Nat) (xs:List α):List α:=D.take o++xs++D.drop (o+xs.length)
theorem aqz {α:Type} {D:List α} {o:Nat} {xs:List α} (h:o+xs.length≤D.length) (j:Nat):(aa0 D o xs)[j]?=if o≤j∧j<o+xs.length then xs[j-o]? else D[j]?:=by
 unfold aa0;have hl:(D.take o).length=o:=by rw[List.length_take];omega
 by_cases h1:j<o
 ·rw[if_neg om,List.append_assoc,List.getElem?_append_left om,List.getElem?_take_of_lt h1]
 ·by_cases h2:j<o+xs.length
  ·rw[if_pos ⟨by omega,h2⟩,List.getElem?_append_left (by rw[List.length_append];omega),List.getElem?_append_right om,hl]
  ·rw[if_neg om,List.getElem?_append_right (by rw[List.length_append];omega),List.length_append,hl,List.getElem?_drop]
   congr 1;omega
def bV (c:UInt8):Value:=.int .u8 (c.toNat:Int)
def bsV (l:List UInt8):List Value:=l.map bV
theorem adg (l:List UInt8):(bsV l).length=l.length:=List.length_map _
theorem aj6 (l m:List UInt8):bsV (l++m)=bsV l++bsV m:=List.map_append
theorem ab8 (l:List UInt8) (n:Nat):(bsV l).take n=bsV (l.take n):=(List.map_take ..).symm
theorem afd (l:List UInt8) (n:Nat):(bsV l).drop n=bsV (l.drop n):=(List.map_drop ..).symm
theorem yk {l:List UInt8} {k:Nat} (h:k<l.length):(bsV l)[k]?=some (bV l[k]):=by
 unfold bsV;rw[List.getElem?_map,List.getElem?_eq_getElem h];rfl
theorem anw (l:List UInt8):∀v∈bsV l,v.oneCell'=true:=by
 intro v hv;obtain⟨c,-,rfl⟩:=List.mem_map.1 hv;rfl
theorem qz.nil (w:World) (b o:Nat):qz w w b o []:=
 ⟨rfl,rfl,rfl,rfl,fun _ _=>rfl,fun _=>rfl,fun j v hv=>by simp at hv,fun _ _ h _=>h,fun _ _ _ h=>h⟩
section
variable {P : Program}
theorem ar6 (w:World) (dT sT ty elem:TypeId) (hu:P.underlying dT=some (.slice elem)) (hs:(P.info? elem).map (·.size)=some 1) {R:Nat→Prop} (b o dLen dCap:Nat) (X:Option Addr) (sLen sCap:Nat) (xs:List Value)
 (hx:qf R w X xs) (hl:xs.length=sLen) (h1:∀v∈xs,v.oneCell'=true) (ht:w.there b o (Nat.min sLen dLen)) :
 ∃W,(Builtin.copy_ #[dT,sT] ty #[.slice (some ⟨b,o,none⟩) dLen dCap,.slice X sLen sCap]).run P w=.ok (goInt (Nat.min sLen dLen)) W∧qz w W b o (xs.take (Nat.min sLen dLen)):=by
 by_cases h0:Nat.min sLen dLen=0
 ·refine⟨w,?_,?_⟩
  ·rw[h0];exact run_copy_none w dT sT ty elem _ _ dLen dCap sLen sCap hu hs h0
  ·rw[h0,List.take_zero];exact qz.nil w b o
 ·have hlen:(xs.take (Nat.min sLen dLen)).length=Nat.min sLen dLen:=by
   rw[List.length_take,hl];exact Nat.min_eq_left (Nat.min_le_left _ _)
  have hpos:0<xs.length:=by have:Nat.min sLen dLen≤sLen:=Nat.min_le_left _ _;omega
  obtain⟨xb,xo,hX,-,-⟩:=hx 0 xs[0] (List.getElem?_eq_getElem hpos);subst hX
  have hr:=run_copy_cells (P:=P) w dT sT ty elem b o dLen dCap ⟨xb,xo,none⟩ sLen sCap (xs.take (Nat.min sLen dLen)) hu hs hlen (fun j v hv=>by
   have hj:j<(xs.take (Nat.min sLen dLen)).length:=by
    rcases Nat.lt_or_ge j (xs.take (Nat.min sLen dLen)).length with q|q
    ·exact q
    ·rw[List.getElem?_eq_none q]at hv;cases hv
   rw[List.getElem?_take_of_lt om]at hv;obtain⟨b',off,e1,-,e3⟩:=hx j v hv;injection e1 with e1
   injection e1 with e1 e2
   subst e1 e2;rw[adq];exact e3) (fun j hj=>by rw[hlen]at hj;exact(ht j hj).1) (fun j hj=>by rw[hlen]at hj;exact(ht j hj).2) (fun v hv=>h1 v (List.mem_of_mem_take hv))
  rw[hlen]at hr;exact⟨_,hr,qm (by rw[hlen];exact ht)⟩
theorem anp {w W:World} {ops:Array Oper} {o:Oper} {a:Act} {K:Act→World→Prop} {Q:Exit→Act→World→Prop} {E:Prop} (hgd:o.guard=none) (d s:Operand) (t t':TypeId)
 (ho:o.op=.call {callee:=.builtin .copy,args:=#[d,s],argTypes:=#[t,t']}) (v u r:Value) (hd:a.eval d=v) (hs:a.eval s=u)
 (hr:(Builtin.copy_ #[t,t'] o.type #[v,u]).run P w=.ok r W) (h:K (a.put o.dst r) W):if Region.wanted o (yielded ops a.tmps)=true then Oper.wp P o a w K Q else E:=by
 have hw:Region.wanted o (yielded ops a.tmps)=true:=by simp[Region.wanted,hgd]
 rw[if_pos hw];exact Lib.wp_copy_run w d s t t' ho v u hd hs hr h
end
theorem bie:(prog.info? 5).map (·.size)=some 1:=by kernel_rfl
theorem qn.stored {S:Nat→Prop} {w w1 w2:World} {b o:Nat} {cs:List Value} (h:qn S w w1) (hs:qz w1 w2 b o cs) (hb:¬S b):qn S w w2:=
 h.trans ⟨hs.os,hs.tape,hs.output,by rw[hs.sz];exact Nat.le_refl _,fun k hk=>hs.far k (fun e=>hb (e▸hk))⟩
theorem qf.part {Q:Nat→Prop} {w:World} {b o:Nat} {xs:List Value} (h:qf Q w (some ⟨b,o,none⟩) xs) (k:Nat):qf Q w (some ⟨b,o+k,none⟩) (xs.drop k):=fun j u hu=>by
 rw[List.getElem?_drop]at hu;obtain⟨b',off,e1,e2,e3⟩:=h _ u hu;injection e1 with e1
 injection e1 with e1 e1'
 subst e1 e1';exact⟨b,o+k,rfl,e2,by rw[Nat.add_assoc];exact e3⟩
theorem qf.first {Q:Nat→Prop} {w:World} {A:Option Addr} {xs:List Value} (h:qf Q w A xs) (k:Nat):qf Q w A (xs.take k):=fun j u hu=>by
 have hj:j<k:=by
  rcases Nat.lt_or_ge j k with q|q
  ·exact q
  ·rw[List.getElem?_eq_none (by rw[List.length_take];omega)]at hu;cases hu
 rw[List.getElem?_take_of_lt hj]at hu;exact h j u hu
section
variable {P : Program} {ops : Array Oper} {rest : List Oper} {o : Oper} {a : Act} {w : World} {Q : Exit → Act → World → Prop}
theorem aa9 (hgd:o.guard=none) (l c:Operand) (t e:TypeId) (ho:o.op=.makeSlice t l c) (i:TypeInfo) (z:Value) (ht:P.underlying t=some (.slice e)) (hi:P.info? e=some i) (hz:i.zero=some z)
 (kl kc:IntKind) (n:Nat) (hl:a.eval l=.int kl (n:Int)) (hc:a.eval c=.int kc (n:Int)) (hb:i.bytes*n≤281474976710656) (h63:(n:Int)≤9223372036854775807)
 (h:∀W,axq w W (madeCells z.cells (n*i.size))→wpList P ops Q rest (a.put o.dst (.slice (some ⟨w.1.size,0,none⟩) n n)) W):wpList P ops Q (o::rest) a w:=
 ab3 hgd (W:=w.alloc (.cells (madeCells z.cells (n*i.size)) e)) (by
  have hb':((i.bytes*n:Nat):Int)≤281474976710656:=by omega
  rw[Int.natCast_mul]at hb';have hr:=run_make (P:=P) w t e i z ht hi hz kl kc (n:Int) (n:Int) om (Int.le_refl _) hb' h63;unfold execOp;rw[ho];simp only[hl,hc];simp only[Int.toNat_natCast]at hr;rw[Sem.run_bind,hr];rfl) (h _ (qg w _ e))
end
theorem bcq {w W:World} {b o:Nat} {D xs:List UInt8} (h:Blk w b (bsV D)) (hs:qz w W b o (bsV xs)) (hf:o+xs.length≤D.length):Blk W b (bsV (aa0 D o xs)):=by
 have e1:bsV D=bsV (D.take o)++bsV ((D.drop o).take xs.length)++bsV (D.drop (o+xs.length)):=by
  have:D=D.take o ++((D.drop o).take xs.length++D.drop (o+xs.length)):=by
   rw[← List.drop_drop,List.take_append_drop,List.take_append_drop]
  conv=>lhs;rw[this]
  rw[aj6,aj6,List.append_assoc]
 have e2:bsV (aa0 D o xs)=bsV (D.take o)++bsV xs++bsV (D.drop (o+xs.length)):=by
  unfold aa0;rw[aj6,aj6]
 rw[e1]at h;rw[e2];refine h.put hs ?_ ?_
 ·rw[adg,List.length_take];omega
 ·rw[adg,adg,List.length_take,List.length_drop];omega
theorem Blk.flat {w:World} {b:Nat} {L:List Value} (h:Blk w b L) {Q:Nat→Prop} (hq:Q b):qf Q w (some ⟨b,0,none⟩) L:=fun j u hu=>⟨b,0,rfl,hq,h.cell (0+j) (by rw[Nat.zero_add];exact hu)⟩
def jp (c:UInt8):Int:=if c.toNat=181 then 1 else if c.toNat=36 then 2 else if c.toNat=254 then 3 else 0
theorem ati (c:UInt8) (w:World):Calls prog 13 #[bV c] w fun e w'=>e=.returned (.int .i64 (jp c))∧w=w':=by
 unfold bV jp;generalize c.toNat=n
 by_cases h1:n=181
 ·subst h1;go_enter func13,ntmps13;go_wp2;go_ret;exact⟨rfl,rfl⟩
 by_cases h2:n=36
 ·subst h2;go_enter func13,ntmps13;go_wp2;go_ret;exact⟨rfl,rfl⟩
 by_cases h3:n=254
 ·subst h3;go_enter func13,ntmps13;go_wp2;go_ret;exact⟨rfl,rfl⟩
 have b1:((n:Int)==181)=false:=by rw[beq_eq_false_iff_ne];omega
 have b2:((n:Int)==36)=false:=by rw[beq_eq_false_iff_ne];omega
 have b3:((n:Int)==254)=false:=by rw[beq_eq_false_iff_ne];omega
 rw[if_neg h1,if_neg h2,if_neg h3];clear h1 h2 h3;go_enter func13,ntmps13;go_wp2;go_ret;exact⟨rfl,rfl⟩
def q8 (C:List Int) (k:Nat) (n:Int):List Int:=C.set k (C.getD k 0+n)
theorem yg (C:List Int) (k:Nat) (n:Int):(q8 C k n).length=C.length:=List.length_set
def vo:List UInt8→Bool
 | []=>true
 | [x]=>decide (x.toNat=181)
 | x::y::_=>decide (x.toNat=181) && decide (y.toNat=98)
def blg:List UInt8→List UInt8
 | []=>[181,98]
 | [x]=>[x,98]
 | x::y::_=>[x,y]
theorem bge (l:List UInt8):∃x y,blg l=[x,y] ∧([x,y]==[181,98])=vo l:=by
 have e:∀x y:UInt8,([x,y]==[181,98])=(decide (x.toNat=181) && decide (y.toNat=98)):=fun x y=>by
  rw[Bool.eq_iff_iff,Bool.and_eq_true,decide_eq_true_iff,decide_eq_true_iff,beq_iff_eq];simp only[List.cons.injEq,and_true,← UInt8.toNat_inj];rfl
 rcases l with _|⟨x,_|⟨y,l⟩⟩
 ·exact⟨181,98,rfl,rfl⟩
 ·refine⟨x,98,rfl,?_⟩;rw[e];show (decide (x.toNat=181) && true)=_;rw[Bool.and_true];rfl
 ·exact⟨x,y,rfl,e x y⟩
theorem bg0 (x y:UInt8) (w:World):(binOp .eql 211 (.agg #[.int .u8 (x.toNat:Int),.int .u8 (y.toNat:Int)]) (.agg #[.int .u8 181,.int .u8 98])).run prog w=.ok (.bool ([x,y]==[181,98])) w:=
 run_eql_bytes w 211 5 2 underlying211 underlying5 (fun w=>by kernel_rfl) [x,y] [181,98] rfl rfl
theorem a5z (l:List UInt8):aa0 [181,98] 0 (l.take (min l.length 2))=blg l:=by
 rcases l with _|⟨x,_|⟨y,l⟩⟩
 ·rfl
 ·rfl
 ·have:min (x::y::l).length 2=2:=by simp only[List.length_cons];omega
  rw[this];rfl
theorem aio {Q:Nat→Prop} {w:World} (A:Option Addr) (c:Nat) (l:List UInt8) (h:qf Q w A (bsV l)) (hm:l.length≤maxLen) (hc:l.length≤c) :
 Calls prog 73 #[.slice A l.length c] w fun e w'=>e=.returned (.bool (vo l))∧Below w.1.size w w':=by
 unfold maxLen at hm;obtain⟨n,hn,hn2,hn3⟩:∃n:Nat,min (l.length:Int) 2=(n:Int)∧n≤2∧n=min l.length 2:=⟨min l.length 2,by omega,by omega,rfl⟩;have hw0:Below w.1.size w ((w.alloc (.cells #[.int .u8 181,.int .u8 98] 211)).alloc (.cells #[.int .u8 181,.int .u8 98] 211)):=qb (qa _ _) (qa _ _);have hb1:Blk ((w.alloc (.cells #[.int .u8 181,.int .u8 98] 211)).alloc (.cells #[.int .u8 181,.int .u8 98] 211)) w.1.size (bsV [181,98]):=(Blk.newL (qg w _ _) rfl).on (qa _ _)
 have hb2:Blk ((w.alloc (.cells #[.int .u8 181,.int .u8 98] 211)).alloc (.cells #[.int .u8 181,.int .u8 98] 211)) (w.1.size+1) (bsV [181,98]):=by
  have:=Blk.newL (L:=bsV [181,98]) (qg (w.alloc (.cells #[.int .u8 181,.int .u8 98] 211)) #[.int .u8 181,.int .u8 98] 211) rfl
  rwa [show (w.alloc (.cells #[.int .u8 181,.int .u8 98] 211)).1.size=w.1.size+1 from by simp]at this
 have hsz:(bsV (l.take n)).length=n:=by rw[adg,List.length_take];omega
 obtain⟨W',q1,q2⟩:=ar6 (P:=prog) (World.drew ((w.alloc (.cells #[.int .u8 181,.int .u8 98] 211)).alloc (.cells #[.int .u8 181,.int .u8 98] 211))) 22 22 3 5 underlying22 bie (w.1.size+1) 0 2 2 A n c (bsV (l.take n)) (by
  rw[← ab8];exact((h.lt.below hw0 (fun b q=>q.2)).keep (w':=World.drew _) fun _ _=>rfl).first n) hsz (anw _) (by rw[show Nat.min n 2=n from Nat.min_eq_left hn2];exact hb2.drew.there 0 n (by rw[adg];simp;omega))
 rw[show Nat.min n 2=n from Nat.min_eq_left hn2]at q1 q2;rw[List.take_of_length_le om]at q2;have hk2:=bcq hb2.drew q2 (by rw[List.length_take];simp only[List.length_cons,List.length_nil];omega);rw[hn3,a5z]at hk2;obtain⟨x,y,e1,e2⟩:=bge l;rw[e1]at hk2;have hk1:Blk W' w.1.size (bsV [181,98]):=hb1.drew.far q2 om;have c1:=hk1.cell 0 (v:=.int .u8 181) rfl;have c2:=hk1.cell 1 (v:=.int .u8 98) rfl;have c3:=hk2.cell 0 (v:=.int .u8 (x.toNat:Int)) rfl;have c4:=hk2.cell 1 (v:=.int .u8 (y.toNat:Int)) rfl;have HB:=hid (And.intro e2 (hw0.drew.trans (q2.below (Nat.le_succ _))));have HR:=hid q1;generalize hL:l.length=L at *;have f1:(n:Int)≤c:=by omega
 clear q1 q2 hk1 hk2 hb1 hb2 hw0 hsz e1 e2 hn3 h hL;have EQ:=fun W=>bg0 x y W
 go_enter func73,ntmps73;go_wp2_with fail
 go_cut [] (fun wx=>wx=W')
 case first=>
  go_region_law ((refine anp kr (.tmp 11) (.tmp 14) 22 22 kr (.slice (some ⟨w.1.size+1,0,none⟩) 2 2) (.slice A n c) (goInt n) kr kr HR.out ?_))
  go_wp2_with fail
  go_meet
  rfl
 case rest=>
 subst hcut;clear HR;go_wp2_with fail;go_ret;refine⟨?_,HB.out.2⟩;rw[← HB.out.1];show Ending.returned (.bool (x==181 && y==98))=_;rw[show ([x,y]==[181,98])=(x==181 && y==98)from by simp]
theorem ann {P:Program} {w:World} {a:Addr} {m:Mode} (f:_) (x:_) (y:_):(store a (.func f x y) m).run P w=stored P w a (.func f x y) m:=run_store P w a _ m rfl
def kf:List Value:=[.int .i64 0,.int .i64 0,.int .i64 0,.int .i64 0,.int .i64 0,.int .i64 0,.int .i64 0,.int .i64 0,.int .i64 0,.int .i64 0,.int .i64 0,.int .i64 0,.int .i64 0,.int .i64 0,.int .i64 0,.int .i64 0,.int .i64 0,.int .i64 0,.int .i64 0,.int .i64 0,.int .i64 0,.int .i64 0,.int .i64 0,.int .i64 0,.int .i64 0,.int .i64 0,.int .i64 0,.int .i64 0,.int .i64 0,.int .i64 0,.int .i64 0,.int .i64 0,.int .i64 0,.int .i64 0,.slice none 0 0,.int .i64 0,.int .i64 0,.int .i64 0,.int .i64 0,.int .i64 0,.int .i64 0,.int .i64 0,.int .i64 0,.bool false,.int .i64 0,.int .i64 0,.int .i64 0,.slice none 0 0]
def acg:List Value:=[.int .i64 0,.string ByteArray.empty,.bool false,.int .i64 0,.int .i64 0,.int .i64 0,.int .i64 0,.bool false,.int .i64 0,.bool false,.int .i64 0,.int .i64 0,.bool false,.int .i64 0,.bool false,.int .i64 0,.bool false,.int .i64 0,.bool false,.int .i64 0,.bool false,.int .i64 0,.bool false,.int .i64 0,.bool false,.int .i64 0,.int .i64 0,.int .i64 0,.int .i64 0,.bool false,.bool false,.int .i64 0,.bool false,.int .i64 0,.bool false,.int .i64 0,.bool false,.int .i64 0,.bool false,.int .i64 0,.bool false,.int .i64 0,.int .i64 0,.int .i64 0,.bool false,.int .i64 0,.slice none 0 0,.bool false,.int .i64 0,.bool false,.int .i64 0,.bool false,.int .i64 0,.bool false,.int .i64 0,.bool false,.int .i64 0,.bool false,.int .i64 0,.bool false,.int .i64 0,.int .i64 0,.int .i64 0,.int .i64 0,.slice none 0 0]
def ac4:List Value:=[.int .i64 0,.int .i64 0,.int .i64 0,.int .i64 0,.slice none 0 0]
def itL (p:Int) (o:Bool) (U N T:List Value):List Value:=.int .i64 p::.bool o::(U ++(N++T))
def adc:List Value:=itL 0 false kf acg ac4
def ala:Array Value:=adc.toArray
def aem:Array Value:=kf.toArray
def veL (d p n e:Int) (L:List Value):List Value:=.int .i64 d::.int .i64 p::.int .i64 n::.int .i64 e::L
def veA (d p n e:Int):Array Value:=(veL d p n e adc).toArray
theorem bih (d p n e:Int):(veA d p n e).toList=veL d p n e adc:=rfl
theorem bk7 (d p n e:Int):(veL d p n e adc).length=124:=rfl
theorem adp (w:World):(zeroValue 64).run prog w=.ok (.agg ala) w:=by kernel_rfl
theorem alb (w:World):(zeroValue 38).run prog w=.ok (.agg aem) w:=by kernel_rfl
theorem aig (w:World):(zeroValue 66).run prog w=.ok (.agg (veA 0 0 0 0)) w:=by kernel_rfl
theorem ai8 (w:World):(Instr.build 38 #[]).run prog w=.ok (.agg aem) w:=by kernel_rfl
theorem a8h (w:World):(Instr.build 66 #[]).run prog w=.ok (.agg (veA 0 0 0 0)) w:=by kernel_rfl
theorem a28 (w:World):(Instr.build 66 #[(0,.int .i64 1),(3,.int .i64 3)]).run prog w=.ok (.agg (veA 1 0 0 3)) w:=by kernel_rfl
theorem a27 (d p:Int) (w:World):(Instr.build 66 #[(0,.int .i64 d),(1,.int .i64 p)]).run prog w=.ok (.agg (veA d p 0 0)) w:=by kernel_rfl
theorem ax5 (d p e:Int) (w:World):(Instr.build 66 #[(0,.int .i64 d),(1,.int .i64 p),(3,.int .i64 e)]).run prog w=.ok (.agg (veA d p 0 e)) w:=by kernel_rfl
theorem aoa (d p n e:Int):(veA d p n e).all (·.oneCell')=true:=by
 refine ka fun v hv=>?_
 rw[bih]at hv;unfold veL at hv;rcases List.mem_cons.1 hv with rfl|hv
 ·rfl
 rcases List.mem_cons.1 hv with rfl|hv
 ·rfl
 rcases List.mem_cons.1 hv with rfl|hv
 ·rfl
 rcases List.mem_cons.1 hv with rfl|hv
 ·rfl
 have h:∀v∈adc,v.oneCell'=true:=by decide +kernel
 exact h v hv
theorem aob (d p n e:Int):(prog.info? 66).map (·.size)=some (veA d p n e).size:=by kernel_rfl
def az0 (p:Int):Nat:=if p=1 then 41 else if p=2 then 43 else 45
def ofV (p:Int):Value:=.func (Fn.func (az0 p)) #[] #[]
theorem a93 (p:Int) (w:World):Calls prog 26 #[.int .i64 p] w fun e w'=>e=.returned (.agg #[ofV p])∧Below w.1.size w w':=by
 have hsf:=@ann prog;unfold ofV az0
 by_cases h1:p=1
 ·subst h1;go_enter func26,ntmps26;go_wp2_with fail;exact bodyPost_ret (v:=.agg #[.func (Fn.func 41) #[] #[]]) (by simp[results,results26,go_sem]) rfl ⟨rfl,qa _ _⟩
 by_cases h2:p=2
 ·subst h2;go_enter func26,ntmps26;go_wp2_with fail;exact bodyPost_ret (v:=.agg #[.func (Fn.func 43) #[] #[]]) (by simp[results,results26,go_sem]) rfl ⟨rfl,qa _ _⟩
 rw[if_neg h1,if_neg h2];have b1:(p==1)=false:=by rw[beq_eq_false_iff_ne];exact h1
 have b2:(p==2)=false:=by rw[beq_eq_false_iff_ne];exact h2
 clear h1 h2;go_enter func26,ntmps26;go_wp2_with fail;exact bodyPost_ret (v:=.agg #[.func (Fn.func 45) #[] #[]]) (by simp[results,results26,go_sem]) rfl ⟨rfl,qa _ _⟩
def aez:Value:=.agg #[.int .i64 0,.int .i64 0,.slice none 0 0]
theorem zq {fn:Func} {p u v:Tmp} {ty:TypeId} (h:fn.results=#[.cell p ty,.tmp u,.tmp v]) (tmps:Array Value) (P:Program) (w:World) :
 (results fn tmps).run P w =
  ((asAddr (tmps.getD p undef)).run P w).andThen fun a w₁=>((loadVar ty a).run P w₁).andThen fun v' w₂=>.ok (.tuple #[v',tmps.getD u undef,tmps.getD v undef]) w₂:=by
 simp only[results,h];simp[Sem.run_bind,Result.andThen]
theorem acn {fn:Func} {p:Tmp} {ty:TypeId} (h:fn.results=#[.cell p ty]) (tmps:Array Value) (P:Program) (w:World) :
 (results fn tmps).run P w=((asAddr (tmps.getD p undef)).run P w).andThen fun a w₁=>(loadVar ty a).run P w₁:=by
 simp only[results,h];simp[Sem.run_bind,Result.andThen]
theorem au8 {w1:World} {b:Nat} {x y z:Value} (hk:Blk w1 b [x,y,z]) (p q r:Value):(loadVar 143 ⟨b,0,none⟩).run prog (((w1.setCell ⟨b,0,none⟩ p).setCell ⟨b,1,none⟩ q).setCell ⟨b,2,none⟩ r)=.ok (.agg #[p,q,r]) (((w1.setCell ⟨b,0,none⟩ p).setCell ⟨b,1,none⟩ q).setCell ⟨b,2,none⟩ r)∧Below b w1 (((w1.setCell ⟨b,0,none⟩ p).setCell ⟨b,1,none⟩ q).setCell ⟨b,2,none⟩ r):=by
 have hs:qz w1 (((w1.setCell ⟨b,0,none⟩ p).setCell ⟨b,1,none⟩ q).setCell ⟨b,2,none⟩ r) b 0 [p,q,r]:=qm (cs:=[p,q,r]) (hk.there 0 3 (Nat.le_refl _));exact⟨run_loadVar_mid (P:=prog) _ b 0 143 [p,q,r] _ (hk.all hs rfl).rg underlying143 rfl kr,hs.below (Nat.le_refl _)⟩
theorem arw {Q:Nat→Prop} {w:World} (A:Option Addr) (c:Nat) (l:List UInt8) (h:qf Q w A (bsV l)) (hm:l.length<6) (hc:l.length≤c) :
 Calls prog 60 #[.slice A l.length c] w fun e w'=>e=.returned (.tuple #[aez,.int .i64 0,.int .i64 (if vo l then 2 else 3)])∧Below w.1.size w w':=by
 have hb:=aio (w:=w.alloc (.cells #[.int .i64 0,.int .i64 0,.slice none 0 0] 143)) A c l (h.lt.below (qa _ _) (fun b q=>q.2)) (by unfold maxLen;omega) hc;have HB:=hid hb;have HK:=hid (Blk.newL (L:=[.int .i64 0,.int .i64 0,.slice none 0 0]) (qg w #[.int .i64 0,.int .i64 0,.slice none 0 0] 143) rfl);clear hb h;have hl:(l.length:Int)<6:=by omega
 generalize l.length=L at *;cases hbg:vo l
 all_goals
  rw[hbg]at HB;go_enter func60,ntmps60;go_wp2_with fail;refine HB.out.mono ?_;rintro e w1 ⟨rfl,hb⟩;have HK1:=hid (HK.out.on hb);have HB1:=hid (qb (qa w _) hb);have g0:=HK1.out.cell 0 rfl;have g1:=HK1.out.cell 1 rfl;have g2:=HK1.out.cell 2 rfl;have z0:=HK1.out.fz 0;have z1:=HK1.out.fz 1;have z2:=HK1.out.fz 2;clear hb HB HK;go_wp2_with fail;obtain⟨r1,r2⟩:=au8 HK1.out (.int .i64 0) (.int .i64 0) (.slice none 0 0)
 ·exact bodyPost_ret (v:=.tuple #[aez,.int .i64 0,.int .i64 3]) (by rw[zq rfl];simp[asAddr,Result.andThen,r1,aez]) rfl ⟨rfl,HB1.out.trans r2⟩
 ·exact bodyPost_ret (v:=.tuple #[aez,.int .i64 0,.int .i64 2]) (by rw[zq rfl];simp[asAddr,Result.andThen,r1,aez]) rfl ⟨rfl,HB1.out.trans r2⟩
theorem asm {P:Program} {ops:Array Oper} {rest:List Oper} {o:Oper} {a:Act} {w:World} {Q:Exit→Act→World→Prop} (hgd:o.guard=none) (t:TypeId) (i j k:Nat) (x y z:Operand) (ho:o.op=.build t #[(i,x),(j,y),(k,z)]) {u u' u'' v:Value} (hx:a.eval x=u) (hy:a.eval y=u') (hz:a.eval z=u'') (hr:(Instr.build t #[(i,u),(j,u'),(k,u'')]).run P w=.ok v w)
 (h:wpList P ops Q rest (a.put o.dst v) w):wpList P ops Q (o::rest) a w:=aa8 hgd t _ ho #[(i,u),(j,u'),(k,u'')] (by simp[hx,hy,hz]) hr h
theorem a8w (F:Nat) (W:World):(Instr.field 94 (.agg #[.func (Fn.func F) #[] #[]]) 0).run prog W=.ok (.func (Fn.func F) #[] #[]) W:=by kernel_rfl
theorem bju (p:Int) (x:Value) (W:World):(callFunc (az0 p) #[x]).run prog W=.ok (.enter (az0 p) #[x]) W:=by
 unfold az0
 split
 ·kernel_rfl
 split
 ·kernel_rfl
 ·kernel_rfl
def bb2 (d p n e:Int) (w:World) (r:Ending) (w':World):Prop:=r=.returned (.agg (veA d p n e))∧Below w.1.size w w'
theorem a91 (A:Option Addr) (c:Nat) (w:World):Calls prog 10 #[.slice A 0 c] w (bb2 0 0 0 0 w):=by
 have HZ:=fun W=>hid (aig W)
 have HB0:=fun W=>hid (a8h W)
 go_enter func10,ntmps10
 go_wp2_with (first
  | (refine qc rfl 66 rfl (veA 0 0 0 0) (HZ _).out ?_;intro W1 hW1;have HK1:=hid (Blk.newL (L:=veL 0 0 0 0 adc) hW1 rfl);have HB1:=hid hW1.bel;clear hW1)
  | refine zy rfl 66 rfl (HB0 _).out ?_
  | (refine qe rfl 66 _ _ rfl w.1.size 0 (veA 0 0 0 0) rfl rfl (HK1.out.there 0 124 (Nat.le_refl _)) (aob _ _ _ _) (aoa _ _ _ _) ?_;intro W5 hs;have HK5:=hid (HK1.out.all hs rfl);have HB5:=hid (HB1.out.trans (hs.below (Nat.le_refl _)));clear hs))
 try go_frame
 have HLD:=hid (run_loadVar_mid (P:=prog) W5 w.1.size 0 66 (veA 0 0 0 0).toList _ HK5.out.rg underlying66 rfl kr);refine bodyPost_ret (v:=.agg (veA 0 0 0 0)) (by rw[acn rfl];simp[asAddr,Result.andThen,HLD.out]) rfl ⟨rfl,HB5.out⟩
theorem a4u {Q:Nat→Prop} {w:World} (A:Option Addr) (c:Nat) (x:UInt8) (l:List UInt8) (h:qf Q w A (bsV (x::l))) (hp:jp x=0) (hm:(x::l).length≤maxLen) :
 Calls prog 10 #[.slice A (x::l).length c] w (bb2 1 0 0 3 w):=by
 unfold maxLen at hm;have HZ:=fun W=>hid (aig W)
 have HB0:=fun W=>hid (a28 W)
 have HP:∀W,Hid (Calls prog 13 #[.int .u8 (x.toNat:Int)] W fun e w'=>e=.returned (.int .i64 0)∧W=w'):=fun W=>hid (by have:=ati x W;rw[hp]at this;exact this)
 obtain⟨b,off,rfl,-,hc⟩:=h 0 (bV x) rfl;have hb:=abz hc;have HC:∀W,Below w.1.size w W→Hid (W.cell? ⟨b,off,none⟩=some (.int .u8 (x.toNat:Int))):=fun W hW=>hid ((hW.cell (p:=⟨b,off+0,none⟩) hb).trans hc)
 have hl:(0:Int)<((x::l).length:Int):=by simp only[List.length_cons];omega
 generalize (x::l).length=L at *;have hl0:((L:Int)==0)=false:=by rw[beq_eq_false_iff_ne];omega
 clear hc hb hp h;go_enter func10,ntmps10;go_upto_region 3 with(refine qc rfl 66 rfl (veA 0 0 0 0) (HZ _).out ?_;intro W1 hW1;have HK1:=hid (Blk.newL (L:=veL 0 0 0 0 adc) hW1 rfl);have HB1:=hid hW1.bel;clear hW1)
 have c0:=(HC _ HB1.out).out
 go_wp2_with (first
  | (refine(HP _).out.mono ?_;rintro e w' ⟨rfl,rfl⟩)
  | refine ae9 (u:=.int .i64 1) (u':=.int .i64 3) rfl 66 0 3 _ _ rfl rfl rfl (HB0 _).out ?_
  | (refine qe rfl 66 _ _ rfl w.1.size 0 (veA 1 0 0 3) rfl rfl (HK1.out.there 0 124 (Nat.le_refl _)) (aob _ _ _ _) (aoa _ _ _ _) ?_;intro W5 hs;have HK5:=hid (HK1.out.all hs rfl);have HB5:=hid (HB1.out.trans (hs.below (Nat.le_refl _)));clear hs))
 try go_frame
 have HLD:=hid (run_loadVar_mid (P:=prog) W5 w.1.size 0 66 (veA 1 0 0 3).toList _ HK5.out.rg underlying66 rfl kr);refine bodyPost_ret (v:=.agg (veA 1 0 0 3)) (by rw[acn rfl];simp[asAddr,Result.andThen,HLD.out]) rfl ⟨rfl,HB5.out⟩
def vr (C:List Int):Array Value:=(C.map (Value.int .i64)).toArray
def z13:List Int:=[0,0,0,0,0,0,0,0,0,0,0,0,0]
theorem arh (w:World):(zeroValue 78).run prog w=.ok (.agg (vr z13)) w:=by kernel_rfl
theorem acz {C:List Int} (h:C.length=13):(prog.info? 78).map (·.size)=some (vr C).size:=by
 unfold vr;rw[List.size_toArray,List.length_map,h];kernel_rfl
theorem afg {C:List Int} (h:C.length=13):(prog.info? 78).map (·.size)=some (C.map (Value.int .i64)).length:=by
 rw[List.length_map,h];kernel_rfl
theorem aff (C:List Int):(vr C).all (·.oneCell')=true:=ka fun v hv=>by
 obtain⟨n,-,rfl⟩:=List.mem_map.1 hv;rfl
def jd:List UInt8→Nat
 | []=>0
 | x::l=>x.toNat+256*jd l
theorem ah2:∀l:List UInt8,jd l<256^l.length
 | []=>by simp[jd]
 | x::l=>by
  have h:=ah2 l;have hx:=x.toNat_lt;simp only[jd,List.length_cons,Nat.pow_succ];omega
theorem atd:∀(l:List UInt8) (x:UInt8),jd (l++[x])=jd l+x.toNat*256^l.length
 | [],x=>by simp[jd]
 | y::l,x=>by
  simp only[List.cons_append,jd,atd l x,List.length_cons,Nat.pow_succ];rw[Nat.mul_add,Nat.add_assoc,Nat.mul_comm 256 (x.toNat*_),Nat.mul_assoc]
theorem ap1 (l:List UInt8) (k:Nat) (h:k<l.length):jd (l.take (k+1))=jd (l.take k)+l[k].toNat*256^k:=by
 rw[List.take_succ_eq_append_getElem h,atd,List.length_take,Nat.min_eq_left (Nat.le_of_lt h)]
theorem beg (l:List UInt8) (h:l.length≤8):jd l<2^64:=by
 have h1:=ah2 l;have h2:256^l.length≤256^8:=Nat.pow_le_pow_right dc h;omega
def a7i (n u:Nat):Int:=if u<2^(8*n-1)then(u:Int)else(u:Int)-(2^(8*n):Nat)
theorem bep {k a c:Nat} (ha:a<2^k):a ||| (c*2^k)=a+c*2^k:=by
 rw[Nat.or_comm,Nat.mul_comm c,← Nat.two_pow_add_eq_or_of_lt ha,Nat.add_comm]
theorem beu (k:Nat):256^k=2^(8*k):=by rw[show (256:Nat)=2^8 from rfl,← Nat.pow_mul]
theorem bj7 (l:List UInt8) (k:Nat) (h:k<l.length) (h8:l.length≤8):bits .or .u64 (jd (l.take k):Int) (IntKind.u64.wrap (IntKind.u64.wrap (l[k].toNat:Int)*2^(8*k)))=(jd (l.take (k+1)):Int):=by
 have h1:jd (l.take k)<2^(8*k):=by
  have:=ah2 (l.take k)
  rwa [List.length_take,Nat.min_eq_left (Nat.le_of_lt h),beu]at this
 have hx:=l[k].toNat_lt
 have h2:l[k].toNat*2^(8*k)<18446744073709551616:=by
  have:2^(8*k)≤2^56:=Nat.pow_le_pow_right dc om;have:=Nat.mul_le_mul (Nat.le_of_lt_succ (show l[k].toNat<255+1 from hx)) this;omega
 have h3:2^(8*k)≤2^56:=Nat.pow_le_pow_right dc om;have e1:IntKind.u64.wrap (l[k].toNat:Int)=(l[k].toNat:Int):=IntWalk.u64_in _ om;have e2:IntKind.u64.wrap (((l[k].toNat*2^(8*k):Nat)):Int)=((l[k].toNat*2^(8*k):Nat):Int):=IntWalk.u64_in _ om;have e3:(l[k].toNat:Int)*2^(8*k)=((l[k].toNat*2^(8*k):Nat):Int):=by rw[Int.natCast_mul,Int.natCast_pow];rfl
 rw[e1,e3,e2,u64_or_nat _ _ om h2,bep h1,ap1 l k h,beu]
theorem a5p (n u:Nat) (h1:1≤n) (h8:n≤8) (hu:u<256^n):IntKind.i64.wrap (IntKind.u64.wrap ((u:Int)*2^(8*(8-n)))) / 2^(8*(8-n))=a7i n u:=by
 have:n=1∨n=2∨n=3∨n=4∨n=5∨n=6∨n=7∨n=8:=by omega
 unfold a7i;rcases this with rfl|rfl|rfl|rfl|rfl|rfl|rfl|rfl<;>simp only[IntKind.wrap,IntKind.bits,IntKind.signed]at *<;>(try simp at *)<;>split<;>omega
structure Fld where
 sz:Nat
 sg:Bool
 lo:Int
 hi:Int
deriving DecidableEq
def ayx (f:Fld):List Value:=[.int .i64 f.sz,.bool f.sg,.int .i64 f.lo,.int .i64 f.hi]
def aci (l:List Fld):List Value:=l.flatMap ayx
theorem ahx {α:Type} (g:α→List Value) (m:Nat) (hg:∀x,(g x).length=m):∀(l:List α) (k:Nat) (h:k<l.length) (j:Nat),j<m →(l.flatMap g)[k*m+j]?=(g l[k])[j]?
 | [],k,h,_,_=>absurd h (Nat.not_lt_zero _)
 | x::l,0,_,j,hj=>by
  rw[List.flatMap_cons,Nat.zero_mul,Nat.zero_add,List.getElem?_append_left (by rw[hg];exact hj)];rfl
 | x::l,k+1,h,j,hj=>by
  rw[List.flatMap_cons,List.getElem?_append_right (by rw[hg,Nat.succ_mul];omega),hg,show (k+1)*m+j-m=k*m+j from by rw[Nat.succ_mul];omega];exact ahx g m hg l k (by simpa using h) j hj
theorem as1 {α:Type} (g:α→List Value) (m:Nat) (hg:∀x,(g x).length=m) (l:List α):(l.flatMap g).length=l.length*m:=by
 induction l with
 | nil=>simp
 | cons f l ih=>rw[List.flatMap_cons,List.length_append,ih,hg,List.length_cons,Nat.succ_mul];omega
def a9m (n:Nat) (s:Bool):Int:=if s=true∨n=8 then(2^(8*n-1):Nat)-1 else(2^(8*n):Nat)-1
def a9n (n:Nat) (s:Bool):Int:=if s then -((2^(8*n-1):Nat):Int)else 0
def af3 (n:Nat) (s:Bool):Fld:=⟨n,s,a9n n s,a9m n s⟩
def ys (f:Fld):Bool:=decide (1≤f.sz) && (decide (f.sz≤8) && (decide (f.lo≤f.hi) && (decide (a9n f.sz f.sg≤f.lo) && (decide (f.lo≤a9m f.sz f.sg) && (decide (a9n f.sz f.sg≤f.hi) && decide (f.hi≤a9m f.sz f.sg))))))
def anq (f:Fld) (b:List UInt8):Int:=if f.sg then a7i f.sz (jd b)else IntKind.i64.wrap (jd b)
def yd (l:List Fld):Nat:=(l.map (·.sz)).sum
def aal:List Fld→List UInt8→Option (List Int)
 | [],_=>some []
 | f::l,b=>if f.lo≤anq f (b.take f.sz)∧anq f (b.take f.sz)≤f.hi then(aal l (b.drop f.sz)).map (anq f (b.take f.sz)::·)else none
def xk (l:List Fld) (b:List UInt8):Int×List Int:=
 if b.length<yd l then(2,[])else if yd l<b.length then(7,[])else
  match aal l b with
  | some v=>(0,v)
  | none=>(5,[])
def qp (v:List Int):List Value:=v.map (Value.int .i64)
theorem jn (v:List Int):(qp v).length=v.length:=List.length_map _
theorem al8:∀(l:List Fld) (b:List UInt8) {v:List Int},aal l b=some v→v.length=l.length
 | [],_,v,h=>by cases h;rfl
 | f::l,b,v,h=>by
  unfold aal at h
  split at h
  ·obtain⟨v',h',rfl⟩:=Option.map_eq_some_iff.1 h;simp[al8 l _ h']
  ·cases h
theorem axl (c:Nat) (w:World):Calls prog 92 #[.slice none 0 c] w fun e w'=>e=.returned (.slice none 0 0)∧Below w.1.size w w':=by
 go_enter func92,ntmps92;go_wp2_with fail;rw[Lib.run_eql_slice_nil _ _ _ _ _ _ _ _ underlying22];go_wp2_with fail;go_ret;exact⟨rfl,Below.refl _ _⟩
set_option maxRecDepth 100000 in
theorem a3a:∃i,prog.info? 5=some i∧i.zero=some (.int .u8 0)∧i.size=1∧i.bytes=1:=⟨_,rfl,rfl,rfl,rfl⟩
theorem aod {Q:Nat→Prop} (A:Option Addr) (l:List UInt8) (c:Nat) (w:World) (hs:qf Q w A (bsV l)) (hn:l.length≤1000000) :
 Calls prog 92 #[.slice A l.length c] w fun e w'=>∃B d,e=.returned (.slice B l.length d)∧qf (fun b=>w.1.size≤b∧b<w'.1.size) w' B (bsV l)∧l.length≤d∧Below w.1.size w w':=by
 cases A with
 | none=>
  have h0:l=[]:=by
   cases l with
   | nil=>rfl
   | cons x l=>obtain⟨b,off,h,-⟩:=hs 0 _ rfl;cases h
  subst h0;refine(axl c w).mono ?_;rintro e w' ⟨rfl,h⟩;exact⟨none,0,rfl,qf.nil _ _ _,Nat.le_refl _,h⟩
 | some a=>
  obtain⟨i0,hi,hz0,hz1,hz2⟩:=a3a;obtain⟨n,hln⟩:∃n,l.length=n:=⟨_,rfl⟩;have hown:(w.alloc (.cells #[] 5)).ownsRow w.1.size 5 1 (.slice (some ⟨w.1.size,0,none⟩) 0 0) 0 []:=World.ownsRow_made w #[] 0 (Nat.le_refl _) dc rfl;obtain⟨v',w2,hrun,h8,h9,-⟩:=jl (P:=prog) (w.alloc (.cells #[] 5)) 22 22 5 i0 _ 1 1 underlying22 hi hz0 hz1 hz2 rfl dc w.1.size _ 0 [] hown (some a) n c (bsV l) (by rw[adg,hln,Nat.mul_one]) (hs.lt.below (qa w _) (fun b h=>h.2)) (anw l) (by unfold maxLen;omega) om sm;rw[Nat.zero_add,List.nil_append]at h8
  have HE:Hid (∃B d,v'=.slice B n d∧qf (fun b=>w.1.size≤b∧b<w2.1.size) w2 B (bsV l)∧n≤d∧Below w.1.size w w2):=by
   obtain⟨B,d,h1,hd,h2,-⟩:=zj h8;refine⟨B,d,h1,h2,hd,(qa w _).trans ⟨h9.os,h9.tape,h9.output,h9.size,fun b hb=>h9.block b (by simp;omega) (fun e=>by simp[Value.ownBlock]at e;omega)⟩⟩
  have HR:=hid hrun;rw[hln]at hn ⊢;clear hs hln hown hrun h8 h9;have EQ:∀W:World,(binOp .eql 22 (.slice (some a) n c) (.slice none 0 0)).run prog W=.ok (.bool false) W:=fun W=>Lib.run_eql_slice_nil W 22 5 (some a) n c 0 0 underlying22
  go_enter func92,ntmps92;go_wp2_with (at_builtin;refine zf rfl _ _ 22 rfl _ _ _ rfl rfl HR.out ?_);go_ret;obtain⟨B,d,h1,h2,h3,h4⟩:=HE.out;exact⟨B,d,by rw[h1];rfl,h2,h3,h4⟩
def RdI (Q:Nat→Prop) (w:World) (a:Nat):Option (List UInt8)→Prop
 | some l=>Q a∧∃A c,Blk w a [.slice A l.length c,.bool true,.bool false]∧qf (fun b=>Q b∧b≠a) w A (bsV l)∧l.length≤c∧l.length≤1000000
 | none=>Q a∧Blk w a [.slice none 0 0,.bool true,.bool true]
theorem RdI.keep {Q:Nat→Prop} {w w':World} {a:Nat} {s:Option (List UInt8)} (h:RdI Q w a s) (hk:∀b,Q b→w'.heap[b]?=w.heap[b]?) (hz:w.1.size≤w'.1.size):RdI Q w' a s:=by
 cases s with
 | none=>exact⟨h.1,h.2.kept (hk a h.1) hz⟩
 | some l=>
  obtain⟨hq,A,c,h1,h2,h3⟩:=h;exact⟨hq,A,c,h1.kept (hk a hq) hz,h2.keep fun b hb=>hk b hb.1,h3⟩
theorem RdI.below {Q:Nat→Prop} {w w':World} {a B:Nat} {s:Option (List UInt8)} (h:RdI Q w a s) (hb:Below B w w') (hq:∀b,Q b→b<B):RdI Q w' a s:=h.keep (fun b q=>hb.block b (hq b q)) hb.size
theorem RdI.drew {Q:Nat→Prop} {w:World} {a:Nat} {s:Option (List UInt8)} (h:RdI Q w a s):RdI Q w.drew a s:=h.keep (fun _ _=>rfl) (Nat.le_refl _)
theorem aji {Q:Nat→Prop} (A:Option Addr) (l:List UInt8) (c:Nat) (w:World) (hs:qf Q w A (bsV l)) (hn:l.length≤1000000) :
 Calls prog 74 #[.slice A l.length c] w fun e w'=>∃g,e=.returned (.pointer (some ⟨g,0,none⟩))∧RdI (fun b=>w.1.size≤b∧b<w'.1.size) w' g (some l)∧Below w.1.size w w':=by
 have HC:=hid (aod A l c w hs hn);generalize hL:l.length=L at *;have HL:=hid hL;clear hs hL;go_enter func74,ntmps74;go_wp2_with (refine HC.out.mono ?_;rintro e w1 ⟨B,d,rfl,hf,hd,hb⟩;have HF:=hid (And.intro hf (And.intro hd hb));clear hf hd hb);go_ret;refine⟨w1.1.size,rfl,?_,?_⟩
 ·refine⟨⟨HF.out.2.2.size,by simp⟩,B,d,?_,?_,by rw[HL.out];exact HF.out.2.1,by rw[HL.out];exact hn⟩
  ·rw[HL.out];exact Blk.newL (qg w1 _ _) rfl
  ·exact((HF.out.1.below (qa w1 _) (fun b q=>q.2))).less fun b q=>⟨⟨q.1,by simp;omega⟩,by omega⟩
 ·exact qb HF.out.2.2 (qa _ _)
theorem aet {Q:Nat→Prop} {w:World} {a:Nat} {s:Option (List UInt8)} (h:RdI Q w a s) :
 Calls prog 127 #[.pointer (some ⟨a,0,none⟩)] w fun e w'=>e=.returned (.bool s.isSome)∧w=w':=by
 cases s with
 | none=>
  have c1:=h.2.cell 1 (v:=.bool true) rfl;have c2:=h.2.cell 2 (v:=.bool true) rfl;clear h;go_enter func127,ntmps127;go_wp2;go_ret;exact⟨rfl,rfl⟩
 | some l=>
  obtain⟨hq,A,c,h,-⟩:=h;have c1:=h.cell 1 (v:=.bool true) rfl;have c2:=h.cell 2 (v:=.bool false) rfl;clear h;go_enter func127,ntmps127;go_wp2;go_ret;exact⟨rfl,rfl⟩
theorem azy {Q:Nat→Prop} {w:World} {a:Nat} {s:Option (List UInt8)} (h:RdI Q w a s) :
 Calls prog 128 #[.pointer (some ⟨a,0,none⟩)] w fun e w'=>e=.returned (.tuple #[])∧RdI Q w' a none∧qn (fun k=>k≠a) w w':=by
 have h0:Q a∧∃v b2,Blk w a [v,.bool true,.bool b2]:=by
  cases s with
  | none=>exact⟨h.1,_,_,h.2⟩
  | some l=>obtain⟨hq,A,c,h,-⟩:=h;exact⟨hq,_,_,h⟩
 obtain⟨hq,v,b2,hb⟩:=h0;clear h;have c0:=hb.cell 0 (v:=v) rfl;have c2:=hb.cell 2 (v:=.bool b2) rfl;have z0:=hb.fz 0;have z2:=hb.fz 2;have s1:qz w (w.setCell ⟨a,0,none⟩ (.slice none 0 0)) a 0 [.slice none 0 0]:=jq (hb.there 0 1 sm);have k1:Blk (w.setCell ⟨a,0,none⟩ (.slice none 0 0)) a [.slice none 0 0,.bool true,.bool b2]:=Blk.put (A:=[]) (M:=[v]) (D:=[.bool true,.bool b2]) hb s1 rfl rfl;have s2:qz (w.setCell ⟨a,0,none⟩ (.slice none 0 0)) ((w.setCell ⟨a,0,none⟩ (.slice none 0 0)).setCell ⟨a,2,none⟩ (.bool true)) a 2 [.bool true]:=jq (k1.there 2 1 sm);have k2:Blk ((w.setCell ⟨a,0,none⟩ (.slice none 0 0)).setCell ⟨a,2,none⟩ (.bool true)) a [.slice none 0 0,.bool true,.bool true]:=Blk.put (A:=[.slice none 0 0,.bool true]) (M:=[.bool b2]) (D:=[]) k1 s2 rfl rfl;have HF:Hid (RdI Q ((w.setCell ⟨a,0,none⟩ (.slice none 0 0)).setCell ⟨a,2,none⟩ (.bool true)) a none∧qn (fun k=>k≠a) w ((w.setCell ⟨a,0,none⟩ (.slice none 0 0)).setCell ⟨a,2,none⟩ (.bool true))):=hid ⟨⟨hq,k2⟩,((qn.refl _ w).stored s1 (fun q=>q rfl)).stored s2 (fun q=>q rfl)⟩
 clear s1 k1 s2 k2 hb hq;go_enter func128,ntmps128;go_wp2_with fail;refine bodyPost_end (v:=.tuple #[]) (by simp[results,results128,go_sem]) rfl ⟨rfl,HF.out⟩
theorem RdI.cut {Q:Nat→Prop} {w:World} {a b off c:Nat} {l:List UInt8} {n:Nat} (hq:Q a) (h:Blk w a [.slice (some ⟨b,off,none⟩) l.length c,.bool true,.bool false]) (hf:qf (fun b=>Q b∧b≠a) w (some ⟨b,off,none⟩) (bsV l)) (hn:n≤l.length) (hc:l.length≤c) (hm:l.length≤1000000) (o':Nat) (ho:o'=off+n∨c=n) :
 RdI Q (w.setCell ⟨a,0,none⟩ (.slice (some ⟨b,o',none⟩) (l.length-n) (c-n))) a (some (l.drop n))∧qn (fun k=>k≠a) w (w.setCell ⟨a,0,none⟩ (.slice (some ⟨b,o',none⟩) (l.length-n) (c-n))):=by
 have s1:qz w (w.setCell ⟨a,0,none⟩ (.slice (some ⟨b,o',none⟩) (l.length-n) (c-n))) a 0 [.slice (some ⟨b,o',none⟩) (l.length-n) (c-n)]:=jq (h.there 0 1 sm);have k1:Blk (w.setCell ⟨a,0,none⟩ (.slice (some ⟨b,o',none⟩) (l.length-n) (c-n))) a [.slice (some ⟨b,o',none⟩) (l.length-n) (c-n),.bool true,.bool false]:=Blk.put (A:=[]) (M:=[.slice (some ⟨b,off,none⟩) l.length c]) (D:=[.bool true,.bool false]) h s1 rfl rfl;refine⟨⟨hq,some ⟨b,o',none⟩,c-n,by rw[List.length_drop];exact k1,?_,by rw[List.length_drop];omega,by rw[List.length_drop];omega⟩,(qn.refl _ w).stored s1 (fun q=>q rfl)⟩;rcases ho with rfl|rfl
 ·have:=hf.part n;rw[afd]at this;exact this.keep fun b' hb'=>s1.far b' hb'.2
 ·rw[List.drop_of_length_le om];exact qf.nil _ _ _
theorem avj {Q:Nat→Prop} {w:World} {a:Nat} {l:List UInt8} (n:Nat) (h:RdI Q w a (some l)) (h0:0<n) (hn:n≤l.length) :
 Calls prog 93 #[.pointer (some ⟨a,0,none⟩),.int .i64 n] w fun e w'=>∃b off,e=.returned (.slice (some ⟨b,off,none⟩) n n)∧qf (fun b=>Q b∧b≠a) w' (some ⟨b,off,none⟩) (bsV (l.take n))∧RdI Q w' a (some (l.drop n))∧qn (fun k=>k≠a) w w':=by
 have HI:=hid (aet h);obtain⟨hq,A,c,hb,hf,hc,hm⟩:=h;obtain⟨b,off,rfl,-,-⟩:=hf 0 (bV (l[0]'(by omega))) (yk om);have HF:=hid (RdI.cut hq hb hf hn hc hm);have HT:Hid (qf (fun b=>Q b∧b≠a) w (some ⟨b,off,none⟩) (bsV (l.take n))):=hid (by have:=hf.first n;rwa [ab8]at this);have c0:=hb.cell 0 (v:=.slice (some ⟨b,off,none⟩) l.length c) rfl;have z0:=hb.fz 0;generalize hL:l.length=L at *;clear hb hf;have g1:(n:Int)≤L:=by omega
 have g2:(L:Int)≤c:=by omega
 have g3:(0:Int)<n:=by omega
 go_enter func93,ntmps93;go_wp2_with (refine HI.out.mono ?_;rintro e w' ⟨rfl,rfl⟩)
 ·have e1:=h;have HF:=HF.out off (.inr e1);rw[e1,Nat.sub_self]at HF;go_ret;exact⟨b,off,rfl,HT.out.keep fun k hk=>HF.2.block k hk.2,HF⟩
 ·have HF:=HF.out (off+n) (.inl rfl);go_ret;exact⟨b,off,rfl,HT.out.keep fun k hk=>HF.2.block k hk.2,HF⟩
theorem avi {Q:Nat→Prop} {w:World} {a:Nat} (n:Int) (h:RdI Q w a none) :
 Calls prog 93 #[.pointer (some ⟨a,0,none⟩),.int .i64 n] w fun e w'=>e=.returned (.slice none 0 0)∧w=w':=by
 have HI:=hid (aet h);go_enter func93,ntmps93;go_wp2_with (refine HI.out.mono ?_;rintro e w' ⟨rfl,rfl⟩);go_ret;exact⟨rfl,rfl⟩
theorem azz {Q:Nat→Prop} {w:World} {a:Nat} {l:List UInt8} (n:Int) (h:RdI Q w a (some l)) (hn:n<0 ∨(l.length:Int)<n) :
 Calls prog 93 #[.pointer (some ⟨a,0,none⟩),.int .i64 n] w fun e w'=>e=.returned (.slice none 0 0)∧RdI Q w' a none∧qn (fun k=>k≠a) w w':=by
 have HI:=hid (aet h);have HX:=hid (azy h);obtain⟨hq,A,c,hb,hf,hc,hm⟩:=h;have c0:=hb.cell 0 (v:=.slice A l.length c) rfl;generalize hL:l.length=L at *;clear hb hf
 by_cases h1:n<0
 ·clear hn;go_enter func93,ntmps93;go_wp2_with (first|(refine HI.out.mono ?_;rintro e w' ⟨rfl,rfl⟩)|(refine HX.out.mono ?_;rintro e w' ⟨rfl,hr,hk⟩;have HF:=hid (And.intro hr hk);clear hr hk));go_ret;exact⟨rfl,HF.out⟩
 ·have h2:(L:Int)<n:=by omega
  clear hn;go_enter func93,ntmps93;go_wp2_with (first|(refine HI.out.mono ?_;rintro e w' ⟨rfl,rfl⟩)|(refine HX.out.mono ?_;rintro e w' ⟨rfl,hr,hk⟩;have HF:=hid (And.intro hr hk);clear hr hk));go_ret;exact⟨rfl,HF.out⟩
theorem akk {Q:Nat→Prop} {w:World} {a:Nat} {l:List UInt8} (h:RdI Q w a (some l)) :
 Calls prog 291 #[.pointer (some ⟨a,0,none⟩)] w fun e w'=>e=.returned (.int .i64 l.length)∧w=w':=by
 obtain⟨hq,A,c,hb,hf,hc,hm⟩:=h;have c0:=hb.cell 0 (v:=.slice A l.length c) rfl;clear hb hf hq;go_enter func291,ntmps291;go_wp2;go_ret;exact⟨rfl,rfl⟩
theorem akl {Q:Nat→Prop} {w:World} {a:Nat} {s:Option (List UInt8)} (h:RdI Q w a s) :
 Calls prog 293 #[.pointer (some ⟨a,0,none⟩)] w fun e w'=>e=.returned (.bool (!s.isSome))∧w=w':=by
 have HI:=hid (aet h);generalize s.isSome=b at *;clear h;cases b
 ·go_enter func293,ntmps293;go_wp2_with (refine HI.out.mono ?_;rintro e w' ⟨rfl,rfl⟩);go_ret;exact⟨rfl,rfl⟩
 ·go_enter func293,ntmps293;go_wp2_with (refine HI.out.mono ?_;rintro e w' ⟨rfl,rfl⟩);go_ret;exact⟨rfl,rfl⟩
theorem acm {Q:Nat→Prop} {w:World} {a:Nat} {l:List UInt8} (n:Nat) (h:RdI Q w a (some l)) (h1:1≤n) (h8:n≤8) (hn:n≤l.length) :
 Calls prog 75 #[.pointer (some ⟨a,0,none⟩),.int .i64 n] w fun e w'=>e=.returned (.int .u64 (jd (l.take n):Int))∧RdI Q w' a (some (l.drop n))∧qn (fun k=>k≠a) w w':=by
 have HN:=hid (avj n h om hn);have hl:(l.take n).length=n:=by rw[List.length_take];omega
 generalize l.take n=T at *;have HL:=hid hl;have b1:¬(n:Int)<1:=by omega
 have b2:¬(n:Int) > 8:=by omega
 clear h hn hl;go_enter func75,ntmps75;go_wp2_with (refine HN.out.mono ?_;rintro e w' ⟨b,off,rfl,hf,hr,hk⟩;have HF:=hid hf;have HR:=hid (And.intro hr hk);clear hf hr hk)
 go_loopg [5,18] n (fun g s5 s18 wr=>∃k:Nat,k≤n∧n-k≤g∧s18=.int .i64 k∧s5=.int .u64 (jd (T.take k):Int)∧wr=w')
 case atStart=>exact⟨0,Nat.zero_le _,by omega,rfl,rfl,rfl⟩
 case round=>
  obtain⟨k,hk,hg,rfl,rfl,rfl⟩:=hrel
  by_cases hlt:k<n
  ·have hkT:k<T.length:=by rw[HL.out];exact hlt
   obtain⟨b',o',e1,-,hc⟩:=HF.out k (bV (T[k]'hkT)) (yk hkT);injection e1 with e1
   injection e1 with e1 e2
   subst e1 e2;have i1:(k:Int)<n:=by omega
   have i2:(0:Int) ≤(k:Int):=Int.natCast_nonneg _;have HO:=hid (bj7 T k hkT (by rw[HL.out];exact h8));unfold bV at hc;generalize T[k]=x at *;go_wp2_with fail
   go_roundg (n-(k+1))
   case measure=>omega
   case rel=>exact⟨k+1,by omega,by omega,by go_num,congrArg (Value.int .u64) HO.out,rfl⟩
  ·obtain rfl:k=n:=by omega
   go_wp2_with fail;go_ret;refine⟨?_,HR.out⟩;rw[List.take_of_length_le (by rw[HL.out];exact Nat.le_refl _)];rfl
theorem beh {Q:Nat→Prop} {w:World} {a:Nat} {s:Option (List UInt8)} (n:Nat) (h:RdI Q w a s) (h1:1≤n) (h8:n≤8) (hs:∀l,s=some l→l.length<n) :
 Calls prog 75 #[.pointer (some ⟨a,0,none⟩),.int .i64 n] w fun e w'=>e=.returned (.int .u64 0)∧RdI Q w' a none∧qn (fun k=>k≠a) w w':=by
 have HN:Hid (Calls prog 93 #[.pointer (some ⟨a,0,none⟩),.int .i64 n] w fun e w'=>e=.returned (.slice none 0 0)∧RdI Q w' a none∧qn (fun k=>k≠a) w w'):=by
  cases s with
  | none=>
   refine(avi n h).mono ?_;rintro e w' ⟨rfl,rfl⟩;exact⟨rfl,h,qn.refl _ _⟩
  | some l=>exact azz n h (.inr (by have:=hs l rfl;omega))
 have b1:¬(n:Int)<1:=by omega
 have b2:¬(n:Int) > 8:=by omega
 clear h hs;go_enter func75,ntmps75;go_wp2_with (refine HN.out.mono ?_;rintro e w' ⟨rfl,hr,hk⟩;have HR:=hid (And.intro hr hk);clear hr hk)
 go_loopg [5,18] 0 (fun g s5 s18 wr=>s18=.int .i64 0∧s5=.int .u64 0∧wr=w')
 case atStart=>exact⟨rfl,rfl,rfl⟩
 case round=>
  obtain⟨rfl,rfl,rfl⟩:=hrel;go_wp2_with fail;go_ret;exact⟨rfl,HR.out⟩
theorem a9t {Q:Nat→Prop} {w:World} {a:Nat} {l:List UInt8} (n:Nat) (h:RdI Q w a (some l)) (h1:1≤n) (h8:n≤8) (hn:n≤l.length) :
 Calls prog 200 #[.pointer (some ⟨a,0,none⟩),.int .i64 n] w fun e w'=>e=.returned (.int .i64 (a7i n (jd (l.take n))))∧RdI Q w' a (some (l.drop n))∧qn (fun k=>k≠a) w w':=by
 have HN:=hid (acm n h h1 h8 hn);have hu:jd (l.take n)<256^n:=by have:=ah2 (l.take n);rwa [List.length_take,Nat.min_eq_left hn]at this
 have HS:=hid (a5p n _ h1 h8 hu);generalize jd (l.take n)=u at *;have b1:¬(n:Int)<1:=by omega
 have b2:¬(n:Int) > 8:=by omega
 clear h hu hn;go_enter func200,ntmps200;go_wp2_with (refine HN.out.mono ?_;rintro e w' ⟨rfl,hr,hk⟩;have HR:=hid (And.intro hr hk);clear hr hk);go_ret;refine⟨?_,HR.out⟩;have e:=HS.out;rw[IntWalk.i64_left]at e;exact congrArg (fun x=>Ending.returned (.int .i64 x)) e
theorem zv (n:Int) (w:World):Calls prog 197 #[.int .i64 n] w fun e w'=>e=.returned (.bool (decide (1≤n) && decide (n≤8)))∧w=w':=by
 by_cases h1:1≤n
 ·by_cases h2:n≤8
  ·go_enter func197,ntmps197;go_wp2;go_ret;exact⟨by simp[h1,h2],rfl⟩
  ·have h2':8<n:=by omega
   go_enter func197,ntmps197;go_wp2;go_ret;exact⟨by simp;omega,rfl⟩
 ·have h1':n<1:=by omega
  go_enter func197,ntmps197;go_wp2;go_ret;exact⟨by simp;omega,rfl⟩
def abr (f:Fld):Value:=.agg #[.int .i64 f.sz,.bool f.sg,.int .i64 f.lo,.int .i64 f.hi]
theorem qk {fn:Func} {p:Tmp} {ty:TypeId} (h:fn.results=#[.cell p ty]) (tmps:Array Value) (P:Program) (w:World) :
 (results fn tmps).run P w=((asAddr (tmps.getD p undef)).run P w).andThen fun a w₁=>(loadVar ty a).run P w₁:=by
 simp only[results,h];simp[Sem.run_bind,Result.andThen]
theorem j6 {W:World} {b:Nat} {f:Fld} (h:Blk W b (ayx f)):(loadVar 270 ⟨b,0,none⟩).run prog W=.ok (abr f) W:=
 run_loadVar_mid (P:=prog) W b 0 270 (ayx f) _ h.rg underlying270 rfl kr
theorem ku (w:World) (C:Array Value) (C':Array Value) (t t':TypeId):Blk ((w.alloc (.cells C t)).alloc (.cells C' t')) w.1.size C.toList∧Below w.1.size w ((w.alloc (.cells C t)).alloc (.cells C' t')):=
 ⟨(Blk.newL (qg w C t) rfl).on (qa _ _),qb (qa _ _) (qa _ _)⟩
def yf (f:Fld) (w:World) (e:Ending) (w':World):Prop:=e=.returned (abr f)∧Below w.1.size w w'
theorem afp (w:World):Calls prog 122 #[.int .i64 1,.bool false] w (yf ⟨1,false,0,255⟩ w):=by
 have HF:=fun W=>hid (zv 1 W)
 go_enter func122,ntmps122;go_wp2_with (refine(HF _).out.mono ?_;rintro e w' ⟨rfl,rfl⟩);have H2:=ku w #[.int .i64 1,.bool false,.int .i64 0,.int .i64 255] #[.int .i64 1,.bool false,.int .i64 0,.int .i64 255] 270 270;have HLD:=hid (j6 (f:=⟨1,false,0,255⟩) H2.1);refine bodyPost_ret (v:=abr ⟨1,false,0,255⟩) (by rw[qk rfl];simp[asAddr,Result.andThen,HLD.out]) rfl ⟨rfl,H2.2⟩
theorem bap (w:World):Calls prog 122 #[.int .i64 1,.bool true] w (yf ⟨1,true,(-128),127⟩ w):=by
 have HF:=fun W=>hid (zv 1 W)
 have hx:bits BinOp.xor IntKind.i64 (-1) 127=-128:=by decide
 go_enter func122,ntmps122;go_wp2_with (refine(HF _).out.mono ?_;rintro e w' ⟨rfl,rfl⟩);have H2:=ku w #[.int .i64 1,.bool true,.int .i64 (-128),.int .i64 127] #[.int .i64 1,.bool true,.int .i64 (-128),.int .i64 127] 270 270;have HLD:=hid (j6 (f:=⟨1,true,(-128),127⟩) H2.1);refine bodyPost_ret (v:=abr ⟨1,true,(-128),127⟩) (by rw[qk rfl];simp[asAddr,Result.andThen,HLD.out]) rfl ⟨rfl,H2.2⟩
theorem al3 (w:World):Calls prog 122 #[.int .i64 2,.bool false] w (yf ⟨2,false,0,65535⟩ w):=by
 have HF:=fun W=>hid (zv 2 W)
 go_enter func122,ntmps122;go_wp2_with (refine(HF _).out.mono ?_;rintro e w' ⟨rfl,rfl⟩);have H2:=ku w #[.int .i64 2,.bool false,.int .i64 0,.int .i64 65535] #[.int .i64 2,.bool false,.int .i64 0,.int .i64 65535] 270 270;have HLD:=hid (j6 (f:=⟨2,false,0,65535⟩) H2.1);refine bodyPost_ret (v:=abr ⟨2,false,0,65535⟩) (by rw[qk rfl];simp[asAddr,Result.andThen,HLD.out]) rfl ⟨rfl,H2.2⟩
theorem ats (w:World):Calls prog 122 #[.int .i64 2,.bool true] w (yf ⟨2,true,(-32768),32767⟩ w):=by
 have HF:=fun W=>hid (zv 2 W)
 have hx:bits BinOp.xor IntKind.i64 (-1) 32767=-32768:=by decide
 go_enter func122,ntmps122;go_wp2_with (refine(HF _).out.mono ?_;rintro e w' ⟨rfl,rfl⟩);have H2:=ku w #[.int .i64 2,.bool true,.int .i64 (-32768),.int .i64 32767] #[.int .i64 2,.bool true,.int .i64 (-32768),.int .i64 32767] 270 270;have HLD:=hid (j6 (f:=⟨2,true,(-32768),32767⟩) H2.1);refine bodyPost_ret (v:=abr ⟨2,true,(-32768),32767⟩) (by rw[qk rfl];simp[asAddr,Result.andThen,HLD.out]) rfl ⟨rfl,H2.2⟩
theorem baq (w:World):Calls prog 122 #[.int .i64 3,.bool false] w (yf ⟨3,false,0,16777215⟩ w):=by
 have HF:=fun W=>hid (zv 3 W)
 go_enter func122,ntmps122;go_wp2_with (refine(HF _).out.mono ?_;rintro e w' ⟨rfl,rfl⟩);have H2:=ku w #[.int .i64 3,.bool false,.int .i64 0,.int .i64 16777215] #[.int .i64 3,.bool false,.int .i64 0,.int .i64 16777215] 270 270;have HLD:=hid (j6 (f:=⟨3,false,0,16777215⟩) H2.1);refine bodyPost_ret (v:=abr ⟨3,false,0,16777215⟩) (by rw[qk rfl];simp[asAddr,Result.andThen,HLD.out]) rfl ⟨rfl,H2.2⟩
theorem bar (w:World):Calls prog 122 #[.int .i64 3,.bool true] w (yf ⟨3,true,(-8388608),8388607⟩ w):=by
 have HF:=fun W=>hid (zv 3 W)
 have hx:bits BinOp.xor IntKind.i64 (-1) 8388607=-8388608:=by decide
 go_enter func122,ntmps122;go_wp2_with (refine(HF _).out.mono ?_;rintro e w' ⟨rfl,rfl⟩);have H2:=ku w #[.int .i64 3,.bool true,.int .i64 (-8388608),.int .i64 8388607] #[.int .i64 3,.bool true,.int .i64 (-8388608),.int .i64 8388607] 270 270;have HLD:=hid (j6 (f:=⟨3,true,(-8388608),8388607⟩) H2.1);refine bodyPost_ret (v:=abr ⟨3,true,(-8388608),8388607⟩) (by rw[qk rfl];simp[asAddr,Result.andThen,HLD.out]) rfl ⟨rfl,H2.2⟩
theorem al4 (w:World):Calls prog 122 #[.int .i64 4,.bool false] w (yf ⟨4,false,0,4294967295⟩ w):=by
 have HF:=fun W=>hid (zv 4 W)
 go_enter func122,ntmps122;go_wp2_with (refine(HF _).out.mono ?_;rintro e w' ⟨rfl,rfl⟩);have H2:=ku w #[.int .i64 4,.bool false,.int .i64 0,.int .i64 4294967295] #[.int .i64 4,.bool false,.int .i64 0,.int .i64 4294967295] 270 270;have HLD:=hid (j6 (f:=⟨4,false,0,4294967295⟩) H2.1);refine bodyPost_ret (v:=abr ⟨4,false,0,4294967295⟩) (by rw[qk rfl];simp[asAddr,Result.andThen,HLD.out]) rfl ⟨rfl,H2.2⟩
theorem att (w:World):Calls prog 122 #[.int .i64 4,.bool true] w (yf ⟨4,true,(-2147483648),2147483647⟩ w):=by
 have HF:=fun W=>hid (zv 4 W)
 have hx:bits BinOp.xor IntKind.i64 (-1) 2147483647=-2147483648:=by decide
 go_enter func122,ntmps122;go_wp2_with (refine(HF _).out.mono ?_;rintro e w' ⟨rfl,rfl⟩);have H2:=ku w #[.int .i64 4,.bool true,.int .i64 (-2147483648),.int .i64 2147483647] #[.int .i64 4,.bool true,.int .i64 (-2147483648),.int .i64 2147483647] 270 270;have HLD:=hid (j6 (f:=⟨4,true,(-2147483648),2147483647⟩) H2.1);refine bodyPost_ret (v:=abr ⟨4,true,(-2147483648),2147483647⟩) (by rw[qk rfl];simp[asAddr,Result.andThen,HLD.out]) rfl ⟨rfl,H2.2⟩
theorem bas (w:World):Calls prog 122 #[.int .i64 5,.bool false] w (yf ⟨5,false,0,1099511627775⟩ w):=by
 have HF:=fun W=>hid (zv 5 W)
 go_enter func122,ntmps122;go_wp2_with (refine(HF _).out.mono ?_;rintro e w' ⟨rfl,rfl⟩);have H2:=ku w #[.int .i64 5,.bool false,.int .i64 0,.int .i64 1099511627775] #[.int .i64 5,.bool false,.int .i64 0,.int .i64 1099511627775] 270 270;have HLD:=hid (j6 (f:=⟨5,false,0,1099511627775⟩) H2.1);refine bodyPost_ret (v:=abr ⟨5,false,0,1099511627775⟩) (by rw[qk rfl];simp[asAddr,Result.andThen,HLD.out]) rfl ⟨rfl,H2.2⟩
theorem bat (w:World):Calls prog 122 #[.int .i64 5,.bool true] w (yf ⟨5,true,(-549755813888),549755813887⟩ w):=by
 have HF:=fun W=>hid (zv 5 W)
 have hx:bits BinOp.xor IntKind.i64 (-1) 549755813887=-549755813888:=by decide
 go_enter func122,ntmps122;go_wp2_with (refine(HF _).out.mono ?_;rintro e w' ⟨rfl,rfl⟩);have H2:=ku w #[.int .i64 5,.bool true,.int .i64 (-549755813888),.int .i64 549755813887] #[.int .i64 5,.bool true,.int .i64 (-549755813888),.int .i64 549755813887] 270 270;have HLD:=hid (j6 (f:=⟨5,true,(-549755813888),549755813887⟩) H2.1);refine bodyPost_ret (v:=abr ⟨5,true,(-549755813888),549755813887⟩) (by rw[qk rfl];simp[asAddr,Result.andThen,HLD.out]) rfl ⟨rfl,H2.2⟩
theorem bau (w:World):Calls prog 122 #[.int .i64 6,.bool false] w (yf ⟨6,false,0,281474976710655⟩ w):=by
 have HF:=fun W=>hid (zv 6 W)
 go_enter func122,ntmps122;go_wp2_with (refine(HF _).out.mono ?_;rintro e w' ⟨rfl,rfl⟩);have H2:=ku w #[.int .i64 6,.bool false,.int .i64 0,.int .i64 281474976710655] #[.int .i64 6,.bool false,.int .i64 0,.int .i64 281474976710655] 270 270;have HLD:=hid (j6 (f:=⟨6,false,0,281474976710655⟩) H2.1);refine bodyPost_ret (v:=abr ⟨6,false,0,281474976710655⟩) (by rw[qk rfl];simp[asAddr,Result.andThen,HLD.out]) rfl ⟨rfl,H2.2⟩
theorem bav (w:World):Calls prog 122 #[.int .i64 6,.bool true] w (yf ⟨6,true,(-140737488355328),140737488355327⟩ w):=by
 have HF:=fun W=>hid (zv 6 W)
 have hx:bits BinOp.xor IntKind.i64 (-1) 140737488355327=-140737488355328:=by decide
 go_enter func122,ntmps122;go_wp2_with (refine(HF _).out.mono ?_;rintro e w' ⟨rfl,rfl⟩);have H2:=ku w #[.int .i64 6,.bool true,.int .i64 (-140737488355328),.int .i64 140737488355327] #[.int .i64 6,.bool true,.int .i64 (-140737488355328),.int .i64 140737488355327] 270 270;have HLD:=hid (j6 (f:=⟨6,true,(-140737488355328),140737488355327⟩) H2.1);refine bodyPost_ret (v:=abr ⟨6,true,(-140737488355328),140737488355327⟩) (by rw[qk rfl];simp[asAddr,Result.andThen,HLD.out]) rfl ⟨rfl,H2.2⟩
theorem baw (w:World):Calls prog 122 #[.int .i64 7,.bool false] w (yf ⟨7,false,0,72057594037927935⟩ w):=by
 have HF:=fun W=>hid (zv 7 W)
 go_enter func122,ntmps122;go_wp2_with (refine(HF _).out.mono ?_;rintro e w' ⟨rfl,rfl⟩);have H2:=ku w #[.int .i64 7,.bool false,.int .i64 0,.int .i64 72057594037927935] #[.int .i64 7,.bool false,.int .i64 0,.int .i64 72057594037927935] 270 270;have HLD:=hid (j6 (f:=⟨7,false,0,72057594037927935⟩) H2.1);refine bodyPost_ret (v:=abr ⟨7,false,0,72057594037927935⟩) (by rw[qk rfl];simp[asAddr,Result.andThen,HLD.out]) rfl ⟨rfl,H2.2⟩
theorem bax (w:World):Calls prog 122 #[.int .i64 7,.bool true] w (yf ⟨7,true,(-36028797018963968),36028797018963967⟩ w):=by
 have HF:=fun W=>hid (zv 7 W)
 have hx:bits BinOp.xor IntKind.i64 (-1) 36028797018963967=-36028797018963968:=by decide
 go_enter func122,ntmps122;go_wp2_with (refine(HF _).out.mono ?_;rintro e w' ⟨rfl,rfl⟩);have H2:=ku w #[.int .i64 7,.bool true,.int .i64 (-36028797018963968),.int .i64 36028797018963967] #[.int .i64 7,.bool true,.int .i64 (-36028797018963968),.int .i64 36028797018963967] 270 270;have HLD:=hid (j6 (f:=⟨7,true,(-36028797018963968),36028797018963967⟩) H2.1);refine bodyPost_ret (v:=abr ⟨7,true,(-36028797018963968),36028797018963967⟩) (by rw[qk rfl];simp[asAddr,Result.andThen,HLD.out]) rfl ⟨rfl,H2.2⟩
theorem bay (w:World):Calls prog 122 #[.int .i64 8,.bool false] w (yf ⟨8,false,0,9223372036854775807⟩ w):=by
 have HF:=fun W=>hid (zv 8 W)
 go_enter func122,ntmps122;go_wp2_with (refine(HF _).out.mono ?_;rintro e w' ⟨rfl,rfl⟩);have H2:=ku w #[.int .i64 8,.bool false,.int .i64 0,.int .i64 9223372036854775807] #[.int .i64 8,.bool false,.int .i64 0,.int .i64 9223372036854775807] 270 270;have HLD:=hid (j6 (f:=⟨8,false,0,9223372036854775807⟩) H2.1);refine bodyPost_ret (v:=abr ⟨8,false,0,9223372036854775807⟩) (by rw[qk rfl];simp[asAddr,Result.andThen,HLD.out]) rfl ⟨rfl,H2.2⟩
theorem baz (w:World):Calls prog 122 #[.int .i64 8,.bool true] w (yf ⟨8,true,(-9223372036854775808),9223372036854775807⟩ w):=by
 have HF:=fun W=>hid (zv 8 W)
 have hx:bits BinOp.xor IntKind.i64 (-1) 9223372036854775807=-9223372036854775808:=by decide
 go_enter func122,ntmps122;go_wp2_with (refine(HF _).out.mono ?_;rintro e w' ⟨rfl,rfl⟩);have H2:=ku w #[.int .i64 8,.bool true,.int .i64 (-9223372036854775808),.int .i64 9223372036854775807] #[.int .i64 8,.bool true,.int .i64 (-9223372036854775808),.int .i64 9223372036854775807] 270 270;have HLD:=hid (j6 (f:=⟨8,true,(-9223372036854775808),9223372036854775807⟩) H2.1);refine bodyPost_ret (v:=abr ⟨8,true,(-9223372036854775808),9223372036854775807⟩) (by rw[qk rfl];simp[asAddr,Result.andThen,HLD.out]) rfl ⟨rfl,H2.2⟩
theorem aqq (n:Nat) (s:Bool) (w:World) (h1:1≤n) (h8:n≤8):Calls prog 122 #[.int .i64 n,.bool s] w (yf (af3 n s) w):=by
 have:n=1∨n=2∨n=3∨n=4∨n=5∨n=6∨n=7∨n=8:=by omega
 rcases this with rfl|rfl|rfl|rfl|rfl|rfl|rfl|rfl<;>cases s
 ·exact afp w
 ·exact bap w
 ·exact al3 w
 ·exact ats w
 ·exact baq w
 ·exact bar w
 ·exact al4 w
 ·exact att w
 ·exact bas w
 ·exact bat w
 ·exact bau w
 ·exact bav w
 ·exact baw w
 ·exact bax w
 ·exact bay w
 ·exact baz w
theorem jy (n:Nat) (hi:Int) (w:World) (h1:1≤n) (h8:n≤8):Calls prog 261 #[.int .i64 n,.int .i64 hi] w (yf ⟨n,false,0,hi⟩ w):=by
 have e:(decide (1 ≤(n:Int)) && decide ((n:Int)≤8))=true:=by simp;omega
 have HF:=fun W=>hid (e▸zv (n:Int) W)
 clear e;go_enter func261,ntmps261;go_wp2_with (refine(HF _).out.mono ?_;rintro e w' ⟨rfl,rfl⟩);have HLD:=hid (j6 (f:=⟨n,false,0,hi⟩) (Blk.newL (qg w #[.int .i64 n,.bool false,.int .i64 0,.int .i64 hi] 270) rfl));refine bodyPost_ret (v:=abr ⟨n,false,0,hi⟩) (by rw[qk rfl];simp[asAddr,Result.andThen,HLD.out]) rfl ⟨rfl,qa _ _⟩
theorem aee (n:Nat) (lo hi:Int) (w:World) (h1:1≤n) (h8:n≤8):Calls prog 260 #[.int .i64 n,.int .i64 lo,.int .i64 hi] w (yf ⟨n,true,lo,hi⟩ w):=by
 have e:(decide (1 ≤(n:Int)) && decide ((n:Int)≤8))=true:=by simp;omega
 have HF:=fun W=>hid (e▸zv (n:Int) W)
 clear e;go_enter func260,ntmps260;go_wp2_with (refine(HF _).out.mono ?_;rintro e w' ⟨rfl,rfl⟩);have HLD:=hid (j6 (f:=⟨n,true,lo,hi⟩) (Blk.newL (qg w #[.int .i64 n,.bool true,.int .i64 lo,.int .i64 hi] 270) rfl));refine bodyPost_ret (v:=abr ⟨n,true,lo,hi⟩) (by rw[qk rfl];simp[asAddr,Result.andThen,HLD.out]) rfl ⟨rfl,qa _ _⟩
theorem al5 (f:Fld) (n:Int) (w:World):Calls prog 126 #[abr f,.int .i64 n] w fun e w'=>e=.returned (.bool (decide (f.lo≤n∧n≤f.hi)))∧Below w.1.size w w':=by
 obtain⟨z,s,lo,hi⟩:=f;unfold abr;dsimp only
 by_cases h1:lo≤n
 ·by_cases h2:n≤hi
  ·go_enter func126,ntmps126;go_wp2;go_ret;exact⟨by simp[h1,h2],qa _ _⟩
  ·have h2':hi<n:=by omega
   go_enter func126,ntmps126;go_wp2;go_ret;exact⟨by simp[h2],qa _ _⟩
 ·have h1':n<lo:=by omega
  go_enter func126,ntmps126;go_wp2;go_ret;exact⟨by simp;omega,qa _ _⟩
theorem awv (f:Fld) (h:ys f=true) (w:World):Calls prog 198 #[abr f] w fun e w'=>e=.returned (.bool true)∧Below w.1.size w w':=by
 have h':1≤f.sz∧f.sz≤8∧f.lo≤f.hi ∧(a9n f.sz f.sg≤f.lo∧f.lo≤a9m f.sz f.sg)∧a9n f.sz f.sg≤f.hi∧f.hi≤a9m f.sz f.sg:=by simp[ys]at h;omega
 have HA:=fun W=>hid (aqq f.sz f.sg W h'.1 h'.2.1)
 have HF:∀W,Hid (Calls prog 197 #[.int .i64 f.sz] W fun e w'=>e=.returned (.bool true)∧W=w'):=fun W=>hid (by
  have:=zv (f.sz:Int) W
  rwa [show (decide (1 ≤(f.sz:Int)) && decide ((f.sz:Int)≤8))=true from by simp;omega]at this)
 have HL:∀W,Hid (Calls prog 126 #[abr (af3 f.sz f.sg),.int .i64 f.lo] W fun e w'=>e=.returned (.bool true)∧Below W.1.size W w'):=fun W=>hid (by
  have:=al5 (af3 f.sz f.sg) f.lo W
  rwa [decide_eq_true (show (af3 f.sz f.sg).lo≤f.lo∧f.lo ≤(af3 f.sz f.sg).hi from h'.2.2.2.1)]at this)
 have HH:∀W,Hid (Calls prog 126 #[abr (af3 f.sz f.sg),.int .i64 f.hi] W fun e w'=>e=.returned (.bool true)∧Below W.1.size W w'):=fun W=>hid (by
  have:=al5 (af3 f.sz f.sg) f.hi W
  rwa [decide_eq_true (show (af3 f.sz f.sg).lo≤f.hi∧f.hi ≤(af3 f.sz f.sg).hi from h'.2.2.2.2)]at this)
 have h3:=h'.2.2.1;unfold yf at HA;generalize af3 f.sz f.sg=g at *;obtain⟨z,s,lo,hi⟩:=f;obtain⟨z',s',lo',hi'⟩:=g;unfold abr at *;dsimp only at *;clear h h';go_enter func198,ntmps198;go_wp2_with fail;refine(HA _).out.mono ?_;rintro e w1 ⟨rfl,hb⟩;have HK:Hid (Blk w1 w.1.size (ayx ⟨z,s,lo,hi⟩)):=hid ((Blk.newL (qg w _ _) rfl).on hb);have HB:Hid (Below w.1.size w w1):=hid (qb (qa _ _) hb);have a0:=HK.out.cell 0 (v:=.int .i64 z) rfl;have a2:=HK.out.cell 2 (v:=.int .i64 lo) rfl;have a3:=HK.out.cell 3 (v:=.int .i64 hi) rfl;have hlt:=HK.out.lt;clear hb;go_wp2_with fail;refine((HF _).out).mono ?_;rintro e w2 ⟨rfl,rfl⟩;go_wp2_with fail;refine((HL _).out).mono ?_;rintro e w2 ⟨rfl,hb⟩;have HK2:Hid (Blk w2 w.1.size (ayx ⟨z,s,lo,hi⟩)):=hid ((HK.out.on (qa _ _)).on hb);have HG2:Hid (Blk w2 w1.1.size (ayx ⟨z',s',lo',hi'⟩)):=hid ((Blk.newL (qg w1 _ _) rfl).on hb);have HB2:Hid (Below w.1.size w w2):=hid (qb (qb HB.out (qa _ _)) hb)
 have a3':=HK2.out.cell 3 (v:=.int .i64 hi) rfl;have g0:=HG2.out.cell 0 (v:=.int .i64 z') rfl;have g1:=HG2.out.cell 1 (v:=.bool s') rfl;have g2:=HG2.out.cell 2 (v:=.int .i64 lo') rfl;have g3:=HG2.out.cell 3 (v:=.int .i64 hi') rfl;clear hb a0 a2 a3;go_wp2_with fail;refine((HH _).out).mono ?_;rintro e w3 ⟨rfl,hb⟩;have HB3:=hid (qb HB2.out hb);clear hb;go_wp2_with fail;go_ret;exact⟨rfl,HB3.out⟩
def ajy (w:World) (A:Option Addr) (l:List Fld):Prop:=qf (fun b=>b<w.1.size) w A (aci l)
theorem ajy.on {w w':World} {A:Option Addr} {l:List Fld} (h:ajy w A l) (hb:Below w.1.size w w'):ajy w' A l:=(qf.below h hb fun _ q=>q).less fun b q=>Nat.lt_of_lt_of_le q hb.size
theorem ajy.cells {w:World} {A:Option Addr} {l:List Fld} (h:ajy w A l) (k:Nat) (hk:k<l.length):∃b off,A=some ⟨b,off,none⟩∧b<w.1.size∧w.cell? ⟨b,off+k*4,none⟩=some (.int .i64 (l[k].sz:Int))∧w.cell? ⟨b,off+k*4+1,none⟩=some (.bool l[k].sg)∧w.cell? ⟨b,off+k*4+2,none⟩=some (.int .i64 l[k].lo)∧w.cell? ⟨b,off+k*4+3,none⟩=some (.int .i64 l[k].hi):=by
 have e:=fun j hj=>ahx ayx 4 (fun _=>rfl) l k hk j hj
 obtain⟨b,off,hA,hb,h0⟩:=h _ _ (e 0 om);refine⟨b,off,hA,hb,h0,?_,?_,?_⟩
 ·obtain⟨b',off',hA',-,h1⟩:=h _ _ (e 1 om);rw[hA]at hA';injection hA' with hA';injection hA' with q1 q2;subst q1 q2
  exact h1
 ·obtain⟨b',off',hA',-,h1⟩:=h _ _ (e 2 om);rw[hA]at hA';injection hA' with hA';injection hA' with q1 q2;subst q1 q2
  exact h1
 ·obtain⟨b',off',hA',-,h1⟩:=h _ _ (e 3 om);rw[hA]at hA';injection hA' with hA';injection hA' with q1 q2;subst q1 q2
  exact h1
theorem aiy (A:Option Addr) (c:Nat) (l:List Fld) (w:World) (h:ajy w A l) (hr:l.all ys=true) (hn:l.length≤1000000) :
 Calls prog 124 #[.slice A l.length c] w fun e w'=>e=.returned (.bool true)∧Below w.1.size w w':=by
 have HI:=hid h;have HR:=hid hr;generalize hL:l.length=n at *;have HL:=hid hL;clear h hr hL;go_enter func124,ntmps124;go_wp2_with fail
 go_loopg [7] n (fun g s7 wr=>∃k:Nat,k≤n∧n-k≤g∧s7=.int .i64 k∧Hid (Below w.1.size w wr))
 case atStart=>exact⟨0,Nat.zero_le _,by omega,rfl,Below.refl _ _⟩
 case round=>
  obtain⟨k,hk,hg,rfl,HB⟩:=hrel
  by_cases hlt:k<n
  ·have hkl:k<l.length:=by rw[HL.out];exact hlt
   have HY:=fun W=>hid (awv l[k] (List.all_eq_true.1 HR.out _ (List.getElem_mem hkl)) W)
   obtain⟨b,off,rfl,-,x0,x1,x2,x3⟩:=(HI.out.on HB.out).cells k hkl;generalize l[k]=f at *;obtain⟨z,s,lo,hi⟩:=f;unfold abr at HY;dsimp only at *;have i1:(k:Int)<n:=by omega
   have i2:(0:Int) ≤(k:Int):=Int.natCast_nonneg _;go_wp2_with fail;refine((HY _).out).mono ?_;rintro e w2 ⟨rfl,hb⟩;have HB2:Hid (Below w.1.size w w2):=hid (qb (qb HB.out (qa _ _)) hb);clear hb x0 x1 x2 x3;go_wp2_with fail
   go_roundg (n-(k+1))
   case measure=>omega
   case rel=>exact⟨k+1,by omega,by omega,by go_num,HB2⟩
  ·obtain rfl:k=n:=by omega
   go_wp2_with fail;go_ret;exact⟨rfl,HB.out⟩
theorem amf (l:List Fld) (k:Nat) (h:k<l.length):yd (l.take (k+1))=yd (l.take k)+l[k].sz:=by
 rw[List.take_succ_eq_append_getElem h];unfold yd;rw[List.map_append,List.sum_append];simp only[List.map_cons,List.map_nil,List.sum_cons,List.sum_nil,Nat.add_zero]
theorem a7s (l:List Fld) (hr:l.all ys=true):yd l≤8*l.length:=by
 induction l with
 | nil=>simp[yd]
 | cons f l ih=>
  rw[List.all_cons,Bool.and_eq_true]at hr;have h1:=ih hr.2;have h2:f.sz≤8:=by have:=hr.1;simp[ys]at this;omega
  simp only[yd,List.map_cons,List.sum_cons,List.length_cons]at *;omega
theorem bck {α:Type} {p:α→Bool} {l:List α} (h:l.all p=true) (k:Nat):(l.take k).all p=true:=by
 rw[List.all_eq_true]at *;exact fun x hx=>h x (List.mem_of_mem_take hx)
theorem awx (A:Option Addr) (c:Nat) (l:List Fld) (w:World) (h:ajy w A l) (hr:l.all ys=true) (hn:l.length≤1000000) :
 Calls prog 123 #[.slice A l.length c] w fun e w'=>e=.returned (.int .i64 (yd l:Int))∧Below w.1.size w w':=by
 have HY:=hid (aiy A c l w h hr hn);have HI:=hid h;have HR:=hid hr;have HE:Hid (yd (l.take l.length)=yd l):=hid (by rw[List.take_length]);generalize hL:l.length=n at *;have HL:=hid hL;clear h hr hL;go_enter func123,ntmps123;go_wp2_with fail;refine(HY.out).mono ?_;rintro e w1 ⟨rfl,hb⟩;have HB1:=hid hb;clear hb;go_wp2_with fail
 go_loopg [3,11] n (fun g s3 s11 wr=>∃k:Nat,k≤n∧n-k≤g∧s11=.int .i64 k∧s3=.int .i64 (yd (l.take k):Int)∧Hid (Below w.1.size w wr))
 case atStart=>exact⟨0,Nat.zero_le _,by omega,rfl,rfl,HB1⟩
 case round=>
  obtain⟨k,hk,hg,rfl,rfl,HB⟩:=hrel
  by_cases hlt:k<n
  ·have hkl:k<l.length:=by rw[HL.out];exact hlt
   have hw:=a7s _ (bck HR.out (k+1));have hlen:(l.take (k+1)).length≤1000000:=by rw[List.length_take];omega
   rw[amf l k hkl]at hw;have HW:=hid (amf l k hkl);obtain⟨b,off,rfl,-,x0,x1,x2,x3⟩:=(HI.out.on HB.out).cells k hkl;generalize l[k]=f at *;obtain⟨z,s,lo,hi⟩:=f;dsimp only at *;generalize hv:yd (l.take k)=v at *;have i1:(k:Int)<n:=by omega
   have i2:(0:Int) ≤(k:Int):=Int.natCast_nonneg _;have i3:IntKind.i64.wrap ((v:Int) +(z:Int))=(v:Int) +(z:Int):=IntWalk.i64_in _ om;clear hv;go_wp2_with fail;have HB2:Hid (Below w.1.size w (wr.alloc (.cells #[.int .i64 (z:Int),.bool s,.int .i64 lo,.int .i64 hi] 270))):=hid (qb HB.out (qa _ _))
   go_roundg (n-(k+1))
   case measure=>omega
   case rel=>exact⟨k+1,by omega,by omega,by go_num,by rw[HW.out];go_num,HB2⟩
  ·obtain rfl:k=n:=by omega
   go_wp2_with fail;go_ret;exact⟨by rw[HE.out];rfl,HB.out⟩
theorem agr {P:Program} {w:World} {a:Addr} {m:Mode} (f:_) (x:_) (y:_):(store a (.func f x y) m).run P w=stored P w a (.func f x y) m:=run_store P w a _ m rfl
theorem awu (w:World):Calls prog 201 #[] w fun e w'=>e=.returned (.agg #[.func (Fn.func 216) #[] #[],.func (Fn.func 218) #[] #[]])∧Below w.1.size w w':=by
 have hsf:=@agr prog;go_enter func201,ntmps201;go_wp2_with fail;exact bodyPost_ret (v:=.agg #[.func (Fn.func 216) #[] #[],.func (Fn.func 218) #[] #[]]) (by simp[results,results201,go_sem]) rfl ⟨rfl,qa _ _⟩
theorem bil {w1:World} {b:Nat} {x y:Value} (hk:Blk w1 b [x,y]) (p q:Value):(loadVar 277 ⟨b,0,none⟩).run prog ((w1.setCell ⟨b,0,none⟩ p).setCell ⟨b,1,none⟩ q)=.ok (.agg #[p,q]) ((w1.setCell ⟨b,0,none⟩ p).setCell ⟨b,1,none⟩ q)∧Below b w1 ((w1.setCell ⟨b,0,none⟩ p).setCell ⟨b,1,none⟩ q):=by
 have hs:qz w1 ((w1.setCell ⟨b,0,none⟩ p).setCell ⟨b,1,none⟩ q) b 0 [p,q]:=qm (cs:=[p,q]) (hk.there 0 2 (Nat.le_refl _));exact⟨run_loadVar_mid (P:=prog) _ b 0 277 [p,q] _ (hk.all hs rfl).rg underlying277 rfl kr,hs.below (Nat.le_refl _)⟩
def al9 (s:Bool):Nat:=if s then 200 else 218
def bjn (s:Bool):Nat:=if s then 199 else 216
theorem ba0 (f:Fld) (w:World):Calls prog 125 #[abr f] w fun e w'=>e=.returned (.agg #[.func (Fn.func (bjn f.sg)) #[] #[],.func (Fn.func (al9 f.sg)) #[] #[]])∧Below w.1.size w w':=by
 have hsf:=@agr prog;have HP:=fun W=>hid (awu W)
 obtain⟨z,s,lo,hi⟩:=f;unfold abr;dsimp only;cases s
 ·show Calls prog _ _ w fun e w'=>e=.returned (.agg #[.func (Fn.func 216) #[] #[],.func (Fn.func 218) #[] #[]])∧Below w.1.size w w'
  go_enter func125,ntmps125;go_wp2_with fail;refine(HP _).out.mono ?_;rintro e w1 ⟨rfl,hb⟩;have HB1:Hid (Below w.1.size w w1):=hid (qb (qb (qa _ _) (qa _ _)) hb)
  have HK1:Hid (Blk w1 (w.1.size+1) [.nilFunc,.nilFunc]):=hid (by
   have:=(Blk.newL (qg (w.alloc (.cells #[.int .i64 (z:Int),.bool false,.int .i64 lo,.int .i64 hi] 270)) #[.nilFunc,.nilFunc] 277) rfl).on hb
   simpa using this)
  have c0:=HK1.out.cell 0 (v:=.nilFunc) rfl;have c1:=HK1.out.cell 1 (v:=.nilFunc) rfl;have z0:=HK1.out.fz 0;have z1:=HK1.out.fz 1;clear hb;go_wp2_with fail;have HRS:=bil HK1.out (.func (Fn.func 216) #[] #[]) (.func (Fn.func 218) #[] #[]);exact bodyPost_ret (v:=.agg #[.func (Fn.func 216) #[] #[],.func (Fn.func 218) #[] #[]]) (by rw[qk rfl];simp[asAddr,Result.andThen];exact HRS.1) rfl ⟨rfl,HB1.out.trans (HRS.2.mono (by have:=HB1.out.size;omega))⟩
 ·show Calls prog _ _ w fun e w'=>e=.returned (.agg #[.func (Fn.func 199) #[] #[],.func (Fn.func 200) #[] #[]])∧Below w.1.size w w'
  go_enter func125,ntmps125;go_wp2_with fail;exact bodyPost_ret (v:=.agg #[.func (Fn.func 199) #[] #[],.func (Fn.func 200) #[] #[]]) (by simp[results,results125,go_sem]) rfl ⟨rfl,qb (qa _ _) (qa _ _)⟩
theorem aww {Q:Nat→Prop} {w:World} {a:Nat} {l:List UInt8} (n:Nat) (h:RdI Q w a (some l)) (h1:1≤n) (h8:n≤8) (hn:n≤l.length) :
 Calls prog 218 #[.pointer (some ⟨a,0,none⟩),.int .i64 n] w fun e w'=>e=.returned (.int .i64 (IntKind.i64.wrap (jd (l.take n):Int)))∧RdI Q w' a (some (l.drop n))∧qn (fun k=>k≠a) w w':=by
 have HN:=hid (acm n h h1 h8 hn);generalize jd (l.take n)=u at *;rw[IntWalk.i64_left];clear h hn;go_enter func218,ntmps218;go_wp2_with (refine HN.out.mono ?_;rintro e w' ⟨rfl,hr,hk⟩;have HR:=hid (And.intro hr hk);clear hr hk);go_ret;exact⟨rfl,HR.out⟩
theorem asf {Q:Nat→Prop} {w:World} {a:Nat} {l:List UInt8} (f:Fld) (h:RdI Q w a (some l)) (h1:1≤f.sz) (h8:f.sz≤8) (hn:f.sz≤l.length) :
 Calls prog (al9 f.sg) #[.pointer (some ⟨a,0,none⟩),.int .i64 f.sz] w fun e w'=>e=.returned (.int .i64 (anq f (l.take f.sz)))∧RdI Q w' a (some (l.drop f.sz))∧qn (fun k=>k≠a) w w':=by
 unfold al9 anq;cases f.sg
 ·exact aww f.sz h h1 h8 hn
 ·exact a9t f.sz h h1 h8 hn
theorem bct (s:Bool) (x y:Value) (W:World):(callFunc (al9 s) #[x,y]).run prog W=.ok (.enter (al9 s) #[x,y]) W:=by
 cases s
 ·kernel_rfl
 ·kernel_rfl
theorem a8y (F G:Nat) (W:World):(Instr.field 277 (.agg #[.func (Fn.func F) #[] #[],.func (Fn.func G) #[] #[]]) 1).run prog W=.ok (.func (Fn.func G) #[] #[]) W:=by kernel_rfl
theorem ajs:∀(l:List Fld) (f:Fld) (b:List UInt8),aal (l++[f]) b=(aal l b).bind fun v=>if f.lo≤anq f ((b.drop (yd l)).take f.sz)∧anq f ((b.drop (yd l)).take f.sz)≤f.hi then some (v++[anq f ((b.drop (yd l)).take f.sz)])else none
 | [],f,b=>by simp[aal,yd]
 | g::l,f,b=>by
  simp only[List.cons_append,aal]
  split
  ·rw[ajs l f (b.drop g.sz)]
   have e:(b.drop g.sz).drop (yd l)=b.drop (yd (g::l)):=by
    rw[List.drop_drop];simp[yd]
   rw[e];generalize (b.drop (yd (g::l))).take f.sz=t;cases aal l (b.drop g.sz)with
   | none=>rfl
   | some v=>
    simp only[Option.map_some,Option.bind_some]
    split<;>simp
  ·rfl
theorem aw1 (l m:List Fld) (b:List UInt8) (h:aal l b=none):aal (l++m) b=none:=by
 induction m generalizing l with
 | nil=>rwa [List.append_nil]
 | cons f m ih=>
  rw[show l++f::m=(l++[f])++m from by simp];exact ih _ (by rw[ajs,h];rfl)
theorem bf2 (l m:List Fld):yd (l++m)=yd l+yd m:=by unfold yd;rw[List.map_append,List.sum_append]
def kz (x:Int×List Int) (w:World) (e:Ending) (w':World):Prop:=
 ∃A c,e=.returned (.tuple #[.slice A x.2.length c,.int .i64 x.1])∧qf (fun b=>w.1.size≤b∧b<w'.1.size) w' A (qp x.2)∧Below w.1.size w w'
theorem a1d:(prog.info? 2).map (fun i=>(i.zero,i.size,i.bytes))=some (some (.int .i64 0),1,8):=by kernel_rfl
theorem ko {P:Program} {t:TypeId} {z:Option Value} {s b:Nat} (h:(P.info? t).map (fun i=>(i.zero,i.size,i.bytes))=some (z,s,b)):∃i,P.info? t=some i∧i.zero=z∧i.size=s∧i.bytes=b:=by
 cases hi:P.info? t with
 | none=>rw[hi]at h;cases h
 | some i=>rw[hi]at h;simp at h;exact⟨i,rfl,h.1,h.2.1,h.2.2⟩
theorem a69 (n:Nat):(madeCells (Value.int .i64 0).cells (n*1)).toList=qp (List.replicate n 0):=by
 rw[Nat.mul_one];show (madeCells #[Value.int .i64 0] n).toList=_;rw[toList_madeCells_one];unfold qp;rw[List.map_replicate]
theorem ba9 {W:World} {g n k:Nat} {u:List Int} (h:Blk W g (qp (u++List.replicate (n-k) 0))) (hu:u.length=k) (hk:(k:Int)<n) (x:Int) :
 W.cell? ⟨g,k,none⟩=some (.int .i64 0)∧Blk (W.setCell ⟨g,k,none⟩ (.int .i64 x)) g (qp ((u++[x])++List.replicate (n-(k+1)) 0))∧∀b,b≠g →(W.setCell ⟨g,k,none⟩ (.int .i64 x)).heap[b]?=W.heap[b]?:=by
 have e:qp (u++List.replicate (n-k) 0)=qp u++[Value.int .i64 0]++qp (List.replicate (n-(k+1)) 0):=by
  rw[show n-k=(n-(k+1))+1 from by omega,List.replicate_succ];simp[qp]
 rw[e]at h
 have hc:W.cell? ⟨g,k,none⟩=some (.int .i64 0):=h.cell k (by
  rw[List.append_assoc,List.getElem?_append_right (by rw[jn,hu];exact Nat.le_refl _),jn,hu,Nat.sub_self];rfl)
 have s1:qz W (W.setCell ⟨g,k,none⟩ (.int .i64 x)) g k [.int .i64 x]:=jq (h.there k 1 (by simp[jn,hu]));refine⟨hc,?_,fun b hb=>s1.far b hb⟩;have:=h.put s1 (by rw[jn,hu]) rfl;have e2:qp ((u++[x])++List.replicate (n-(k+1)) 0)=qp u++[Value.int .i64 x]++qp (List.replicate (n-(k+1)) 0):=by simp[qp]
 rw[e2];exact this
theorem am3 {Q0:Nat→Prop} {w:World} (A X:Option Addr) (c d:Nat) (fs:List Fld) (b:List UInt8) (hF:ajy w A fs) (hr:fs.all ys=true) (hn:fs.length≤1000) (hB:qf Q0 w X (bsV b)) (hm:b.length≤1000000) :
 Calls prog 91 #[.slice A fs.length c,.slice X b.length d] w (kz (xk fs b) w):=by
 have HW:∀W,Below w.1.size w W→Hid (Calls prog 123 #[.slice A fs.length c] W fun e w'=>e=.returned (.int .i64 (yd fs:Int))∧Below W.1.size W w'):=fun W hW=>hid (awx A c fs W (hF.on hW) hr om)
 have HR:∀W,Below w.1.size w W→Hid (Calls prog 124 #[.slice A fs.length c] W fun e w'=>e=.returned (.bool true)∧Below W.1.size W w'):=fun W hW=>hid (aiy A c fs W (hF.on hW) hr om)
 have hwl:=a7s fs hr;rcases Nat.lt_trichotomy b.length (yd fs)with hlt|heq|hgt
 ·have e0:xk fs b=(2,[]):=by unfold xk;rw[if_pos hlt]
  rw[e0];generalize yd fs=v at *;generalize fs.length=n at *;generalize b.length=m at *;have g1:(m:Int)<v:=by omega
  clear hB hF e0;go_enter func91,ntmps91;go_wp2_with fail;refine((HW _ (Below.refl _ _)).out).mono ?_;rintro e w1 ⟨rfl,hb⟩;have HB1:=hid hb;clear hb;go_wp2_with fail;refine((HR _ HB1.out).out).mono ?_;rintro e w2 ⟨rfl,hb⟩;have HB2:=hid (qb HB1.out hb);clear hb;go_wp2_with fail
  go_ret2
  exact⟨none,0,rfl,qf.nil _ _ _,HB2.out⟩
 ·have e0:xk fs b=match aal fs b with|some v=>(0,v)|none=>(5,[]):=by unfold xk;rw[if_neg om,if_neg om];all_goals rfl
  rw[e0];clear e0;obtain⟨res,hres⟩:∃r,r=(match aal fs b with|some v=>((0:Int),v)|none=>(5,[])):=⟨_,rfl⟩;rw[← hres];have HRES:=hid hres;clear hres;have HNW:∀W,Below w.1.size w W→Hid (Calls prog 74 #[.slice X b.length d] W fun e w'=>∃g,e=.returned (.pointer (some ⟨g,0,none⟩))∧RdI (fun b=>W.1.size≤b∧b<w'.1.size) w' g (some b)∧Below W.1.size W w'):=fun W hW=>hid (aji X b d W (hB.lt.below hW (fun b q=>q.2)) hm)
  have HFI:=hid hF;have HRI:=hid hr;have HEQ:=hid heq;have HWL:Hid (b.length=yd fs):=hid heq;clear hB hF hr;generalize hL:fs.length=n at *;generalize hM:b.length=m at *;have HL:=hid hL;have HM:=hid hM;obtain⟨i0,hi,hz0,hz1,hz2⟩:=ko a1d;have HI:=hid hi;have HZ:=hid (And.intro hz0 (And.intro hz1 hz2));clear hi hz0 hz1 hz2 hL hM;generalize hv:yd fs=v at *;have HV:=hid hv;subst heq;clear hv;go_enter func91,ntmps91;go_wp2_with fail;refine((HW _ (Below.refl _ _)).out).mono ?_;rintro e w1 ⟨rfl,hb⟩;have HB1:=hid hb;clear hb;go_wp2_with fail;refine((HR _ HB1.out).out).mono ?_;rintro e w2 ⟨rfl,hb⟩;have HB2:=hid (qb HB1.out hb);clear hb HB1;go_wp2_with fail;refine((HNW _ HB2.out).out).mono ?_;rintro e w3 ⟨a,rfl,hrd,hb⟩;have HRD:=hid hrd;have HB3:=hid (qb HB2.out hb);have HQ:=hid HB2.out.size;clear hrd hb HR HW HNW;go_wp2_with (refine aa9 rfl _ _ 49 2 rfl i0 _ underlying49 HI.out HZ.out.1 .i64 .i64 n rfl rfl (by rw[HZ.out.2.2];omega) om ?_;intro W1 hG;have HG:=hid hG;clear hG)
  have e0:(madeCells (Value.int .i64 0).cells (n*i0.size)).toList=qp (List.replicate n 0):=by rw[HZ.out.2.1];exact a69 n
  have HK1:Hid (Blk W1 w3.1.size (qp ([]++List.replicate (n-0) 0))):=hid (Blk.newL HG.out (by rw[List.nil_append,Nat.sub_zero];exact e0));have HBX:Hid (Below w.1.size w W1):=hid (qb HB3.out HG.out.bel)
  have HRX:Hid (RdI (fun b=>w2.1.size≤b∧b<w3.1.size) W1 a (some (b.drop (yd (fs.take 0))))):=hid (by
   rw[List.take_zero];exact HRD.out.below HG.out.bel (fun _ q=>q.2))
  have ha:=HRD.out.1.2;have HA1:=hid HRD.out.1;clear HG HI HZ e0 HRD HB3;generalize w3.1.size=g at *
  go_loopg [34] n (fun h s34 wr=>∃k:Nat,k≤n∧n-k≤h∧s34=.int .i64 k∧Hid (∃u,aal (fs.take k) b=some u∧u.length=k∧Blk wr g (qp (u++List.replicate (n-k) 0)))∧Hid (RdI (fun b=>w2.1.size≤b∧b<g) wr a (some (b.drop (yd (fs.take k)))))∧Hid (Below w.1.size w wr))
  case atStart=>exact⟨0,Nat.zero_le _,by omega,rfl,⟨[],rfl,rfl,HK1.out⟩,HRX,HBX⟩
  case round=>
   obtain⟨k,hk,hg,rfl,HK,HRK,HB⟩:=hrel
   by_cases hlt:k<n
   ·have hkl:k<fs.length:=by rw[HL.out];exact hlt
    obtain⟨u,hu,hul,hkb⟩:=HK.out;have hright:=List.all_eq_true.1 HRI.out _ (List.getElem_mem hkl)
    have HSN:Hid (aal (fs.take (k+1)) b=if(fs[k]).lo≤anq fs[k] ((b.drop (yd (fs.take k))).take fs[k].sz)∧anq fs[k] ((b.drop (yd (fs.take k))).take fs[k].sz)≤fs[k].hi then some (u++[anq fs[k] ((b.drop (yd (fs.take k))).take fs[k].sz)])else none):=hid (by
     rw[List.take_succ_eq_append_getElem hkl,ajs,hu];rfl)
    have hwk:=amf fs k hkl
    have hwm:yd (fs.take (k+1))≤yd fs:=by
     conv=>rhs;rw[← List.take_append_drop (k+1) fs]
     rw[bf2];omega
    have HPN:Hid (aal (fs.take (k+1)) b=none→aal fs b=none):=hid (fun q=>by
     have:=aw1 (fs.take (k+1)) (fs.drop (k+1)) b q
     rwa [List.take_append_drop]at this)
    have h18:1 ≤(fs[k]).sz ∧(fs[k]).sz≤8 ∧(fs[k]).sz ≤(b.drop (yd (fs.take k))).length:=by
     simp[ys]at hright;rw[List.length_drop,HM.out];have:=HV.out;omega
    have HTK:=fun W=>hid (fun(q:RdI (fun b=>w2.1.size≤b∧b<g) W a (some (b.drop (yd (fs.take k)))))=>asf fs[k] q h18.1 h18.2.1 h18.2.2)
    have HDR:Hid ((b.drop (yd (fs.take k))).drop fs[k].sz=b.drop (yd (fs.take (k+1)))):=hid (by rw[List.drop_drop,hwk]);have HOF:=fun W=>hid (ba0 fs[k] W)
    have HIN:=fun x W=>hid (al5 fs[k] x W)
    obtain⟨fb,off,rfl,hfb,x0,x1,x2,x3⟩:=(HFI.out.on HB.out).cells k hkl;generalize (b.drop (yd (fs.take k)))=R at *;generalize fs[k]=f at *;generalize hvx:anq f (R.take f.sz)=x at *;obtain⟨z,s,lo,hi⟩:=f;unfold abr at HOF HIN;dsimp only at *;have HCL:=fun x y W=>bct s x y W
    generalize al9 s=G at *;generalize bjn s=F at *;have HFW:=fun W=>hid (a8y F G W)
    have i1:(k:Int)<n:=by omega
    have i2:(0:Int) ≤(k:Int):=Int.natCast_nonneg _;have HUL:=hid hul;have HU:=hid hu;have HKB:=hid hkb;clear hright hwk hwm hvx hul hu hkb h18;go_upto_region 13 with fail;have HF1:Hid (Blk (wr.alloc (.cells #[.int .i64 (z:Int),.bool s,.int .i64 lo,.int .i64 hi] 270)) wr.1.size [.int .i64 (z:Int),.bool s,.int .i64 lo,.int .i64 hi]):=hid (Blk.newL (qg _ _ _) rfl);have HB2:Hid (Below w.1.size w (wr.alloc (.cells #[.int .i64 (z:Int),.bool s,.int .i64 lo,.int .i64 hi] 270))):=hid (qb HB.out (qa _ _));have HK2:Hid (Blk (wr.alloc (.cells #[.int .i64 (z:Int),.bool s,.int .i64 lo,.int .i64 hi] 270)) g (qp (u++List.replicate (n-k) 0))):=hid (HKB.out.on (qa _ _));have HR2:Hid (RdI (fun b=>w2.1.size≤b∧b<g) (wr.alloc (.cells #[.int .i64 (z:Int),.bool s,.int .i64 lo,.int .i64 hi] 270)) a (some R)):=hid (HRK.out.below (qa _ _) (fun b q=>Nat.lt_of_lt_of_le q.2 (Nat.le_of_lt HKB.out.lt)));have hga:g<wr.1.size:=HKB.out.lt
    clear x0 x1 x2 x3 HB HK HRK HKB;generalize wr.alloc (.cells #[.int .i64 (z:Int),.bool s,.int .i64 lo,.int .i64 hi] 270)=Wf at *;generalize wr.1.size=fbk at *
    try (apply wp_seq_k;intro K_ HK_)
    have HNE:Hid (fbk<Wf.1.size∧fbk≠a∧fbk≠g∧a≠g∧a<Wf.1.size):=hid (by have:=HF1.out.lt;omega);have HGL:=hid HK2.out.lt;have HBIN:∃bb,Hid (decide (lo≤x∧x≤hi)=bb)∧∀W,Hid (Calls prog 126 #[.agg #[.int .i64 (z:Int),.bool s,.int .i64 lo,.int .i64 hi],.int .i64 x] W fun e w'=>e=.returned (.bool bb)∧Below W.1.size W w'):=⟨_,rfl,fun W=>HIN x W⟩;obtain⟨bb,HBB,HIX⟩:=HBIN;clear HIN;have hS0:qn (fun k=>k<Wf.1.size∧k≠a∧k≠g) Wf Wf.drew:=(qn.refl _ _).drew;refine wp_region_held_drew (S:=fun w'=>qn (fun k=>k<Wf.1.size∧k≠a∧k≠g) Wf w') kr hS0 (fun hHeld0=>?_);refine tkA 0 39 rfl ?_
    try go_frame
    refine tkA 1 40 rfl ?_
    try go_frame
    refine tkQ (i:=2) (oi:=⟨some 41,_,_,_,_,_⟩) (v:=_) rfl (yieldsIf_load_mid (by rfl) 270 _ rfl fbk 0 rfl [.int .i64 (z:Int),.bool s,.int .i64 lo,.int .i64 hi] _ (fun w' hSw=>(abs HF1.out.rg (hSw.block fbk ⟨HNE.out.1,HNE.out.2.1,HNE.out.2.2.1⟩))) underlying270 rfl kr) ?_
    try go_frame
    refine tkA 5 44 rfl ?_
    try go_frame
    refine tkA 6 45 rfl ?_
    try go_frame
    refine tkQ (i:=7) (oi:=⟨some 46,_,_,_,_,_⟩) (v:=?_) rfl (Or.inl ⟨by rfl,?_⟩) ?_;rotate_left
    ·intro w' hSw;have q:w'.cell? ⟨fbk,0,none⟩=some (.int .i64 (z:Int)):=(hSw.cell ⟨HNE.out.1,HNE.out.2.1,HNE.out.2.2.1⟩).trans (HF1.out.cell 0 rfl);go_simp
     try with_reducible rfl
    try go_frame
    refine rdB 3 42 rfl fun K hK=>?_
    go_step;refine(HOF _).out.mono ?_;rintro e w5 ⟨rfl,hb⟩;have HS5:Hid (qn (fun k=>k<Wf.1.size∧k≠a∧k≠g) Wf w5):=hid (hHeld0.trans (qn.of_below hb (fun k q=>q.1)));have HR5:=hid (HR2.out.drew.below hb (fun b q=>Nat.lt_trans q.2 HGL.out));have HK5:=hid (HK2.out.drew.on hb);have HZ5:Hid (Wf.1.size≤w5.1.size):=hid hb.size;clear hb
    try go_frame
    refine hK.out _ _ (HS5.out) (fun hHeld=>?_);clear hK K
    try go_frame
    refine tkQ (i:=4) (oi:=⟨some 43,_,_,_,_,_⟩) (v:=?_) rfl (Or.inl ⟨by rfl,?_⟩) ?_;rotate_left
    ·intro w' hSw;have q:=(HFW w').out;go_simp
     try with_reducible rfl
    try go_frame
    refine rdB 8 47 rfl fun K hK=>?_
    go_step;refine((HTK _).out HR5.out).mono ?_;rintro e w6 ⟨rfl,hr,hk⟩;have HS6:Hid (qn (fun k=>k<Wf.1.size∧k≠a∧k≠g) Wf w6):=hid (HS5.out.trans (hk.less (fun k q=>q.2.1)));have HR6:=hid hr;have HK6:=hid (HK5.out.kept (hk.block g (fun e=>HNE.out.2.2.2.1 e.symm)) hk.size);clear hr hk
    try go_frame
    refine hK.out _ _ (HS6.out) (fun hHeld=>?_);clear hK K
    try go_frame
    refine tkA 9 48 rfl ?_
    try go_frame
    have HST:=hid (ba9 HK6.out HUL.out i1 x);have ck:=HST.out.1;have zk:=HK6.out.fz k;refine wpAnyH_ready (rs:=[10]) kr sm ?_;refine AllReadyH.cons (o:=⟨none,_,_,_,_,_⟩) rfl (fun K hK=>?_) AllReadyH.nil;rw[if_pos (by rfl)];go_step
    try go_frame
    have HS7:Hid (qn (fun k=>k<Wf.1.size∧k≠a∧k≠g) Wf (w6.setCell ⟨g,k,none⟩ (.int .i64 x))):=hid (HS6.out.set (fun q=>q.2.2 rfl) _ _);have HK7:=hid HST.out.2.1;have HR7:=hid (HR6.out.keep (w':=w6.setCell ⟨g,k,none⟩ (.int .i64 x)) (fun b q=>HST.out.2.2 b (Nat.ne_of_lt q.2)) sm);refine hK.out _ _ HS7.out (fun hHeld=>?_);clear hK K ck zk HK6 HR6 HK5 HR5 HST
    try go_frame
    refine wpAnyH_done kr ?_ _
    try go_frame
    have HF7:Hid (Blk (w6.setCell ⟨g,k,none⟩ (.int .i64 x)) fbk [.int .i64 (z:Int),.bool s,.int .i64 lo,.int .i64 hi]):=hid (HF1.out.kept (HS7.out.block fbk ⟨HNE.out.1,HNE.out.2.1,HNE.out.2.2.1⟩) HS7.out.size);have HB7:Hid (Below w.1.size w (w6.setCell ⟨g,k,none⟩ (.int .i64 x))):=hid (HB2.out.trans (HS7.out.below (fun j hj=>⟨Nat.lt_of_lt_of_le hj HB2.out.size,by have:=HA1.out.1;have:=HQ.out;omega,by have:=HA1.out;have:=HQ.out;omega⟩)))
    have HN7:Hid ((w6.setCell ⟨g,k,none⟩ (.int .i64 x)).cell? ⟨g,k,none⟩=some (.int .i64 x)):=hid (HK7.out.cell k (by
     have:(u++[x]++List.replicate (n-(k+1)) 0)[k]?=some x:=by
      rw[List.append_assoc,List.getElem?_append_right (by rw[HUL.out];exact Nat.le_refl _),HUL.out,Nat.sub_self];rfl
     unfold qp;rw[List.getElem?_map,this];rfl))
    clear HS7 HS6 HS5 HB2 HF1 HK2 HR2 HZ5 hHeld hHeld0 hS0;generalize w6.setCell ⟨g,k,none⟩ (.int .i64 x)=W7 at *;go_upto_region 14 with fail
    try (apply wp_seq_k;intro K_ HK_)
    have hS0:Below W7.1.size W7 W7.drew:=(Below.refl _ _).drew;refine wp_region_held_drew (S:=fun w'=>Below W7.1.size W7 w') kr hS0 (fun hHeld0=>?_);refine tkQ (i:=0) (oi:=⟨some 49,_,_,_,_,_⟩) (v:=_) rfl (yieldsIf_load_mid (by rfl) 270 _ rfl fbk 0 rfl [.int .i64 (z:Int),.bool s,.int .i64 lo,.int .i64 hi] _ (fun w' hSw=>(HF7.out.on hSw).rg) underlying270 rfl kr) ?_
    try go_frame
    refine tkA 1 50 rfl ?_
    try go_frame
    refine tkA 2 51 rfl ?_
    try go_frame
    refine tkA 3 52 rfl ?_
    try go_frame
    refine tkQ (i:=4) (oi:=⟨some 53,_,_,_,_,_⟩) (v:=?_) rfl (Or.inl ⟨by rfl,?_⟩) ?_;rotate_left
    ·intro w' hSw;have q:w'.cell? ⟨g,k,none⟩=some (.int .i64 x):=(hSw.cell HK7.out.lt).trans HN7.out;go_simp
     try with_reducible rfl
    try go_frame
    refine rdB 5 54 rfl fun K hK=>?_
    go_step;refine(HIX _).out.mono ?_;rintro e w8 ⟨rfl,hb⟩;have HB8:Hid (Below W7.1.size W7 w8):=hid (hHeld0.trans (hb.mono hHeld0.size));clear hb
    try go_frame
    refine hK.out _ _ (HB8.out) (fun hHeld=>?_);clear hK K
    try go_frame
    refine tkA 6 55 rfl ?_
    try go_frame
    refine wpAnyH_done kr ?_ _
    try go_frame
    have HB9:=hid (HB7.out.trans (HB8.out.mono HB7.out.size));clear hHeld hHeld0 hS0;cases bb
    ·have hre:=HRES.out;have hx:¬(lo≤x∧x≤hi):=of_decide_eq_false HBB.out;rw[HPN.out (by rw[HSN.out,if_neg hx])]at hre;subst hre;go_wp2_with fail
     go_ret2
     exact⟨none,0,rfl,qf.nil _ _ _,HB9.out⟩
    ·have hx:lo≤x∧x≤hi:=of_decide_eq_true HBB.out;have HKN:Hid (∃u',aal (fs.take (k+1)) b=some u'∧u'.length=k+1∧Blk w8 g (qp (u'++List.replicate (n-(k+1)) 0))):=hid ⟨u++[x],by rw[HSN.out,if_pos hx],by rw[List.length_append,HUL.out];rfl,HK7.out.on HB8.out⟩
     have HRN:Hid (RdI (fun b=>w2.1.size≤b∧b<g) w8 a (some (b.drop (yd (fs.take (k+1)))))):=hid (by
      rw[← HDR.out];exact HR7.out.below HB8.out (fun b q=>Nat.lt_trans q.2 HK7.out.lt))
     clear hx;go_wp2_with fail
     go_roundg (n-(k+1))
     case measure=>omega
     case rel=>exact⟨k+1,by omega,by omega,by go_num,HKN,HRN,HB9⟩
   ·obtain rfl:k=n:=by omega
    obtain⟨u,hu,hul,hkb⟩:=HK.out;rw[List.take_of_length_le (by rw[HL.out];exact Nat.le_refl _)]at hu;rw[Nat.sub_self,List.replicate_zero,List.append_nil]at hkb;have hre:=HRES.out;rw[hu]at hre;subst hre;have HUK:=hid (And.intro hul hkb);clear hu hul hkb;go_wp2_with fail
    go_ret2
    refine⟨some ⟨g,0,none⟩,k,?_,HUK.out.2.flat ⟨?_,HUK.out.2.lt⟩,HB.out⟩
    ·show _=Ending.returned (.tuple #[.slice _ u.length _,_]);rw[HUK.out.1];rfl
    ·have:=HQ.out;have:=HA1.out.1;omega
 ·have e0:xk fs b=(7,[]):=by unfold xk;rw[if_neg om,if_pos hgt]
  rw[e0];generalize yd fs=v at *;generalize fs.length=n at *;generalize b.length=m at *;have g1:(v:Int)<m:=by omega
  clear hB hF e0;go_enter func91,ntmps91;go_wp2_with fail;refine((HW _ (Below.refl _ _)).out).mono ?_;rintro e w1 ⟨rfl,hb⟩;have HB1:=hid hb;clear hb;go_wp2_with fail;refine((HR _ HB1.out).out).mono ?_;rintro e w2 ⟨rfl,hb⟩;have HB2:=hid (qb HB1.out hb);clear hb;go_wp2_with fail
  go_ret2
  exact⟨none,0,rfl,qf.nil _ _ _,HB2.out⟩
