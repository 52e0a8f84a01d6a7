/- Parts. -/
import Derived.Test.YtdkhlkfleggbaaaGreatQ13
import Derived.Lib.SliceRun
namespace Go.Proofs.YtdkhlkfleggbaaaGreat
set_option maxHeartbeats 2000000
set_option maxRecDepth 8000
open Lib (hid)
open Tryz
set_option linter.unusedVariables false
open Go.RowKit
def j5 (v:V4):List Value:=[.bool v.1.1,.int .i64 v.1.2,.bool v.2.1.1,.int .i64 v.2.1.2,.bool v.2.2.1.1,.int .i64 v.2.2.1.2,.bool v.2.2.2.1,.int .i64 v.2.2.2.2]
def Vws (w:World) (B:Nat) (A:Option Addr) (l:List V4):Prop:=
 ∀k (hk:k<l.length),∃b off,A=some ⟨b,off,none⟩∧b<B∧∀(j:Nat) u,(j5 l[k])[j]?=some u→w.cell? ⟨b,off+8*k+j,none⟩=some u
theorem Vws.below {w w':World} {B B':Nat} {A:Option Addr} {l:List V4} (h:Vws w B A l) (hb:Below B' w w') (hB:B≤B'):Vws w' B A l:=by
 intro k hk;obtain⟨b,off,h1,h2,h3⟩:=h k hk;exact⟨b,off,h1,h2,fun j u hu=>(hb.cell (p:=⟨b,off+8*k+j,none⟩) (by show b<B';omega)).trans (h3 j u hu)⟩
theorem Vws.more {w:World} {B B':Nat} {A:Option Addr} {l:List V4} (h:Vws w B A l) (hB:B≤B'):Vws w B' A l:=by
 intro k hk;obtain⟨b,off,h1,h2,h3⟩:=h k hk;exact⟨b,off,h1,by omega,h3⟩
abbrev agd (T N S:Int) (A:Option Addr) (n c:Nat):Array Value:=#[.int .i64 T,.int .i64 N,.int .i64 S,.slice A n c]
abbrev a37 (T N S:Int) (A:Option Addr) (n c:Nat):Value:=.agg (agd T N S A n c)
def vsC (l:List V4):List Value:=l.flatMap j5
theorem a7q (l:List V4):(vsC l).length=l.length*8:=by
 induction l with
 | nil=>rfl
 | cons x l ih=>show (j5 x++vsC l).length=_;rw[List.length_append,ih];show 8+_=_;simp;omega
theorem axb:∀(D:List V4) (k j:Nat) (hk:k<D.length),j<8 →(vsC D)[8*k+j]?=(j5 D[k])[j]?
 | x::D,0,j,_,hj=>by
  show (j5 x++vsC D)[8*0+j]?=_;rw[List.getElem?_append_left (by show 8*0+j<8;omega)];simp
 | x::D,k+1,j,hk,hj=>by
  show (j5 x++vsC D)[8*(k+1)+j]?=_;rw[List.getElem?_append_right (by show 8≤_;omega)];have e:8*(k+1)+j-(j5 x).length=8*k+j:=by show 8*(k+1)+j-8=_;omega
  rw[e,axb D k j (by simpa using hk) hj];rfl
theorem bbv (x:V4):∀u∈j5 x,u.oneCell'=true:=fun u hu=>by
 simp only[j5,List.mem_cons,List.not_mem_nil,or_false]at hu;rcases hu with rfl|rfl|rfl|rfl|rfl|rfl|rfl|rfl<;>rfl
theorem bii (l:List V4):∀u∈vsC l,u.oneCell'=true:=fun u hu=>by
 obtain⟨x,hx,h⟩:=List.mem_flatMap.1 hu;exact bbv x u h
theorem qf.vws {Q:Nat→Prop} {w:World} {A:Option Addr} {L:List V4} (h:qf Q w A (vsC L)):Vws w w.1.size A L:=fun k hk=>by
 have hu:∀(j:Nat) u,(j5 L[k])[j]?=some u →(vsC L)[8*k+j]?=some u:=fun j u hu=>by
  have hj:j<8:=by
   rcases Nat.lt_or_ge j 8 with q|q
   ·exact q
   ·rw[List.getElem?_eq_none (by show 8≤j;exact q)]at hu;cases hu
  rw[axb L k j hk hj];exact hu
 obtain⟨b,off,h1,-,h3⟩:=h _ _ (hu 0 _ rfl);refine⟨b,off,h1,World.block_lt_of_cell? w _ h3,fun j u hj=>?_⟩;obtain⟨b',off',h1',-,h3'⟩:=h _ _ (hu j u hj);rw[h1]at h1';injection h1' with h1'
 injection h1' with e1 e2
 subst e1 e2;rw[Nat.add_assoc];exact h3'
theorem Vws.flatq {w:World} {B:Nat} {A:Option Addr} {L:List V4} (h:Vws w B A L):qf (fun b=>b<B) w A (vsC L):=fun j u hu=>by
 have hj:j<(vsC L).length:=by
  rcases Nat.lt_or_ge j (vsC L).length with q|q
  ·exact q
  ·rw[List.getElem?_eq_none q]at hu;cases hu
 rw[a7q]at hj;have hk:j / 8<L.length:=by omega
 obtain⟨b,off,h1,h2,h3⟩:=h (j / 8) hk;refine⟨b,off,h1,h2,?_⟩;have e:8*(j / 8)+j%8=j:=by omega
 have:=h3 (j%8) u (by rw[← axb L (j / 8) (j%8) hk om,e];exact hu);rw[Nat.add_assoc,e]at this;exact this
theorem amj (c:Nat) (w:World):Calls prog 108 #[.slice none 0 c] w fun e w'=>e=.returned (.slice none 0 0)∧Below w.1.size w w':=by
 go_enter func108,ntmps108;go_wp2_with fail;rw[Lib.run_eql_slice_nil _ _ _ _ _ _ _ _ underlying54];go_wp2_with fail;go_ret;exact⟨rfl,Below.refl _ _⟩
set_option maxRecDepth 100000 in
theorem bbw:∃i,prog.info? 210=some i∧i.zero=some (.agg #[.bool false,.int .i64 0,.bool false,.int .i64 0,.bool false,.int .i64 0,.bool false,.int .i64 0])∧i.size=8∧i.bytes=64:=⟨_,rfl,rfl,rfl,rfl⟩
theorem a2k {Q:Nat→Prop} (A:Option Addr) (L:List V4) (c:Nat) (w:World) (hA:A=none→L.length=0∧c=0) (hs:qf Q w A (vsC L)) (hn:L.length≤1000000) :
 Calls prog 108 #[.slice A L.length c] w fun e w'=>∃B d,e=.returned (.slice B L.length d)∧qf (fun b=>w.1.size≤b∧b<w'.1.size) w' B (vsC L)∧Below w.1.size w w':=by
 cases A with
 | none=>
  obtain⟨h0,rfl⟩:=hA rfl;obtain rfl:=List.eq_nil_of_length_eq_zero h0;refine(amj 0 w).mono ?_;rintro e w' ⟨rfl,h⟩;exact⟨none,0,rfl,qf.nil _ _ _,h⟩
 | some a=>
  obtain⟨i0,hi,hz0,hz1,hz2⟩:=bbw;obtain⟨n,hln⟩:∃n,L.length=n:=⟨_,rfl⟩;have HLN:=hid hln;have hown:(w.alloc (.cells #[] 210)).ownsRow w.1.size 210 8 (.slice (some ⟨w.1.size,0,none⟩) 0 0) 0 []:=World.ownsRow_made w #[] 0 (Nat.le_refl _) dc rfl;obtain⟨v',w2,hrun,h8,h9,-⟩:=jl (P:=prog) (w.alloc (.cells #[] 210)) 54 54 210 i0 _ 8 64 underlying54 hi hz0 hz1 hz2 rfl dc w.1.size _ 0 [] hown (some a) n c (vsC L) (by rw[a7q,hln]) (hs.lt.below (qa w _) (fun b h=>h.2)) (bii L) (by unfold maxLen;omega) om sm;rw[Nat.zero_add,List.nil_append]at h8
  have HE:Hid (∃B d,v'=.slice B n d∧qf (fun b=>w.1.size≤b∧b<w2.1.size) w2 B (vsC L)∧Below w.1.size w w2):=by
   obtain⟨B,d,h1,-,h2,-⟩:=zj h8;refine⟨B,d,h1,h2,(qa w _).trans ⟨h9.os,h9.tape,h9.output,h9.size,fun b hb=>h9.block b (by simp;omega) (fun e=>by simp[Value.ownBlock]at e;omega)⟩⟩
  have HR:=hid hrun;rw[hln]at hn ⊢;clear hs hA hln hown hrun h8 h9;have EQ:∀W:World,(binOp .eql 54 (.slice (some a) n c) (.slice none 0 0)).run prog W=.ok (.bool false) W:=fun W=>Lib.run_eql_slice_nil W 54 210 (some a) n c 0 0 underlying54
  go_enter func108,ntmps108;go_wp2_with (at_builtin;refine zf rfl _ _ 54 rfl _ _ _ rfl rfl HR.out ?_);go_ret;obtain⟨B,d,h1,h2,h3⟩:=HE.out;exact⟨B,d,by rw[h1];rfl,h2,h3⟩
theorem a2j {Q:Nat→Prop} (A:Option Addr) (L:List V4) (c:Nat) (w:World) (hs:qf Q w A (vsC L)) (hn:L.length≤1000000) :
 Calls prog 108 #[.slice A L.length c] w fun e w'=>∃B d,e=.returned (.slice B L.length d)∧qf (fun b=>w.1.size≤b∧b<w'.1.size) w' B (vsC L)∧Below w.1.size w w':=by
 cases A with
 | none=>
  have h0:L=[]:=by
   cases L with
   | nil=>rfl
   | cons x l=>obtain⟨b,off,h,-⟩:=hs 0 _ rfl;cases h
  subst h0;refine(amj c w).mono ?_;rintro e w' ⟨rfl,h⟩;exact⟨none,0,rfl,qf.nil _ _ _,h⟩
 | some a=>exact a2k (some a) L c w (fun h=>by cases h) hs hn
