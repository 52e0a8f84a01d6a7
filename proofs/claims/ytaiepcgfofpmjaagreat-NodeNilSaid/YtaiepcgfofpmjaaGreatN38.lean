/- Arguments opened: bytes. -/
import Derived.Test.YtaiepcgfofpmjaaGreatN05
import Derived.ShutString
import Derived.OpenShut
import Derived.ChangeSame
import Derived.ChangeSlices
import Derived.Lib.SmallJoins
import Derived.Deep.Slices
import Derived.Deep.Strs
import Derived.Test.YtaiepcgfofpmjaaGreatN37
import Derived.Test.YtaiepcgfofpmjaaGreatN36
namespace Go.Proofs.YtaiepcgfofpmjaaGreat
set_option linter.unusedVariables false
open Go.RowKit
open Go.ChangeShapes Go.WideShapes Go.ChangeAt Go.RowKit Go.Joins Go.Deep
section
variable {H : Type} {enc : TypeId × Value → H} {P : Program} {w : World} {base : Nat} {spare : Nat → Bool} {held : Bool}
theorem open_bytes {t e:TypeId} {fuel:Nat} {v:Value} {x:DataW H×List MemPlace} (ht:P.underlying t=some (.slice e)) (he:P.underlying e=some (.int .u8)) (hc:P.cellsOf e=1) (h:DataW.trod enc P w base spare held fuel t [v]=some x) :
    ∃ (A:Option Addr) (c:Nat) (l:List UInt8),v=.slice A l.length c∧l.length≤maxLen∧l.length≤c∧(A=none→c=0)∧FlatQ (fun b=>b < w.heap.size) w A (bsV l):=by
  rcases open_ints ht he hc h with ⟨hcs,_⟩ | ⟨a,len,cap,zs,hcs,_,hl,hm,hmm,_,hcell,hwf⟩
  · simp at hcs
    subst hcs
    exact⟨none,0,[],rfl,Nat.zero_le _,Nat.le_refl _,fun _=>rfl,FlatQ.nil _ _ _⟩
  · simp at hcs
    subst hcs
    have hlm:len≤zs.length:=by rw [hmm];split <;> omega
    have hln:((zs.take len).map fun z=>UInt8.ofNat z.toNat).length=len:=by rw [List.length_map,List.length_take,Nat.min_eq_left hlm]
    obtain⟨b,off,spot⟩:=a
    have e1:∀ j,(⟨b,off,none⟩:Addr).add j=⟨b,off+j,none⟩:=fun j=>by unfold Addr.add;split <;> simp_all
    refine⟨some ⟨b,off,spot⟩,cap,(zs.take len).map fun z=>UInt8.ofNat z.toNat,by rw [hln],by rw [hln];omega,by rw [hln];exact hl,(fun q=>by cases q),fun k u hu=>?_⟩
    have hk:k < len:=by
      rcases Nat.lt_or_ge k len with q | q
      · exact q
      · rw [List.getElem?_eq_none (by rw [bsV_len,hln];exact q)] at hu;cases hu
    have hk':k < zs.length:=by omega
    have hspot:spot=none:=by
      have h0:=hcell 0 (by omega)
      have h3:w.cell? ⟨b,off,spot⟩=some (.int .u8 (zs.getD 0 0)):=by simpa [Addr.add] using h0
      exact World.cell?_spot h3
    subst hspot
    have h1:=hcell k hk'
    rw [e1] at h1
    have hw:=hwf zs[k] (List.getElem_mem hk')
    have hmin:IntKind.u8.min=0:=rfl
    have hmax:IntKind.u8.max=255:=rfl
    simp only [Lit.wf,Bool.and_eq_true,decide_eq_true_eq] at hw
    have e2:zs.getD k 0=zs[k]:=by simp [List.getD,List.getElem?_eq_getElem hk']
    have e3:u=.int .u8 zs[k]:=by
      rw [bsV_get (by rw [hln];exact hk),Option.some.injEq] at hu
      rw [← hu]
      unfold bV
      rw [List.getElem_map,List.getElem_take]
      congr 1
      rw [UInt8.toNat_ofNat_of_lt' (show zs[k].toNat < 2 ^ 8 by omega)]
      omega
    subst e3
    rw [e2] at h1
    exact⟨b,off,rfl,World.block_lt_of_cell? w _ h1,h1⟩
end
open Go.ChangeShapes Go.WideShapes Go.ChangeAt Go.RowKit Go.Joins Go.Deep
set_option maxRecDepth 100000
theorem list_ofT {α:Type} {p:Nat→α→Prop}:∀ (n:Nat),(∀ i,i < n→∃ v,p i v)→∃ L:List α,L.length=n∧∀ k (h:k < L.length),p k L[k]
  | 0,_=>⟨[],rfl,fun k h=>absurd h (Nat.not_lt_zero _)⟩
  | n+1,h=>by
    obtain⟨L,h1,h2⟩:=list_ofT n fun i hi=>h i (Nat.lt_succ_of_lt hi)
    obtain⟨v,hv⟩:=h n (Nat.lt_succ_self n)
    refine⟨L++[v],by simp [h1],fun k hk=>?_⟩
    by_cases q:k < L.length
    · rw [List.getElem_append_left q];exact h2 k q
    · have e:k=n:=by simp [h1] at hk;omega
      subst e
      rw [List.getElem_append_right (by omega)]
      simpa [h1] using hv
theorem i64_wf {n:Int} (h:(Lit.int .i64 n).wf=true):I64 n:=by
  have hmin:IntKind.i64.min=-9223372036854775808:=rfl
  have hmax:IntKind.i64.max=9223372036854775807:=rfl
  simp only [Lit.wf,Bool.and_eq_true,decide_eq_true_eq] at h
  unfold I64
  omega
theorem pair_len (l:List (Int×Int)):(pairC l).length=2 * l.length:=by
  induction l with
  | nil=>rfl
  | cons p r ih=>
    show (pairC r).length+1+1=_
    rw [ih,List.length_cons]
    omega
theorem pair_get:∀ (l:List (Int×Int)) (i:Nat) (h:i < l.length),(pairC l)[2 * i]?=some (.int .i64 l[i].1)∧(pairC l)[2 * i+1]?=some (.int .i64 l[i].2)
  | p :: r,0,_=>⟨rfl,rfl⟩
  | p :: r,i+1,h=>by
    have:=pair_get r i (by rw [List.length_cons] at h;omega)
    rw [show 2 * (i+1)=2 * i+1+1 from by omega]
    exact this
structure StpIn (s:StpK):Prop where
  k:I64 s.k
  n:I64 s.n
  id:I64 s.id
  y:I64 s.y
  v:∀ x∈s.v,I64 x
  l:∀ p∈s.l,I64 p.1∧I64 p.2
section
variable {H : Type} {enc : TypeId × Value → H} {w : World} {base : Nat} {spare : Nat → Bool} {held : Bool}
theorem open_nums {fuel:Nat} {v:Value} {x:DataW H×List MemPlace} (h:DataW.trod enc Tryz.prog w base spare held fuel 23 [v]=some x) :
    ∃ (A:Option Addr) (c:Nat) (l:List Int),v=.slice A l.length c∧FlatQ (fun b=>b < w.heap.size) w A (l.map intL)∧∀ x∈l,I64 x:=by
  rcases open_ints Tryz.underlying23 Tryz.underlying2 (by kernel_rfl) h with ⟨hcs,_⟩ | ⟨a,len,cap,zs,hcs,_,hl,hm,hmm,_,hcell,hwf⟩
  · simp at hcs
    subst hcs
    exact⟨none,0,[],rfl,FlatQ.nil _ _ _,fun x hx=>by cases hx⟩
  · simp at hcs
    subst hcs
    have hlm:len≤zs.length:=by rw [hmm];split <;> omega
    obtain⟨b,off,spot⟩:=a
    have e1:∀ j,(⟨b,off,none⟩:Addr).add j=⟨b,off+j,none⟩:=fun j=>by unfold Addr.add;split <;> simp_all
    have hln:(zs.take len).length=len:=by rw [List.length_take,Nat.min_eq_left hlm]
    refine⟨some ⟨b,off,spot⟩,cap,zs.take len,by rw [hln],fun k u hu=>?_,fun x hx=>i64_wf (hwf x (List.mem_of_mem_take hx))⟩
    have hk:k < len:=by
      rcases Nat.lt_or_ge k len with q | q
      · exact q
      · rw [List.getElem?_eq_none (by rw [List.length_map,hln];exact q)] at hu;cases hu
    have hk':k < zs.length:=by omega
    have hspot:spot=none:=by
      have h0:=hcell 0 (by omega)
      have h3:w.cell? ⟨b,off,spot⟩=some (.int .i64 (zs.getD 0 0)):=by simpa [Addr.add] using h0
      exact World.cell?_spot h3
    subst hspot
    have h1:=hcell k hk'
    rw [e1] at h1
    have e2:zs.getD k 0=zs[k]:=by simp [List.getD,List.getElem?_eq_getElem hk']
    have e3:u=intL zs[k]:=by
      rw [List.getElem?_map,List.getElem?_eq_getElem (by rw [hln];exact hk),Option.map_some,Option.some.injEq] at hu
      rw [← hu,List.getElem_take]
    subst e3
    rw [e2] at h1
    exact⟨b,off,rfl,World.block_lt_of_cell? w _ h1,h1⟩
theorem fields_ofT {t:TypeId} {fs:Array Field} {fuel:Nat} {cs:List Value} {x:DataW H×List MemPlace} (hu:Tryz.prog.underlying t=some (.struct fs)) (h:DataW.trod enc Tryz.prog w base spare held fuel t cs=some x) :
    cs.length=Tryz.prog.cellsOf t∧∃ n,∀ (i T o s:Nat),(fs[i]?).map (fun f=>(f.type,f.offset))=some (T,o)→Tryz.prog.cellsOf T=s→∃ y,DataW.trod enc Tryz.prog w base spare held n T ((cs.drop o).take s)=some y:=by
  obtain⟨xs,n,_,_,hcl,hxl,hf⟩:=DataW.trod_struct hu h
  refine⟨hcl,n,fun i T o s h1 h2=>?_⟩
  cases hq:fs[i]? with
  | none=>rw [hq] at h1;cases h1
  | some f=>
    rw [hq] at h1
    simp only [Option.map_some,Option.some.injEq,Prod.mk.injEq] at h1
    obtain⟨rfl,rfl⟩:=h1
    subst h2
    have hi:i < xs.length:=by rw [hxl];exact (Array.getElem?_eq_some_iff.1 hq).1
    exact⟨xs[i],(hf i f hq).trans (List.getElem?_eq_getElem hi)⟩
theorem open_pairs {fuel:Nat} {v:Value} {x:DataW H×List MemPlace} (h:DataW.trod enc Tryz.prog w base spare held fuel 26 [v]=some x) :
    ∃ (A:Option Addr) (c:Nat) (l:List (Int×Int)),v=.slice A l.length c∧FlatQ (fun b=>b < w.heap.size) w A (pairC l)∧∀ p∈l,I64 p.1∧I64 p.2:=by
  rcases open_slice Tryz.underlying26 h with ⟨hcs,_⟩ | ⟨a,len,cap,m,n,D,Pl,hcs,_,hl,hm,hmm,_,hx⟩
  · simp at hcs
    subst hcs
    exact⟨none,0,[],rfl,FlatQ.nil _ _ _,fun x hx=>by cases hx⟩
  · simp at hcs
    subst hcs
    have k1:Tryz.prog.cellsOf 151=2:=by kernel_rfl
    have hlm:len≤m:=by rw [hmm];split <;> omega
    obtain⟨b,off,spot⟩:=a
    have e1:∀ j,(⟨b,off,none⟩:Addr).add j=⟨b,off+j,none⟩:=fun j=>by unfold Addr.add;split <;> simp_all
    obtain⟨L,hL,hLL⟩:=list_ofT (p:=fun i (v:Int×Int)=>spot=none∧b < w.heap.size∧(I64 v.1∧I64 v.2)∧w.cell? ⟨b,off+2 * i,none⟩=some (.int .i64 v.1)∧w.cell? ⟨b,off+2 * i+1,none⟩=some (.int .i64 v.2)) len (fun i hi=>by
      obtain⟨cs',h1,h2⟩:=hx i (by omega)
      rw [k1] at h1
      obtain⟨_,hlen,hcell⟩:=World.cells?_some h1
      match cs',hlen with
      | [c0,c1],_=>
        obtain⟨_,n,hf⟩:=fields_ofT Tryz.underlying151 h2
        obtain⟨y0,g0⟩:=hf 0 2 0 1 (by kernel_rfl) (by kernel_rfl)
        obtain⟨y1,g1⟩:=hf 1 2 1 1 (by kernel_rfl) (by kernel_rfl)
        obtain⟨z0,q0,_,wf0⟩:=DataW.trod_int Tryz.underlying2 g0
        obtain⟨z1,q1,_,wf1⟩:=DataW.trod_int Tryz.underlying2 g1
        simp at q0 q1
        subst q0 q1
        have hspot:spot=none:=by
          obtain⟨cz,y1,_⟩:=hx 0 (by omega)
          rw [k1] at y1
          obtain⟨_,hl0,hc0⟩:=World.cells?_some y1
          have h0:=hc0 0 (by omega)
          rw [List.getElem?_eq_getElem (by omega)] at h0
          have h3:w.cell? ⟨b,off,spot⟩=some cz[0]:=by simpa [Addr.add] using h0
          exact World.cell?_spot h3
        subst hspot
        have h30:=hcell 0 (by omega)
        have h31:=hcell 1 (by omega)
        rw [add_add,e1] at h30 h31
        rw [show off+(i * 2+0)=off+2 * i from by omega] at h30
        rw [show off+(i * 2+1)=off+2 * i+1 from by omega] at h31
        exact⟨(z0,z1),rfl,World.block_lt_of_cell? w _ h30,⟨i64_wf wf0,i64_wf wf1⟩,h30,h31⟩)
    refine⟨some ⟨b,off,spot⟩,cap,L,by rw [hL],fun j u hu=>?_,fun p hp=>?_⟩
    · have hj:j < 2 * L.length:=by
        rcases Nat.lt_or_ge j (2 * L.length) with q | q
        · exact q
        · rw [List.getElem?_eq_none (by rw [pair_len];exact q)] at hu;cases hu
      obtain⟨i,hi⟩:∃ i,j=2 * i∨j=2 * i+1:=⟨j / 2,by omega⟩
      have hil:i < L.length:=by omega
      obtain⟨rfl,g2,_,g3,g4⟩:=hLL i hil
      obtain⟨p1,p2⟩:=pair_get L i hil
      rcases hi with rfl | rfl
      · rw [p1] at hu;injection hu with hu;subst hu
        exact⟨b,off,rfl,g2,g3⟩
      · rw [p2] at hu;injection hu with hu;subst hu
        exact⟨b,off,rfl,g2,g4⟩
    · obtain⟨i,hi,rfl⟩:=List.getElem_of_mem hp
      exact (hLL i hi).2.2.1
theorem int_ofT {fuel:Nat} {v:Value} {x:DataW H×List MemPlace} {T:TypeId} (hu:Tryz.prog.underlying T=some (.int .i64)) (h:DataW.trod enc Tryz.prog w base spare held fuel T [v]=some x):∃ n,v=.int .i64 n∧I64 n:=by
  obtain⟨n,e,-,wf⟩:=DataW.trod_int hu h
  injection e with e
  exact⟨n,e,i64_wf wf⟩
theorem trod_Step {fuel:Nat} {cs:List Value} {x:DataW H×List MemPlace} (h:DataW.trod enc Tryz.prog w base spare held fuel 30 cs=some x):∃ s,StpM (fun b=>b < w.heap.size) w cs s∧StpIn s:=by
  obtain⟨hl,n,hf⟩:=fields_ofT Tryz.underlying30 h
  have hl:cs.length=7:=hl.trans (by kernel_rfl)
  obtain⟨y0,q0⟩:=hf 0 3 0 1 (by kernel_rfl) (by kernel_rfl)
  obtain⟨y1,q1⟩:=hf 1 22 1 1 (by kernel_rfl) (by kernel_rfl)
  obtain⟨y2,q2⟩:=hf 2 3 2 1 (by kernel_rfl) (by kernel_rfl)
  obtain⟨y3,q3⟩:=hf 3 25 3 2 (by kernel_rfl) (by kernel_rfl)
  obtain⟨y4,q4⟩:=hf 4 28 5 2 (by kernel_rfl) (by kernel_rfl)
  obtain⟨hl3,n3,hf3⟩:=fields_ofT Tryz.underlying25 q3
  obtain⟨hl4,n4,hf4⟩:=fields_ofT Tryz.underlying28 q4
  obtain⟨y5,q5⟩:=hf3 0 3 0 1 (by kernel_rfl) (by kernel_rfl)
  obtain⟨y6,q6⟩:=hf3 1 23 1 1 (by kernel_rfl) (by kernel_rfl)
  obtain⟨y7,q7⟩:=hf4 0 2 0 1 (by kernel_rfl) (by kernel_rfl)
  obtain⟨y8,q8⟩:=hf4 1 26 1 1 (by kernel_rfl) (by kernel_rfl)
  match cs,hl with
  | [c0,c1,c2,c3,c4,c5,c6],_=>
    obtain⟨k,rfl,hk⟩:=int_ofT Tryz.underlying3 q0
    obtain⟨A1,d1,l1,rfl,-,-,-,f1⟩:=open_bytes Tryz.underlying22 Tryz.underlying5 (by kernel_rfl) q1
    obtain⟨m,rfl,hm⟩:=int_ofT Tryz.underlying3 q2
    obtain⟨i,rfl,hi⟩:=int_ofT Tryz.underlying3 q5
    obtain⟨A2,d2,l2,rfl,f2,i2⟩:=open_nums q6
    obtain⟨y,rfl,hy⟩:=int_ofT Tryz.underlying2 q7
    obtain⟨A3,d3,l3,rfl,f3,i3⟩:=open_pairs q8
    exact⟨⟨k,l1,m,i,l2,y,l3⟩,⟨⟨A1,d1,A2,d2,A3,d3,rfl,f1,f2,f3⟩⟩,⟨hk,hm,hi,hy,i2,i3⟩⟩
set_option maxRecDepth 100000 in
theorem open_step {r:Reach} {b0:Nat} {v:Value} {d:DataW H} {p:List MemPlace} (hv:Value.okWide Tryz.prog w r b0 30 v) (h:DataW.Trod enc Tryz.prog w base spare held 30 v d p):∃ (L:List Value) (s:StpK),v=.agg L.toArray∧StpM (fun b=>b < w.heap.size) w L s∧StpIn s:=by
  obtain⟨cs,rfl,hsz⟩:=okWide_struct Tryz.underlying30 hv
  obtain⟨fuel,hf⟩:=h
  obtain⟨l⟩:=cs
  obtain⟨s,h1,h2⟩:=trod_Step hf
  exact⟨l,s,rfl,h1,h2⟩
end
def nodZ:Array Value:=#[.int .i64 0,.int .i64 0,.int .i64 0,.slice none 0 0,.int .i64 0,.pointer none,.int .i32 0,.int .i32 0,.int .i32 0,.int .i32 0,.int .i32 0,.int .i32 0,.int .i32 0,.int .i64 0,.int .i64 0,.pointer none,.pointer none,.pointer none,.pointer none,.int .i64 0,.bool false,.int .i32 0,.int .i32 0,.int .i32 0,.pointer none,.bool false,.int .u32 0,.int .i64 0,.int .i64 0,.int .i64 0,.int .i64 0]
theorem build_nodZ (w:World):(Instr.build 74 #[]).run Tryz.prog w=.ok (.agg nodZ) w:=by kernel_rfl
theorem few_world {w:World} {C:List Value} {s:StpK} {Q:Nat→Prop} (h:StpM Q w C s) {W:World} (hk:∀ b,Q b→W.heap[b]?=w.heap[b]?) {b:Nat} (hr:W.rangeAt b 0 C):FlatQ (fun _=>True) W (some ⟨b,0,none⟩) (List.flatten [C])∧StpsM Q W [C] [s]:=by
  refine⟨fun j u hu=>⟨b,0,rfl,trivial,?_⟩,⟨rfl,fun i h1 h2=>?_⟩⟩
  · rw [List.flatten_cons,List.flatten_nil,List.append_nil] at hu
    exact hr j u hu
  · have:i=0:=by simpa using h1
    subst this
    exact h.keep hk fun _ q=>q
section
variable {P : Program} {ops : Array Oper} {o : Oper} {a : Act} {w : World} {Q : Exit → Act → World → Prop}
theorem wp_execN {K:Act→World→Prop} {v:Value} (hex:(execOp a.eval o).run P w=.ok (.value v) w) (h:K (a.put o.dst v) w):o.wp P a w K Q:=by
  unfold Oper.wp
  rw [hex]
  exact h
theorem build0_execN {t:TypeId} (ho:o.op=.build t #[]) {v:Value} (hr:(Instr.build t #[]).run P w=.ok v w):(execOp a.eval o).run P w=.ok (.value v) w:=by
  unfold execOp;rw [ho];simp [hr]
theorem wp_binopN {K:Act→World→Prop} (bo:BinOp) (xT:TypeId) (x y:Operand) (yT:TypeId) (ho:o.op=.binOp bo xT x y yT) {u v r:Value} (hx:a.eval x=u) (hy:a.eval y=v) (hg:(eqGuard bo xT x y u v).run P w=.ok () w) (hr:(binOp bo xT u v).run P w=.ok r w)
    (h:K (a.put o.dst r) w):o.wp P a w K Q:=by
  unfold Oper.wp execOp
  rw [ho]
  simp only [hx,hy,Sem.run_bind,hg,hr,Result.andThen_ok,Sem.run_pure]
  exact h
end
set_option maxHeartbeats 2000000 in
set_option maxRecDepth 100000 in
theorem nodeNil_any {w:World} (C:List Value) (s:StpK) (h:StpM (fun b=>b < w.heap.size) w C s):Calls Tryz.prog 3 #[.agg C.toArray] w fun e w'=>e=.returned (.bool true)∧Below w.heap.size w w':=by
  have HKN:=fun W=>Lib.hid (knows44_any W)
  have hb2:Below w.heap.size w ((w.alloc (.cells C.toArray 30)).alloc (.cells C.toArray 30)):=bthen (below_new _ _) (below_new _ _)
  have hrg:((w.alloc (.cells C.toArray 30)).alloc (.cells C.toArray 30)).rangeAt (w.heap.size+1) 0 C:=by
    have:=(Blk.newL (L:=C) (grew_alloc (w.alloc (.cells C.toArray 30)) C.toArray 30) rfl).rg
    rwa [World.size_alloc] at this
  obtain⟨f1,f2⟩:=few_world h (fun b q=>hb2.block b q) hrg
  have HFW:=Lib.hid (few44_any (some ⟨w.heap.size+1,0,none⟩) 1 f1 f2 1 (by simp))
  have hc0:=(Blk.newL (L:=C) (grew_alloc w C.toArray 30) rfl).on (below_new (w.alloc (.cells C.toArray 30)) (.cells C.toArray 30))
  obtain⟨A1,c1,A2,c2,A3,c3,rfl,-,-,-⟩:=h.it
  have HC0:=Lib.hid hc0
  have HB2:=Lib.hid hb2
  have HBZ:=fun W=>Lib.hid (build_nodZ W)
  clear hb2 hrg f1 f2 h hc0
  unfold stpC at *
  go_enter Tryz.func3,Tryz.ntmps3
  go_wp2_with fail
  refine HFW.out.mono ?_
  rintro e w2 ⟨rfl,rfl⟩
  by_cases hf:fewB [s] 1=true
  case neg=>
    rw [Bool.not_eq_true] at hf
    rw [hf]
    go_wp2_with fail
    refine (HKN _).out.mono ?_
    rintro e w3 ⟨rfl,hb3⟩
    go_wp2_with fail
    go_ret
    exact⟨rfl,bthen HB2.out hb3⟩
  rw [hf]
  generalize (w.alloc (.cells #[.int .i64 s.k,.slice A1 s.b.length c1,.int .i64 s.n,.int .i64 s.id,.slice A2 s.v.length c2,.int .i64 s.y,.slice A3 s.l.length c3] 30)).alloc (.cells #[.int .i64 s.k,.slice A1 s.b.length c1,.int .i64 s.n,.int .i64 s.id,.slice A2 s.v.length c2,.int .i64 s.y,.slice A3 s.l.length c3] 30)=W2 at *
  clear HFW hf
  go_wp2_with fail
  go_loopw [3,4] (fun s3 s4 wr=>∃ k:Nat,k≤2∧s4=.int .i64 k∧Hid (NoNode wr s3)∧Hid (Below W2.heap.size W2 wr)) (fun _ s4 _=>2 - (intOf s4).toNat)
  case atStart=>exact⟨0,by omega,rfl,.inl rfl,Below.refl _ _⟩
  case round=>
    obtain⟨k,hk,rfl,HN,HB⟩:=hrel
    by_cases hk2:(k:Int) < 2
    · have hc:=HC0.out.on HB.out
      have s0:=hc.cell 0 (v:=.int .i64 s.k) rfl
      have s1:=hc.cell 1 (v:=.slice A1 s.b.length c1) rfl
      have s2:=hc.cell 2 (v:=.int .i64 s.n) rfl
      have s3:=hc.cell 3 (v:=.int .i64 s.id) rfl
      have s4:=hc.cell 4 (v:=.slice A2 s.v.length c2) rfl
      have s5:=hc.cell 5 (v:=.int .i64 s.y) rfl
      have s6:=hc.cell 6 (v:=.slice A3 s.l.length c3) rfl
      clear hc
      go_wp2_with fail
      refine (nodLogged_no HN.out).mono ?_
      rintro e wx ⟨rfl,rfl⟩
      go_wp2_with fail
      refine (nodDo_no HN.out [.int .i64 s.k,.slice A1 s.b.length c1,.int .i64 s.n,.int .i64 s.id,.slice A2 s.v.length c2,.int .i64 s.y,.slice A3 s.l.length c3]).mono ?_
      rintro e w3 ⟨rfl,hb3⟩
      have HN3:=Lib.hid (HN.out.on hb3)
      have HB3:=Lib.hid (bthen HB.out hb3)
      clear hb3 s0 s1 s2 s3 s4 s5 s6 HN HB
      go_wp2_with fail
      refine (nodNow_no HN3.out).mono ?_
      rintro e wx ⟨rfl,rfl⟩
      go_wp2_with fail
      refine (nodViews_no HN3.out).mono ?_
      rintro e wx ⟨rfl,rfl⟩
      go_wp2_with fail
      refine (nodSkips_no HN3.out).mono ?_
      rintro e wx ⟨rfl,rfl⟩
      go_wp2_with fail
      refine (nodRest_no HN3.out).mono ?_
      rintro e wx ⟨rfl,rfl⟩
      go_wp2_with fail
      refine (nodHeard_no HN3.out).mono ?_
      rintro e wx ⟨rfl,rfl⟩
      go_wp2_with fail
      refine (nodWaiting_no HN3.out).mono ?_
      rintro e wx ⟨rfl,rfl⟩
      go_wp2_with fail
      refine (nodTimers_no HN3.out).mono ?_
      rintro e wx ⟨rfl,rfl⟩
      go_wp2_with fail
      refine (nodFilter_no HN3.out).mono ?_
      rintro e w4 ⟨rfl,hb4⟩
      have HN4:=Lib.hid (HN3.out.on hb4)
      have HB4:=Lib.hid (bthen HB3.out hb4)
      clear hb4 HN3 HB3
      dsimp only
      repeat (fail_if_success (show Oper.wp _ ⟨some 60, _, _, _, _, _⟩ _ _ _ _)
              first | go_values | go_skip | go_guarded | go_step | go_upon)
      refine wp_execN (v:=.agg (stZ9)) (build0_execN rfl (build_Filter _)) ?_
      go_step
      go_simp
      go_guarded
      refine wp_binopN .neq 52 (.tmp 59) (.tmp 60) 52 (by kernel_rfl) (u:=.agg (stZ9)) (v:=.agg (stZ9)) (by kernel_rfl) (by kernel_rfl) (neg_Filter _ _ _) (neq_Filter _) ?_
      go_wp2_with fail
      refine (nodWhere_no HN4.out).mono ?_
      rintro e w5 ⟨rfl,hb5⟩
      have HN5:=Lib.hid (HN4.out.on hb5)
      have HB5:=Lib.hid (bthen HB4.out hb5)
      clear hb5 HN4 HB4
      dsimp only
      repeat (fail_if_success (show Oper.wp _ ⟨some 66, _, _, _, _, _⟩ _ _ _ _)
              first | go_values | go_skip | go_guarded | go_step | go_upon)
      refine wp_execN (v:=.agg (plZ4)) (build0_execN rfl (build_Where _)) ?_
      go_step
      go_simp
      go_guarded
      refine wp_binopN .neq 55 (.tmp 65) (.tmp 66) 55 (by kernel_rfl) (u:=.agg (plZ4)) (v:=.agg (plZ4)) (by kernel_rfl) (by kernel_rfl) (neg_Where _ _ _) (neq_Where _) ?_
      go_wp2_with fail
      refine (nodCounts_no HN5.out).mono ?_
      rintro e w6 ⟨rfl,hb6⟩
      have HN6:=Lib.hid (HN5.out.on hb6)
      have HB6:=Lib.hid (bthen HB5.out hb6)
      clear hb6 HN5 HB5
      dsimp only
      repeat (fail_if_success (show Oper.wp _ ⟨some 72, _, _, _, _, _⟩ _ _ _ _)
              first | go_values | go_skip | go_guarded | go_step | go_upon)
      refine wp_execN (v:=.agg (cntA z13)) (build0_execN rfl (build_Counts _)) ?_
      go_step
      go_simp
      go_guarded
      refine wp_binopN .neq 59 (.tmp 71) (.tmp 72) 59 (by kernel_rfl) (u:=.agg (cntA z13)) (v:=.agg (cntA z13)) (by kernel_rfl) (by kernel_rfl) (neg_Counts _ _ _) (neq_Counts _) ?_
      go_wp2_with (first
        | refine wpList_build0 rfl 74 rfl (HBZ _).out ?_
        | (refine wpList_box_new rfl _ _ rfl nodZ rfl ?_;intro W1 hW;have HD1:Hid (NoNode W1 (.pointer (some ⟨w6.heap.size,0,none⟩))):=Lib.hid (.inr ⟨_,rfl,hW.cell 5 rfl⟩);have HB7:=Lib.hid (bthen HB6.out hW.bel);clear hW))
      go_roundw
      case rel=>exact⟨k+1,by omega,by go_num,HD1,HB7⟩
      case measure=>simp [intOf];omega
    · go_wp2_with fail
      refine (HKN _).out.mono ?_
      rintro e w' ⟨rfl,hb⟩
      have HB1:=Lib.hid (HB2.out.trans ((bthen HB.out hb).mono HB2.out.size))
      clear hb HB HN
      go_wp2_with fail
      go_ret
      exact⟨rfl,HB1.out⟩
theorem nodeNil_walk (C:List Value) (s:StpK) (w:World) (h:StpM (fun b=>b < w.heap.size) w C s) (_:StpIn s):Calls Tryz.prog 3 #[.agg C.toArray] w fun e w'=>e=.returned (.bool true)∧Below w.heap.size w w':=nodeNil_any C s h
end Go.Proofs.YtaiepcgfofpmjaaGreat
