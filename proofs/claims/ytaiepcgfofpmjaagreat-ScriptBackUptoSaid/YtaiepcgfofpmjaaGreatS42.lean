/- Arguments opened: bytes. -/
import Derived.Test.YtaiepcgfofpmjaaGreatS05
import Derived.ShutString
import Derived.OpenShut
import Derived.ChangeSame
import Derived.ChangeSlices
import Derived.Lib.SmallJoins
import Derived.Deep.Slices
import Derived.Deep.Strs
import Derived.Test.YtaiepcgfofpmjaaGreatS38
import Derived.Test.YtaiepcgfofpmjaaGreatS36
import Derived.Test.YtaiepcgfofpmjaaGreatS41
namespace Go.Proofs.YtaiepcgfofpmjaaGreat
set_option linter.unusedVariables false
open Go.RowKit
open Go.ChangeShapes Go.WideShapes Go.ChangeAt Go.RowKit Go.Joins Go.Deep
section
variable {H : Type} {enc : TypeId × Value → H} {P : Program} {w : World} {base : Nat} {spare : Nat → Bool} {held : Bool}
theorem open_bytes {t e:TypeId} {fuel:Nat} {v:Value} {x:DataW H×List MemPlace} (ht:P.underlying t=some (.slice e)) (he:P.underlying e=some (.int .u8)) (hc:P.cellsOf e=1) (h:DataW.trod enc P w base spare held fuel t [v]=some x) :
    ∃ (A:Option Addr) (c:Nat) (l:List UInt8),v=.slice A l.length c∧l.length≤maxLen∧l.length≤c∧(A=none→c=0)∧FlatQ (fun b=>b < w.heap.size) w A (bsV l):=by
  rcases open_ints ht he hc h with ⟨hcs,_⟩ | ⟨a,len,cap,zs,hcs,_,hl,hm,hmm,_,hcell,hwf⟩
  · simp at hcs
    subst hcs
    exact⟨none,0,[],rfl,Nat.zero_le _,Nat.le_refl _,fun _=>rfl,FlatQ.nil _ _ _⟩
  · simp at hcs
    subst hcs
    have hlm:len≤zs.length:=by rw [hmm];split <;> omega
    have hln:((zs.take len).map fun z=>UInt8.ofNat z.toNat).length=len:=by rw [List.length_map,List.length_take,Nat.min_eq_left hlm]
    obtain⟨b,off,spot⟩:=a
    have e1:∀ j,(⟨b,off,none⟩:Addr).add j=⟨b,off+j,none⟩:=fun j=>by unfold Addr.add;split <;> simp_all
    refine⟨some ⟨b,off,spot⟩,cap,(zs.take len).map fun z=>UInt8.ofNat z.toNat,by rw [hln],by rw [hln];omega,by rw [hln];exact hl,(fun q=>by cases q),fun k u hu=>?_⟩
    have hk:k < len:=by
      rcases Nat.lt_or_ge k len with q | q
      · exact q
      · rw [List.getElem?_eq_none (by rw [bsV_len,hln];exact q)] at hu;cases hu
    have hk':k < zs.length:=by omega
    have hspot:spot=none:=by
      have h0:=hcell 0 (by omega)
      have h3:w.cell? ⟨b,off,spot⟩=some (.int .u8 (zs.getD 0 0)):=by simpa [Addr.add] using h0
      exact World.cell?_spot h3
    subst hspot
    have h1:=hcell k hk'
    rw [e1] at h1
    have hw:=hwf zs[k] (List.getElem_mem hk')
    have hmin:IntKind.u8.min=0:=rfl
    have hmax:IntKind.u8.max=255:=rfl
    simp only [Lit.wf,Bool.and_eq_true,decide_eq_true_eq] at hw
    have e2:zs.getD k 0=zs[k]:=by simp [List.getD,List.getElem?_eq_getElem hk']
    have e3:u=.int .u8 zs[k]:=by
      rw [bsV_get (by rw [hln];exact hk),Option.some.injEq] at hu
      rw [← hu]
      unfold bV
      rw [List.getElem_map,List.getElem_take]
      congr 1
      rw [UInt8.toNat_ofNat_of_lt' (show zs[k].toNat < 2 ^ 8 by omega)]
      omega
    subst e3
    rw [e2] at h1
    exact⟨b,off,rfl,World.block_lt_of_cell? w _ h1,h1⟩
end
open Go.ChangeShapes Go.WideShapes Go.ChangeAt Go.RowKit Go.Joins Go.Deep
set_option maxRecDepth 100000
theorem list_ofT {α:Type} {p:Nat→α→Prop}:∀ (n:Nat),(∀ i,i < n→∃ v,p i v)→∃ L:List α,L.length=n∧∀ k (h:k < L.length),p k L[k]
  | 0,_=>⟨[],rfl,fun k h=>absurd h (Nat.not_lt_zero _)⟩
  | n+1,h=>by
    obtain⟨L,h1,h2⟩:=list_ofT n fun i hi=>h i (Nat.lt_succ_of_lt hi)
    obtain⟨v,hv⟩:=h n (Nat.lt_succ_self n)
    refine⟨L++[v],by simp [h1],fun k hk=>?_⟩
    by_cases q:k < L.length
    · rw [List.getElem_append_left q];exact h2 k q
    · have e:k=n:=by simp [h1] at hk;omega
      subst e
      rw [List.getElem_append_right (by omega)]
      simpa [h1] using hv
theorem i64_wf {n:Int} (h:(Lit.int .i64 n).wf=true):I64 n:=by
  have hmin:IntKind.i64.min=-9223372036854775808:=rfl
  have hmax:IntKind.i64.max=9223372036854775807:=rfl
  simp only [Lit.wf,Bool.and_eq_true,decide_eq_true_eq] at h
  unfold I64
  omega
theorem pair_len (l:List (Int×Int)):(pairC l).length=2 * l.length:=by
  induction l with
  | nil=>rfl
  | cons p r ih=>
    show (pairC r).length+1+1=_
    rw [ih,List.length_cons]
    omega
theorem pair_get:∀ (l:List (Int×Int)) (i:Nat) (h:i < l.length),(pairC l)[2 * i]?=some (.int .i64 l[i].1)∧(pairC l)[2 * i+1]?=some (.int .i64 l[i].2)
  | p :: r,0,_=>⟨rfl,rfl⟩
  | p :: r,i+1,h=>by
    have:=pair_get r i (by rw [List.length_cons] at h;omega)
    rw [show 2 * (i+1)=2 * i+1+1 from by omega]
    exact this
structure StpIn (s:StpK):Prop where
  k:I64 s.k
  n:I64 s.n
  id:I64 s.id
  y:I64 s.y
  v:∀ x∈s.v,I64 x
  l:∀ p∈s.l,I64 p.1∧I64 p.2
section
variable {H : Type} {enc : TypeId × Value → H} {w : World} {base : Nat} {spare : Nat → Bool} {held : Bool}
theorem open_nums {fuel:Nat} {v:Value} {x:DataW H×List MemPlace} (h:DataW.trod enc Tryz.prog w base spare held fuel 23 [v]=some x) :
    ∃ (A:Option Addr) (c:Nat) (l:List Int),v=.slice A l.length c∧FlatQ (fun b=>b < w.heap.size) w A (l.map intL)∧∀ x∈l,I64 x:=by
  rcases open_ints Tryz.underlying23 Tryz.underlying2 (by kernel_rfl) h with ⟨hcs,_⟩ | ⟨a,len,cap,zs,hcs,_,hl,hm,hmm,_,hcell,hwf⟩
  · simp at hcs
    subst hcs
    exact⟨none,0,[],rfl,FlatQ.nil _ _ _,fun x hx=>by cases hx⟩
  · simp at hcs
    subst hcs
    have hlm:len≤zs.length:=by rw [hmm];split <;> omega
    obtain⟨b,off,spot⟩:=a
    have e1:∀ j,(⟨b,off,none⟩:Addr).add j=⟨b,off+j,none⟩:=fun j=>by unfold Addr.add;split <;> simp_all
    have hln:(zs.take len).length=len:=by rw [List.length_take,Nat.min_eq_left hlm]
    refine⟨some ⟨b,off,spot⟩,cap,zs.take len,by rw [hln],fun k u hu=>?_,fun x hx=>i64_wf (hwf x (List.mem_of_mem_take hx))⟩
    have hk:k < len:=by
      rcases Nat.lt_or_ge k len with q | q
      · exact q
      · rw [List.getElem?_eq_none (by rw [List.length_map,hln];exact q)] at hu;cases hu
    have hk':k < zs.length:=by omega
    have hspot:spot=none:=by
      have h0:=hcell 0 (by omega)
      have h3:w.cell? ⟨b,off,spot⟩=some (.int .i64 (zs.getD 0 0)):=by simpa [Addr.add] using h0
      exact World.cell?_spot h3
    subst hspot
    have h1:=hcell k hk'
    rw [e1] at h1
    have e2:zs.getD k 0=zs[k]:=by simp [List.getD,List.getElem?_eq_getElem hk']
    have e3:u=intL zs[k]:=by
      rw [List.getElem?_map,List.getElem?_eq_getElem (by rw [hln];exact hk),Option.map_some,Option.some.injEq] at hu
      rw [← hu,List.getElem_take]
    subst e3
    rw [e2] at h1
    exact⟨b,off,rfl,World.block_lt_of_cell? w _ h1,h1⟩
theorem fields_ofT {t:TypeId} {fs:Array Field} {fuel:Nat} {cs:List Value} {x:DataW H×List MemPlace} (hu:Tryz.prog.underlying t=some (.struct fs)) (h:DataW.trod enc Tryz.prog w base spare held fuel t cs=some x) :
    cs.length=Tryz.prog.cellsOf t∧∃ n,∀ (i T o s:Nat),(fs[i]?).map (fun f=>(f.type,f.offset))=some (T,o)→Tryz.prog.cellsOf T=s→∃ y,DataW.trod enc Tryz.prog w base spare held n T ((cs.drop o).take s)=some y:=by
  obtain⟨xs,n,_,_,hcl,hxl,hf⟩:=DataW.trod_struct hu h
  refine⟨hcl,n,fun i T o s h1 h2=>?_⟩
  cases hq:fs[i]? with
  | none=>rw [hq] at h1;cases h1
  | some f=>
    rw [hq] at h1
    simp only [Option.map_some,Option.some.injEq,Prod.mk.injEq] at h1
    obtain⟨rfl,rfl⟩:=h1
    subst h2
    have hi:i < xs.length:=by rw [hxl];exact (Array.getElem?_eq_some_iff.1 hq).1
    exact⟨xs[i],(hf i f hq).trans (List.getElem?_eq_getElem hi)⟩
theorem open_pairs {fuel:Nat} {v:Value} {x:DataW H×List MemPlace} (h:DataW.trod enc Tryz.prog w base spare held fuel 26 [v]=some x) :
    ∃ (A:Option Addr) (c:Nat) (l:List (Int×Int)),v=.slice A l.length c∧FlatQ (fun b=>b < w.heap.size) w A (pairC l)∧∀ p∈l,I64 p.1∧I64 p.2:=by
  rcases open_slice Tryz.underlying26 h with ⟨hcs,_⟩ | ⟨a,len,cap,m,n,D,Pl,hcs,_,hl,hm,hmm,_,hx⟩
  · simp at hcs
    subst hcs
    exact⟨none,0,[],rfl,FlatQ.nil _ _ _,fun x hx=>by cases hx⟩
  · simp at hcs
    subst hcs
    have k1:Tryz.prog.cellsOf 151=2:=by kernel_rfl
    have hlm:len≤m:=by rw [hmm];split <;> omega
    obtain⟨b,off,spot⟩:=a
    have e1:∀ j,(⟨b,off,none⟩:Addr).add j=⟨b,off+j,none⟩:=fun j=>by unfold Addr.add;split <;> simp_all
    obtain⟨L,hL,hLL⟩:=list_ofT (p:=fun i (v:Int×Int)=>spot=none∧b < w.heap.size∧(I64 v.1∧I64 v.2)∧w.cell? ⟨b,off+2 * i,none⟩=some (.int .i64 v.1)∧w.cell? ⟨b,off+2 * i+1,none⟩=some (.int .i64 v.2)) len (fun i hi=>by
      obtain⟨cs',h1,h2⟩:=hx i (by omega)
      rw [k1] at h1
      obtain⟨_,hlen,hcell⟩:=World.cells?_some h1
      match cs',hlen with
      | [c0,c1],_=>
        obtain⟨_,n,hf⟩:=fields_ofT Tryz.underlying151 h2
        obtain⟨y0,g0⟩:=hf 0 2 0 1 (by kernel_rfl) (by kernel_rfl)
        obtain⟨y1,g1⟩:=hf 1 2 1 1 (by kernel_rfl) (by kernel_rfl)
        obtain⟨z0,q0,_,wf0⟩:=DataW.trod_int Tryz.underlying2 g0
        obtain⟨z1,q1,_,wf1⟩:=DataW.trod_int Tryz.underlying2 g1
        simp at q0 q1
        subst q0 q1
        have hspot:spot=none:=by
          obtain⟨cz,y1,_⟩:=hx 0 (by omega)
          rw [k1] at y1
          obtain⟨_,hl0,hc0⟩:=World.cells?_some y1
          have h0:=hc0 0 (by omega)
          rw [List.getElem?_eq_getElem (by omega)] at h0
          have h3:w.cell? ⟨b,off,spot⟩=some cz[0]:=by simpa [Addr.add] using h0
          exact World.cell?_spot h3
        subst hspot
        have h30:=hcell 0 (by omega)
        have h31:=hcell 1 (by omega)
        rw [add_add,e1] at h30 h31
        rw [show off+(i * 2+0)=off+2 * i from by omega] at h30
        rw [show off+(i * 2+1)=off+2 * i+1 from by omega] at h31
        exact⟨(z0,z1),rfl,World.block_lt_of_cell? w _ h30,⟨i64_wf wf0,i64_wf wf1⟩,h30,h31⟩)
    refine⟨some ⟨b,off,spot⟩,cap,L,by rw [hL],fun j u hu=>?_,fun p hp=>?_⟩
    · have hj:j < 2 * L.length:=by
        rcases Nat.lt_or_ge j (2 * L.length) with q | q
        · exact q
        · rw [List.getElem?_eq_none (by rw [pair_len];exact q)] at hu;cases hu
      obtain⟨i,hi⟩:∃ i,j=2 * i∨j=2 * i+1:=⟨j / 2,by omega⟩
      have hil:i < L.length:=by omega
      obtain⟨rfl,g2,_,g3,g4⟩:=hLL i hil
      obtain⟨p1,p2⟩:=pair_get L i hil
      rcases hi with rfl | rfl
      · rw [p1] at hu;injection hu with hu;subst hu
        exact⟨b,off,rfl,g2,g3⟩
      · rw [p2] at hu;injection hu with hu;subst hu
        exact⟨b,off,rfl,g2,g4⟩
    · obtain⟨i,hi,rfl⟩:=List.getElem_of_mem hp
      exact (hLL i hi).2.2.1
theorem int_ofT {fuel:Nat} {v:Value} {x:DataW H×List MemPlace} {T:TypeId} (hu:Tryz.prog.underlying T=some (.int .i64)) (h:DataW.trod enc Tryz.prog w base spare held fuel T [v]=some x):∃ n,v=.int .i64 n∧I64 n:=by
  obtain⟨n,e,-,wf⟩:=DataW.trod_int hu h
  injection e with e
  exact⟨n,e,i64_wf wf⟩
end
theorem few_world {w:World} {C:List Value} {s:StpK} {Q:Nat→Prop} (h:StpM Q w C s) {W:World} (hk:∀ b,Q b→W.heap[b]?=w.heap[b]?) {b:Nat} (hr:W.rangeAt b 0 C):FlatQ (fun _=>True) W (some ⟨b,0,none⟩) (List.flatten [C])∧StpsM Q W [C] [s]:=by
  refine⟨fun j u hu=>⟨b,0,rfl,trivial,?_⟩,⟨rfl,fun i h1 h2=>?_⟩⟩
  · rw [List.flatten_cons,List.flatten_nil,List.append_nil] at hu
    exact hr j u hu
  · have:i=0:=by simpa using h1
    subst this
    exact h.keep hk fun _ q=>q
section
variable {P : Program} {ops : Array Oper} {o : Oper} {a : Act} {w : World} {Q : Exit → Act → World → Prop}
end
open Go.ChangeShapes Go.WideShapes Go.ChangeAt Go.RowKit Go.Joins Go.Deep
set_option maxRecDepth 100000
section
variable {H : Type} {enc : TypeId × Value → H} {P : Program} {w : World} {base : Nat} {spare : Nat → Bool} {held : Bool}
theorem bytes_lenU {t u:TypeId} {fuel:Nat} {A:Option Addr} {n c:Nat} {x:DataW H×List MemPlace} (bk:DataW H→Nat) (hb1:∀ els sp,els.length≤bk (.slice els sp)) (ht:P.underlying t=some (.slice u)) (h:DataW.trod enc P w base spare held fuel t [.slice A n c]=some x):n≤bk x.1:=by
  rcases open_slice ht h with ⟨hcs,_⟩ | ⟨a,len,cap,m,n',D,Pl,hcs,_,hl,hm,hmm,he,hx⟩
  · simp at hcs
    omega
  · simp at hcs
    obtain⟨-,rfl,-⟩:=hcs
    rw [he]
    have:=hb1 ((List.range n).map D) ((List.range (m - n)).map fun j=>D (n+j))
    simpa using this
end
section
variable {H : Type} {enc : TypeId × Value → H} {w : World} {base : Nat} {spare : Nat → Bool} {held : Bool}
theorem fields_ofU {t:TypeId} {fs:Array Field} {fuel:Nat} {cs:List Value} {x:DataW H×List MemPlace} (hu:Tryz.prog.underlying t=some (.struct fs)) (h:DataW.trod enc Tryz.prog w base spare held fuel t cs=some x) :
    cs.length=Tryz.prog.cellsOf t∧∃ n ps,x.1=.agg ps∧∀ (i T o s:Nat),(fs[i]?).map (fun f=>(f.type,f.offset))=some (T,o)→Tryz.prog.cellsOf T=s→∃ y,DataW.trod enc Tryz.prog w base spare held n T ((cs.drop o).take s)=some y∧y.1∈ps:=by
  obtain⟨xs,n,_,hx,hcl,hxl,hf⟩:=DataW.trod_struct hu h
  refine⟨hcl,n,xs.map (·.1),by rw [hx],fun i T o s h1 h2=>?_⟩
  cases hq:fs[i]? with
  | none=>rw [hq] at h1;cases h1
  | some f=>
    rw [hq] at h1
    simp only [Option.map_some,Option.some.injEq,Prod.mk.injEq] at h1
    obtain⟨rfl,rfl⟩:=h1
    subst h2
    have hi:i < xs.length:=by rw [hxl];exact (Array.getElem?_eq_some_iff.1 hq).1
    exact⟨xs[i],(hf i f hq).trans (List.getElem?_eq_getElem hi),List.mem_map.2 ⟨xs[i],List.getElem_mem hi,rfl⟩⟩
theorem trod_StepU (bk:DataW H→Nat) (hb1:∀ els sp,els.length≤bk (.slice els sp)) (hba:∀ ps p,p∈ps→bk p≤bk (.agg ps)) {fuel:Nat} {cs:List Value} {x:DataW H×List MemPlace} (h:DataW.trod enc Tryz.prog w base spare held fuel 30 cs=some x):∃ s,StpM (fun b=>b < w.heap.size) w cs s∧StpIn s∧s.b.length≤bk x.1:=by
  obtain⟨hl,n,ps,hps,hf⟩:=fields_ofU Tryz.underlying30 h
  have hl:cs.length=7:=hl.trans (by kernel_rfl)
  obtain⟨y0,q0,m0⟩:=hf 0 3 0 1 (by kernel_rfl) (by kernel_rfl)
  obtain⟨y1,q1,m1⟩:=hf 1 22 1 1 (by kernel_rfl) (by kernel_rfl)
  obtain⟨y2,q2,m2⟩:=hf 2 3 2 1 (by kernel_rfl) (by kernel_rfl)
  obtain⟨y3,q3,m3⟩:=hf 3 25 3 2 (by kernel_rfl) (by kernel_rfl)
  obtain⟨y4,q4,m4⟩:=hf 4 28 5 2 (by kernel_rfl) (by kernel_rfl)
  obtain⟨hl3,n3,hf3⟩:=fields_ofT Tryz.underlying25 q3
  obtain⟨hl4,n4,hf4⟩:=fields_ofT Tryz.underlying28 q4
  obtain⟨y5,q5⟩:=hf3 0 3 0 1 (by kernel_rfl) (by kernel_rfl)
  obtain⟨y6,q6⟩:=hf3 1 23 1 1 (by kernel_rfl) (by kernel_rfl)
  obtain⟨y7,q7⟩:=hf4 0 2 0 1 (by kernel_rfl) (by kernel_rfl)
  obtain⟨y8,q8⟩:=hf4 1 26 1 1 (by kernel_rfl) (by kernel_rfl)
  match cs,hl with
  | [c0,c1,c2,c3,c4,c5,c6],_=>
    obtain⟨k,rfl,hk⟩:=int_ofT Tryz.underlying3 q0
    obtain⟨A1,d1,l1,e1,-,-,-,f1⟩:=open_bytes Tryz.underlying22 Tryz.underlying5 (by kernel_rfl) q1
    have e1':c1=.slice A1 l1.length d1:=e1
    subst e1'
    have hbl:=bytes_lenU bk hb1 Tryz.underlying22 q1
    obtain⟨m,rfl,hm⟩:=int_ofT Tryz.underlying3 q2
    obtain⟨i,rfl,hi⟩:=int_ofT Tryz.underlying3 q5
    obtain⟨A2,d2,l2,rfl,f2,i2⟩:=open_nums q6
    obtain⟨y,rfl,hy⟩:=int_ofT Tryz.underlying2 q7
    obtain⟨A3,d3,l3,rfl,f3,i3⟩:=open_pairs q8
    exact⟨⟨k,l1,m,i,l2,y,l3⟩,⟨⟨A1,d1,A2,d2,A3,d3,rfl,f1,f2,f3⟩⟩,⟨hk,hm,hi,hy,i2,i3⟩,by rw [hps];exact Nat.le_trans hbl (hba ps y1.1 m1)⟩
set_option maxRecDepth 100000 in
theorem open_stepU (bk:DataW H→Nat) (hb1:∀ els sp,els.length≤bk (.slice els sp)) (hba:∀ ps p,p∈ps→bk p≤bk (.agg ps)) {r:Reach} {b0:Nat} {v:Value} {d:DataW H} {p:List MemPlace} (hv:Value.okWide Tryz.prog w r b0 30 v) (h:DataW.Trod enc Tryz.prog w base spare held 30 v d p):∃ (L:List Value) (s:StpK),v=.agg L.toArray∧StpM (fun b=>b < w.heap.size) w L s∧StpIn s∧s.b.length≤bk d:=by
  obtain⟨cs,rfl,hsz⟩:=okWide_struct Tryz.underlying30 hv
  obtain⟨fuel,hf⟩:=h
  obtain⟨l⟩:=cs
  obtain⟨s,h1,h2,h3⟩:=trod_StepU bk hb1 hba hf
  exact⟨l,s,rfl,h1,h2,h3⟩
theorem open_stepsU (bk:DataW H→Nat) (hb1:∀ els sp,els.length≤bk (.slice els sp)) (hba:∀ ps p,p∈ps→bk p≤bk (.agg ps)) (hbm:∀ els sp p,p∈els→bk p≤bk (.slice els sp)) {fuel:Nat} {v:Value} {x:DataW H×List MemPlace} (h:DataW.trod enc Tryz.prog w base spare held fuel 32 [v]=some x) :
    ∃ (A:Option Addr) (c:Nat) (Cs:List (List Value)) (ss:List StpK),v=.slice A ss.length c∧FlatQ (fun b=>b < w.heap.size) w A (List.flatten Cs)∧StpsM (fun b=>b < w.heap.size) w Cs ss∧(∀ s∈ss,StpIn s)∧ss.length≤maxLen∧∀ s∈ss,s.b.length≤bk x.1:=by
  rcases open_slice Tryz.underlying32 h with ⟨hcs,_⟩ | ⟨a,len,cap,m,n,D,Pl,hcs,_,hl,hm,hmm,hxx,hx⟩
  · simp at hcs
    subst hcs
    exact⟨none,0,[],[],rfl,FlatQ.nil _ _ _,StpsM.nil _ _,(fun x hx=>by cases hx),Nat.zero_le _,fun x hx=>by cases hx⟩
  · simp at hcs
    subst hcs
    have k1:Tryz.prog.cellsOf 30=7:=by kernel_rfl
    have hlm:len≤m:=by rw [hmm];split <;> omega
    obtain⟨b,off,spot⟩:=a
    have e1:∀ j,(⟨b,off,none⟩:Addr).add j=⟨b,off+j,none⟩:=fun j=>by unfold Addr.add;split <;> simp_all
    obtain⟨L,hL,hLL⟩:=list_ofT (p:=fun i (z:List Value×StpK)=>spot=none∧b < w.heap.size∧StpM (fun b=>b < w.heap.size) w z.1 z.2∧StpIn z.2∧z.2.b.length≤bk (D i)∧∀ (j:Nat) u,z.1[j]?=some u→w.cell? ⟨b,off+(i * 7+j),none⟩=some u) len (fun i hi=>by
      obtain⟨cs',h1,h2⟩:=hx i (by omega)
      rw [k1] at h1
      obtain⟨_,hlen,hcell⟩:=World.cells?_some h1
      obtain⟨s,m1,m2,m3⟩:=trod_StepU bk hb1 hba h2
      have hspot:spot=none:=by
        obtain⟨cz,y1,_⟩:=hx 0 (by omega)
        rw [k1] at y1
        obtain⟨_,hl0,hc0⟩:=World.cells?_some y1
        have h0:=hc0 0 (by omega)
        rw [List.getElem?_eq_getElem (by omega)] at h0
        have h3:w.cell? ⟨b,off,spot⟩=some cz[0]:=by simpa [Addr.add] using h0
        exact World.cell?_spot h3
      subst hspot
      have hadd:∀ (j:Nat) u,cs'[j]?=some u→w.cell? ⟨b,off+(i * 7+j),none⟩=some u:=fun j u hu=>by
        have hj:j < 7:=by
          rcases Nat.lt_or_ge j 7 with q | q
          · exact q
          · rw [List.getElem?_eq_none (by omega)] at hu;cases hu
        have h3:=hcell j hj
        rw [add_add,e1] at h3
        exact h3.trans hu
      refine⟨(cs',s),rfl,?_,m1,m2,m3,hadd⟩
      exact World.block_lt_of_cell? w _ (hadd 0 cs'[0] (List.getElem?_eq_getElem (by omega))))
    have h7:∀ C∈L.map Prod.fst,C.length=7:=fun C hC=>by
      obtain⟨z,hz,rfl⟩:=List.mem_map.1 hC
      obtain⟨k,hk,rfl⟩:=List.getElem_of_mem hz
      exact (hLL k hk).2.2.1.len
    refine⟨some ⟨b,off,spot⟩,cap,L.map Prod.fst,L.map Prod.snd,by rw [List.length_map,hL],fun j u hu=>?_,⟨by simp,fun i h1 h2=>?_⟩,fun s hs=>?_,by rw [List.length_map,hL];omega,fun s hs=>?_⟩
    · have hfl:(List.flatten (L.map Prod.fst)).length=7 * L.length:=by
        have:∀ (M:List (List Value)),(∀ C∈M,C.length=7)→(List.flatten M).length=7 * M.length:=fun M=>by
          induction M with
          | nil=>intro _;rfl
          | cons C r ih=>
            intro h
            rw [List.flatten_cons,List.length_append,h C (by simp),ih fun D hD=>h D (by simp [hD]),List.length_cons]
            omega
        rw [this _ h7,List.length_map]
      have hj:j < 7 * L.length:=by
        rcases Nat.lt_or_ge j (7 * L.length) with q | q
        · exact q
        · rw [List.getElem?_eq_none (by rw [hfl];exact q)] at hu;cases hu
      obtain⟨i,r,rfl,hr⟩:∃ i r,j=i * 7+r∧r < 7:=⟨j / 7,j % 7,by omega,by omega⟩
      have hil:i < L.length:=by omega
      rw [flat7 _ i r (by rw [List.length_map];exact hil) h7 hr,List.getElem_map] at hu
      obtain⟨rfl,g2,-,-,-,g5⟩:=hLL i hil
      exact⟨b,off,rfl,g2,g5 r u hu⟩
    · rw [List.getElem_map,List.getElem_map]
      exact (hLL i (by simpa using h1)).2.2.1
    · obtain⟨z,hz,rfl⟩:=List.mem_map.1 hs
      obtain⟨k,hk,rfl⟩:=List.getElem_of_mem hz
      exact (hLL k hk).2.2.2.1
    · obtain⟨z,hz,rfl⟩:=List.mem_map.1 hs
      obtain⟨k,hk,rfl⟩:=List.getElem_of_mem hz
      have h1:=(hLL k hk).2.2.2.2.1
      rw [hxx]
      exact Nat.le_trans h1 (hbm _ _ _ (List.mem_map.2 ⟨k,List.mem_range.2 (by omega),rfl⟩))
end
end Go.Proofs.YtaiepcgfofpmjaaGreat
