/- Arguments opened: slices of texts, sentences. -/
import Derived.Test.YtoabkoniegmkaaaGreatG00
import Derived.ProofKit
import Derived.SliceStrings
import Derived.Lib.SmallJoins
namespace Go.Proofs.YtoabkoniegmkaaaGreat
set_option linter.unusedVariables false
open Go.ChangeShapes Go.WideShapes Go.ChangeAt Go.RowKit Go.Joins Go.Deep
section
variable {H : Type} {enc : TypeId × Value → H} {P : Program} {w : World} {base : Nat} {spare : Nat → Bool} {held : Bool}
theorem open_strs {t e:TypeId} {fuel:Nat} {v:Value} {x:DataW H×List MemPlace} (ht:P.underlying t=some (.slice e)) (he:P.underlying e=some .string) (hc:P.cellsOf e=1)
    (h:DataW.trod enc P w base spare held fuel t [v]=some x) :
    ∃ (A:Option Addr) (c:Nat) (fs:List ByteArray),v=.slice A fs.length c∧fs.length≤maxLen∧Strs w w.heap.size A fs∧∀ f∈fs,f.size≤maxLen:=by
  rcases open_strings ht he hc h with ⟨hcs,_⟩ | ⟨a,len,cap,ss,hcs,_,hl,hm,hz,_,hcell,hws⟩
  · simp at hcs
    subst hcs
    exact⟨none,0,[],rfl,by simp,fun k hk=>absurd hk (by simp),fun f hf=>absurd hf (by simp)⟩
  · simp at hcs
    subst hcs
    have hlen:len≤ss.length:=by split at hz <;> omega
    have hl2:(ss.take len).length=len:=by simp;omega
    refine⟨some a,cap,ss.take len,by rw [hl2],by rw [hl2];omega,?_,fun f hf=>hws f (List.mem_of_mem_take hf)⟩
    intro k hk
    rw [hl2] at hk
    have hck:=hcell k (by omega)
    have hge:ss.getD k ByteArray.empty=(ss.take len)[k]'(by rw [hl2];exact hk):=by
      rw [List.getElem_take,List.getD,List.getElem?_eq_getElem (by omega)]
      rfl
    rw [hge] at hck
    obtain⟨b,off,spot⟩:=a
    have hspot:spot=none:=by
      have h0:=hcell 0 (by omega)
      exact World.cell?_spot h0
    subst hspot
    have hadd:(⟨b,off,none⟩:Addr).add k=⟨b,off+k,none⟩:=by
      unfold Addr.add
      split <;> simp_all
    rw [hadd] at hck
    exact⟨b,off,rfl,World.block_lt_of_cell? w _ hck,hck⟩
theorem open_sentence {r:Reach} {b0:Nat} {t e:TypeId} {n0 n1 n2:Field} {v:Value} {d:DataW H} {p:List MemPlace} (hs:P.underlying t=some (.struct #[n0,n1,n2])) (hone:oneCellFields P #[n0,n1,n2]=true) (hC:P.cellsOf t=3)
    (h0:P.underlying n0.type=some .string) (h1:P.underlying n1.type=some .string) (h2:P.underlying n2.type=some (.slice e)) (he:P.underlying e=some .string) (hc:P.cellsOf e=1)
    (hv:Value.okWide P w r b0 t v) (h:DataW.Trod enc P w base spare held t v d p) :
    ∃ (tk ty:ByteArray) (A:Option Addr) (c:Nat) (fs:List ByteArray),v=.agg #[.string tk,.string ty,.slice A fs.length c]∧fs.length≤maxLen∧tk.size≤maxLen∧ty.size≤maxLen∧Strs w w.heap.size A fs∧∀ f∈fs,f.size≤maxLen:=by
  obtain⟨v0,v1,v2,y0,y1,y2,n,rfl,_,_,e0,e1,e2⟩:=open_agg3 hs hone hC hv h
  obtain⟨s0,k0,_,z0⟩:=DataW.trod_string h0 e0
  obtain⟨s1,k1,_,z1⟩:=DataW.trod_string h1 e1
  obtain⟨A,c,fs,rfl,l,st,fz⟩:=open_strs h2 he hc e2
  simp at k0 k1
  subst k0 k1
  exact⟨s0,s1,A,c,fs,rfl,l,z0,z1,st,fz⟩
end
end Go.Proofs.YtoabkoniegmkaaaGreat
