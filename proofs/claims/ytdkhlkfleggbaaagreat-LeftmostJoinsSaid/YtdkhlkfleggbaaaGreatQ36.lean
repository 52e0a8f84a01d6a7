/- Parts. -/
import Derived.Test.YtdkhlkfleggbaaaGreatQ01
import Derived.ShutString
import Derived.OpenShut
import Derived.ChangeSame
import Derived.ChangeSlices
import Derived.Lib.SmallJoins
import Derived.Deep.Slices
import Derived.Deep.Strs
namespace Go.Proofs.YtdkhlkfleggbaaaGreat
open Lib (hid)
open Tryz
set_option linter.unusedVariables false
open Go.ChangeShapes Go.WideShapes Go.ChangeAt Go.RowKit Go.Joins Go.Deep
section
variable {H : Type} {enc : TypeId × Value → H} {P : Program} {w : World} {base : Nat} {spare : Nat → Bool} {held : Bool}
theorem open_bytes {t e:TypeId} {fuel:Nat} {v:Value} {x:DataW H×List MemPlace} (ht:P.underlying t=some (.slice e)) (he:P.underlying e=some (.int .u8)) (hc:P.cellsOf e=1) (h:DataW.trod enc P w base spare held fuel t [v]=some x) :
 ∃(A:Option Addr) (c:Nat) (l:List UInt8),v=.slice A l.length c∧l.length≤maxLen∧l.length≤c ∧(A=none→c=0)∧qf (fun b=>b<w.1.size) w A (bsV l):=by
 rcases open_ints ht he hc h with⟨hcs,_⟩|⟨a,len,cap,zs,hcs,_,hl,hm,hmm,_,hcell,hwf⟩
 ·simp at hcs;subst hcs;exact⟨none,0,[],rfl,Nat.zero_le _,Nat.le_refl _,fun _=>rfl,qf.nil _ _ _⟩
 ·simp at hcs;subst hcs;have hlm:len≤zs.length:=by rw[hmm];split<;>omega
  have hln:((zs.take len).map fun z=>UInt8.ofNat z.toNat).length=len:=by rw[List.length_map,List.length_take,Nat.min_eq_left hlm]
  obtain⟨b,off,spot⟩:=a;have e1:∀j,(⟨b,off,none⟩:Addr).add j=⟨b,off+j,none⟩:=fun j=>by unfold Addr.add;split<;>simp_all
  refine⟨some ⟨b,off,spot⟩,cap,(zs.take len).map fun z=>UInt8.ofNat z.toNat,by rw[hln],by rw[hln];omega,by rw[hln];exact hl,(fun q=>by cases q),fun k u hu=>?_⟩
  have hk:k<len:=by
   rcases Nat.lt_or_ge k len with q|q
   ·exact q
   ·rw[List.getElem?_eq_none (by rw[adg,hln];exact q)]at hu;cases hu
  have hk':k<zs.length:=by omega
  have hspot:spot=none:=by
   have h0:=hcell 0 om;have h3:w.cell? ⟨b,off,spot⟩=some (.int .u8 (zs.getD 0 0)):=by simpa [Addr.add]using h0
   exact World.cell?_spot h3
  subst hspot;have h1:=hcell k hk';rw[e1]at h1;have hw:=hwf zs[k] (List.getElem_mem hk');have hmin:IntKind.u8.min=0:=rfl;have hmax:IntKind.u8.max=255:=rfl;simp only[Lit.wf,Bool.and_eq_true,decide_eq_true_eq]at hw;have e2:zs.getD k 0=zs[k]:=by simp[List.getD,List.getElem?_eq_getElem hk']
  have e3:u=.int .u8 zs[k]:=by
   rw[yk (by rw[hln];exact hk),Option.some.injEq]at hu;rw[← hu];unfold bV;rw[List.getElem_map,List.getElem_take]
   congr 1
   rw[UInt8.toNat_ofNat_of_lt' (show zs[k].toNat<2^8 by omega)];omega
  subst e3;rw[e2]at h1;exact⟨b,off,rfl,World.block_lt_of_cell? w _ h1,h1⟩
end
