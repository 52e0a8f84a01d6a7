/- Parts. -/
import Derived.ShutString
import Derived.OpenShut
import Derived.ChangeSame
import Derived.ChangeSlices
import Derived.Lib.SmallJoins
import Derived.Deep.Slices
import Derived.Deep.Strs
import Derived.Test.YtdkhlkfleggbaaaGreatV28
namespace Go.Proofs.YtdkhlkfleggbaaaGreat
open Tryz
set_option linter.unusedVariables false
open Go.ChangeShapes Go.WideShapes Go.ChangeAt Go.RowKit Go.Joins Go.Deep
section
variable {H : Type} {enc : TypeId × Value -> H} {P : Program} {w : World} {base : Nat} {spare : Nat -> Bool} {held : Bool}
theorem a6d {t e:TypeId} {fuel:Nat} {v:Value} {x:DataW H×List MemPlace} (ht:P.underlying t=some (.slice e)) (he:P.underlying e=some (.int .u8)) (hc:P.cellsOf e=1) (h:DataW.trod enc P w base spare held fuel t [v]=some x) :
 ∃(A:Option Addr) (c:Nat) (l:List UInt8),v=.slice A l.length c/\l.length<=maxLen/\l.length<=c /\(A=none->c=0)/\qf (λb=>b<w.1.size) w A (bsV l):=by
 rcases open_ints ht he hc h with⟨hcs,_⟩|⟨a,len,cap,zs,hcs,_,hl,hm,hmm,_,hcell,hwf⟩
 ·simp at hcs;subst hcs;exact⟨none,0,[],rfl,b0d _,a8 _,λ_=>rfl,qf.nil _ _ _⟩
 ·simp at hcs;subst hcs;have hlm:len<=zs.length:=by rw[hmm];split<;>omega
  have hln:((zs.take len).map λz=>UInt8.ofNat z.toNat).length=len:=by rw[b0o,l8,b1m hlm]
  obtain⟨b,off,spot⟩:=a;have e1:∀j,(⟨b,off,none⟩:Addr).add j=⟨b,off+j,none⟩:=λj=>by unfold Addr.add;split<;>simp_all
  refine⟨some ⟨b,off,spot⟩,cap,(zs.take len).map λz=>UInt8.ofNat z.toNat,by rw[hln],by rw[hln];omega,by rw[hln];exact hl,(λq=>by cases q),λk u hu=>?_⟩
  have hk:k<len:=by
   rcases b08 k len with q|q
   ·exact q
   ·rw[b0c (by rw[xm,hln];exact q)]at hu;cases hu
  have hk':k<zs.length:=by omega
  have hspot:spot=none:=by
   have h0:=hcell 0 om;have h3:w.cell? ⟨b,off,spot⟩=some (.int .u8 (zs.getD 0 0)):=by simpa [Addr.add]using h0
   exact World.cell?_spot h3
  subst hspot;have h1:=hcell k hk';rw[e1]at h1;have hw:=hwf zs[k] (b1j hk');have hmin:IntKind.u8.min=0:=rfl;have hmax:IntKind.u8.max=255:=rfl;simp only[Lit.wf,b0g,b1l]at hw;have e2:zs.getD k 0=zs[k]:=by simp[List.getD,d7 hk']
  have e3:u=.int .u8 zs[k]:=by
   rw[v9 (by rw[hln];exact hk),b2e]at hu;rw[<- hu];unfold bV;rw[b3m,b4a]
   congr 1
   rw[UInt8.toNat_ofNat_of_lt' (show zs[k].toNat<2^8 by omega)];omega
  subst e3;rw[e2]at h1;exact⟨b,off,rfl,b2z w _ h1,h1⟩
end
open Go.ChangeShapes Go.WideShapes Go.ChangeAt Go.RowKit Go.Joins Go.Deep
theorem a03 {α:Type} {p:Nat->α->Prop}:∀n:Nat,(∀i,i<n->∃x,p i x)->∃l:List α,l.length=n/\∀(i:Nat) (h:i<l.length),p i l[i]
 | 0,_=>⟨[],rfl,λi h=>absurd h (b04 _)⟩
 | n+1,h=>by
  obtain⟨l,h1,h2⟩:=a03 n (λi hi=>h i om);obtain⟨x,hx⟩:=h n om;refine⟨l++[x],by simp[h1],λi hi=>?_⟩;rcases b08 i l.length with q|q
  ·rw[b2g q];exact h2 i q
  ·have e:i=n:=by simp at hi;omega
   subst e;rw[b2s q]
   simpa using hx
section
variable {H : Type} {enc : TypeId × Value -> H} {P : Program} {w : World} {base : Nat} {spare : Nat -> Bool} {held : Bool}
theorem bai {t u:TypeId} {fuel:Nat} {A:Option Addr} {n c:Nat} {x:DataW H×List MemPlace} (bk:DataW H->Nat) (hb1:∀els sp,els.length<=bk (.slice els sp)) (ht:P.underlying t=some (.slice u)) (h:DataW.trod enc P w base spare held fuel t [.slice A n c]=some x):n<=bk x.1:=by
 rcases open_slice ht h with⟨hcs,_⟩|⟨a,len,cap,m,n',D,Pl,hcs,_,hl,hm,hmm,he,hx⟩
 ·simp at hcs;omega
 ·simp at hcs;obtain⟨-,rfl,-⟩:=hcs;rw[he];have:=hb1 ((List.range n).map D) ((List.range (m-n)).map λj=>D (n+j))
  simpa using this
theorem alo (f g:Nat->Nat):∀n,(∀i,i<n->f i<=g i) ->((List.range n).map f).sum <=((List.range n).map g).sum
 | 0,_=>a8 _
 | n+1,h=>by
  have:=alo f g n λi hi=>h i om
  have h1:=h n om;rw[List.range_succ,b17,b17,b3s,b3s];simp;omega
theorem open_parts {t e u:TypeId} {fuel:Nat} {v:Value} {x:DataW H×List MemPlace} (ht:P.underlying t=some (.slice e)) (he:P.underlying e=some (.slice u)) (hu:P.underlying u=some (.int .u8)) (hc:P.cellsOf u=1) (hce:P.cellsOf e=1) (bk:DataW H->Nat) (hb1:∀els sp,els.length<=bk (.slice els sp)) (hb2:∀els sp,(els.map bk).sum<=bk (.slice els sp)) (h:DataW.trod enc P w base spare held fuel t [v]=some x) :
 ∃(A:Option Addr) (c:Nat) (ps:List (List UInt8)),v=.slice A ps.length c/\ps.length<=maxLen/\ahc (λb=>b<w.1.size) w A ps /\(∀p∈ps,p.length<=maxLen)/\ps.flatten.length<=bk x.1:=by
 rcases open_slice ht h with⟨hcs,_⟩|⟨a,len,cap,m,n,D,Pl,hcs,_,hl,hm,hmm,hxx,hx⟩
 ·simp at hcs;subst hcs;exact⟨none,0,[],rfl,b0d _,⟨[],qf.nil _ _ _,λj p hp=>by simp at hp⟩,(λp hp=>by cases hp),b0d _⟩
 ·simp at hcs;subst hcs;have hlm:len<=m:=by rw[hmm];split<;>omega
  obtain⟨b,off,spot⟩:=a;have e1:∀j,(⟨b,off,none⟩:Addr).add j=⟨b,off+j,none⟩:=λj=>by unfold Addr.add;split<;>simp_all
  obtain⟨L,hL,hLL⟩:=a03 (p:=λi (q:Value×List UInt8)=>spot=none/\b<w.1.size/\w.cell? ⟨b,off+i,none⟩=some q.1/\q.2.length<=maxLen/\bkw (λb=>b<w.1.size) w q.1 q.2/\q.2.length<=bk (D i)) len (λi hi=>by
   obtain⟨cs',h1,h2⟩:=hx i om;rw[hce]at h1;obtain⟨_,hlen,hcell⟩:=World.cells?_some h1
   obtain⟨y,rfl⟩:∃y,cs'=[y]:=by
    match cs',hlen with
    | [y],_=>exact⟨y,rfl⟩
   obtain⟨A,c,l,q1,q2,q3,-,q5⟩:=a6d he hu hc h2
   have hbl:l.length<=bk (D i):=by
    rw[q1]at h2;exact bai bk hb1 he h2
   have hspot:spot=none:=by
    obtain⟨cz,y1,_⟩:=hx 0 om;rw[hce]at y1;obtain⟨_,hl0,hc0⟩:=World.cells?_some y1;have h0:=hc0 0 om;rw[d7 om]at h0;have h3:w.cell? ⟨b,off,spot⟩=some cz[0]:=by simpa [Addr.add]using h0
    exact World.cell?_spot h3
   subst hspot;have h3:=hcell 0 om;rw[add_add,e1]at h3;have h4:w.cell? ⟨b,off+i,none⟩=some y:=by simpa using h3
   exact⟨(y,l),rfl,b2z w _ h4,h4,q2,⟨A,c,q1,q3,q5⟩,hbl⟩)
  refine⟨some ⟨b,off,spot⟩,cap,L.map (·.2),by rw[b0o,hL],by rw[b0o];omega,⟨L.map (·.1),λj u hu=>?_,λj p hp=>?_⟩,λp hp=>?_,?_⟩
  ·rw[b0l,b27]at hu;obtain⟨q,hq,rfl⟩:=hu;obtain⟨hk,rfl⟩:=b11.1 hq;obtain⟨rfl,g2,g3,-,-,-⟩:=hLL j hk;exact⟨b,off,rfl,g2,g3⟩
  ·rw[b0l,b27]at hp;obtain⟨q,hq,rfl⟩:=hp;obtain⟨hk,rfl⟩:=b11.1 hq;obtain⟨-,-,-,-,g,-⟩:=hLL j hk;exact⟨_,by rw[b0l,hq];rfl,g⟩
  ·obtain⟨q,hq,rfl⟩:=b2f.1 hp;obtain⟨j,hk,rfl⟩:=b3l hq;exact(hLL j hk).2.2.2.1
  ·rw[hxx,List.length_flatten,b5i];refine p9 ?_ (hb2 _ _);rw[b5i]
   have e2:L.map (List.length ∘ λq=>q.2)=(List.range len).map λi=>((L[i]?).map λq=>q.2.length).getD 0:=by
    apply List.ext_getElem
    ·simp[hL]
    ·intro i h1 h2;simp at h1;simp[h1]
   rw[e2];refine alo _ _ len λi hi=>?_
   rw[d7 om];exact(hLL i om).2.2.2.2.2
end
