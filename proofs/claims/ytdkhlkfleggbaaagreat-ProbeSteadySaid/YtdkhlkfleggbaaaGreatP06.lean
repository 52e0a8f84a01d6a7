/- Layer 31, plain: the forms of telemetry; a stable order; slots. Printed by gensch0.py. -/
import Derived.Test.YtdkhlkfleggbaaaGreatP01
import Derived.BigQuiet
import Derived.Deep.QuietTactic
namespace Go.Proofs.YtdkhlkfleggbaaaGreat
set_option maxHeartbeats 4000000
set_option maxRecDepth 8000
open Lib (hid)
set_option linter.unusedVariables false
open Go.RowKit
structure Prt where
 nm:ByteArray
 sz:Nat
 sg:Bool
 mn:Nat
def yd (p:Prt):List Value:=[.string p.nm,.int .i64 p.sz,.bool p.sg,.int .i64 p.mn]
def qx (l:List Prt):List Value:=l.flatMap yd
theorem acz (l:List Prt):(qx l).length=l.length*4:=aqn yd 4 (fun _=>rfl) l
theorem acx (l m:List Prt):qx (l++m)=qx l++qx m:=List.flatMap_append
theorem axi (p:Prt):∀v∈yd p,v.oneCell'=true:=by
 intro v hv
 simp only[yd,List.mem_cons,List.not_mem_nil,or_false]at hv
 rcases hv with rfl|rfl|rfl|rfl<;>rfl
theorem arv (l:List Prt):∀v∈qx l,v.oneCell'=true:=by
 intro v hv
 obtain⟨p,-,h⟩:=List.mem_flatMap.1 hv
 exact axi p v h
def yo (l:List ByteArray):List Value:=l.map Value.string
def za (n:Nat) (s:Bool) (l:List ByteArray):List Prt:=l.map fun t=>⟨t,n,s,0⟩
def ahf (m:Nat) (l:List ByteArray):List Prt:=l.map fun t=>⟨t,1,false,m⟩
abbrev TFm:=ByteArray×List Prt
def noF:TFm:=(ByteArray.empty,[])
def aee:List ByteArray:=[⟨#[120,97,99,99]⟩,⟨#[121,97,99,99]⟩,⟨#[122,97,99,99]⟩,⟨#[120,103,121,114,111]⟩,⟨#[121,103,121,114,111]⟩,⟨#[122,103,121,114,111]⟩,⟨#[120,109,97,103]⟩,⟨#[121,109,97,103]⟩,⟨#[122,109,97,103]⟩]
def bh5:List ByteArray:=[⟨#[116,121,112,101]⟩,⟨#[97,117,116,111,112,105,108,111,116]⟩,⟨#[98,97,115,101,95,109,111,100,101]⟩]
def bhl:List ByteArray:=[⟨#[99,117,115,116,111,109,95,109,111,100,101]⟩]
def bhp:List ByteArray:=[⟨#[115,121,115,116,101,109,95,115,116,97,116,117,115]⟩,⟨#[109,97,118,108,105,110,107,95,118,101,114,115,105,111,110]⟩]
def baj:TFm:=(⟨#[72,69,65,82,84,66,69,65,84]⟩,(za 1 false bh5) ++(za 4 false bhl) ++(za 1 false bhp))
def bhy:List ByteArray:=[⟨#[111,110,98,111,97,114,100,95,99,111,110,116,114,111,108,95,115,101,110,115,111,114,115,95,112,114,101,115,101,110,116]⟩,⟨#[111,110,98,111,97,114,100,95,99,111,110,116,114,111,108,95,115,101,110,115,111,114,115,95,101,110,97,98,108,101,100]⟩,⟨#[111,110,98,111,97,114,100,95,99,111,110,116,114,111,108,95,115,101,110,115,111,114,115,95,104,101,97,108,116,104]⟩]
def bhi:List ByteArray:=[⟨#[108,111,97,100]⟩,⟨#[118,111,108,116,97,103,101,95,98,97,116,116,101,114,121]⟩]
def bh2:List ByteArray:=[⟨#[99,117,114,114,101,110,116,95,98,97,116,116,101,114,121]⟩]
def bhs:List ByteArray:=[⟨#[98,97,116,116,101,114,121,95,114,101,109,97,105,110,105,110,103]⟩]
def bhh:List ByteArray:=[⟨#[100,114,111,112,95,114,97,116,101,95,99,111,109,109]⟩,⟨#[101,114,114,111,114,115,95,99,111,109,109]⟩,⟨#[101,114,114,111,114,115,95,99,111,117,110,116,49]⟩,⟨#[101,114,114,111,114,115,95,99,111,117,110,116,50]⟩,⟨#[101,114,114,111,114,115,95,99,111,117,110,116,51]⟩,⟨#[101,114,114,111,114,115,95,99,111,117,110,116,52]⟩]
def a9i:TFm:=(⟨#[83,89,83,95,83,84,65,84,85,83]⟩,(za 4 false bhy) ++(za 2 false bhi) ++(za 2 true bh2) ++(za 1 true bhs) ++(za 2 false bhh))
def bho:List ByteArray:=[⟨#[116,105,109,101,95,117,110,105,120,95,117,115,101,99]⟩]
def bh7:List ByteArray:=[⟨#[116,105,109,101,95,98,111,111,116,95,109,115]⟩]
def bar:TFm:=(⟨#[83,89,83,84,69,77,95,84,73,77,69]⟩,(za 8 false bho) ++(za 4 false bh7))
def bh6:List ByteArray:=[⟨#[116,105,109,101,95,117,115,101,99]⟩]
def bhz:List ByteArray:=[⟨#[115,101,113]⟩]
def bh8:List ByteArray:=[⟨#[116,97,114,103,101,116,95,115,121,115,116,101,109]⟩,⟨#[116,97,114,103,101,116,95,99,111,109,112,111,110,101,110,116]⟩]
def bbg:TFm:=(⟨#[80,73,78,71]⟩,(za 8 false bh6) ++(za 4 false bhz) ++(za 1 false bh8))
def bb2:List ByteArray:=[⟨#[116,99,49]⟩,⟨#[116,115,49]⟩]
def auc:TFm:=(⟨#[84,73,77,69,83,89,78,67]⟩,za 8 true bb2)
def ba0:List ByteArray:=[⟨#[86,99,99]⟩,⟨#[86,115,101,114,118,111]⟩,⟨#[102,108,97,103,115]⟩]
def ata:TFm:=(⟨#[80,79,87,69,82,95,83,84,65,84,85,83]⟩,za 2 false ba0)
def afa (i:Int):TFm:=if i=0 then baj else if i=1 then a9i else if i=2 then bar else if i=4 then bbg else if i=111 then auc else if i=125 then ata else noF
def bew:List ByteArray:=[⟨#[116,105,109,101,95,117,115,101,99]⟩]
def bfv:List ByteArray:=[⟨#[102,105,120,95,116,121,112,101]⟩]
def bfl:List ByteArray:=[⟨#[108,97,116]⟩,⟨#[108,111,110]⟩,⟨#[97,108,116]⟩]
def bfh:List ByteArray:=[⟨#[101,112,104]⟩,⟨#[101,112,118]⟩,⟨#[118,101,108]⟩,⟨#[99,111,103]⟩]
def be2:List ByteArray:=[⟨#[115,97,116,101,108,108,105,116,101,115,95,118,105,115,105,98,108,101]⟩]
def a3d:TFm:=(⟨#[71,80,83,95,82,65,87,95,73,78,84]⟩,(za 8 false bew) ++(za 1 false bfv) ++(za 4 true bfl) ++(za 2 false bfh) ++(za 1 false be2))
def be8:List ByteArray:=[⟨#[115,97,116,101,108,108,105,116,101,115,95,118,105,115,105,98,108,101]⟩]
def bfs:List ByteArray:=[⟨#[115,97,116,101,108,108,105,116,101,95,112,114,110]⟩,⟨#[115,97,116,101,108,108,105,116,101,95,117,115,101,100]⟩,⟨#[115,97,116,101,108,108,105,116,101,95,101,108,101,118,97,116,105,111,110]⟩,⟨#[115,97,116,101,108,108,105,116,101,95,97,122,105,109,117,116,104]⟩,⟨#[115,97,116,101,108,108,105,116,101,95,115,110,114]⟩]
def a09:TFm:=(⟨#[71,80,83,95,83,84,65,84,85,83]⟩,(za 1 false be8) ++(ahf 20 bfs))
def bex:List ByteArray:=[⟨#[116,105,109,101,95,98,111,111,116,95,109,115]⟩]
def a2d:TFm:=(⟨#[83,67,65,76,69,68,95,73,77,85]⟩,(za 4 false bex) ++(za 2 true aee))
def bey:List ByteArray:=[⟨#[116,105,109,101,95,117,115,101,99]⟩]
def a2j:TFm:=(⟨#[82,65,87,95,73,77,85]⟩,(za 8 false bey) ++(za 2 true aee))
def bfi:List ByteArray:=[⟨#[116,105,109,101,95,117,115,101,99]⟩]
def bfx:List ByteArray:=[⟨#[112,114,101,115,115,95,97,98,115]⟩,⟨#[112,114,101,115,115,95,100,105,102,102,49]⟩,⟨#[112,114,101,115,115,95,100,105,102,102,50]⟩,⟨#[116,101,109,112,101,114,97,116,117,114,101]⟩]
def a2k:TFm:=(⟨#[82,65,87,95,80,82,69,83,83,85,82,69]⟩,(za 8 false bfi) ++(za 2 true bfx))
def be9:List ByteArray:=[⟨#[116,105,109,101,95,98,111,111,116,95,109,115]⟩]
def bfq:List ByteArray:=[⟨#[108,97,116]⟩,⟨#[108,111,110]⟩,⟨#[97,108,116]⟩,⟨#[114,101,108,97,116,105,118,101,95,97,108,116]⟩]
def bez:List ByteArray:=[⟨#[118,120]⟩,⟨#[118,121]⟩,⟨#[118,122]⟩]
def be1:List ByteArray:=[⟨#[104,100,103]⟩]
def a0m:TFm:=(⟨#[71,76,79,66,65,76,95,80,79,83,73,84,73,79,78,95,73,78,84]⟩,(za 4 false be9) ++(za 4 true bfq) ++(za 2 true bez) ++(za 2 false be1))
def acn (i:Int):TFm:=if i=24 then a3d else if i=25 then a09 else if i=26 then a2d else if i=27 then a2j else if i=28 then a2k else if i=33 then a0m else noF
def be5:List ByteArray:=[⟨#[116,105,109,101,95,98,111,111,116,95,109,115]⟩]
def bfm:List ByteArray:=[⟨#[112,111,114,116]⟩]
def bfr:List ByteArray:=[⟨#[99,104,97,110,49,95,114,97,119]⟩,⟨#[99,104,97,110,50,95,114,97,119]⟩,⟨#[99,104,97,110,51,95,114,97,119]⟩,⟨#[99,104,97,110,52,95,114,97,119]⟩,⟨#[99,104,97,110,53,95,114,97,119]⟩,⟨#[99,104,97,110,54,95,114,97,119]⟩,⟨#[99,104,97,110,55,95,114,97,119]⟩,⟨#[99,104,97,110,56,95,114,97,119]⟩]
def be6:List ByteArray:=[⟨#[114,115,115,105]⟩]
def a01:TFm:=(⟨#[82,67,95,67,72,65,78,78,69,76,83,95,82,65,87]⟩,(za 4 false be5) ++(za 1 false bfm) ++(za 2 false bfr) ++(za 1 false be6))
def be4:List ByteArray:=[⟨#[116,105,109,101,95,117,115,101,99]⟩]
def bfn:List ByteArray:=[⟨#[112,111,114,116]⟩]
def bfg:List ByteArray:=[⟨#[115,101,114,118,111,49,95,114,97,119]⟩,⟨#[115,101,114,118,111,50,95,114,97,119]⟩,⟨#[115,101,114,118,111,51,95,114,97,119]⟩,⟨#[115,101,114,118,111,52,95,114,97,119]⟩,⟨#[115,101,114,118,111,53,95,114,97,119]⟩,⟨#[115,101,114,118,111,54,95,114,97,119]⟩,⟨#[115,101,114,118,111,55,95,114,97,119]⟩,⟨#[115,101,114,118,111,56,95,114,97,119]⟩]
def az5:TFm:=(⟨#[83,69,82,86,79,95,79,85,84,80,85,84,95,82,65,87]⟩,(za 4 false be4) ++(za 1 false bfn) ++(za 2 false bfg))
def bfc:List ByteArray:=[⟨#[115,101,113]⟩]
def a18:TFm:=(⟨#[77,73,83,83,73,79,78,95,67,85,82,82,69,78,84]⟩,za 2 false bfc)
def bfa:List ByteArray:=[⟨#[116,97,114,103,101,116,95,115,121,115,116,101,109]⟩,⟨#[116,97,114,103,101,116,95,99,111,109,112,111,110,101,110,116]⟩]
def bfo:List ByteArray:=[⟨#[99,111,117,110,116]⟩]
def a1s:TFm:=(⟨#[77,73,83,83,73,79,78,95,67,79,85,78,84]⟩,(za 1 false bfa) ++(za 2 false bfo))
def bfj:List ByteArray:=[⟨#[116,97,114,103,101,116,95,115,121,115,116,101,109]⟩,⟨#[116,97,114,103,101,116,95,99,111,109,112,111,110,101,110,116]⟩,⟨#[116,121,112,101]⟩]
def az2:TFm:=(⟨#[77,73,83,83,73,79,78,95,65,67,75]⟩,za 1 false bfj)
def bfp:List ByteArray:=[⟨#[116,97,114,103,101,116,95,115,121,115,116,101,109]⟩,⟨#[116,97,114,103,101,116,95,99,111,109,112,111,110,101,110,116]⟩,⟨#[114,101,113,95,115,116,114,101,97,109,95,105,100]⟩]
def bfe:List ByteArray:=[⟨#[114,101,113,95,109,101,115,115,97,103,101,95,114,97,116,101]⟩]
def bfk:List ByteArray:=[⟨#[115,116,97,114,116,95,115,116,111,112]⟩]
def a15:TFm:=(⟨#[82,69,81,85,69,83,84,95,68,65,84,65,95,83,84,82,69,65,77]⟩,(za 1 false bfp) ++(za 2 false bfe) ++(za 1 false bfk))
def bff:List ByteArray:=[⟨#[99,111,109,109,97,110,100]⟩]
def be7:List ByteArray:=[⟨#[114,101,115,117,108,116]⟩]
def a0j:TFm:=(⟨#[67,79,77,77,65,78,68,95,65,67,75]⟩,(za 2 false bff) ++(za 1 false be7))
def afq (i:Int):TFm:=if i=35 then a01 else if i=36 then az5 else if i=42 then a18 else if i=44 then a1s else if i=47 then az2 else if i=66 then a15 else if i=77 then a0j else noF
def a9m:List ByteArray:=[⟨#[116,105,109,101,95,98,111,111,116,95,109,115]⟩,⟨#[113,117,97,116,101,114,110,105,111,110]⟩]
def ba7:List ByteArray:=[⟨#[120,103,121,114,111]⟩,⟨#[121,103,121,114,111]⟩,⟨#[122,103,121,114,111]⟩]
def ave:TFm:=(⟨#[65,84,84,73,84,85,68,69,95,87,79,82,68]⟩,(za 4 false a9m) ++(za 2 true ba7))
def bbi:List ByteArray:=[⟨#[116,105,109,101,95,98,111,111,116,95,109,115]⟩]
def a9w:List ByteArray:=[⟨#[120,98,105,97,115]⟩,⟨#[121,98,105,97,115]⟩,⟨#[122,98,105,97,115]⟩]
def bbu:List ByteArray:=[⟨#[115,116,101,112,115]⟩]
def a95:List ByteArray:=[⟨#[99,117,116,115]⟩]
def asy:TFm:=(⟨#[70,73,76,84,69,82,95,83,84,65,84,69]⟩,(za 4 false bbi) ++(za 4 true a9w) ++(za 4 false bbu) ++(za 2 false a95))
def bce:List ByteArray:=[⟨#[110,117,109,98,101,114]⟩]
def bbk:List ByteArray:=[⟨#[112,97,114,116]⟩]
def ba1:List ByteArray:=[⟨#[98,121,116,101,115]⟩]
def ar8:TFm:=(⟨#[76,79,71,95,66,76,79,67,75]⟩,(za 4 false bce) ++(za 1 false bbk) ++(ahf 64 ba1))
def au4 (i:Int):TFm:=if i=200 then ave else if i=201 then asy else if i=202 then ar8 else noF
def zt (i:Int):TFm:=if(afa i).1≠ByteArray.empty then afa i else if(acn i).1≠ByteArray.empty then acn i else if(afq i).1≠ByteArray.empty then afq i else if(au4 i).1≠ByteArray.empty then au4 i else noF
def j4 {α:Type} (ahead:α→α→Bool):List α→α→List α
 | [],x=>[x]
 | y::r,x=>if ahead x y then y::j4 ahead r x else x::y::r
def aft {α:Type} (ahead:α→α→Bool) (l:List α):List α:=(l.foldl (j4 ahead) []).reverse
theorem awd {α:Type} (ahead:α→α→Bool):∀(r:List α) (x:α),(j4 ahead r x).length=r.length+1
 | [],x=>rfl
 | y::r,x=>by unfold j4;split<;>simp[awd ahead r x]
theorem ake {α:Type} (ahead:α→α→Bool):∀(l r:List α),(l.foldl (j4 ahead) r).length=r.length+l.length
 | [],r=>rfl
 | x::l,r=>by rw[List.foldl_cons,ake ahead l,awd,List.length_cons];omega
theorem aqp {α:Type} (ahead:α→α→Bool) (l:List α):(aft ahead l).length=l.length:=by
 unfold aft;rw[List.length_reverse,ake];simp
theorem arf {α:Type} (ahead:α→α→Bool):∀(r:List α) (x:α),(j4 ahead r x).Perm (x::r)
 | [],x=>List.Perm.refl _
 | y::r,x=>by
  unfold j4;split
  ·exact((arf ahead r x).cons y).trans (List.Perm.swap x y r)
  ·exact List.Perm.refl _
theorem ann {α:Type} (ahead:α→α→Bool):∀(l r:List α),(l.foldl (j4 ahead) r).Perm (r++l)
 | [],r=>by rw[List.append_nil];exact List.Perm.refl _
 | x::l,r=>by
  rw[List.foldl_cons]
  refine(ann ahead l _).trans (((arf ahead r x).append_right l).trans ?_)
  exact List.perm_middle.symm
theorem afp {α:Type} (ahead:α→α→Bool) (l:List α):(aft ahead l).Perm l:=by
 unfold aft
 exact(List.reverse_perm _).trans (ann ahead l [])
def yq (p:Prt):Nat:=if p.mn=0 then 1 else p.mn
def vr (l:List Prt):Nat:=(l.map fun p=>p.sz*yq p).sum
def ke (l:List Prt):Nat:=(l.map yq).sum
structure Slt where
 sz:Nat
 sg:Bool
 ix:Nat
def ya (s:Slt):List Value:=[.int .i64 s.sz,.bool s.sg,.int .i64 s.ix]
def zj (l:List Slt):List Value:=l.flatMap ya
theorem ag0 (l:List Slt):(zj l).length=l.length*3:=aqn ya 3 (fun _=>rfl) l
def yp:List Prt→Nat→List Slt
 | [],_=>[]
 | p::l,n=>(List.range (yq p)).map (fun k=>⟨p.sz,p.sg,n+k⟩)++yp l (n+yq p)
def adj (l:List Prt):List Slt:=aft (fun a b=>decide (b.sz<a.sz)) (yp l 0)
def aev (l:List Prt):List Prt:=aft (fun a b=>decide (b.sz<a.sz)) l
def abg (l:List Prt):List Fld:=(adj l).map fun s=>afo s.sz s.sg
def vw:List Slt→List Int→List Int→List Int
 | s::l,x::v,out=>vw l v (out.set s.ix x)
 | _,_,out=>out
theorem apa:(Tryz.prog.info? 261).map (fun i=>(i.zero,i.size,i.bytes))=some (some (.agg #[.string ByteArray.empty,.int .i64 0,.bool false,.int .i64 0]),4,40):=by kernel_rfl
theorem a44 {l:List ByteArray} {k:Nat} (h:k<l.length):(yo l)[k]?=some (.string (l[k]'h)):=by
 unfold yo;rw[List.getElem?_map,List.getElem?_eq_getElem h];rfl
def aa9 (l:List Prt) (w:World) (e:Ending) (w':World):Prop:=∃v,e=.returned v∧aa4 w 261 4 v l.length (qx l) w'
theorem k9 {Q:Nat→Prop} {w:World} (n:Nat) (s:Bool) (A:Option Addr) (l:List ByteArray) (c:Nat) (h:qf Q w A (yo l)) (hm:l.length≤1000) :
 Calls Tryz.prog 214 #[.int .i64 n,.bool s,.slice A l.length c] w (aa9 (za n s l) w):=by
 replace h:=h.lt
 have HI:=hid h
 have HE:Hid (za n s (l.take l.length)=za n s l ∧(za n s l).length=l.length):=hid ⟨by rw[List.take_length],by simp[za]⟩
 obtain⟨i0,hi,hz0,hz1,hz2⟩:=jo apa
 have HIN:=hid (And.intro hi (And.intro hz0 (And.intro hz1 hz2)))
 clear hi hz0 hz1 hz2
 generalize hL:l.length=m at *
 have HL:=hid hL
 clear hL h
 unfold aa9
 rw[HE.out.2]
 go_enter Tryz.func214,Tryz.ntmps214
 go_wp2_with fail
 go_loopg [7,12] m (fun g s7 s12 wr=>∃k:Nat,k≤m∧m-k≤g∧s12=.int .i64 k∧Hid (aa4 w 261 4 s7 k (qx (za n s (l.take k))) wr))
 case atStart=>exact⟨0,by omega,by omega,rfl,aa4.nil _ _ _ (Below.refl _ _)⟩
 case round=>
  rename_i s7
  obtain⟨k,hk,hg,rfl,HO⟩:=hrel
  by_cases hlt:k<m
  ·have hkl:k<l.length:=by rw[HL.out];exact hlt
   obtain⟨b',o',rfl,hq,hc⟩:=HI.out k _ (a44 hkl)
   have HSN:Hid (qx (za n s (l.take (k+1)))=qx (za n s (l.take k))++qx (za n s [l[k]])):=hid (by rw[List.take_succ_eq_append_getElem hkl,← acx];unfold za;rw[List.map_append])
   have hc':wr.cell? ⟨b',o'+k,none⟩=some (.string l[k]):=(HO.out.2.cell (p:=⟨b',o'+k,none⟩) hq.2).trans hc
   clear hc
   generalize l[k]=x at *
   have i1:(k:Int)<m:=by omega
   have i2:(0:Int) ≤(k:Int):=Int.natCast_nonneg _
   obtain⟨A1,c1,hs1,-,-⟩:=HO.out.flat
   subst hs1
   obtain⟨v',w3,hrun,ho⟩:=aa4.app (P:=Tryz.prog) (t:=198) (ty:=198) (HO.out.on (qa wr (.cells #[.string x,.int .i64 n,.bool s,.int .i64 0] 261))) HIN.out Tryz.underlying198 rfl (by decide) (R:=fun _=>True) (some ⟨wr.heap.size,0,none⟩) 1 1 [.string x,.int .i64 n,.bool s,.int .i64 0] rfl ((Blk.newL (qg wr _ _) rfl).flat trivial) (axi ⟨x,n,s,0⟩) (by unfold maxLen;omega) (by omega)
   have HRUN:=hid hrun
   have HO3:Hid (aa4 w 261 4 v' (k+1) (qx (za n s (l.take (k+1)))) w3):=hid (by rw[HSN.out];exact ho)
   clear hrun ho
   go_wp2_with (at_builtin;refine qz rfl _ _ 198 rfl _ _ _ rfl rfl HRUN.out ?_)
   go_roundg (m-(k+1))
   case measure=>omega
   case rel=>exact⟨k+1,by omega,by omega,by go_num,HO3⟩
  ·obtain rfl:k=m:=by omega
   have HO2:=hid HO.out
   rw[HE.out.1]at HO2
   clear HO
   obtain⟨A1,c1,hs1,-,-⟩:=HO2.out.flat
   subst hs1
   go_wp2_with fail
   go_ret
   exact⟨_,rfl,HO2.out⟩
theorem aqq {Q:Nat→Prop} {w:World} (A:Option Addr) (l:List ByteArray) (c:Nat) (h:qf Q w A (yo l)) (hm:l.length≤1000) :
 Calls Tryz.prog 187 #[.slice A l.length c] w (aa9 (za 1 false l) w):=by
 have HP:=hid (k9 1 false A l c h hm)
 generalize l.length=m at *
 clear h
 go_enter Tryz.func187,Tryz.ntmps187
 go_wp2_with fail
 refine(HP.out).mono ?_
 rintro e w1 ⟨v,rfl,ho⟩
 have HO:=hid ho
 obtain⟨A1,c1,hs1,-,-⟩:=ho.flat
 subst hs1
 clear ho
 go_wp2_with fail
 go_ret
 exact⟨_,rfl,HO.out⟩
theorem a3o {Q:Nat→Prop} {w:World} (A:Option Addr) (l:List ByteArray) (c:Nat) (h:qf Q w A (yo l)) (hm:l.length≤1000) :
 Calls Tryz.prog 189 #[.slice A l.length c] w (aa9 (za 2 false l) w):=by
 have HP:=hid (k9 2 false A l c h hm)
 generalize l.length=m at *
 clear h
 go_enter Tryz.func189,Tryz.ntmps189
 go_wp2_with fail
 refine(HP.out).mono ?_
 rintro e w1 ⟨v,rfl,ho⟩
 have HO:=hid ho
 obtain⟨A1,c1,hs1,-,-⟩:=ho.flat
 subst hs1
 clear ho
 go_wp2_with fail
 go_ret
 exact⟨_,rfl,HO.out⟩
theorem a0k {Q:Nat→Prop} {w:World} (A:Option Addr) (l:List ByteArray) (c:Nat) (h:qf Q w A (yo l)) (hm:l.length≤1000) :
 Calls Tryz.prog 188 #[.slice A l.length c] w (aa9 (za 4 false l) w):=by
 have HP:=hid (k9 4 false A l c h hm)
 generalize l.length=m at *
 clear h
 go_enter Tryz.func188,Tryz.ntmps188
 go_wp2_with fail
 refine(HP.out).mono ?_
 rintro e w1 ⟨v,rfl,ho⟩
 have HO:=hid ho
 obtain⟨A1,c1,hs1,-,-⟩:=ho.flat
 subst hs1
 clear ho
 go_wp2_with fail
 go_ret
 exact⟨_,rfl,HO.out⟩
theorem a17 {Q:Nat→Prop} {w:World} (A:Option Addr) (l:List ByteArray) (c:Nat) (h:qf Q w A (yo l)) (hm:l.length≤1000) :
 Calls Tryz.prog 192 #[.slice A l.length c] w (aa9 (za 8 false l) w):=by
 have HP:=hid (k9 8 false A l c h hm)
 generalize l.length=m at *
 clear h
 go_enter Tryz.func192,Tryz.ntmps192
 go_wp2_with fail
 refine(HP.out).mono ?_
 rintro e w1 ⟨v,rfl,ho⟩
 have HO:=hid ho
 obtain⟨A1,c1,hs1,-,-⟩:=ho.flat
 subst hs1
 clear ho
 go_wp2_with fail
 go_ret
 exact⟨_,rfl,HO.out⟩
theorem a8k {Q:Nat→Prop} {w:World} (A:Option Addr) (l:List ByteArray) (c:Nat) (h:qf Q w A (yo l)) (hm:l.length≤1000) :
 Calls Tryz.prog 191 #[.slice A l.length c] w (aa9 (za 1 true l) w):=by
 have HP:=hid (k9 1 true A l c h hm)
 generalize l.length=m at *
 clear h
 go_enter Tryz.func191,Tryz.ntmps191
 go_wp2_with fail
 refine(HP.out).mono ?_
 rintro e w1 ⟨v,rfl,ho⟩
 have HO:=hid ho
 obtain⟨A1,c1,hs1,-,-⟩:=ho.flat
 subst hs1
 clear ho
 go_wp2_with fail
 go_ret
 exact⟨_,rfl,HO.out⟩
theorem anx {Q:Nat→Prop} {w:World} (A:Option Addr) (l:List ByteArray) (c:Nat) (h:qf Q w A (yo l)) (hm:l.length≤1000) :
 Calls Tryz.prog 190 #[.slice A l.length c] w (aa9 (za 2 true l) w):=by
 have HP:=hid (k9 2 true A l c h hm)
 generalize l.length=m at *
 clear h
 go_enter Tryz.func190,Tryz.ntmps190
 go_wp2_with fail
 refine(HP.out).mono ?_
 rintro e w1 ⟨v,rfl,ho⟩
 have HO:=hid ho
 obtain⟨A1,c1,hs1,-,-⟩:=ho.flat
 subst hs1
 clear ho
 go_wp2_with fail
 go_ret
 exact⟨_,rfl,HO.out⟩
theorem a2x {Q:Nat→Prop} {w:World} (A:Option Addr) (l:List ByteArray) (c:Nat) (h:qf Q w A (yo l)) (hm:l.length≤1000) :
 Calls Tryz.prog 194 #[.slice A l.length c] w (aa9 (za 4 true l) w):=by
 have HP:=hid (k9 4 true A l c h hm)
 generalize l.length=m at *
 clear h
 go_enter Tryz.func194,Tryz.ntmps194
 go_wp2_with fail
 refine(HP.out).mono ?_
 rintro e w1 ⟨v,rfl,ho⟩
 have HO:=hid ho
 obtain⟨A1,c1,hs1,-,-⟩:=ho.flat
 subst hs1
 clear ho
 go_wp2_with fail
 go_ret
 exact⟨_,rfl,HO.out⟩
theorem a0z {Q:Nat→Prop} {w:World} (A:Option Addr) (l:List ByteArray) (c:Nat) (h:qf Q w A (yo l)) (hm:l.length≤1000) :
 Calls Tryz.prog 193 #[.slice A l.length c] w (aa9 (za 8 true l) w):=by
 have HP:=hid (k9 8 true A l c h hm)
 generalize l.length=m at *
 clear h
 go_enter Tryz.func193,Tryz.ntmps193
 go_wp2_with fail
 refine(HP.out).mono ?_
 rintro e w1 ⟨v,rfl,ho⟩
 have HO:=hid ho
 obtain⟨A1,c1,hs1,-,-⟩:=ho.flat
 subst hs1
 clear ho
 go_wp2_with fail
 go_ret
 exact⟨_,rfl,HO.out⟩
def afz (m k:Nat) (l:List ByteArray):List Prt:=ahf m (l.take k)++za 1 false (l.drop k)
theorem a42 (m k:Nat) (l:List ByteArray) (h:k<l.length):qx (afz m (k+1) l)=(qx (afz m k l)).set (k*4+3) (.int .i64 m):=by
 have e1:afz m k l=ahf m (l.take k) ++([⟨l[k],1,false,0⟩]++za 1 false (l.drop (k+1))):=by unfold afz;rw[List.drop_eq_getElem_cons h];rfl
 have e2:afz m (k+1) l=ahf m (l.take k) ++([⟨l[k],1,false,m⟩]++za 1 false (l.drop (k+1))):=by unfold afz;rw[List.take_succ_eq_append_getElem h];unfold ahf;rw[List.map_append,List.append_assoc];rfl
 have hl:(qx (ahf m (l.take k))).length=k*4:=by rw[acz];simp[ahf];omega
 rw[e1,e2,acx,acx,acx,acx,List.set_append_right _ _ (by omega),hl,show k*4+3-k*4=3 from by omega]
 rfl
theorem bbh (m:Nat) (l:List ByteArray):afz m l.length l=ahf m l:=by simp[afz,za]
theorem auz {Q:Nat→Prop} {w:World} (m:Nat) (A:Option Addr) (l:List ByteArray) (c:Nat) (h:qf Q w A (yo l)) (hm:l.length≤1000) :
 Calls Tryz.prog 195 #[.int .i64 m,.slice A l.length c] w (aa9 (ahf m l) w):=by
 have HP:=hid (aqq (w:=w) A l c h hm)
 have HE:Hid (afz m 0 l=za 1 false l ∧(za 1 false l).length=l.length∧afz m l.length l=ahf m l ∧(ahf m l).length=l.length):=hid ⟨by simp[afz,ahf],by simp[za],bbh m l,by simp[ahf]⟩
 have HS:Hid (∀k,k<l.length→qx (afz m (k+1) l)=(qx (afz m k l)).set (k*4+3) (.int .i64 m)):=hid (a42 m · l)
 generalize l.length=n at *
 unfold aa9 at *
 rw[HE.out.2.1]at HP
 rw[HE.out.2.2.2]
 clear h
 go_enter Tryz.func195,Tryz.ntmps195
 go_wp2_with fail
 refine(HP.out).mono ?_
 rintro e w1 ⟨v,rfl,ho⟩
 have HO1:Hid (aa4 w 261 4 v n (qx (afz m 0 l)) w1):=hid (by rw[HE.out.1];exact ho)
 clear ho HP
 obtain⟨A1,c1,hs1,-,-⟩:=HO1.out.flat
 subst hs1
 go_wp2_with fail
 go_loopg [11] n (fun g s11 wr=>∃k:Nat,k≤n∧n-k≤g∧s11=.int .i64 k∧Hid (aa4 w 261 4 (.slice A1 n c1) n (qx (afz m k l)) wr))
 case atStart=>exact⟨0,by omega,by omega,rfl,HO1⟩
 case round=>
  obtain⟨k,hk,hg,rfl,HO⟩:=hrel
  by_cases hlt:k<n
  ·have i1:(k:Int)<n:=by omega
   have i2:(0:Int) ≤(k:Int):=Int.natCast_nonneg _
   obtain⟨g',rfl⟩:∃g',A1=some ⟨g',0,none⟩:=by
    rcases HO.out.1.2 with⟨q,q2⟩|⟨g',cap,cur,q,-⟩
    ·omega
    ·injection q with q;exact⟨g',q⟩
   have hlv:(qx (afz m k l)).length=n*4:=HO.out.1.1
   have hc:wr.cell? ⟨g',k*4+3,none⟩=some ((qx (afz m k l))[k*4+3]'(by omega)):=(HO.out.1.cellAt (k*4+3) (by omega)).trans (List.getElem?_eq_getElem (by omega))
   have hz:=HO.out.1.frozenAt (k*4+3)
   have HO3:Hid (aa4 w 261 4 (.slice (some ⟨g',0,none⟩) n c1) n (qx (afz m (k+1) l)) (wr.setCell ⟨g',k*4+3,none⟩ (.int .i64 m))):=hid (by
    rw[HS.out k hlt]
    exact⟨(HO.out.1.stored (k*4+3) _).1,Below.setCell (p:=⟨g',k*4+3,none⟩) HO.out.2 (HO.out.1.lt g' rfl).1 _⟩)
   go_wp2_with fail
   go_roundg (n-(k+1))
   case measure=>omega
   case rel=>exact⟨k+1,by omega,by omega,by go_num,HO3⟩
  ·obtain rfl:k=n:=by omega
   have HO2:=hid HO.out
   rw[HE.out.2.2.1]at HO2
   clear HO
   go_wp2_with fail
   go_ret
   exact⟨_,rfl,HO2.out⟩
def xh (f:TFm) (w:World) (e:Ending) (w':World):Prop:=∃A c,e=.returned (.agg #[.string f.1,.slice A f.2.length c])∧qf (fun b=>w.heap.size≤b∧b<w'.heap.size) w' A (qx f.2)∧Below w.heap.size w w'
def be3 (w:World) (vs:List Value) (rows:List (List Prt)):Prop:=vs.length=rows.length∧∀i (h:i<rows.length),∃A c,vs[i]?=some (.slice A (rows[i]'h).length c)∧qf (fun b=>b<w.heap.size) w A (qx (rows[i]'h))
theorem ajx {w1 w:World} {b B:Nat} {x y:Value} (hk:Blk w1 b [x,y]) (p q:Value) (hb:Below B w w1) (hB:B≤b) :
 (loadVar 200 ⟨b,0,none⟩).run Tryz.prog ((w1.setCell ⟨b,0,none⟩ p).setCell ⟨b,1,none⟩ q)=.ok (.agg #[p,q]) ((w1.setCell ⟨b,0,none⟩ p).setCell ⟨b,1,none⟩ q)∧Below B w ((w1.setCell ⟨b,0,none⟩ p).setCell ⟨b,1,none⟩ q) ∧((∀k,k≠b →((w1.setCell ⟨b,0,none⟩ p).setCell ⟨b,1,none⟩ q).heap[k]?=w1.heap[k]?) ∧((w1.setCell ⟨b,0,none⟩ p).setCell ⟨b,1,none⟩ q).heap.size=w1.heap.size):=by
 have hs:qu w1 ((w1.setCell ⟨b,0,none⟩ p).setCell ⟨b,1,none⟩ q) b 0 [p,q]:=qm (cs:=[p,q]) (hk.there 0 2 (Nat.le_refl _))
 exact⟨run_loadVar_mid (P:=Tryz.prog) _ b 0 200 [p,q] _ (hk.all hs rfl).rg Tryz.underlying200 rfl (by kernel_rfl),hb.trans (hs.below hB),hs.far,hs.sz⟩
theorem aqb (rows:List (List Prt)) (hr:∀r∈rows,r.length≤100):∀k,(rows.take k).flatten.length≤k*100:=by
 intro k
 induction rows generalizing k with
 | nil=>simp
 | cons r rows ih=>
  cases k with
  | zero=>simp
  | succ k=>
   have h1:=hr r (List.mem_cons_self ..)
   have h2:=ih (fun x hx=>hr x (List.mem_cons_of_mem _ hx)) k
   rw[List.take_succ_cons,List.flatten_cons,List.length_append]
   omega
theorem a56 {Q:Nat→Prop} {w:World} (nm:ByteArray) (A:Option Addr) (c:Nat) (vs:List Value) (rows:List (List Prt)) (h:qf Q w A vs) (hv:be3 w vs rows) (hm:rows.length≤10) (hr:∀r∈rows,r.length≤100) :
 Calls Tryz.prog 186 #[.string nm,.slice A rows.length c] w (xh (nm,rows.flatten) w):=by
 have HI:=hid (And.intro h.lt hv.2)
 have HL:=hid (aqb rows hr)
 obtain⟨i0,hi,hz0,hz1,hz2⟩:=jo apa
 have HIN:=hid (And.intro hi (And.intro hz0 (And.intro hz1 hz2)))
 have HLR:=hid hr
 have HE:Hid (rows.take rows.length=rows):=hid (by rw[List.take_length])
 clear hi hz0 hz1 hz2 h hv hr
 obtain⟨n,hn⟩:∃n,rows.length=n:=⟨_,rfl⟩
 rw[hn]at hm HE ⊢
 have HN:=hid hn
 clear hn
 unfold xh
 dsimp only
 go_enter Tryz.func186,Tryz.ntmps186
 go_upto_region 2 with fail
 have HR:Hid (Blk ((w.alloc (.cells #[.string ⟨#[]⟩,.slice none 0 0] 200)).alloc (.cells #[.string nm,.slice none 0 0] 200)) w.heap.size [.string ⟨#[]⟩,.slice none 0 0]):=hid ((Blk.newL (qg w _ _) rfl).on (qa _ _))
 have HF:Hid (Blk ((w.alloc (.cells #[.string ⟨#[]⟩,.slice none 0 0] 200)).alloc (.cells #[.string nm,.slice none 0 0] 200)) (w.heap.size+1) [.string nm,.slice none 0 0]):=hid (by
  have q:=Blk.newL (qg (w.alloc (.cells #[.string ⟨#[]⟩,.slice none 0 0] 200)) #[.string nm,.slice none 0 0] 200) (L:=[.string nm,.slice none 0 0]) rfl
  rwa [show (w.alloc (.cells #[.string ⟨#[]⟩,.slice none 0 0] 200)).heap.size=w.heap.size+1 from Array.size_push _]at q)
 have HB:Hid (Below w.heap.size w ((w.alloc (.cells #[.string ⟨#[]⟩,.slice none 0 0] 200)).alloc (.cells #[.string nm,.slice none 0 0] 200))):=hid (qb (qa _ _) (qa _ _))
 have HG:Hid (w.heap.size<w.heap.size+1):=hid (Nat.lt_succ_self _)
 generalize (w.alloc (.cells #[.string ⟨#[]⟩,.slice none 0 0] 200)).alloc (.cells #[.string nm,.slice none 0 0] 200)=W1 at *
 go_wp2_with fail
 go_loopg [12] n (fun g s12 wr=>∃k:Nat,k≤n∧n-k≤g∧s12=.int .i64 k∧Hid (∃v K,K=(rows.take k).flatten.length∧Blk wr (w.heap.size+1) [.string nm,v]∧wr.ownsRow (w.heap.size+2) 261 4 v K (qx (rows.take k).flatten))∧Hid (Blk wr w.heap.size [.string ⟨#[]⟩,.slice none 0 0])∧Hid (Below w.heap.size w wr))
 case atStart=>exact⟨0,by omega,by omega,rfl,⟨_,0,rfl,HF.out,World.ownsRow_nil _ _ _ _⟩,HR.out,HB.out⟩
 case round=>
  obtain⟨k,hk,hg,rfl,HV,HR2,HB2⟩:=hrel
  clear HR HF HB
  obtain⟨v,K,HK,hf,ho⟩:=HV.out
  have HK1:=hid HK
  have HF2:=hid hf
  have HO2:=hid ho
  clear HV HK
  by_cases hlt:k<n
  ·have hkl:k<rows.length:=by rw[HN.out];exact hlt
   obtain⟨Ai,ci,hvk,hfi⟩:=HI.out.2 k hkl
   obtain⟨b',o',rfl,hq,hc⟩:=HI.out.1 k _ hvk
   have HSN:Hid ((rows.take (k+1)).flatten=(rows.take k).flatten++rows[k]):=hid (by rw[List.take_succ_eq_append_getElem hkl,List.flatten_append];simp)
   have HLR1:=hid (HLR.out rows[k] (List.getElem_mem hkl))
   have hLk:=HL.out k
   rw[← HK1.out]at hLk
   have hc':wr.cell? ⟨b',o'+k,none⟩=some (.slice Ai rows[k].length ci):=(HB2.out.cell (p:=⟨b',o'+k,none⟩) hq.2).trans hc
   have hfi':=hfi.below HB2.out (fun _ q=>q)
   have c1:=HF2.out.cell 1 (v:=v) rfl
   have z1:=HF2.out.fz 1
   clear hc hfi hvk
   generalize rows[k]=x at *
   have i1:(k:Int)<n:=by omega
   have i2:(0:Int) ≤(k:Int):=Int.natCast_nonneg _
   have hxl:=HLR1.out
   have hFs:=HF2.out.lt
   obtain⟨v',w3,hrun,ho3,hb3⟩:=ai7 (P:=Tryz.prog) (t:=198) (ty:=198) HO2.out (by omega) HIN.out Tryz.underlying198 rfl (by decide) Ai x.length ci (qx x) (acz x) hfi' (arv x) (by unfold maxLen;omega) (by omega)
   obtain⟨A1,c1',hs1,-,-⟩:=xk HO2.out
   subst hs1
   obtain⟨A3,c3,hs3,-,-⟩:=xk ho3
   subst hs3
   have HRUN:=hid hrun
   have HO3:=hid ho3
   have HF3:=hid (HF2.out.below hb3 (by omega))
   have HR3:=hid (HR2.out.below hb3 (by have:=HG.out;omega))
   have HB3:=hid (HB2.out.trans (hb3.mono (by have:=HG.out;omega)))
   have z1':=HF3.out.fz 1
   have d1:=HF3.out.cell 1 (v:=.slice A1 K c1') rfl
   obtain⟨hf4,hs4⟩:=HF3.out.set (o:=1) (by simp) (.slice A3 (K+x.length) c3)
   have HF4:Hid (Blk (w3.setCell ⟨w.heap.size+1,1,none⟩ (.slice A3 (K+x.length) c3)) (w.heap.size+1) [.string nm,.slice A3 (K+x.length) c3]):=hid hf4
   have HO4:Hid ((w3.setCell ⟨w.heap.size+1,1,none⟩ (.slice A3 (K+x.length) c3)).ownsRow (w.heap.size+2) 261 4 (.slice A3 (K+x.length) c3) (K+x.length) (qx (rows.take (k+1)).flatten)):=hid (by rw[HSN.out,acx];exact ajt HO3.out (Nat.lt_succ_self _) _)
   have HR4:=hid (HR3.out.far hs4 (by have:=HG.out;omega))
   have HB4:=hid (HB3.out.trans (hs4.below (by have:=HG.out;omega)))
   have HK4:Hid (K+x.length=(rows.take (k+1)).flatten.length):=hid (by rw[HSN.out,List.length_append,HK1.out])
   clear hrun ho3 hb3 hf4 hs4 hfi' ho hf HF3 HR3 HB3 HO3
   go_wp2_with (at_builtin;refine qz rfl _ _ 198 rfl _ _ _ rfl rfl HRUN.out ?_)
   go_roundg (n-(k+1))
   case measure=>omega
   case rel=>exact⟨k+1,by omega,by omega,by go_num,⟨_,_,HK4.out,HF4.out,HO4.out⟩,HR4,HB4⟩
  ·obtain rfl:k=n:=by omega
   have HKE:=hid (HE.out▸HK1.out:K=rows.flatten.length)
   rw[HE.out]at HO2
   obtain⟨A1,c1',rfl,-,hfl,-⟩:=xk HO2.out
   have HFL:=hid hfl
   have c0:=HF2.out.cell 0 (v:=.string nm) rfl
   have c1:=HF2.out.cell 1 (v:=.slice A1 K c1') rfl
   have r0:=HR2.out.cell 0 (v:=.string ⟨#[]⟩) rfl
   have r1:=HR2.out.cell 1 (v:=.slice none 0 0) rfl
   have z0:=HR2.out.fz 0
   have z1:=HR2.out.fz 1
   clear hf ho hfl
   go_wp2_with fail
   obtain⟨q1,q2,q3,q4⟩:=ajx HR2.out (.string nm) (.slice A1 K c1') HB2.out (Nat.le_refl _)
   refine bodyPost_ret (v:=.agg #[.string nm,.slice A1 K c1']) (by rw[qk rfl];simp[asAddr,Result.andThen];exact q1) rfl ⟨A1,c1',by rw[HKE.out],?_,q2⟩
   refine(HFL.out.keep fun j hj=>q3 j (by have:=HG.out;omega)).less fun j hj=>⟨by have:=HG.out;omega,by rw[q4];exact hj.2⟩
theorem bdp {w w':World} {A:Option Addr} {xs:List Value} (h:qf (fun b=>b<w.heap.size) w A xs) (hb:Below w.heap.size w w'):qf (fun b=>b<w'.heap.size) w' A xs:=(h.below hb fun _ q=>q).less fun _ q=>Nat.lt_of_lt_of_le q hb.size
theorem vo (ns:List ByteArray) {W:World} {C:Array Value} {t:TypeId} (hC:C=(yo ns).toArray):qf (fun _=>True) (W.alloc (.cells C t)) (some ⟨W.heap.size,0,none⟩) (yo ns):=
 (Blk.newL (qg W C t) (by rw[hC])).flat trivial
theorem alt (w:World):Calls Tryz.prog 196 #[] w (aa9 (za 2 true aee) w):=by
 have HC:∀C,C=(yo aee).toArray→Hid (Calls Tryz.prog 190 #[.slice (some ⟨w.heap.size,0,none⟩) 9 9] (w.alloc (.cells C 9)) (aa9 (za 2 true aee) (w.alloc (.cells C 9)))):=fun C hC=>hid (anx (some ⟨w.heap.size,0,none⟩) aee 9 (vo aee hC) (by decide))
 go_enter Tryz.func196,Tryz.ntmps196
 go_wp2_with fail
 refine(HC _ rfl).out.mono ?_
 rintro e w1 ⟨v,rfl,ho⟩
 have HB:Hid (Below w.heap.size w (w.alloc (.cells (yo aee).toArray 9))):=hid (qa _ _)
 have HO:Hid (aa4 w 261 4 v 9 (qx (za 2 true aee)) w1):=hid ⟨ho.1.mono HB.out.size,HB.out.trans (ho.2.mono HB.out.size)⟩
 obtain⟨A1,c1,hs1,-,-⟩:=ho.flat
 subst hs1
 clear ho HC
 go_wp2_with fail
 go_ret
 exact⟨_,rfl,HO.out⟩
def Pk (w W:World) (rows:List (Option Addr×Nat×List Prt)):Prop:=Blk W w.heap.size [.string ⟨#[]⟩,.slice none 0 0]∧Below w.heap.size w W∧∀x∈rows,qf (fun b=>b<W.heap.size) W x.1 (qx x.2.2)
theorem Pk.start (w:World):Pk w (w.alloc (.cells #[.string ⟨#[]⟩,.slice none 0 0] 200)) []:=⟨Blk.newL (qg w _ _) rfl,qa _ _,fun x hx=>by cases hx⟩
theorem Pk.on {w W W':World} {rows:List (Option Addr×Nat×List Prt)} (h:Pk w W rows) (hb:Below W.heap.size W W'):Pk w W' rows:=⟨h.1.on hb,qb h.2.1 hb,fun x hx=>bdp (h.2.2 x hx) hb⟩
theorem ad9 {w W W1:World} {rows:List (Option Addr×Nat×List Prt)} {fn:FuncId} {ar:Array Value} {l:List Prt} {n:Nat} (h:Hid (Pk w W rows)) (hb:Below W.heap.size W W1) (hn:l.length=n) (H:Calls Tryz.prog fn ar W1 (aa9 l W1)) :
 Calls Tryz.prog fn ar W1 fun e w'=>∃A c,e=.returned (.slice A n c)∧Hid (Pk w w' (rows++[(A,c,l)])):=by
 refine H.mono ?_
 rintro e w' ⟨v,rfl,ho⟩
 obtain⟨A,c,rfl,-,hf⟩:=ho.flat
 have hp:=h.out.on (hb.trans (ho.2.mono hb.size))
 refine⟨A,c,by rw[hn],hp.1,hp.2.1,fun x hx=>?_⟩
 rcases List.mem_append.1 hx with q|q
 ·exact hp.2.2 x q
 ·rw[List.mem_singleton.1 q]
  exact hf.less fun _ r=>r.2
theorem ak4 {w W:World} {rows:List (Option Addr×Nat×List Prt)} (h:Hid (Pk w W rows)):Calls Tryz.prog 196 #[] W fun e w'=>∃A c,e=.returned (.slice A 9 c)∧Hid (Pk w w' (rows++[(A,c,za 2 true aee)])):=ad9 h (Below.refl _ _) rfl (alt W)
theorem ayi (m:Nat) (ns:List ByteArray) {w W:World} {rows:List (Option Addr×Nat×List Prt)} {C:Array Value} {n:Nat} (h:Hid (Pk w W rows)) (hC:C=(yo ns).toArray) (hn:ns.length=n) (hm:ns.length≤1000) :
 Calls Tryz.prog 195 #[.int .i64 m,.slice (some ⟨W.heap.size,0,none⟩) n n] (W.alloc (.cells C 9)) fun e w'=>∃A c,e=.returned (.slice A n c)∧Hid (Pk w w' (rows++[(A,c,ahf m ns)])):=
 ad9 h (qa _ _) (by simp[ahf,hn]) (hn▸auz m (some ⟨W.heap.size,0,none⟩) ns _ (vo ns hC) hm)
theorem ada (ns:List ByteArray) {w W:World} {rows:List (Option Addr×Nat×List Prt)} {C:Array Value} {n:Nat} (h:Hid (Pk w W rows)) (hC:C=(yo ns).toArray) (hn:ns.length=n) (hm:ns.length≤1000) :
 Calls Tryz.prog 187 #[.slice (some ⟨W.heap.size,0,none⟩) n n] (W.alloc (.cells C 9)) fun e w'=>∃A c,e=.returned (.slice A n c)∧Hid (Pk w w' (rows++[(A,c,za 1 false ns)])):=
 ad9 h (qa _ _) (by simp[za,hn]) (hn▸aqq (some ⟨W.heap.size,0,none⟩) ns _ (vo ns hC) hm)
theorem acf (ns:List ByteArray) {w W:World} {rows:List (Option Addr×Nat×List Prt)} {C:Array Value} {n:Nat} (h:Hid (Pk w W rows)) (hC:C=(yo ns).toArray) (hn:ns.length=n) (hm:ns.length≤1000) :
 Calls Tryz.prog 189 #[.slice (some ⟨W.heap.size,0,none⟩) n n] (W.alloc (.cells C 9)) fun e w'=>∃A c,e=.returned (.slice A n c)∧Hid (Pk w w' (rows++[(A,c,za 2 false ns)])):=
 ad9 h (qa _ _) (by simp[za,hn]) (hn▸a3o (some ⟨W.heap.size,0,none⟩) ns _ (vo ns hC) hm)
theorem acg (ns:List ByteArray) {w W:World} {rows:List (Option Addr×Nat×List Prt)} {C:Array Value} {n:Nat} (h:Hid (Pk w W rows)) (hC:C=(yo ns).toArray) (hn:ns.length=n) (hm:ns.length≤1000) :
 Calls Tryz.prog 188 #[.slice (some ⟨W.heap.size,0,none⟩) n n] (W.alloc (.cells C 9)) fun e w'=>∃A c,e=.returned (.slice A n c)∧Hid (Pk w w' (rows++[(A,c,za 4 false ns)])):=
 ad9 h (qa _ _) (by simp[za,hn]) (hn▸a0k (some ⟨W.heap.size,0,none⟩) ns _ (vo ns hC) hm)
theorem apg (ns:List ByteArray) {w W:World} {rows:List (Option Addr×Nat×List Prt)} {C:Array Value} {n:Nat} (h:Hid (Pk w W rows)) (hC:C=(yo ns).toArray) (hn:ns.length=n) (hm:ns.length≤1000) :
 Calls Tryz.prog 192 #[.slice (some ⟨W.heap.size,0,none⟩) n n] (W.alloc (.cells C 9)) fun e w'=>∃A c,e=.returned (.slice A n c)∧Hid (Pk w w' (rows++[(A,c,za 8 false ns)])):=
 ad9 h (qa _ _) (by simp[za,hn]) (hn▸a17 (some ⟨W.heap.size,0,none⟩) ns _ (vo ns hC) hm)
theorem bhu (ns:List ByteArray) {w W:World} {rows:List (Option Addr×Nat×List Prt)} {C:Array Value} {n:Nat} (h:Hid (Pk w W rows)) (hC:C=(yo ns).toArray) (hn:ns.length=n) (hm:ns.length≤1000) :
 Calls Tryz.prog 191 #[.slice (some ⟨W.heap.size,0,none⟩) n n] (W.alloc (.cells C 9)) fun e w'=>∃A c,e=.returned (.slice A n c)∧Hid (Pk w w' (rows++[(A,c,za 1 true ns)])):=
 ad9 h (qa _ _) (by simp[za,hn]) (hn▸a8k (some ⟨W.heap.size,0,none⟩) ns _ (vo ns hC) hm)
theorem au3 (ns:List ByteArray) {w W:World} {rows:List (Option Addr×Nat×List Prt)} {C:Array Value} {n:Nat} (h:Hid (Pk w W rows)) (hC:C=(yo ns).toArray) (hn:ns.length=n) (hm:ns.length≤1000) :
 Calls Tryz.prog 190 #[.slice (some ⟨W.heap.size,0,none⟩) n n] (W.alloc (.cells C 9)) fun e w'=>∃A c,e=.returned (.slice A n c)∧Hid (Pk w w' (rows++[(A,c,za 2 true ns)])):=
 ad9 h (qa _ _) (by simp[za,hn]) (hn▸anx (some ⟨W.heap.size,0,none⟩) ns _ (vo ns hC) hm)
theorem a34 (ns:List ByteArray) {w W:World} {rows:List (Option Addr×Nat×List Prt)} {C:Array Value} {n:Nat} (h:Hid (Pk w W rows)) (hC:C=(yo ns).toArray) (hn:ns.length=n) (hm:ns.length≤1000) :
 Calls Tryz.prog 194 #[.slice (some ⟨W.heap.size,0,none⟩) n n] (W.alloc (.cells C 9)) fun e w'=>∃A c,e=.returned (.slice A n c)∧Hid (Pk w w' (rows++[(A,c,za 4 true ns)])):=
 ad9 h (qa _ _) (by simp[za,hn]) (hn▸a2x (some ⟨W.heap.size,0,none⟩) ns _ (vo ns hC) hm)
theorem bg4 (ns:List ByteArray) {w W:World} {rows:List (Option Addr×Nat×List Prt)} {C:Array Value} {n:Nat} (h:Hid (Pk w W rows)) (hC:C=(yo ns).toArray) (hn:ns.length=n) (hm:ns.length≤1000) :
 Calls Tryz.prog 193 #[.slice (some ⟨W.heap.size,0,none⟩) n n] (W.alloc (.cells C 9)) fun e w'=>∃A c,e=.returned (.slice A n c)∧Hid (Pk w w' (rows++[(A,c,za 8 true ns)])):=
 ad9 h (qa _ _) (by simp[za,hn]) (hn▸a0z (some ⟨W.heap.size,0,none⟩) ns _ (vo ns hC) hm)
def PkF (w W:World) (f:TFm) (A:Option Addr):Prop:=Blk W w.heap.size [.string ⟨#[]⟩,.slice none 0 0]∧Below w.heap.size w W∧qf (fun b=>w.heap.size<b∧b<W.heap.size) W A (qx f.2)
def bgi (x:Option Addr×Nat×List Prt):Value:=.slice x.1 x.2.2.length x.2.1
theorem aas (f:TFm) {w W:World} {rows:List (Option Addr×Nat×List Prt)} {C:Array Value} {nm:ByteArray} {m k:Nat} (h:Hid (Pk w W rows)) (hC:C=(rows.map bgi).toArray) (hm:rows.length=m) (hs:(decide (rows.length≤10) && (rows.map (·.2.2)).all fun l=>decide (l.length≤100))=true) (hf:f=(nm,(rows.map (·.2.2)).flatten)) (hk:f.2.length=k) :
 Calls Tryz.prog 186 #[.string nm,.slice (some ⟨W.heap.size,0,none⟩) m m] (W.alloc (.cells C 198)) fun e w'=>∃A c,e=.returned (.agg #[.string nm,.slice A k c])∧Hid (PkF w w' f A):=by
 rw[Bool.and_eq_true,List.all_eq_true,decide_eq_true_eq]at hs
 have hb:=qa W (.cells C 198)
 have hp:=h.out.on hb
 have hv:be3 (W.alloc (.cells C 198)) (rows.map bgi) (rows.map (·.2.2)):=⟨by simp,fun i hi=>by
  have hi':i<rows.length:=by simpa using hi
  refine⟨rows[i].1,rows[i].2.1,?_,?_⟩
  ·rw[List.getElem?_map,List.getElem?_eq_getElem hi',List.getElem_map];rfl
  ·rw[List.getElem_map];exact hp.2.2 _ (List.getElem_mem hi')⟩
 have H:=a56 nm (some ⟨W.heap.size,0,none⟩) m (rows.map bgi) (rows.map (·.2.2)) ((Blk.newL (qg W C 198) (by rw[hC])).flat (Q:=fun _=>True) trivial) hv (by rw[List.length_map];exact hs.1) (fun r hr=>of_decide_eq_true (hs.2 r hr))
 rw[List.length_map,hm]at H
 refine H.mono ?_
 rintro e w' ⟨A,c,rfl,hfl,hb2⟩
 have hbb:=hb.trans (hb2.mono hb.size)
 have hw:=h.out.1.lt
 refine⟨A,c,by rw[← hk,hf],(h.out.on hbb).1,(h.out.on hbb).2.1,?_⟩
 rw[hf]
 exact hfl.less fun b q=>⟨by have:=hb.size;have:=q.1;omega,q.2⟩
theorem PkF.cells {w W:World} {f:TFm} {A:Option Addr} (h:PkF w W f A):W.cell? ⟨w.heap.size,0,none⟩=some (.string ⟨#[]⟩)∧W.cell? ⟨w.heap.size,1,none⟩=some (.slice none 0 0)∧W.frozen? ⟨w.heap.size,0,none⟩=false∧W.frozen? ⟨w.heap.size,1,none⟩=false:=⟨h.1.cell 0 rfl,h.1.cell 1 rfl,h.1.fz 0,h.1.fz 1⟩
theorem PkF.res {w W:World} {f:TFm} {A:Option Addr} (h:PkF w W f A) (p q:Value):(loadVar 200 ⟨w.heap.size,0,none⟩).run Tryz.prog ((W.setCell ⟨w.heap.size,0,none⟩ p).setCell ⟨w.heap.size,1,none⟩ q)=.ok (.agg #[p,q]) ((W.setCell ⟨w.heap.size,0,none⟩ p).setCell ⟨w.heap.size,1,none⟩ q):=(ajx h.1 p q h.2.1 (Nat.le_refl _)).1
theorem PkF.post {w W:World} {f:TFm} {A:Option Addr} {c k:Nat} {nm:ByteArray} (h:PkF w W f A) (p q:Value) (hn:f.1=nm) (hk:f.2.length=k):xh f w (.returned (.agg #[.string nm,.slice A k c])) ((W.setCell ⟨w.heap.size,0,none⟩ p).setCell ⟨w.heap.size,1,none⟩ q):=by
 obtain⟨-,q2,q3,q4⟩:=ajx h.1 p q h.2.1 (Nat.le_refl _)
 refine⟨A,c,by rw[hn,hk],(h.2.2.keep fun j hj=>q3 j (by have:=hj.1;omega)).less fun j hj=>⟨by have:=hj.1;omega,by rw[q4];exact hj.2⟩,q2⟩
theorem abd {w:World}:(loadVar 200 ⟨w.heap.size,0,none⟩).run Tryz.prog (w.alloc (.cells #[.string ⟨#[]⟩,.slice none 0 0] 200))=.ok (.agg #[.string ⟨#[]⟩,.slice none 0 0]) (w.alloc (.cells #[.string ⟨#[]⟩,.slice none 0 0] 200))∧xh noF w (.returned (.agg #[.string ⟨#[]⟩,.slice none 0 0])) (w.alloc (.cells #[.string ⟨#[]⟩,.slice none 0 0] 200)):=
 ⟨run_loadVar_mid (P:=Tryz.prog) _ w.heap.size 0 200 [.string ⟨#[]⟩,.slice none 0 0] _ (Pk.start w).1.rg Tryz.underlying200 rfl (by kernel_rfl),none,0,rfl,qf.nil _ _ _,qa _ _⟩
set_option maxRecDepth 8000
set_option maxHeartbeats 1000000
theorem a19 (w:World):Calls Tryz.prog 119 #[.int .i64 200] w (xh ave w):=by
 go_enter Tryz.func119,Tryz.ntmps119
 go_upto_region 1 with fail
 have P0:=hid (Pk.start w)
 generalize w.alloc (.cells #[.string ⟨#[]⟩,.slice none 0 0] 200)=w0 at *
 go_wp2_with fail
 refine(acg a9m P0 rfl rfl (by decide)).mono ?_
 rintro e w1 ⟨A0,c0,rfl,P1⟩
 go_wp2_with fail
 refine(au3 ba7 P1 rfl rfl (by decide)).mono ?_
 rintro e w2 ⟨A1,c1,rfl,P2⟩
 go_wp2_with fail
 refine(aas ave P2 rfl rfl (by kernel_rfl) (by kernel_rfl) rfl).mono ?_
 rintro e wf ⟨AF,cf,rfl,PF⟩
 obtain⟨r0,r1,z0,z1⟩:=PF.out.cells
 go_wp2_with fail
 exact bodyPost_ret (by rw[qk rfl];simp[asAddr,Result.andThen];exact PF.out.res _ _) rfl (PF.out.post _ _ rfl rfl)
theorem az7 (w:World):Calls Tryz.prog 119 #[.int .i64 201] w (xh asy w):=by
 go_enter Tryz.func119,Tryz.ntmps119
 go_upto_region 1 with fail
 have P0:=hid (Pk.start w)
 generalize w.alloc (.cells #[.string ⟨#[]⟩,.slice none 0 0] 200)=w0 at *
 go_wp2_with fail
 refine(acg bbi P0 rfl rfl (by decide)).mono ?_
 rintro e w1 ⟨A0,c0,rfl,P1⟩
 go_wp2_with fail
 refine(a34 a9w P1 rfl rfl (by decide)).mono ?_
 rintro e w2 ⟨A1,c1,rfl,P2⟩
 go_wp2_with fail
 refine(acg bbu P2 rfl rfl (by decide)).mono ?_
 rintro e w3 ⟨A2,c2,rfl,P3⟩
 go_wp2_with fail
 refine(acf a95 P3 rfl rfl (by decide)).mono ?_
 rintro e w4 ⟨A3,c3,rfl,P4⟩
 go_wp2_with fail
 refine(aas asy P4 rfl rfl (by kernel_rfl) (by kernel_rfl) rfl).mono ?_
 rintro e wf ⟨AF,cf,rfl,PF⟩
 obtain⟨r0,r1,z0,z1⟩:=PF.out.cells
 go_wp2_with fail
 exact bodyPost_ret (by rw[qk rfl];simp[asAddr,Result.andThen];exact PF.out.res _ _) rfl (PF.out.post _ _ rfl rfl)
theorem a2f (w:World):Calls Tryz.prog 119 #[.int .i64 202] w (xh ar8 w):=by
 go_enter Tryz.func119,Tryz.ntmps119
 go_upto_region 1 with fail
 have P0:=hid (Pk.start w)
 generalize w.alloc (.cells #[.string ⟨#[]⟩,.slice none 0 0] 200)=w0 at *
 go_wp2_with fail
 refine(acg bce P0 rfl rfl (by decide)).mono ?_
 rintro e w1 ⟨A0,c0,rfl,P1⟩
 go_wp2_with fail
 refine(ada bbk P1 rfl rfl (by decide)).mono ?_
 rintro e w2 ⟨A1,c1,rfl,P2⟩
 go_wp2_with fail
 refine(ayi 64 ba1 P2 rfl rfl (by decide)).mono ?_
 rintro e w3 ⟨A2,c2,rfl,P3⟩
 go_wp2_with fail
 refine(aas ar8 P3 rfl rfl (by kernel_rfl) (by kernel_rfl) rfl).mono ?_
 rintro e wf ⟨AF,cf,rfl,PF⟩
 obtain⟨r0,r1,z0,z1⟩:=PF.out.cells
 go_wp2_with fail
 exact bodyPost_ret (by rw[qk rfl];simp[asAddr,Result.andThen];exact PF.out.res _ _) rfl (PF.out.post _ _ rfl rfl)
theorem awo (i:Int) (w:World) (h200:¬i=200) (h201:¬i=201) (h202:¬i=202):Calls Tryz.prog 119 #[.int .i64 i] w (xh noF w):=by
 go_enter Tryz.func119,Tryz.ntmps119
 go_wp2_with fail
 exact bodyPost_ret (by rw[qk rfl];simp[asAddr,Result.andThen];exact abd.1) rfl abd.2
theorem a06 (i:Int) (w:World):Calls Tryz.prog 119 #[.int .i64 i] w (xh (au4 i) w):=by
 by_cases h200:i=200
 ·subst h200;exact a19 w
 by_cases h201:i=201
 ·subst h201;exact az7 w
 by_cases h202:i=202
 ·subst h202;exact a2f w
 rw[show au4 i=noF from by unfold au4;rw[if_neg h200];rw[if_neg h201];rw[if_neg h202]]
 exact awo i w h200 h201 h202
set_option maxRecDepth 8000
set_option maxHeartbeats 1000000
theorem a0v (w:World):Calls Tryz.prog 116 #[.int .i64 0] w (xh baj w):=by
 go_enter Tryz.func116,Tryz.ntmps116
 go_upto_region 1 with fail
 have P0:=hid (Pk.start w)
 generalize w.alloc (.cells #[.string ⟨#[]⟩,.slice none 0 0] 200)=w0 at *
 go_wp2_with fail
 refine(ada bh5 P0 rfl rfl (by decide)).mono ?_
 rintro e w1 ⟨A0,c0,rfl,P1⟩
 go_wp2_with fail
 refine(acg bhl P1 rfl rfl (by decide)).mono ?_
 rintro e w2 ⟨A1,c1,rfl,P2⟩
 go_wp2_with fail
 refine(ada bhp P2 rfl rfl (by decide)).mono ?_
 rintro e w3 ⟨A2,c2,rfl,P3⟩
 go_wp2_with fail
 refine(aas baj P3 rfl rfl (by kernel_rfl) (by kernel_rfl) rfl).mono ?_
 rintro e wf ⟨AF,cf,rfl,PF⟩
 obtain⟨r0,r1,z0,z1⟩:=PF.out.cells
 go_wp2_with fail
 exact bodyPost_ret (by rw[qk rfl];simp[asAddr,Result.andThen];exact PF.out.res _ _) rfl (PF.out.post _ _ rfl rfl)
theorem a2v (w:World):Calls Tryz.prog 116 #[.int .i64 1] w (xh a9i w):=by
 go_enter Tryz.func116,Tryz.ntmps116
 go_upto_region 1 with fail
 have P0:=hid (Pk.start w)
 generalize w.alloc (.cells #[.string ⟨#[]⟩,.slice none 0 0] 200)=w0 at *
 go_wp2_with fail
 refine(acg bhy P0 rfl rfl (by decide)).mono ?_
 rintro e w1 ⟨A0,c0,rfl,P1⟩
 go_wp2_with fail
 refine(acf bhi P1 rfl rfl (by decide)).mono ?_
 rintro e w2 ⟨A1,c1,rfl,P2⟩
 go_wp2_with fail
 refine(au3 bh2 P2 rfl rfl (by decide)).mono ?_
 rintro e w3 ⟨A2,c2,rfl,P3⟩
 go_wp2_with fail
 refine(bhu bhs P3 rfl rfl (by decide)).mono ?_
 rintro e w4 ⟨A3,c3,rfl,P4⟩
 go_wp2_with fail
 refine(acf bhh P4 rfl rfl (by decide)).mono ?_
 rintro e w5 ⟨A4,c4,rfl,P5⟩
 go_wp2_with fail
 refine(aas a9i P5 rfl rfl (by kernel_rfl) (by kernel_rfl) rfl).mono ?_
 rintro e wf ⟨AF,cf,rfl,PF⟩
 obtain⟨r0,r1,z0,z1⟩:=PF.out.cells
 go_wp2_with fail
 exact bodyPost_ret (by rw[qk rfl];simp[asAddr,Result.andThen];exact PF.out.res _ _) rfl (PF.out.post _ _ rfl rfl)
theorem a33 (w:World):Calls Tryz.prog 116 #[.int .i64 2] w (xh bar w):=by
 go_enter Tryz.func116,Tryz.ntmps116
 go_upto_region 1 with fail
 have P0:=hid (Pk.start w)
 generalize w.alloc (.cells #[.string ⟨#[]⟩,.slice none 0 0] 200)=w0 at *
 go_wp2_with fail
 refine(apg bho P0 rfl rfl (by decide)).mono ?_
 rintro e w1 ⟨A0,c0,rfl,P1⟩
 go_wp2_with fail
 refine(acg bh7 P1 rfl rfl (by decide)).mono ?_
 rintro e w2 ⟨A1,c1,rfl,P2⟩
 go_wp2_with fail
 refine(aas bar P2 rfl rfl (by kernel_rfl) (by kernel_rfl) rfl).mono ?_
 rintro e wf ⟨AF,cf,rfl,PF⟩
 obtain⟨r0,r1,z0,z1⟩:=PF.out.cells
 go_wp2_with fail
 exact bodyPost_ret (by rw[qk rfl];simp[asAddr,Result.andThen];exact PF.out.res _ _) rfl (PF.out.post _ _ rfl rfl)
theorem a3p (w:World):Calls Tryz.prog 116 #[.int .i64 4] w (xh bbg w):=by
 go_enter Tryz.func116,Tryz.ntmps116
 go_upto_region 1 with fail
 have P0:=hid (Pk.start w)
 generalize w.alloc (.cells #[.string ⟨#[]⟩,.slice none 0 0] 200)=w0 at *
 go_wp2_with fail
 refine(apg bh6 P0 rfl rfl (by decide)).mono ?_
 rintro e w1 ⟨A0,c0,rfl,P1⟩
 go_wp2_with fail
 refine(acg bhz P1 rfl rfl (by decide)).mono ?_
 rintro e w2 ⟨A1,c1,rfl,P2⟩
 go_wp2_with fail
 refine(ada bh8 P2 rfl rfl (by decide)).mono ?_
 rintro e w3 ⟨A2,c2,rfl,P3⟩
 go_wp2_with fail
 refine(aas bbg P3 rfl rfl (by kernel_rfl) (by kernel_rfl) rfl).mono ?_
 rintro e wf ⟨AF,cf,rfl,PF⟩
 obtain⟨r0,r1,z0,z1⟩:=PF.out.cells
 go_wp2_with fail
 exact bodyPost_ret (by rw[qk rfl];simp[asAddr,Result.andThen];exact PF.out.res _ _) rfl (PF.out.post _ _ rfl rfl)
theorem ar6 (w:World):Calls Tryz.prog 116 #[.int .i64 111] w (xh auc w):=by
 go_enter Tryz.func116,Tryz.ntmps116
 go_upto_region 1 with fail
 have P0:=hid (Pk.start w)
 generalize w.alloc (.cells #[.string ⟨#[]⟩,.slice none 0 0] 200)=w0 at *
 go_wp2_with fail
 refine(bg4 bb2 P0 rfl rfl (by decide)).mono ?_
 rintro e w1 ⟨A0,c0,rfl,P1⟩
 go_wp2_with fail
 refine(aas auc P1 rfl rfl (by kernel_rfl) (by kernel_rfl) rfl).mono ?_
 rintro e wf ⟨AF,cf,rfl,PF⟩
 obtain⟨r0,r1,z0,z1⟩:=PF.out.cells
 go_wp2_with fail
 exact bodyPost_ret (by rw[qk rfl];simp[asAddr,Result.andThen];exact PF.out.res _ _) rfl (PF.out.post _ _ rfl rfl)
theorem ar3 (w:World):Calls Tryz.prog 116 #[.int .i64 125] w (xh ata w):=by
 go_enter Tryz.func116,Tryz.ntmps116
 go_upto_region 1 with fail
 have P0:=hid (Pk.start w)
 generalize w.alloc (.cells #[.string ⟨#[]⟩,.slice none 0 0] 200)=w0 at *
 go_wp2_with fail
 refine(acf ba0 P0 rfl rfl (by decide)).mono ?_
 rintro e w1 ⟨A0,c0,rfl,P1⟩
 go_wp2_with fail
 refine(aas ata P1 rfl rfl (by kernel_rfl) (by kernel_rfl) rfl).mono ?_
 rintro e wf ⟨AF,cf,rfl,PF⟩
 obtain⟨r0,r1,z0,z1⟩:=PF.out.cells
 go_wp2_with fail
 exact bodyPost_ret (by rw[qk rfl];simp[asAddr,Result.andThen];exact PF.out.res _ _) rfl (PF.out.post _ _ rfl rfl)
theorem apk (i:Int) (w:World) (h0:¬i=0) (h1:¬i=1) (h2:¬i=2) (h4:¬i=4) (h111:¬i=111) (h125:¬i=125):Calls Tryz.prog 116 #[.int .i64 i] w (xh noF w):=by
 go_enter Tryz.func116,Tryz.ntmps116
 go_wp2_with fail
 exact bodyPost_ret (by rw[qk rfl];simp[asAddr,Result.andThen];exact abd.1) rfl abd.2
theorem au0 (i:Int) (w:World):Calls Tryz.prog 116 #[.int .i64 i] w (xh (afa i) w):=by
 by_cases h0:i=0
 ·subst h0;exact a0v w
 by_cases h1:i=1
 ·subst h1;exact a2v w
 by_cases h2:i=2
 ·subst h2;exact a33 w
 by_cases h4:i=4
 ·subst h4;exact a3p w
 by_cases h111:i=111
 ·subst h111;exact ar6 w
 by_cases h125:i=125
 ·subst h125;exact ar3 w
 rw[show afa i=noF from by unfold afa;rw[if_neg h0];rw[if_neg h1];rw[if_neg h2];rw[if_neg h4];rw[if_neg h111];rw[if_neg h125]]
 exact apk i w h0 h1 h2 h4 h111 h125
set_option maxRecDepth 8000
set_option maxHeartbeats 1000000
theorem at0 (w:World):Calls Tryz.prog 117 #[.int .i64 24] w (xh a3d w):=by
 go_enter Tryz.func117,Tryz.ntmps117
 go_upto_region 1 with fail
 have P0:=hid (Pk.start w)
 generalize w.alloc (.cells #[.string ⟨#[]⟩,.slice none 0 0] 200)=w0 at *
 go_wp2_with fail
 refine(apg bew P0 rfl rfl (by decide)).mono ?_
 rintro e w1 ⟨A0,c0,rfl,P1⟩
 go_wp2_with fail
 refine(ada bfv P1 rfl rfl (by decide)).mono ?_
 rintro e w2 ⟨A1,c1,rfl,P2⟩
 go_wp2_with fail
 refine(a34 bfl P2 rfl rfl (by decide)).mono ?_
 rintro e w3 ⟨A2,c2,rfl,P3⟩
 go_wp2_with fail
 refine(acf bfh P3 rfl rfl (by decide)).mono ?_
 rintro e w4 ⟨A3,c3,rfl,P4⟩
 go_wp2_with fail
 refine(ada be2 P4 rfl rfl (by decide)).mono ?_
 rintro e w5 ⟨A4,c4,rfl,P5⟩
 go_wp2_with fail
 refine(aas a3d P5 rfl rfl (by kernel_rfl) (by kernel_rfl) rfl).mono ?_
 rintro e wf ⟨AF,cf,rfl,PF⟩
 obtain⟨r0,r1,z0,z1⟩:=PF.out.cells
 go_wp2_with fail
 exact bodyPost_ret (by rw[qk rfl];simp[asAddr,Result.andThen];exact PF.out.res _ _) rfl (PF.out.post _ _ rfl rfl)
theorem aud (w:World):Calls Tryz.prog 117 #[.int .i64 25] w (xh a09 w):=by
 go_enter Tryz.func117,Tryz.ntmps117
 go_upto_region 1 with fail
 have P0:=hid (Pk.start w)
 generalize w.alloc (.cells #[.string ⟨#[]⟩,.slice none 0 0] 200)=w0 at *
 go_wp2_with fail
 refine(ada be8 P0 rfl rfl (by decide)).mono ?_
 rintro e w1 ⟨A0,c0,rfl,P1⟩
 go_wp2_with fail
 refine(ayi 20 bfs P1 rfl rfl (by decide)).mono ?_
 rintro e w2 ⟨A1,c1,rfl,P2⟩
 go_wp2_with fail
 refine(aas a09 P2 rfl rfl (by kernel_rfl) (by kernel_rfl) rfl).mono ?_
 rintro e wf ⟨AF,cf,rfl,PF⟩
 obtain⟨r0,r1,z0,z1⟩:=PF.out.cells
 go_wp2_with fail
 exact bodyPost_ret (by rw[qk rfl];simp[asAddr,Result.andThen];exact PF.out.res _ _) rfl (PF.out.post _ _ rfl rfl)
theorem ar7 (w:World):Calls Tryz.prog 117 #[.int .i64 26] w (xh a2d w):=by
 go_enter Tryz.func117,Tryz.ntmps117
 go_upto_region 1 with fail
 have P0:=hid (Pk.start w)
 generalize w.alloc (.cells #[.string ⟨#[]⟩,.slice none 0 0] 200)=w0 at *
 go_wp2_with fail
 refine(acg bex P0 rfl rfl (by decide)).mono ?_
 rintro e w1 ⟨A0,c0,rfl,P1⟩
 go_wp2_with fail
 refine(ak4 P1).mono ?_
 rintro e w2 ⟨A1,c1,rfl,P2⟩
 go_wp2_with fail
 refine(aas a2d P2 rfl rfl (by kernel_rfl) (by kernel_rfl) rfl).mono ?_
 rintro e wf ⟨AF,cf,rfl,PF⟩
 obtain⟨r0,r1,z0,z1⟩:=PF.out.cells
 go_wp2_with fail
 exact bodyPost_ret (by rw[qk rfl];simp[asAddr,Result.andThen];exact PF.out.res _ _) rfl (PF.out.post _ _ rfl rfl)
theorem at3 (w:World):Calls Tryz.prog 117 #[.int .i64 27] w (xh a2j w):=by
 go_enter Tryz.func117,Tryz.ntmps117
 go_upto_region 1 with fail
 have P0:=hid (Pk.start w)
 generalize w.alloc (.cells #[.string ⟨#[]⟩,.slice none 0 0] 200)=w0 at *
 go_wp2_with fail
 refine(apg bey P0 rfl rfl (by decide)).mono ?_
 rintro e w1 ⟨A0,c0,rfl,P1⟩
 go_wp2_with fail
 refine(ak4 P1).mono ?_
 rintro e w2 ⟨A1,c1,rfl,P2⟩
 go_wp2_with fail
 refine(aas a2j P2 rfl rfl (by kernel_rfl) (by kernel_rfl) rfl).mono ?_
 rintro e wf ⟨AF,cf,rfl,PF⟩
 obtain⟨r0,r1,z0,z1⟩:=PF.out.cells
 go_wp2_with fail
 exact bodyPost_ret (by rw[qk rfl];simp[asAddr,Result.andThen];exact PF.out.res _ _) rfl (PF.out.post _ _ rfl rfl)
theorem asm (w:World):Calls Tryz.prog 117 #[.int .i64 28] w (xh a2k w):=by
 go_enter Tryz.func117,Tryz.ntmps117
 go_upto_region 1 with fail
 have P0:=hid (Pk.start w)
 generalize w.alloc (.cells #[.string ⟨#[]⟩,.slice none 0 0] 200)=w0 at *
 go_wp2_with fail
 refine(apg bfi P0 rfl rfl (by decide)).mono ?_
 rintro e w1 ⟨A0,c0,rfl,P1⟩
 go_wp2_with fail
 refine(au3 bfx P1 rfl rfl (by decide)).mono ?_
 rintro e w2 ⟨A1,c1,rfl,P2⟩
 go_wp2_with fail
 refine(aas a2k P2 rfl rfl (by kernel_rfl) (by kernel_rfl) rfl).mono ?_
 rintro e wf ⟨AF,cf,rfl,PF⟩
 obtain⟨r0,r1,z0,z1⟩:=PF.out.cells
 go_wp2_with fail
 exact bodyPost_ret (by rw[qk rfl];simp[asAddr,Result.andThen];exact PF.out.res _ _) rfl (PF.out.post _ _ rfl rfl)
theorem au5 (w:World):Calls Tryz.prog 117 #[.int .i64 33] w (xh a0m w):=by
 go_enter Tryz.func117,Tryz.ntmps117
 go_upto_region 1 with fail
 have P0:=hid (Pk.start w)
 generalize w.alloc (.cells #[.string ⟨#[]⟩,.slice none 0 0] 200)=w0 at *
 go_wp2_with fail
 refine(acg be9 P0 rfl rfl (by decide)).mono ?_
 rintro e w1 ⟨A0,c0,rfl,P1⟩
 go_wp2_with fail
 refine(a34 bfq P1 rfl rfl (by decide)).mono ?_
 rintro e w2 ⟨A1,c1,rfl,P2⟩
 go_wp2_with fail
 refine(au3 bez P2 rfl rfl (by decide)).mono ?_
 rintro e w3 ⟨A2,c2,rfl,P3⟩
 go_wp2_with fail
 refine(acf be1 P3 rfl rfl (by decide)).mono ?_
 rintro e w4 ⟨A3,c3,rfl,P4⟩
 go_wp2_with fail
 refine(aas a0m P4 rfl rfl (by kernel_rfl) (by kernel_rfl) rfl).mono ?_
 rintro e wf ⟨AF,cf,rfl,PF⟩
 obtain⟨r0,r1,z0,z1⟩:=PF.out.cells
 go_wp2_with fail
 exact bodyPost_ret (by rw[qk rfl];simp[asAddr,Result.andThen];exact PF.out.res _ _) rfl (PF.out.post _ _ rfl rfl)
theorem ans (i:Int) (w:World) (h24:¬i=24) (h25:¬i=25) (h26:¬i=26) (h27:¬i=27) (h28:¬i=28) (h33:¬i=33):Calls Tryz.prog 117 #[.int .i64 i] w (xh noF w):=by
 go_enter Tryz.func117,Tryz.ntmps117
 go_wp2_with fail
 exact bodyPost_ret (by rw[qk rfl];simp[asAddr,Result.andThen];exact abd.1) rfl abd.2
theorem aqd (i:Int) (w:World):Calls Tryz.prog 117 #[.int .i64 i] w (xh (acn i) w):=by
 by_cases h24:i=24
 ·subst h24;exact at0 w
 by_cases h25:i=25
 ·subst h25;exact aud w
 by_cases h26:i=26
 ·subst h26;exact ar7 w
 by_cases h27:i=27
 ·subst h27;exact at3 w
 by_cases h28:i=28
 ·subst h28;exact asm w
 by_cases h33:i=33
 ·subst h33;exact au5 w
 rw[show acn i=noF from by unfold acn;rw[if_neg h24];rw[if_neg h25];rw[if_neg h26];rw[if_neg h27];rw[if_neg h28];rw[if_neg h33]]
 exact ans i w h24 h25 h26 h27 h28 h33
set_option maxRecDepth 8000
set_option maxHeartbeats 1000000
theorem awa (w:World):Calls Tryz.prog 118 #[.int .i64 35] w (xh a01 w):=by
 go_enter Tryz.func118,Tryz.ntmps118
 go_upto_region 1 with fail
 have P0:=hid (Pk.start w)
 generalize w.alloc (.cells #[.string ⟨#[]⟩,.slice none 0 0] 200)=w0 at *
 go_wp2_with fail
 refine(acg be5 P0 rfl rfl (by decide)).mono ?_
 rintro e w1 ⟨A0,c0,rfl,P1⟩
 go_wp2_with fail
 refine(ada bfm P1 rfl rfl (by decide)).mono ?_
 rintro e w2 ⟨A1,c1,rfl,P2⟩
 go_wp2_with fail
 refine(acf bfr P2 rfl rfl (by decide)).mono ?_
 rintro e w3 ⟨A2,c2,rfl,P3⟩
 go_wp2_with fail
 refine(ada be6 P3 rfl rfl (by decide)).mono ?_
 rintro e w4 ⟨A3,c3,rfl,P4⟩
 go_wp2_with fail
 refine(aas a01 P4 rfl rfl (by kernel_rfl) (by kernel_rfl) rfl).mono ?_
 rintro e wf ⟨AF,cf,rfl,PF⟩
 obtain⟨r0,r1,z0,z1⟩:=PF.out.cells
 go_wp2_with fail
 exact bodyPost_ret (by rw[qk rfl];simp[asAddr,Result.andThen];exact PF.out.res _ _) rfl (PF.out.post _ _ rfl rfl)
theorem azo (w:World):Calls Tryz.prog 118 #[.int .i64 36] w (xh az5 w):=by
 go_enter Tryz.func118,Tryz.ntmps118
 go_upto_region 1 with fail
 have P0:=hid (Pk.start w)
 generalize w.alloc (.cells #[.string ⟨#[]⟩,.slice none 0 0] 200)=w0 at *
 go_wp2_with fail
 refine(acg be4 P0 rfl rfl (by decide)).mono ?_
 rintro e w1 ⟨A0,c0,rfl,P1⟩
 go_wp2_with fail
 refine(ada bfn P1 rfl rfl (by decide)).mono ?_
 rintro e w2 ⟨A1,c1,rfl,P2⟩
 go_wp2_with fail
 refine(acf bfg P2 rfl rfl (by decide)).mono ?_
 rintro e w3 ⟨A2,c2,rfl,P3⟩
 go_wp2_with fail
 refine(aas az5 P3 rfl rfl (by kernel_rfl) (by kernel_rfl) rfl).mono ?_
 rintro e wf ⟨AF,cf,rfl,PF⟩
 obtain⟨r0,r1,z0,z1⟩:=PF.out.cells
 go_wp2_with fail
 exact bodyPost_ret (by rw[qk rfl];simp[asAddr,Result.andThen];exact PF.out.res _ _) rfl (PF.out.post _ _ rfl rfl)
theorem axn (w:World):Calls Tryz.prog 118 #[.int .i64 42] w (xh a18 w):=by
 go_enter Tryz.func118,Tryz.ntmps118
 go_upto_region 1 with fail
 have P0:=hid (Pk.start w)
 generalize w.alloc (.cells #[.string ⟨#[]⟩,.slice none 0 0] 200)=w0 at *
 go_wp2_with fail
 refine(acf bfc P0 rfl rfl (by decide)).mono ?_
 rintro e w1 ⟨A0,c0,rfl,P1⟩
 go_wp2_with fail
 refine(aas a18 P1 rfl rfl (by kernel_rfl) (by kernel_rfl) rfl).mono ?_
 rintro e wf ⟨AF,cf,rfl,PF⟩
 obtain⟨r0,r1,z0,z1⟩:=PF.out.cells
 go_wp2_with fail
 exact bodyPost_ret (by rw[qk rfl];simp[asAddr,Result.andThen];exact PF.out.res _ _) rfl (PF.out.post _ _ rfl rfl)
theorem awb (w:World):Calls Tryz.prog 118 #[.int .i64 44] w (xh a1s w):=by
 go_enter Tryz.func118,Tryz.ntmps118
 go_upto_region 1 with fail
 have P0:=hid (Pk.start w)
 generalize w.alloc (.cells #[.string ⟨#[]⟩,.slice none 0 0] 200)=w0 at *
 go_wp2_with fail
 refine(ada bfa P0 rfl rfl (by decide)).mono ?_
 rintro e w1 ⟨A0,c0,rfl,P1⟩
 go_wp2_with fail
 refine(acf bfo P1 rfl rfl (by decide)).mono ?_
 rintro e w2 ⟨A1,c1,rfl,P2⟩
 go_wp2_with fail
 refine(aas a1s P2 rfl rfl (by kernel_rfl) (by kernel_rfl) rfl).mono ?_
 rintro e wf ⟨AF,cf,rfl,PF⟩
 obtain⟨r0,r1,z0,z1⟩:=PF.out.cells
 go_wp2_with fail
 exact bodyPost_ret (by rw[qk rfl];simp[asAddr,Result.andThen];exact PF.out.res _ _) rfl (PF.out.post _ _ rfl rfl)
theorem azc (w:World):Calls Tryz.prog 118 #[.int .i64 47] w (xh az2 w):=by
 go_enter Tryz.func118,Tryz.ntmps118
 go_upto_region 1 with fail
 have P0:=hid (Pk.start w)
 generalize w.alloc (.cells #[.string ⟨#[]⟩,.slice none 0 0] 200)=w0 at *
 go_wp2_with fail
 refine(ada bfj P0 rfl rfl (by decide)).mono ?_
 rintro e w1 ⟨A0,c0,rfl,P1⟩
 go_wp2_with fail
 refine(aas az2 P1 rfl rfl (by kernel_rfl) (by kernel_rfl) rfl).mono ?_
 rintro e wf ⟨AF,cf,rfl,PF⟩
 obtain⟨r0,r1,z0,z1⟩:=PF.out.cells
 go_wp2_with fail
 exact bodyPost_ret (by rw[qk rfl];simp[asAddr,Result.andThen];exact PF.out.res _ _) rfl (PF.out.post _ _ rfl rfl)
theorem ayw (w:World):Calls Tryz.prog 118 #[.int .i64 66] w (xh a15 w):=by
 go_enter Tryz.func118,Tryz.ntmps118
 go_upto_region 1 with fail
 have P0:=hid (Pk.start w)
 generalize w.alloc (.cells #[.string ⟨#[]⟩,.slice none 0 0] 200)=w0 at *
 go_wp2_with fail
 refine(ada bfp P0 rfl rfl (by decide)).mono ?_
 rintro e w1 ⟨A0,c0,rfl,P1⟩
 go_wp2_with fail
 refine(acf bfe P1 rfl rfl (by decide)).mono ?_
 rintro e w2 ⟨A1,c1,rfl,P2⟩
 go_wp2_with fail
 refine(ada bfk P2 rfl rfl (by decide)).mono ?_
 rintro e w3 ⟨A2,c2,rfl,P3⟩
 go_wp2_with fail
 refine(aas a15 P3 rfl rfl (by kernel_rfl) (by kernel_rfl) rfl).mono ?_
 rintro e wf ⟨AF,cf,rfl,PF⟩
 obtain⟨r0,r1,z0,z1⟩:=PF.out.cells
 go_wp2_with fail
 exact bodyPost_ret (by rw[qk rfl];simp[asAddr,Result.andThen];exact PF.out.res _ _) rfl (PF.out.post _ _ rfl rfl)
theorem aw2 (w:World):Calls Tryz.prog 118 #[.int .i64 77] w (xh a0j w):=by
 go_enter Tryz.func118,Tryz.ntmps118
 go_upto_region 1 with fail
 have P0:=hid (Pk.start w)
 generalize w.alloc (.cells #[.string ⟨#[]⟩,.slice none 0 0] 200)=w0 at *
 go_wp2_with fail
 refine(acf bff P0 rfl rfl (by decide)).mono ?_
 rintro e w1 ⟨A0,c0,rfl,P1⟩
 go_wp2_with fail
 refine(ada be7 P1 rfl rfl (by decide)).mono ?_
 rintro e w2 ⟨A1,c1,rfl,P2⟩
 go_wp2_with fail
 refine(aas a0j P2 rfl rfl (by kernel_rfl) (by kernel_rfl) rfl).mono ?_
 rintro e wf ⟨AF,cf,rfl,PF⟩
 obtain⟨r0,r1,z0,z1⟩:=PF.out.cells
 go_wp2_with fail
 exact bodyPost_ret (by rw[qk rfl];simp[asAddr,Result.andThen];exact PF.out.res _ _) rfl (PF.out.post _ _ rfl rfl)
theorem aqg (i:Int) (w:World) (h35:¬i=35) (h36:¬i=36) (h42:¬i=42) (h44:¬i=44) (h47:¬i=47) (h66:¬i=66) (h77:¬i=77):Calls Tryz.prog 118 #[.int .i64 i] w (xh noF w):=by
 go_enter Tryz.func118,Tryz.ntmps118
 go_wp2_with fail
 exact bodyPost_ret (by rw[qk rfl];simp[asAddr,Result.andThen];exact abd.1) rfl abd.2
theorem auk (i:Int) (w:World):Calls Tryz.prog 118 #[.int .i64 i] w (xh (afq i) w):=by
 by_cases h35:i=35
 ·subst h35;exact awa w
 by_cases h36:i=36
 ·subst h36;exact azo w
 by_cases h42:i=42
 ·subst h42;exact axn w
 by_cases h44:i=44
 ·subst h44;exact awb w
 by_cases h47:i=47
 ·subst h47;exact azc w
 by_cases h66:i=66
 ·subst h66;exact ayw w
 by_cases h77:i=77
 ·subst h77;exact aw2 w
 rw[show afq i=noF from by unfold afq;rw[if_neg h35];rw[if_neg h36];rw[if_neg h42];rw[if_neg h44];rw[if_neg h47];rw[if_neg h66];rw[if_neg h77]]
 exact aqg i w h35 h36 h42 h44 h47 h66 h77
def ae0:List TFm→TFm
 | []=>noF
 | f::r=>if f.1≠ByteArray.empty then f else ae0 r
theorem ayt (i:Int):zt i=ae0 [afa i,acn i,afq i,au4 i]:=rfl
theorem aka {s:ByteArray} (h:¬s=⟨#[]⟩):s.toList.isEmpty=false:=by
 rw[ByteArray.toList_eq,List.isEmpty_eq_false_iff]
 intro q
 exact h (ByteArray.ext (Array.toList_inj.1 q))
theorem aay {B B':Nat} {w w':World} {A:Option Addr} {xs:List Value} (h:qf (fun b=>B≤b∧b<w.heap.size) w A xs) (hb:Below w.heap.size w w') (hB:B'≤B):qf (fun b=>B'≤b∧b<w'.heap.size) w' A xs:=
 (h.below hb fun _ q=>q.2).less fun _ q=>⟨Nat.le_trans hB q.1,Nat.lt_of_lt_of_le q.2 hb.size⟩
def ayr (B:Nat) (w:World) (g:Nat) (fs:List TFm):Prop:=g<w.heap.size∧∀k f,fs[k]?=some f→∃A c,w.cell? ⟨g,2*k,none⟩=some (.string f.1)∧w.cell? ⟨g,2*k+1,none⟩=some (.slice A f.2.length c)∧qf (fun b=>B≤b∧b<w.heap.size) w A (qx f.2)
theorem ayr.on {B:Nat} {w w':World} {g:Nat} {fs:List TFm} (h:ayr B w g fs) (hb:Below w.heap.size w w'):ayr B w' g fs:=by
 refine⟨Nat.lt_of_lt_of_le h.1 hb.size,fun k f hk=>?_⟩
 obtain⟨A,c,h1,h2,h3⟩:=h.2 k f hk
 exact⟨A,c,(hb.cell (p:=⟨g,2*k,none⟩) h.1).trans h1,(hb.cell (p:=⟨g,2*k+1,none⟩) h.1).trans h2,aay h3 hb (Nat.le_refl _)⟩
theorem agm (i:Int) (w:World):Calls Tryz.prog 89 #[.int .i64 i] w (xh (zt i) w):=by
 rw[ayt]
 have H1:=fun W=>hid (au0 i W)
 have H2:=fun W=>hid (aqd i W)
 have H3:=fun W=>hid (auk i W)
 have H4:=fun W=>hid (a06 i W)
 generalize afa i=f0 at *
 generalize acn i=f1 at *
 generalize afq i=f2 at *
 generalize au4 i=f3 at *
 obtain⟨⟨rn,rl⟩,hres⟩:∃res,ae0 [f0,f1,f2,f3]=res:=⟨_,rfl⟩
 have HRES:=hid hres
 rw[hres]
 clear hres
 unfold xh at *
 dsimp only
 go_enter Tryz.func89,Tryz.ntmps89
 go_upto_region 1 with fail
 have HR0:=hid (Blk.newL (qg w #[.string ⟨#[]⟩,.slice none 0 0] 200) rfl)
 have HB0:Hid (Below w.heap.size w (w.alloc (.cells #[.string ⟨#[]⟩,.slice none 0 0] 200))):=hid (qa _ _)
 generalize w.alloc (.cells #[.string ⟨#[]⟩,.slice none 0 0] 200)=w0 at *
 go_wp2_with fail
 refine(H1 w0).out.mono ?_
 rintro e w1 ⟨A0,c0,rfl,hf,hb⟩
 have HF0:=hid hf
 have HR1:=hid (HR0.out.on hb)
 have HB1:=hid (qb HB0.out hb)
 have HS1:=hid HR0.out.lt
 clear hf hb HR0 HB0
 go_wp2_with fail
 refine(H2 w1).out.mono ?_
 rintro e w2 ⟨A1,c1,rfl,hf,hb⟩
 have HF0':=hid (aay HF0.out hb (Nat.le_refl _))
 have HF1:=hid hf
 have HR2:=hid (HR1.out.on hb)
 have HB2:=hid (qb HB1.out hb)
 have HS2:=hid HR1.out.lt
 clear hf hb HR1 HB1 HF0
 go_wp2_with fail
 refine(H3 w2).out.mono ?_
 rintro e w3 ⟨A2,c2,rfl,hf,hb⟩
 have HF0:=hid (aay HF0'.out hb (Nat.le_refl _))
 have HF1':=hid (aay HF1.out hb (Nat.le_refl _))
 have HF2:=hid hf
 have HR3:=hid (HR2.out.on hb)
 have HB3:=hid (qb HB2.out hb)
 have HS3:=hid HR2.out.lt
 clear hf hb HR2 HB2 HF0' HF1
 go_wp2_with fail
 refine(H4 w3).out.mono ?_
 rintro e w4 ⟨A3,c3,rfl,hf,hb⟩
 have HF0':=hid (aay HF0.out hb (Nat.le_refl _))
 have HF1:=hid (aay HF1'.out hb (Nat.le_refl _))
 have HF2':=hid (aay HF2.out hb (Nat.le_refl _))
 have HF3:=hid hf
 have HR4:=hid (HR3.out.on hb)
 have HB4:=hid (qb HB3.out hb)
 have HS4:=hid HR3.out.lt
 clear hf hb HR3 HB3 HF0 HF1' HF2
 have HX:Hid (ayr (w.heap.size+1) (w4.alloc (.cells #[.string f0.1,.slice A0 f0.2.length c0,.string f1.1,.slice A1 f1.2.length c1,.string f2.1,.slice A2 f2.2.length c2,.string f3.1,.slice A3 f3.2.length c3] 200)) w4.heap.size [f0,f1,f2,f3]):=hid (by
  have hk:=Blk.newL (qg w4 #[.string f0.1,.slice A0 f0.2.length c0,.string f1.1,.slice A1 f1.2.length c1,.string f2.1,.slice A2 f2.2.length c2,.string f3.1,.slice A3 f3.2.length c3] 200) rfl
  have hb:=qa w4 (.cells #[.string f0.1,.slice A0 f0.2.length c0,.string f1.1,.slice A1 f1.2.length c1,.string f2.1,.slice A2 f2.2.length c2,.string f3.1,.slice A3 f3.2.length c3] 200)
  refine⟨hk.lt,fun k f hf=>?_⟩
  have:k<4:=by
   have:=(List.getElem?_eq_some_iff.1 hf).1
   exact this
  have:k=0∨k=1∨k=2∨k=3:=by omega
  rcases this with rfl|rfl|rfl|rfl
  ·injection hf with hf;subst hf
   exact⟨_,_,hk.cell 0 rfl,hk.cell 1 rfl,aay HF0'.out hb HS1.out⟩
  ·injection hf with hf;subst hf
   exact⟨_,_,hk.cell 2 rfl,hk.cell 3 rfl,aay HF1.out hb HS2.out⟩
  ·injection hf with hf;subst hf
   exact⟨_,_,hk.cell 4 rfl,hk.cell 5 rfl,aay HF2'.out hb HS3.out⟩
  ·injection hf with hf;subst hf
   exact⟨_,_,hk.cell 6 rfl,hk.cell 7 rfl,aay HF3.out hb HS4.out⟩)
 have HR5:=hid (HR4.out.on (qa w4 (.cells #[.string f0.1,.slice A0 f0.2.length c0,.string f1.1,.slice A1 f1.2.length c1,.string f2.1,.slice A2 f2.2.length c2,.string f3.1,.slice A3 f3.2.length c3] 200)))
 have HB5:=hid (qb HB4.out (qa w4 (.cells #[.string f0.1,.slice A0 f0.2.length c0,.string f1.1,.slice A1 f1.2.length c1,.string f2.1,.slice A2 f2.2.length c2,.string f3.1,.slice A3 f3.2.length c3] 200)))
 clear HF0' HF1 HF2' HF3 HS1 HS2 HS3 HS4 HR4 HB4 H1 H2 H3 H4
 go_wp2_with fail
 generalize hfs:[f0,f1,f2,f3]=fs at *
 have hl4:fs.length=4:=by subst hfs;rfl
 have HL4:=hid hl4
 clear hfs hl4
 generalize w4.alloc (.cells #[.string f0.1,.slice A0 f0.2.length c0,.string f1.1,.slice A1 f1.2.length c1,.string f2.1,.slice A2 f2.2.length c2,.string f3.1,.slice A3 f3.2.length c3] 200)=w5 at *
 generalize w4.heap.size=g at *
 go_loopg [15] 4 (fun t s15 wr=>∃k:Nat,k≤4∧4-k≤t∧s15=.int .i64 k∧Hid (ae0 (fs.drop k)=ae0 fs)∧Hid (ayr (w.heap.size+1) wr g fs)∧Hid (Blk wr w.heap.size [.string ⟨#[]⟩,.slice none 0 0])∧Hid (Below w.heap.size w wr))
 case atStart=>exact⟨0,by omega,by omega,rfl,rfl,HX.out,HR5.out,HB5.out⟩
 case round=>
  obtain⟨k,hk,ht,rfl,HFF,HX2,HR,HB⟩:=hrel
  clear HX HR5 HB5
  by_cases hlt:k<4
  ·have hkl:k<fs.length:=by rw[HL4.out];exact hlt
   obtain⟨A,c,hc0,hc1,hfl⟩:=HX2.out.2 k _ (List.getElem?_eq_getElem hkl)
   have HDR:Hid (fs.drop k=fs[k]::fs.drop (k+1)):=hid (List.drop_eq_getElem_cons hkl)
   generalize fs[k]=f at *
   obtain⟨n,l⟩:=f
   dsimp only at hc0 hc1 hfl
   have HFL:=hid hfl
   clear hfl
   rw[Nat.mul_comm]at hc0 hc1
   have i1:(k:Int)<4:=by omega
   have i2:(0:Int) ≤(k:Int):=Int.natCast_nonneg _
   have HR1:=hid (HR.out.on (qa wr (.cells #[.string n,.slice A l.length c] 200)))
   have HB1:=hid (qb HB.out (qa wr (.cells #[.string n,.slice A l.length c] 200)))
   have HX1:=hid (HX2.out.on (qa wr (.cells #[.string n,.slice A l.length c] 200)))
   have HFL1:=hid (aay HFL.out (qa wr (.cells #[.string n,.slice A l.length c] 200)) (Nat.le_refl _))
   have HN1:=hid (Blk.newL (qg wr #[.string n,.slice A l.length c] 200) rfl)
   have HRL:=hid HR.out.lt
   go_upto_region 4 with fail
   clear HR HB HX2 HFL hc0 hc1
   generalize wr.alloc (.cells #[.string n,.slice A l.length c] 200)=wn at *
   have n0:=HN1.out.cell 0 (v:=.string n) rfl
   have n1:=HN1.out.cell 1 (v:=.slice A l.length c) rfl
   have r0:=HR1.out.cell 0 (v:=.string ⟨#[]⟩) rfl
   have r1:=HR1.out.cell 1 (v:=.slice none 0 0) rfl
   have z0:=HR1.out.fz 0
   have z1:=HR1.out.fz 1
   generalize wr.heap.size=q at *
   by_cases hn:n=⟨#[]⟩
   ·have HF2:Hid (ae0 (fs.drop (k+1))=ae0 fs):=hid (by rw[← HFF.out,HDR.out];conv=>rhs;unfold ae0;(rw[if_neg (by rw[hn];exact fun h=>h rfl)]))
    subst hn
    go_wp2_with fail
    go_roundg (4-(k+1))
    case measure=>omega
    case rel=>exact⟨k+1,by omega,by omega,by go_num,HF2,HX1,HR1,HB1⟩
   ·have hf2:(rn,rl)=(n,l):=by rw[← HRES.out,← HFF.out,HDR.out];unfold ae0;(rw[if_pos (by exact hn)])
    injection hf2 with e1 e2
    subst e1 e2
    have hn2:=aka hn
    go_wp2_with fail
    obtain⟨q1,q2,q3,q4⟩:=ajx HR1.out (.string rn) (.slice A rl.length c) HB1.out (Nat.le_refl _)
    refine bodyPost_ret (v:=.agg #[.string rn,.slice A rl.length c]) (by rw[qk rfl];simp[asAddr,Result.andThen];exact q1) rfl ⟨A,⟨c,rfl⟩,?_,q2⟩
    refine(HFL1.out.keep fun j hj=>q3 j (by omega)).less fun j hj=>⟨by omega,by rw[q4];exact hj.2⟩
  ·obtain rfl:k=4:=by omega
   have hf2:(rn,rl)=noF:=by rw[← HRES.out,← HFF.out,← HL4.out,List.drop_length];rfl
   injection hf2 with e1 e2
   subst e1 e2
   have r0:=HR.out.cell 0 (v:=.string ⟨#[]⟩) rfl
   have r1:=HR.out.cell 1 (v:=.slice none 0 0) rfl
   have z0:=HR.out.fz 0
   have z1:=HR.out.fz 1
   go_wp2_with fail
   obtain⟨q1,q2,q3,q4⟩:=ajx HR.out (.string ⟨#[]⟩) (.slice none 0 0) HB.out (Nat.le_refl _)
   refine bodyPost_ret (v:=.agg #[.string ⟨#[]⟩,.slice none 0 0]) (by rw[qk rfl];simp[asAddr,Result.andThen];exact q1) rfl ⟨none,0,rfl,qf.nil _ _ _,q2⟩
theorem a6m (a b:Value) (W:World):(Instr.field 200 (.agg #[a,b]) 1).run Tryz.prog W=.ok b W:=by kernel_rfl
theorem ap8 (i:Int) (w:World):Calls Tryz.prog 110 #[.int .i64 i] w fun e w'=>∃A c,e=.returned (.slice A (zt i).2.length c)∧qf (fun b=>w.heap.size≤b∧b<w'.heap.size) w' A (qx (zt i).2)∧Below w.heap.size w w':=by
 have H:=hid (agm i w)
 generalize zt i=f at *
 obtain⟨n,l⟩:=f
 unfold xh at H
 dsimp only at *
 go_enter Tryz.func110,Tryz.ntmps110
 go_wp2_with fail
 refine(H.out).mono ?_
 rintro e w1 ⟨A,c,rfl,hf,hb⟩
 have HF:=hid (And.intro hf hb)
 clear hf hb
 have HFD:=a6m (.string n) (.slice A l.length c) w1
 go_wp2_with fail
 go_ret
 exact⟨A,c,rfl,HF.out.1,HF.out.2⟩
theorem alo (p:Prt) (w:World):Calls Tryz.prog 112 #[.agg #[.string p.nm,.int .i64 p.sz,.bool p.sg,.int .i64 p.mn]] w fun e w'=>e=.returned (.int .i64 (yq p:Int))∧Below w.heap.size w w':=by
 obtain⟨nm,sz,sg,mn⟩:=p
 unfold yq
 dsimp only
 have e:max (mn:Int) 1=((if mn=0 then 1 else mn:Nat):Int):=by split<;>omega
 generalize (if mn=0 then 1 else mn:Nat)=r at *
 go_enter Tryz.func112,Tryz.ntmps112
 go_wp2_with fail
 go_ret
 exact⟨by rw[← e];rfl,qa _ _⟩
def SmP (l:List Prt):Prop:=∀p∈l,p.sz≤8∧p.mn≤64
theorem awr (p:Prt) (w:World) (hs:p.sz≤8) (hn:p.mn≤64):Calls Tryz.prog 111 #[.agg #[.string p.nm,.int .i64 p.sz,.bool p.sg,.int .i64 p.mn]] w fun e w'=>e=.returned (.int .i64 ((p.sz*yq p:Nat):Int))∧Below w.heap.size w w':=by
 have HN:=fun W=>hid (alo p W)
 have hnb:yq p≤64:=by unfold yq;split<;>omega
 obtain⟨nm,sz,sg,mn⟩:=p
 generalize yq ⟨nm,sz,sg,mn⟩=r at *
 dsimp only at *
 have hml:sz*r≤8*64:=Nat.mul_le_mul hs hnb
 have hmc:(sz:Int)*(r:Int)=((sz*r:Nat):Int):=(Int.natCast_mul sz r).symm
 have e1:IntKind.i64.wrap ((sz:Int)*(r:Int))=((sz*r:Nat):Int):=by rw[hmc];exact IntWalk.i64_in _ (by omega)
 have HM:=hid hmc
 clear hmc
 generalize sz*r=m at *
 go_enter Tryz.func111,Tryz.ntmps111
 go_upto_region 1 with fail
 have HK:Hid (Blk (w.alloc (.cells #[.string nm,.int .i64 sz,.bool sg,.int .i64 mn] 261)) w.heap.size [.string nm,.int .i64 sz,.bool sg,.int .i64 mn]):=hid (Blk.newL (qg w _ _) rfl)
 have HB:Hid (Below w.heap.size w (w.alloc (.cells #[.string nm,.int .i64 sz,.bool sg,.int .i64 mn] 261))):=hid (qa _ _)
 generalize w.alloc (.cells #[.string nm,.int .i64 sz,.bool sg,.int .i64 mn] 261)=W1 at *
 try (apply wp_seq_k;intro K_ HK_)
 have hS0:Below W1.heap.size W1 W1.drew:=(Below.refl _ _).drew
 refine wp_region_held_drew (S:=fun w'=>Below W1.heap.size W1 w') (by kernel_rfl) hS0 (fun hHeld0=>?_)
 refine tkQ (i:=0) (oi:=⟨some 3,_,_,_,_,_⟩) (v:=?_) rfl (Or.inl ⟨by rfl,?_⟩) ?_
 rotate_left
 ·intro w' hSw
  go_simp
  try with_reducible rfl
 try go_frame
 refine tkQ (i:=1) (oi:=⟨some 4,_,_,_,_,_⟩) (v:=?_) rfl (Or.inl ⟨by rfl,?_⟩) ?_
 rotate_left
 ·intro w' hSw
  have x1:=(HK.out.on hSw).cell 1 (v:=.int .i64 sz) rfl
  go_simp
  try with_reducible rfl
 try go_frame
 refine tkQ (i:=2) (oi:=⟨some 5,_,_,_,_,_⟩) (v:=_) rfl (yieldsIf_load_mid (by rfl) 261 _ rfl w.heap.size 0 rfl [.string nm,.int .i64 sz,.bool sg,.int .i64 mn] _ (fun w' hSw=>(HK.out.on hSw).rg) Tryz.underlying261 rfl (by kernel_rfl)) ?_
 try go_frame
 refine wpAnyH_ready (rs:=[3]) (by kernel_rfl) (by simp) ?_
 refine AllReadyH.cons (o:=⟨some 6,_,_,_,_,_⟩) rfl (fun K hK=>?_) AllReadyH.nil
 rw[if_pos (by rfl)]
 go_step
 refine(HN _).out.mono ?_
 rintro e w2 ⟨rfl,hb⟩
 have HS2:Hid (Below W1.heap.size W1 w2):=hid (hHeld0.trans (hb.mono hHeld0.size))
 clear hb
 try go_frame
 refine hK.out _ _ (HS2.out) (fun hHeld=>?_)
 clear hK K
 try go_frame
 refine tkQ (i:=4) (oi:=⟨some 7,_,_,_,_,_⟩) (v:=?_) rfl (Or.inl ⟨by rfl,?_⟩) ?_
 rotate_left
 ·intro w' hSw
  go_simp
  try with_reducible rfl
 try go_frame
 refine tkQ (i:=5) (oi:=⟨some 2,_,_,_,_,_⟩) (v:=?_) rfl (Or.inl ⟨by rfl,?_⟩) ?_
 rotate_left
 ·intro w' hSw
  go_simp
  try with_reducible rfl
 try go_frame
 refine wpAnyH_done (by kernel_rfl) ?_ _
 try go_frame
 have HB2:=hid (qb HB.out HS2.out)
 clear hHeld hHeld0 hS0
 go_wp2_with fail
 go_ret
 exact⟨rfl,HB2.out⟩
theorem aio {Q:Nat→Prop} {w:World} {A:Option Addr} {l:List Prt} (h:qf Q w A (qx l)) (k:Nat) (hk:k<l.length):∃b off,A=some ⟨b,off,none⟩∧Q b∧w.cell? ⟨b,off+k*4,none⟩=some (.string l[k].nm)∧w.cell? ⟨b,off+k*4+1,none⟩=some (.int .i64 (l[k].sz:Int))∧w.cell? ⟨b,off+k*4+2,none⟩=some (.bool l[k].sg)∧w.cell? ⟨b,off+k*4+3,none⟩=some (.int .i64 (l[k].mn:Int)):=by
 have e:=fun j hj=>ag9 yd 4 (fun _=>rfl) l k hk j hj
 obtain⟨b,off,hA,hb,h0⟩:=h _ _ (e 0 (by omega))
 refine⟨b,off,hA,hb,h0,?_,?_,?_⟩
 ·obtain⟨b',off',hA',-,h1⟩:=h _ _ (e 1 (by omega))
  rw[hA]at hA';injection hA' with hA';injection hA' with q1 q2;subst q1 q2
  exact h1
 ·obtain⟨b',off',hA',-,h1⟩:=h _ _ (e 2 (by omega))
  rw[hA]at hA';injection hA' with hA';injection hA' with q1 q2;subst q1 q2
  exact h1
 ·obtain⟨b',off',hA',-,h1⟩:=h _ _ (e 3 (by omega))
  rw[hA]at hA';injection hA' with hA';injection hA' with q1 q2;subst q1 q2
  exact h1
theorem a8d (l:List Prt) (p:Prt):vr (l++[p])=vr l+p.sz*yq p:=by simp[vr]
theorem avx {p:Prt} (h:p.mn≤64):yq p≤64:=by unfold yq;split<;>omega
theorem ato:∀l:List Prt,SmP l→vr l≤l.length*512
 | [],_=>by simp[vr]
 | p::l,h=>by
  have h1:=h p (List.mem_cons_self ..)
  have h2:=ato l (fun q hq=>h q (List.mem_cons_of_mem _ hq))
  have h3:p.sz*yq p≤8*64:=Nat.mul_le_mul h1.1 (avx h1.2)
  have h4:vr (p::l)=p.sz*yq p+vr l:=by simp[vr]
  rw[h4,List.length_cons];omega
theorem bd6 (x:Value) (W:World):(callFunc 111 #[x]).run Tryz.prog W=.ok (.enter 111 #[x]) W:=by kernel_rfl
theorem awq {Q:Nat→Prop} {w:World} (A:Option Addr) (l:List Prt) (c:Nat) (h:qf Q w A (qx l)) (hm:l.length≤1000) (hsm:SmP l) :
 Calls Tryz.prog 109 #[.slice A l.length c,.func (.func 111) #[] #[]] w fun e w'=>e=.returned (.int .i64 (vr l:Int))∧Below w.heap.size w w':=by
 replace h:=h.lt
 have HI:=hid h
 have HS:=hid hsm
 have HE:Hid (l.take l.length=l):=hid (by rw[List.take_length])
 obtain⟨n,hn⟩:∃n,l.length=n:=⟨_,rfl⟩
 rw[hn]at hm HE ⊢
 have HL:=hid hn
 clear hn h hsm
 go_enter Tryz.func109,Tryz.ntmps109
 go_wp2_with fail
 go_loopg [5,10] n (fun g s5 s10 wr=>∃k:Nat,k≤n∧n-k≤g∧s10=.int .i64 k∧s5=.int .i64 (vr (l.take k):Int)∧Hid (Below w.heap.size w wr))
 case atStart=>exact⟨0,by omega,by omega,rfl,rfl,Below.refl _ _⟩
 case round=>
  obtain⟨k,hk,hg,rfl,rfl,HB⟩:=hrel
  by_cases hlt:k<n
  ·have hkl:k<l.length:=by rw[HL.out];exact hlt
   obtain⟨b',o',rfl,hq,c0,c1,c2,c3⟩:=aio HI.out k hkl
   have HW:=hid (by rw[List.take_succ_eq_append_getElem hkl,a8d]:vr (l.take (k+1))=vr (l.take k)+l[k].sz*yq l[k])
   have hwl:=ato (l.take k) (fun q hq=>HS.out q (List.mem_of_mem_take hq))
   rw[List.length_take,Nat.min_eq_left (by omega)]at hwl
   have hsz:=HS.out l[k] (List.getElem_mem hkl)
   have HC:=fun W=>hid (awr l[k] W hsz.1 hsz.2)
   have hml:l[k].sz*yq l[k]≤8*64:=Nat.mul_le_mul hsz.1 (avx hsz.2)
   have d0:=(HB.out.cell (p:=⟨b',o'+k*4,none⟩) hq.2).trans c0
   have d1:=(HB.out.cell (p:=⟨b',o'+k*4+1,none⟩) hq.2).trans c1
   have d2:=(HB.out.cell (p:=⟨b',o'+k*4+2,none⟩) hq.2).trans c2
   have d3:=(HB.out.cell (p:=⟨b',o'+k*4+3,none⟩) hq.2).trans c3
   clear c0 c1 c2 c3 hsz
   generalize l[k]=p at *
   obtain⟨nm,sz,sg,mn⟩:=p
   dsimp only at *
   generalize sz*yq ⟨nm,sz,sg,mn⟩=m at *
   generalize vr (l.take k)=u at *
   have i1:(k:Int)<n:=by omega
   have i2:(0:Int) ≤(k:Int):=Int.natCast_nonneg _
   have HN1:Hid (Blk (wr.alloc (.cells #[.string nm,.int .i64 sz,.bool sg,.int .i64 mn] 261)) wr.heap.size [.string nm,.int .i64 sz,.bool sg,.int .i64 mn]):=hid (Blk.newL (qg wr _ _) rfl)
   have HB1:=hid (qb HB.out (qa wr (.cells #[.string nm,.int .i64 sz,.bool sg,.int .i64 mn] 261)))
   have HCL:=fun x W=>bd6 x W
   go_upto_region 5 with fail
   clear d0 d1 d2 d3 HB
   generalize wr.alloc (.cells #[.string nm,.int .i64 sz,.bool sg,.int .i64 mn] 261)=W1 at *
   generalize wr.heap.size=q at *
   have x0:=HN1.out.cell 0 (v:=.string nm) rfl
   have x1:=HN1.out.cell 1 (v:=.int .i64 sz) rfl
   have x2:=HN1.out.cell 2 (v:=.bool sg) rfl
   have x3:=HN1.out.cell 3 (v:=.int .i64 mn) rfl
   go_wp2_with fail
   refine(HC W1).out.mono ?_
   rintro e w2 ⟨rfl,hb⟩
   have HB2:=hid (qb HB1.out hb)
   clear hb x0 x1 x2 x3
   go_wp2_with fail
   go_roundg (n-(k+1))
   case measure=>omega
   case rel=>exact⟨k+1,by omega,by omega,by go_num,by rw[HW.out];go_num,HB2⟩
  ·obtain rfl:k=n:=by omega
   rw[HE.out]
   obtain⟨u,hu⟩:∃u,vr l=u:=⟨_,rfl⟩
   have HU:=hid hu
   rw[hu]
   clear hu
   go_wp2_with fail
   go_ret
   exact⟨by rw[HU.out];rfl,HB.out⟩
theorem at8 (i:Int) (w:World) (hm:(zt i).2.length≤1000) (hs:SmP (zt i).2):Calls Tryz.prog 85 #[.int .i64 i] w fun e w'=>e=.returned (.int .i64 (vr (zt i).2:Int))∧Below w.heap.size w w':=by
 have HP:=hid (ap8 i w)
 have HS:∀W A c,qf (fun b=>w.heap.size≤b∧b<W.heap.size) W A (qx (zt i).2)→Hid (Calls Tryz.prog 109 #[.slice A (zt i).2.length c,.func (.func 111) #[] #[]] W fun e w'=>e=.returned (.int .i64 (vr (zt i).2:Int))∧Below W.heap.size W w'):=fun W A c hf=>hid (awq A (zt i).2 c hf hm hs)
 clear hm hs
 generalize (zt i).2=l at *
 go_enter Tryz.func85,Tryz.ntmps85
 go_wp2_with fail
 refine(HP.out).mono ?_
 rintro e w1 ⟨A,c,rfl,hf,hb⟩
 have HC:=HS w1 A c hf
 have HB:=hid hb
 clear hf hb HS
 go_wp2_with fail
 refine HC.out.mono ?_
 rintro e w2 ⟨rfl,hb⟩
 have HB2:=hid (qb HB.out hb)
 clear hb
 go_wp2_with fail
 go_ret
 exact⟨rfl,HB2.out⟩
section
variable {P : Program}
theorem aja (w:World) (dT sT ty elem:TypeId) (m:Nat) (hu:P.underlying dT=some (.slice elem)) (hs:(P.info? elem).map (·.size)=some m) {R:Nat→Prop} (b n dCap:Nat) (X:Option Addr) (sCap:Nat) (xs:List Value)
 (hx:qf R w X xs) (hl:xs.length=n*m) (h1:∀v∈xs,v.oneCell'=true) (ht:w.there b 0 (n*m)) :
 ∃W,(Builtin.copy_ #[dT,sT] ty #[.slice (some ⟨b,0,none⟩) n dCap,.slice X n sCap]).run P w=.ok (goInt n) W∧qu w W b 0 xs:=by
 obtain⟨i,hq,hi⟩:∃i,P.info? elem=some i∧i.size=m:=by
  cases hq:P.info? elem with
  | none=>simp[hq]at hs
  | some i=>exact⟨i,rfl,by simpa [hq]using hs⟩
 have hst:=run_storeCells_cells (P:=P) b 0 xs 0 w (fun j hj=>by have:=(ht j (by omega)).1;simpa using this) (fun j hj=>by have:=(ht j (by omega)).2;simpa using this) h1
 refine⟨w.setCells b 0 xs,?_,qm (by rw[hl];exact ht)⟩
 by_cases h0:xs=[]
 ·subst h0
  have hz:n*i.size=0:=by rw[hi];simpa using hl.symm
  cases X with
  | none=>simp[Builtin.copy_,run_underlying hu,Builtin.lenOf,Builtin.firstCells,sizeOf,typeInfo,hq,storeCells,World.setCells]
  | some a=>
   have hll:(loadCells a 0).run P w=.ok #[] w:=by simpa using run_loadCells_list (P:=P) w a [] (by simp)
   simp[Builtin.copy_,run_underlying hu,Builtin.lenOf,Builtin.firstCells,sizeOf,typeInfo,hq,hz,hll,storeCells,World.setCells]
 ·have hpos:0<xs.length:=List.length_pos_iff.2 h0
  obtain⟨xb,xo,hX,-,-⟩:=hx 0 xs[0] (List.getElem?_eq_getElem hpos)
  subst hX
  have hll:=run_loadCells_list (P:=P) w ⟨xb,xo,none⟩ xs (fun j v hv=>by
   obtain⟨b',off,e1,-,e3⟩:=hx j v hv
   injection e1 with e1
   injection e1 with e1 e2
   subst e1 e2
   rw[abv]
   exact e3)
  rw[hl,← hi]at hll
  simp[Builtin.copy_,run_underlying hu,Builtin.lenOf,Builtin.firstCells,sizeOf,typeInfo,hq,hll,hst]
end
def aat {α:Type} (r:List α) (x:α) (rest:List α) (j:Nat):List α:=(r.drop j).reverse ++(x::((r.take j).reverse++rest))
theorem anz {α:Type} (r:List α) (x:α) (rest:List α):aat r x rest 0=r.reverse++x::rest:=by simp[aat]
theorem ayx {α:Type} (r:List α) (x:α) (rest:List α) (j:Nat) (h:j<r.length):aat r x rest j=(r.drop (j+1)).reverse ++([r[j]] ++([x] ++((r.take j).reverse++rest))):=by
 unfold aat;rw[List.drop_eq_getElem_cons h,List.reverse_cons];simp
theorem aol {α:Type} (r:List α) (x:α) (rest:List α) (j:Nat) (h:j<r.length):aat r x rest (j+1)=(r.drop (j+1)).reverse ++([x] ++([r[j]] ++((r.take j).reverse++rest))):=by
 unfold aat;rw[List.take_succ_eq_append_getElem h,List.reverse_append];simp
theorem ahe {α:Type} (ahead:α→α→Bool) (r:List α) (x:α) (j:Nat) (hj:j≤r.length) (hi:j4 ahead r x=r.take j++j4 ahead (r.drop j) x) (h:∀(q:j<r.length),ahead x r[j]=false) (rest:List α):aat r x rest j=(j4 ahead r x).reverse++rest:=by
 have e:j4 ahead (r.drop j) x=x::r.drop j:=by
  rcases Nat.lt_or_ge j r.length with q|q
  ·rw[List.drop_eq_getElem_cons q];unfold j4;rw[if_neg (by rw[h q];decide)]
  ·rw[List.drop_of_length_le q];rfl
 rw[hi,e];simp[aat]
theorem a39 {α:Type} (ahead:α→α→Bool) (r:List α) (x:α) (j:Nat) (hj:j<r.length) (hi:j4 ahead r x=r.take j++j4 ahead (r.drop j) x) (h:ahead x r[j]=true):j4 ahead r x=r.take (j+1)++j4 ahead (r.drop (j+1)) x:=by
 rw[hi,List.drop_eq_getElem_cons hj]
 conv=>lhs;unfold j4
 rw[if_pos h,List.take_succ_eq_append_getElem hj];simp only[List.append_assoc,List.cons_append,List.nil_append]
def gtP (a b:Prt):Bool:=decide (b.sz<a.sz)
def gtS (a b:Slt):Bool:=decide (b.sz<a.sz)
theorem aon (p q:Prt) (w:World):Calls Tryz.prog 185 #[.agg #[.string p.nm,.int .i64 p.sz,.bool p.sg,.int .i64 p.mn],.agg #[.string q.nm,.int .i64 q.sz,.bool q.sg,.int .i64 q.mn]] w fun e w'=>e=.returned (.bool (gtP p q))∧Below w.heap.size w w':=by
 obtain⟨nm,sz,sg,mn⟩:=p
 obtain⟨nm',sz',sg',mn'⟩:=q
 unfold gtP
 dsimp only
 by_cases h:sz'<sz
 ·have h1:(sz':Int)<(sz:Int):=by omega
  rw[decide_eq_true h]
  go_enter Tryz.func185,Tryz.ntmps185
  go_wp2_with fail
  go_ret
  exact⟨rfl,qb (qa _ _) (qa _ _)⟩
 ·have h1:¬(sz':Int)<(sz:Int):=by omega
  rw[decide_eq_false h]
  go_enter Tryz.func185,Tryz.ntmps185
  go_wp2_with fail
  go_ret
  exact⟨rfl,qb (qa _ _) (qa _ _)⟩
theorem aqe (p q:Slt) (w:World):Calls Tryz.prog 121 #[.agg #[.int .i64 p.sz,.bool p.sg,.int .i64 p.ix],.agg #[.int .i64 q.sz,.bool q.sg,.int .i64 q.ix]] w fun e w'=>e=.returned (.bool (gtS p q))∧Below w.heap.size w w':=by
 obtain⟨sz,sg,mn⟩:=p
 obtain⟨sz',sg',mn'⟩:=q
 unfold gtS
 dsimp only
 by_cases h:sz'<sz
 ·have h1:(sz':Int)<(sz:Int):=by omega
  rw[decide_eq_true h]
  go_enter Tryz.func121,Tryz.ntmps121
  go_wp2_with fail
  go_ret
  exact⟨rfl,qb (qa _ _) (qa _ _)⟩
 ·have h1:¬(sz':Int)<(sz:Int):=by omega
  rw[decide_eq_false h]
  go_enter Tryz.func121,Tryz.ntmps121
  go_wp2_with fail
  go_ret
  exact⟨rfl,qb (qa _ _) (qa _ _)⟩
theorem aof {α:Type} (ahead:α→α→Bool) (l:List α) (k:Nat) (h:k<l.length):(l.take (k+1)).foldl (j4 ahead) []=j4 ahead ((l.take k).foldl (j4 ahead) []) l[k]:=by
 rw[List.take_succ_eq_append_getElem h,List.foldl_append];rfl
theorem awu {α:Type} (ahead:α→α→Bool) (l:List α) (k:Nat) (h:k≤l.length):((l.take k).foldl (j4 ahead) []).length=k:=by
 rw[ake];simp[h]
theorem ab2 (z:Array Value) (n:Nat):(madeCells z n).toList.length=n:=by simp[madeCells]
theorem axo {w:World} {g q:Nat} {D E:List Prt} {x y:Prt} (h:Blk w g (qx (D ++([y] ++([x]++E))))) (hq:D.length=q):(∀w',Below w.heap.size w w'→w'.rangeAt g ((q+1)*4) (yd x)) ∧(∀w',Below w.heap.size w w'→w'.rangeAt g (q*4) (yd y))∧∀o,w.frozen? ⟨g,o,none⟩=false:=by
 have e:qx (D ++([y] ++([x]++E)))=qx D++yd y++yd x++qx E:=by simp[qx]
 have e2:qx (D ++([y] ++([x]++E)))=qx D++yd y ++(yd x++qx E):=by simp[qx]
 have l1:(qx D).length=q*4:=by rw[acz,hq]
 refine⟨fun w' hb=>?_,fun w' hb=>?_,h.fz⟩
 ·have q1:=(h.on hb)
  rw[e]at q1
  have q2:=Blk.sub (A:=qx D++yd y) (M:=yd x) (D:=qx E) q1
  rwa [List.length_append,l1,show q*4 +(yd y).length=(q+1)*4 from by show q*4+4=_;omega]at q2
 ·have q1:=(h.on hb)
  rw[e2]at q1
  have q2:=Blk.sub (A:=qx D) (M:=yd y) (D:=yd x++qx E) q1
  rwa [l1]at q2
theorem aps {w:World} {g q B:Nat} {D E:List Prt} {x y:Prt} (h:Blk w g (qx (D ++([y] ++([x]++E))))) (hq:D.length=q) (hB:B≤g):Blk ((w.setCells g ((q+1)*4) (yd y)).setCells g (q*4) (yd x)) g (qx (D ++([x] ++([y]++E))))∧Below B w ((w.setCells g ((q+1)*4) (yd y)).setCells g (q*4) (yd x)):=by
 have e:qx (D ++([y] ++([x]++E)))=(qx D++yd y)++yd x++qx E:=by simp[qx]
 have e2:qx (D ++([x] ++([y]++E)))=qx D++yd x ++(yd y++qx E):=by simp[qx]
 have l1:(qx D).length=q*4:=by rw[acz,hq]
 have l2:(qx D++yd y).length=(q+1)*4:=by rw[List.length_append,l1];show q*4+4=_;omega
 rw[e]at h
 have s1:qu w (w.setCells g ((q+1)*4) (yd y)) g ((q+1)*4) (yd y):=qm (h.there _ _ (by rw[List.length_append,List.length_append,l2];show (q+1)*4+4 ≤(q+1)*4+4+_;omega))
 have h1:=Blk.put (A:=qx D++yd y) (M:=yd x) (D:=qx E) h s1 l2 rfl
 rw[show qx D++yd y++yd y++qx E=qx D++yd y ++(yd y++qx E)from by simp]at h1
 have s2:qu (w.setCells g ((q+1)*4) (yd y)) ((w.setCells g ((q+1)*4) (yd y)).setCells g (q*4) (yd x)) g (q*4) (yd x):=qm (h1.there _ _ (by rw[List.length_append,List.length_append,l1];show q*4+4≤q*4+4+_;omega))
 have h2:=Blk.put (A:=qx D) (M:=yd y) (D:=yd y++qx E) h1 s2 l1 rfl
 rw[e2]
 exact⟨h2,(s1.below hB).trans (s2.below hB)⟩
theorem as7 (x y:Value) (W:World):(callFunc 185 #[x,y]).run Tryz.prog W=.ok (.enter 185 #[x,y]) W:=by kernel_rfl
theorem auq {Q:Nat→Prop} {w:World} (A:Option Addr) (l:List Prt) (c:Nat) (h:qf Q w A (qx l)) (hm:l.length≤1000) :
 Calls Tryz.prog 184 #[.slice A l.length c,.func (.func 185) #[] #[]] w fun e w'=>∃g,e=.returned (.slice (some ⟨g,0,none⟩) l.length l.length)∧Blk w' g (qx (aft gtP l))∧w.heap.size≤g∧Below w.heap.size w w':=by
 have HI:=hid h.lt
 obtain⟨i0,hi,hz0,hz1,hz2⟩:=jo apa
 have HIN:=hid hi
 have HZ:=hid (And.intro hz0 (And.intro hz1 hz2))
 have HFE:Hid (∀k,k≤l.length →((l.take k).foldl (j4 gtP) []).length=k):=hid (awu gtP l)
 obtain⟨n,hn⟩:∃n,l.length=n:=⟨_,rfl⟩
 rw[hn]at hm HFE ⊢
 have HL:=hid hn
 clear hn h hi hz0 hz1 hz2
 have HCL:=fun x y W=>as7 x y W
 go_enter Tryz.func184,Tryz.ntmps184
 go_wp2_with (refine aal rfl _ _ 198 261 rfl i0 _ Tryz.underlying198 HIN.out HZ.out.1 .i64 .i64 n rfl rfl (by rw[HZ.out.2.2];omega) (by omega) ?_;intro W1 hG;have HG1:=hid hG;clear hG)
 have HK1:Hid (w.heap.size<W1.heap.size∧W1.there w.heap.size 0 (n*4)∧Below w.heap.size w W1):=hid (by
  have hk:=Blk.newL HG1.out rfl
  refine⟨hk.lt,hk.there 0 (n*4) ?_,HG1.out.bel⟩
  rw[ab2,HZ.out.2.1,Nat.zero_add];exact Nat.le_refl _)
 obtain⟨W2,q1,q2⟩:=aja (P:=Tryz.prog) W1 198 198 3 261 4 Tryz.underlying198 (by rw[HIN.out];simp[HZ.out.2.1]) w.heap.size n n A c (qx l) (HI.out.below HK1.out.2.2 (fun _ q=>q.2)) (by rw[acz,HL.out]) (arv l) HK1.out.2.1
 have HK2:Hid (Blk W2 w.heap.size (qx l)):=hid (by
  have hk:=Blk.newL HG1.out rfl
  exact hk.all q2 (by rw[ab2,HZ.out.2.1,acz,HL.out]))
 have HB2:Hid (Below w.heap.size w W2):=hid (HK1.out.2.2.trans (q2.below (Nat.le_refl _)))
 have HRC:=hid q1
 clear q1 q2 HG1 HK1
 go_wp2_with fail
 rw[HRC.out]
 clear HRC
 go_wp2_with fail
 obtain⟨g,hgz⟩:∃g,w.heap.size=g:=⟨_,rfl⟩
 rw[hgz]at HK2
 simp only[hgz]
 have HGZ:=hid hgz
 clear hgz
 go_loopg [16] n (fun t s16 wr=>∃i:Nat,i≤n∧n-i≤t∧s16=.int .i64 i∧Hid (Blk wr g (qx (((l.take i).foldl (j4 gtP) []).reverse++l.drop i)))∧Hid (Below w.heap.size w wr))
 case atStart=>exact⟨0,by omega,by omega,rfl,HK2.out,HB2⟩
 case round=>
  obtain⟨i,hi,ht,rfl,HK,HB⟩:=hrel
  clear HK2 HB2
  by_cases hlt:i<n
  ·have hil:i<l.length:=by rw[HL.out];exact hlt
   have HSN:Hid ((l.take (i+1)).foldl (j4 gtP) []=j4 gtP ((l.take i).foldl (j4 gtP) []) l[i]):=hid (aof gtP l i hil)
   have HRL:=hid (HFE.out i (by omega))
   have HST:Hid (Blk wr g (qx (aat ((l.take i).foldl (j4 gtP) []) l[i] (l.drop (i+1)) 0))):=hid (by rw[anz,← List.drop_eq_getElem_cons hil];exact HK.out)
   clear HK
   generalize (l.take i).foldl (j4 gtP) []=r at *
   generalize l[i]=x at *
   obtain⟨rest,hrest⟩:∃rest,l.drop (i+1)=rest:=⟨_,rfl⟩
   rw[hrest]at HST
   have HRS:=hid hrest
   clear hrest
   have i1:(i:Int)<n:=by omega
   have i2:(0:Int) ≤(i:Int):=Int.natCast_nonneg _
   go_wp2_with fail
   go_loopg [7] i (fun t2 s7 wr=>∃j:Nat,j≤i∧i-j≤t2∧s7=.int .i64 ((i-j:Nat):Int)∧Hid (j4 gtP r x=r.take j++j4 gtP (r.drop j) x)∧Hid (Blk wr g (qx (aat r x rest j)))∧Hid (Below w.heap.size w wr))
   case atStart=>exact⟨0,by omega,by omega,rfl,rfl,HST,HB⟩
   case round=>
    obtain⟨j,hj,ht2,rfl,HIR,HK,HBI⟩:=hrel
    clear HST HB
    obtain⟨kk,hkk⟩:∃kk,i-j=kk:=⟨_,rfl⟩
    rw[hkk]at ht2 ⊢
    rcases kk with _|q
    ·obtain rfl:j=i:=by omega
     have HDONE:Hid (aat r x rest j=(j4 gtP r x).reverse++rest):=hid (ahe gtP r x j (by rw[HRL.out];exact Nat.le_refl _) HIR.out (fun q=>absurd q (by rw[HRL.out];omega)) rest)
     have HKN:Hid (Blk wr.drew g (qx (((l.take (j+1)).foldl (j4 gtP) []).reverse++l.drop (j+1)))):=hid (by rw[HSN.out,HRS.out,← HDONE.out];exact HK.out.drew)
     have HBN:Hid (Below w.heap.size w wr.drew):=hid HBI.out.drew
     go_upto_region 7 with fail
     try (apply wp_seq_k;intro K_ HK_)
     have hS0:Below wr.heap.size wr wr.drew:=(Below.refl _ _).drew
     refine wp_region_held_drew (S:=fun w'=>Below wr.heap.size wr w') (by kernel_rfl) hS0 (fun hHeld0=>?_)
     refine tkQ (i:=0) (oi:=⟨some 20,_,_,_,_,_⟩) (v:=?_) rfl (Or.inl ⟨by rfl,?_⟩) ?_
     rotate_left
     ·intro w' hSw
      go_simp
      try with_reducible rfl
     try go_frame
     refine tkQ (i:=1) (oi:=⟨some 21,_,_,_,_,_⟩) (v:=?_) rfl (Or.inl ⟨by rfl,?_⟩) ?_
     rotate_left
     ·intro w' hSw
      go_simp
      try with_reducible rfl
     try go_frame
     refine tkQ (i:=2) (oi:=⟨some 22,_,_,_,_,_⟩) (v:=?_) rfl (Or.inl ⟨by rfl,?_⟩) ?_
     rotate_left
     ·intro w' hSw
      go_simp
      try with_reducible rfl
     try go_frame
     refine tkQ (i:=3) (oi:=⟨some 23,_,_,_,_,_⟩) (v:=undef) rfl (Or.inr ⟨by rfl,rfl⟩) ?_
     try go_frame
     refine tkQ (i:=4) (oi:=⟨some 24,_,_,_,_,_⟩) (v:=undef) rfl (Or.inr ⟨by rfl,rfl⟩) ?_
     try go_frame
     refine tkQ (i:=5) (oi:=⟨some 25,_,_,_,_,_⟩) (v:=undef) rfl (Or.inr ⟨by rfl,rfl⟩) ?_
     try go_frame
     refine tkQ (i:=6) (oi:=⟨some 26,_,_,_,_,_⟩) (v:=undef) rfl (Or.inr ⟨by rfl,rfl⟩) ?_
     try go_frame
     refine tkQ (i:=7) (oi:=⟨some 27,_,_,_,_,_⟩) (v:=undef) rfl (Or.inr ⟨by rfl,rfl⟩) ?_
     try go_frame
     refine tkQ (i:=8) (oi:=⟨some 28,_,_,_,_,_⟩) (v:=undef) rfl (Or.inr ⟨by rfl,rfl⟩) ?_
     try go_frame
     refine tkQ (i:=9) (oi:=⟨some 29,_,_,_,_,_⟩) (v:=undef) rfl (Or.inr ⟨by rfl,rfl⟩) ?_
     try go_frame
     refine tkQ (i:=10) (oi:=⟨some 30,_,_,_,_,_⟩) (v:=undef) rfl (Or.inr ⟨by rfl,rfl⟩) ?_
     try go_frame
     refine tkQ (i:=11) (oi:=⟨some 31,_,_,_,_,_⟩) (v:=undef) rfl (Or.inr ⟨by rfl,rfl⟩) ?_
     try go_frame
     refine tkQ (i:=12) (oi:=⟨some 32,_,_,_,_,_⟩) (v:=undef) rfl (Or.inr ⟨by rfl,rfl⟩) ?_
     try go_frame
     refine tkQ (i:=13) (oi:=⟨some 33,_,_,_,_,_⟩) (v:=undef) rfl (Or.inr ⟨by rfl,rfl⟩) ?_
     try go_frame
     refine tkQ (i:=14) (oi:=⟨some 34,_,_,_,_,_⟩) (v:=?_) rfl (Or.inl ⟨by rfl,?_⟩) ?_
     rotate_left
     ·intro w' hSw
      go_simp
      try with_reducible rfl
     try go_frame
     refine wpAnyH_done (by kernel_rfl) ?_ _
     try go_frame
     clear hHeld0 hS0
     go_wp2_with fail
     go_roundg (n-(j+1))
     case measure=>omega
     case rel=>exact⟨j+1,by omega,by omega,by go_num,HKN,HBN⟩
    ·have hjr:j<r.length:=by rw[HRL.out];omega
     have HLS:Hid (aat r x rest j=(r.drop (j+1)).reverse ++([r[j]] ++([x] ++((r.take j).reverse++rest)))):=hid (ayx r x rest j hjr)
     have HLT:Hid (aat r x rest (j+1)=(r.drop (j+1)).reverse ++([x] ++([r[j]] ++((r.take j).reverse++rest)))):=hid (aol r x rest j hjr)
     have HGO:Hid (gtP x r[j]=true→j4 gtP r x=r.take (j+1)++j4 gtP (r.drop (j+1)) x):=hid (a39 gtP r x j hjr HIR.out)
     have HSP:Hid (gtP x r[j]=false→aat r x rest j=(j4 gtP r x).reverse++rest):=hid (fun hh=>ahe gtP r x j (Nat.le_of_lt hjr) HIR.out (fun _=>hh) rest)
     have HDQ:Hid ((r.drop (j+1)).reverse.length=q):=hid (by rw[List.length_reverse,List.length_drop,HRL.out];omega)
     generalize (r.drop (j+1)).reverse=D at HLS HLT HDQ
     generalize (r.take j).reverse++rest=E at HLS HLT
     generalize r[j]=y at HLS HLT HGO HSP
     have HBK:Hid (Blk wr g (qx (D ++([y] ++([x]++E))))):=hid (by rw[← HLS.out];exact HK.out)
     have HAT:=hid (axo HBK.out HDQ.out)
     obtain⟨bb,hbb⟩:∃bb,gtP x y=bb:=⟨_,rfl⟩
     have HG:∀W,Hid (Calls Tryz.prog 185 #[.agg (yd x).toArray,.agg (yd y).toArray] W fun e w'=>e=.returned (.bool bb)∧Below W.heap.size W w'):=fun W=>hid (by rw[← hbb];exact aon x y W)
     have HBB:=hid hbb
     clear hbb
     obtain⟨x0,x1,x2,x3⟩:=x
     obtain⟨y0,y1,y2,y3⟩:=y
     have HX:Hid (∀w',Below wr.heap.size wr w'→w'.rangeAt g ((q+1)*4) [.string x0,.int .i64 (x1:Nat),.bool x2,.int .i64 (x3:Nat)]):=hid HAT.out.1
     have HY:Hid (∀w',Below wr.heap.size wr w'→w'.rangeAt g (q*4) [.string y0,.int .i64 (y1:Nat),.bool y2,.int .i64 (y3:Nat)]):=hid HAT.out.2.1
     change ∀W,Hid (Calls Tryz.prog 185 #[.agg #[.string x0,.int .i64 (x1:Nat),.bool x2,.int .i64 (x3:Nat)],.agg #[.string y0,.int .i64 (y1:Nat),.bool y2,.int .i64 (y3:Nat)]] W fun e w'=>e=.returned (.bool bb)∧Below W.heap.size W w')at HG
     have i3:(q:Int)+1<n:=by omega
     have i4:(0:Int) ≤(q:Int)+1:=by omega
     have i5:(q:Int)<n:=by omega
     have i6:(0:Int) ≤(q:Int):=by omega
     have i7:(0:Int)<(q:Int)+1:=by omega
     have f1:IntKind.i64.wrap (q:Int)=(q:Int):=IntWalk.i64_in _ (by omega)
     clear HAT
     cases bb
     ·have HKN:∀w2,Below wr.heap.size wr w2→Hid (Blk w2 g (qx (((l.take (i+1)).foldl (j4 gtP) []).reverse++l.drop (i+1)))):=fun w2 hb=>hid (by rw[HSN.out,HRS.out,← HSP.out HBB.out];exact HK.out.on hb)
      go_upto_region 7 with fail
      try (apply wp_seq_k;intro K_ HK_)
      have hS0:Below wr.heap.size wr wr.drew:=(Below.refl _ _).drew
      refine wp_region_held_drew (S:=fun w'=>Below wr.heap.size wr w') (by kernel_rfl) hS0 (fun hHeld0=>?_)
      refine tkQ (i:=0) (oi:=⟨some 20,_,_,_,_,_⟩) (v:=?_) rfl (Or.inl ⟨by rfl,?_⟩) ?_
      rotate_left
      ·intro w' hSw
       go_simp
       try with_reducible rfl
      try go_frame
      refine tkQ (i:=1) (oi:=⟨some 21,_,_,_,_,_⟩) (v:=?_) rfl (Or.inl ⟨by rfl,?_⟩) ?_
      rotate_left
      ·intro w' hSw
       go_simp
       try with_reducible rfl
      try go_frame
      refine tkQ (i:=2) (oi:=⟨some 22,_,_,_,_,_⟩) (v:=?_) rfl (Or.inl ⟨by rfl,?_⟩) ?_
      rotate_left
      ·intro w' hSw
       go_simp
       try with_reducible rfl
      try go_frame
      refine tkQ (i:=3) (oi:=⟨some 23,_,_,_,_,_⟩) (v:=?_) rfl (Or.inl ⟨by rfl,?_⟩) ?_
      rotate_left
      ·intro w' hSw
       go_simp
       try with_reducible rfl
      try go_frame
      refine tkQ (i:=4) (oi:=⟨some 24,_,_,_,_,_⟩) (v:=?_) rfl (Or.inl ⟨by rfl,?_⟩) ?_
      rotate_left
      ·intro w' hSw
       go_simp
       try with_reducible rfl
      try go_frame
      refine tkQ (i:=5) (oi:=⟨some 25,_,_,_,_,_⟩) (v:=?_) rfl (Or.inl ⟨by rfl,?_⟩) ?_
      rotate_left
      ·intro w' hSw
       go_simp
       try with_reducible rfl
      try go_frame
      refine tkQ (i:=6) (oi:=⟨some 26,_,_,_,_,_⟩) (v:=?_) rfl (Or.inl ⟨by rfl,?_⟩) ?_
      rotate_left
      ·intro w' hSw
       go_simp
       try with_reducible rfl
      try go_frame
      refine tkQ (i:=7) (oi:=⟨some 27,_,_,_,_,_⟩) (v:=_) rfl (yieldsIf_load_mid (by rfl) 261 _ rfl g ((q+1)*4) rfl [.string x0,.int .i64 (x1:Nat),.bool x2,.int .i64 (x3:Nat)] _ (fun w' hSw=>(HX.out w' hSw)) Tryz.underlying261 rfl (by kernel_rfl)) ?_
      try go_frame
      refine tkQ (i:=8) (oi:=⟨some 28,_,_,_,_,_⟩) (v:=?_) rfl (Or.inl ⟨by rfl,?_⟩) ?_
      rotate_left
      ·intro w' hSw
       go_simp
       try with_reducible rfl
      try go_frame
      refine tkQ (i:=9) (oi:=⟨some 29,_,_,_,_,_⟩) (v:=?_) rfl (Or.inl ⟨by rfl,?_⟩) ?_
      rotate_left
      ·intro w' hSw
       go_simp
       try with_reducible rfl
      try go_frame
      refine tkQ (i:=10) (oi:=⟨some 30,_,_,_,_,_⟩) (v:=?_) rfl (Or.inl ⟨by rfl,?_⟩) ?_
      rotate_left
      ·intro w' hSw
       go_simp
       try with_reducible rfl
      try go_frame
      refine tkQ (i:=11) (oi:=⟨some 31,_,_,_,_,_⟩) (v:=?_) rfl (Or.inl ⟨by rfl,?_⟩) ?_
      rotate_left
      ·intro w' hSw
       go_simp
       try with_reducible rfl
      try go_frame
      refine tkQ (i:=12) (oi:=⟨some 32,_,_,_,_,_⟩) (v:=_) rfl (yieldsIf_load_mid (by rfl) 261 _ rfl g (q*4) rfl [.string y0,.int .i64 (y1:Nat),.bool y2,.int .i64 (y3:Nat)] _ (fun w' hSw=>(HY.out w' hSw)) Tryz.underlying261 rfl (by kernel_rfl)) ?_
      try go_frame
      refine wpAnyH_ready (rs:=[13]) (by kernel_rfl) (by simp) ?_
      refine AllReadyH.cons (o:=⟨some 33,_,_,_,_,_⟩) rfl (fun K hK=>?_) AllReadyH.nil
      rw[if_pos (by rfl)]
      go_step
      refine(HG _).out.mono ?_
      rintro e w2 ⟨rfl,hb⟩
      have HS2:Hid (Below wr.heap.size wr w2):=hid (hHeld0.trans (hb.mono hHeld0.size))
      clear hb
      try go_frame
      refine hK.out _ _ (HS2.out) (fun hHeld=>?_)
      clear hK K
      try go_frame
      refine tkQ (i:=14) (oi:=⟨some 34,_,_,_,_,_⟩) (v:=?_) rfl (Or.inl ⟨by rfl,?_⟩) ?_
      rotate_left
      ·intro w' hSw
       go_simp
       try with_reducible rfl
      try go_frame
      refine wpAnyH_done (by kernel_rfl) ?_ _
      try go_frame
      have HKN2:=HKN w2 HS2.out
      have HBN:=hid (qb HBI.out HS2.out)
      clear hHeld hHeld0 hS0
      go_wp2_with fail
      go_roundg (n-(i+1))
      case measure=>omega
      case rel=>exact⟨i+1,by omega,by omega,by go_num,HKN2,HBN⟩
     ·go_upto_region 7 with fail
      try (apply wp_seq_k;intro K_ HK_)
      have hS0:Below wr.heap.size wr wr.drew:=(Below.refl _ _).drew
      refine wp_region_held_drew (S:=fun w'=>Below wr.heap.size wr w') (by kernel_rfl) hS0 (fun hHeld0=>?_)
      refine tkQ (i:=0) (oi:=⟨some 20,_,_,_,_,_⟩) (v:=?_) rfl (Or.inl ⟨by rfl,?_⟩) ?_
      rotate_left
      ·intro w' hSw
       go_simp
       try with_reducible rfl
      try go_frame
      refine tkQ (i:=1) (oi:=⟨some 21,_,_,_,_,_⟩) (v:=?_) rfl (Or.inl ⟨by rfl,?_⟩) ?_
      rotate_left
      ·intro w' hSw
       go_simp
       try with_reducible rfl
      try go_frame
      refine tkQ (i:=2) (oi:=⟨some 22,_,_,_,_,_⟩) (v:=?_) rfl (Or.inl ⟨by rfl,?_⟩) ?_
      rotate_left
      ·intro w' hSw
       go_simp
       try with_reducible rfl
      try go_frame
      refine tkQ (i:=3) (oi:=⟨some 23,_,_,_,_,_⟩) (v:=?_) rfl (Or.inl ⟨by rfl,?_⟩) ?_
      rotate_left
      ·intro w' hSw
       go_simp
       try with_reducible rfl
      try go_frame
      refine tkQ (i:=4) (oi:=⟨some 24,_,_,_,_,_⟩) (v:=?_) rfl (Or.inl ⟨by rfl,?_⟩) ?_
      rotate_left
      ·intro w' hSw
       go_simp
       try with_reducible rfl
      try go_frame
      refine tkQ (i:=5) (oi:=⟨some 25,_,_,_,_,_⟩) (v:=?_) rfl (Or.inl ⟨by rfl,?_⟩) ?_
      rotate_left
      ·intro w' hSw
       go_simp
       try with_reducible rfl
      try go_frame
      refine tkQ (i:=6) (oi:=⟨some 26,_,_,_,_,_⟩) (v:=?_) rfl (Or.inl ⟨by rfl,?_⟩) ?_
      rotate_left
      ·intro w' hSw
       go_simp
       try with_reducible rfl
      try go_frame
      refine tkQ (i:=7) (oi:=⟨some 27,_,_,_,_,_⟩) (v:=_) rfl (yieldsIf_load_mid (by rfl) 261 _ rfl g ((q+1)*4) rfl [.string x0,.int .i64 (x1:Nat),.bool x2,.int .i64 (x3:Nat)] _ (fun w' hSw=>(HX.out w' hSw)) Tryz.underlying261 rfl (by kernel_rfl)) ?_
      try go_frame
      refine tkQ (i:=8) (oi:=⟨some 28,_,_,_,_,_⟩) (v:=?_) rfl (Or.inl ⟨by rfl,?_⟩) ?_
      rotate_left
      ·intro w' hSw
       go_simp
       try with_reducible rfl
      try go_frame
      refine tkQ (i:=9) (oi:=⟨some 29,_,_,_,_,_⟩) (v:=?_) rfl (Or.inl ⟨by rfl,?_⟩) ?_
      rotate_left
      ·intro w' hSw
       go_simp
       try with_reducible rfl
      try go_frame
      refine tkQ (i:=10) (oi:=⟨some 30,_,_,_,_,_⟩) (v:=?_) rfl (Or.inl ⟨by rfl,?_⟩) ?_
      rotate_left
      ·intro w' hSw
       go_simp
       try with_reducible rfl
      try go_frame
      refine tkQ (i:=11) (oi:=⟨some 31,_,_,_,_,_⟩) (v:=?_) rfl (Or.inl ⟨by rfl,?_⟩) ?_
      rotate_left
      ·intro w' hSw
       go_simp
       try with_reducible rfl
      try go_frame
      refine tkQ (i:=12) (oi:=⟨some 32,_,_,_,_,_⟩) (v:=_) rfl (yieldsIf_load_mid (by rfl) 261 _ rfl g (q*4) rfl [.string y0,.int .i64 (y1:Nat),.bool y2,.int .i64 (y3:Nat)] _ (fun w' hSw=>(HY.out w' hSw)) Tryz.underlying261 rfl (by kernel_rfl)) ?_
      try go_frame
      refine wpAnyH_ready (rs:=[13]) (by kernel_rfl) (by simp) ?_
      refine AllReadyH.cons (o:=⟨some 33,_,_,_,_,_⟩) rfl (fun K hK=>?_) AllReadyH.nil
      rw[if_pos (by rfl)]
      go_step
      refine(HG _).out.mono ?_
      rintro e w2 ⟨rfl,hb⟩
      have HS2:Hid (Below wr.heap.size wr w2):=hid (hHeld0.trans (hb.mono hHeld0.size))
      clear hb
      try go_frame
      refine hK.out _ _ (HS2.out) (fun hHeld=>?_)
      clear hK K
      try go_frame
      refine tkQ (i:=14) (oi:=⟨some 34,_,_,_,_,_⟩) (v:=?_) rfl (Or.inl ⟨by rfl,?_⟩) ?_
      rotate_left
      ·intro w' hSw
       go_simp
       try with_reducible rfl
      try go_frame
      refine wpAnyH_done (by kernel_rfl) ?_ _
      try go_frame
      have HK2:=hid (HBK.out.on HS2.out)
      have HBN:=hid (qb HBI.out HS2.out)
      have hcx:=HX.out w2 HS2.out
      have hcy:=HY.out w2 HS2.out
      have cx0:w2.cell? ⟨g,(q+1)*4,none⟩=some (.string x0):=hcx 0 _ rfl
      have cx1:w2.cell? ⟨g,(q+1)*4+1,none⟩=some (.int .i64 (x1:Nat)):=hcx 1 _ rfl
      have cx2:w2.cell? ⟨g,(q+1)*4+2,none⟩=some (.bool x2):=hcx 2 _ rfl
      have cx3:w2.cell? ⟨g,(q+1)*4+3,none⟩=some (.int .i64 (x3:Nat)):=hcx 3 _ rfl
      have cy0:w2.cell? ⟨g,q*4,none⟩=some (.string y0):=hcy 0 _ rfl
      have cy1:w2.cell? ⟨g,q*4+1,none⟩=some (.int .i64 (y1:Nat)):=hcy 1 _ rfl
      have cy2:w2.cell? ⟨g,q*4+2,none⟩=some (.bool y2):=hcy 2 _ rfl
      have cy3:w2.cell? ⟨g,q*4+3,none⟩=some (.int .i64 (y3:Nat)):=hcy 3 _ rfl
      have zx0:w2.frozen? ⟨g,(q+1)*4,none⟩=false:=HK2.out.fz _
      have zx1:w2.frozen? ⟨g,(q+1)*4+1,none⟩=false:=HK2.out.fz _
      have zx2:w2.frozen? ⟨g,(q+1)*4+2,none⟩=false:=HK2.out.fz _
      have zx3:w2.frozen? ⟨g,(q+1)*4+3,none⟩=false:=HK2.out.fz _
      have zy0:w2.frozen? ⟨g,q*4,none⟩=false:=HK2.out.fz _
      have zy1:w2.frozen? ⟨g,q*4+1,none⟩=false:=HK2.out.fz _
      have zy2:w2.frozen? ⟨g,q*4+2,none⟩=false:=HK2.out.fz _
      have zy3:w2.frozen? ⟨g,q*4+3,none⟩=false:=HK2.out.fz _
      have HSW:=hid (aps (B:=w.heap.size) HK2.out HDQ.out (by rw[HGZ.out];exact Nat.le_refl _))
      clear hHeld hHeld0 hS0 hcx hcy
      go_upto_region 9 with fail
      have HKN:Hid (Blk (((((((((w2.setCell ⟨g,(q+1)*4,none⟩ (.string y0)).setCell ⟨g,(q+1)*4+1,none⟩ (.int .i64 (y1:Nat))).setCell ⟨g,(q+1)*4+2,none⟩ (.bool y2)).setCell ⟨g,(q+1)*4+3,none⟩ (.int .i64 (y3:Nat))).setCell ⟨g,q*4,none⟩ (.string x0)).setCell ⟨g,q*4+1,none⟩ (.int .i64 (x1:Nat))).setCell ⟨g,q*4+2,none⟩ (.bool x2)).setCell ⟨g,q*4+3,none⟩ (.int .i64 (x3:Nat)))).drew g (qx (aat r ⟨x0,x1,x2,x3⟩ rest (j+1)))):=hid (by rw[HLT.out];exact HSW.out.1.drew)
      have HBX:Hid (Below w.heap.size w (((((((((w2.setCell ⟨g,(q+1)*4,none⟩ (.string y0)).setCell ⟨g,(q+1)*4+1,none⟩ (.int .i64 (y1:Nat))).setCell ⟨g,(q+1)*4+2,none⟩ (.bool y2)).setCell ⟨g,(q+1)*4+3,none⟩ (.int .i64 (y3:Nat))).setCell ⟨g,q*4,none⟩ (.string x0)).setCell ⟨g,q*4+1,none⟩ (.int .i64 (x1:Nat))).setCell ⟨g,q*4+2,none⟩ (.bool x2)).setCell ⟨g,q*4+3,none⟩ (.int .i64 (x3:Nat)))).drew):=hid (HBN.out.trans HSW.out.2.drew)
      have HIN2:=hid (HGO.out HBB.out)
      have HQJ:Hid (i-(j+1)=q):=hid (by omega)
      clear HSW HK2 HBN
      go_region
      clear cx0 zx0 cx1 zx1 cx2 zx2 cx3 zx3 cy0 zy0 cy1 zy1 cy2 zy2 cy3 zy3
      generalize (((((((((w2.setCell ⟨g,(q+1)*4,none⟩ (.string y0)).setCell ⟨g,(q+1)*4+1,none⟩ (.int .i64 (y1:Nat))).setCell ⟨g,(q+1)*4+2,none⟩ (.bool y2)).setCell ⟨g,(q+1)*4+3,none⟩ (.int .i64 (y3:Nat))).setCell ⟨g,q*4,none⟩ (.string x0)).setCell ⟨g,q*4+1,none⟩ (.int .i64 (x1:Nat))).setCell ⟨g,q*4+2,none⟩ (.bool x2)).setCell ⟨g,q*4+3,none⟩ (.int .i64 (x3:Nat)))).drew=w3 at *
      go_wp2_with fail
      go_roundg (i-(j+1))
      case measure=>omega
      case rel=>exact⟨j+1,by omega,by omega,by rw[HQJ.out],HIN2,HKN,HBX⟩
  ·obtain rfl:i=n:=by omega
   have HKN:Hid (Blk wr g (qx (aft gtP l))):=hid (by
    have q:=HK.out
    rw[← HL.out,List.take_length,List.drop_length,List.append_nil]at q
    exact q)
   go_wp2_with fail
   go_ret
   exact⟨g,rfl,HKN.out,by rw[HGZ.out];exact Nat.le_refl _,HB.out⟩
theorem awc:(Tryz.prog.info? 208).map (fun i=>(i.zero,i.size,i.bytes))=some (some (.agg #[.int .i64 0,.bool false,.int .i64 0]),3,24):=by kernel_rfl
theorem a8m (l m:List Slt):zj (l++m)=zj l++zj m:=List.flatMap_append
theorem azn (p:Slt):∀v∈ya p,v.oneCell'=true:=by
 intro v hv
 simp only[ya,List.mem_cons,List.not_mem_nil,or_false]at hv
 rcases hv with rfl|rfl|rfl<;>rfl
theorem a8h (l:List Slt):∀v∈zj l,v.oneCell'=true:=by
 intro v hv
 obtain⟨p,-,h⟩:=List.mem_flatMap.1 hv
 exact azn p v h
theorem aw3 {w:World} {g q:Nat} {D E:List Slt} {x y:Slt} (h:Blk w g (zj (D ++([y] ++([x]++E))))) (hq:D.length=q):(∀w',Below w.heap.size w w'→w'.rangeAt g ((q+1)*3) (ya x)) ∧(∀w',Below w.heap.size w w'→w'.rangeAt g (q*3) (ya y))∧∀o,w.frozen? ⟨g,o,none⟩=false:=by
 have e:zj (D ++([y] ++([x]++E)))=zj D++ya y++ya x++zj E:=by simp[zj]
 have e2:zj (D ++([y] ++([x]++E)))=zj D++ya y ++(ya x++zj E):=by simp[zj]
 have l1:(zj D).length=q*3:=by rw[ag0,hq]
 refine⟨fun w' hb=>?_,fun w' hb=>?_,h.fz⟩
 ·have q1:=(h.on hb)
  rw[e]at q1
  have q2:=Blk.sub (A:=zj D++ya y) (M:=ya x) (D:=zj E) q1
  rwa [List.length_append,l1,show q*3 +(ya y).length=(q+1)*3 from by show q*3+3=_;omega]at q2
 ·have q1:=(h.on hb)
  rw[e2]at q1
  have q2:=Blk.sub (A:=zj D) (M:=ya y) (D:=ya x++zj E) q1
  rwa [l1]at q2
theorem apy {w:World} {g q B:Nat} {D E:List Slt} {x y:Slt} (h:Blk w g (zj (D ++([y] ++([x]++E))))) (hq:D.length=q) (hB:B≤g):Blk ((w.setCells g ((q+1)*3) (ya y)).setCells g (q*3) (ya x)) g (zj (D ++([x] ++([y]++E))))∧Below B w ((w.setCells g ((q+1)*3) (ya y)).setCells g (q*3) (ya x)):=by
 have e:zj (D ++([y] ++([x]++E)))=(zj D++ya y)++ya x++zj E:=by simp[zj]
 have e2:zj (D ++([x] ++([y]++E)))=zj D++ya x ++(ya y++zj E):=by simp[zj]
 have l1:(zj D).length=q*3:=by rw[ag0,hq]
 have l2:(zj D++ya y).length=(q+1)*3:=by rw[List.length_append,l1];show q*3+3=_;omega
 rw[e]at h
 have s1:qu w (w.setCells g ((q+1)*3) (ya y)) g ((q+1)*3) (ya y):=qm (h.there _ _ (by rw[List.length_append,List.length_append,l2];show (q+1)*3+3 ≤(q+1)*3+3+_;omega))
 have h1:=Blk.put (A:=zj D++ya y) (M:=ya x) (D:=zj E) h s1 l2 rfl
 rw[show zj D++ya y++ya y++zj E=zj D++ya y ++(ya y++zj E)from by simp]at h1
 have s2:qu (w.setCells g ((q+1)*3) (ya y)) ((w.setCells g ((q+1)*3) (ya y)).setCells g (q*3) (ya x)) g (q*3) (ya x):=qm (h1.there _ _ (by rw[List.length_append,List.length_append,l1];show q*3+3≤q*3+3+_;omega))
 have h2:=Blk.put (A:=zj D) (M:=ya y) (D:=ya y++zj E) h1 s2 l1 rfl
 rw[e2]
 exact⟨h2,(s1.below hB).trans (s2.below hB)⟩
theorem ar9 (x y:Value) (W:World):(callFunc 121 #[x,y]).run Tryz.prog W=.ok (.enter 121 #[x,y]) W:=by kernel_rfl
theorem asu {Q:Nat→Prop} {w:World} (A:Option Addr) (l:List Slt) (c:Nat) (h:qf Q w A (zj l)) (hm:l.length≤1000) :
 Calls Tryz.prog 120 #[.slice A l.length c,.func (.func 121) #[] #[]] w fun e w'=>∃g,e=.returned (.slice (some ⟨g,0,none⟩) l.length l.length)∧Blk w' g (zj (aft gtS l))∧w.heap.size≤g∧Below w.heap.size w w':=by
 have HI:=hid h.lt
 obtain⟨i0,hi,hz0,hz1,hz2⟩:=jo awc
 have HIN:=hid hi
 have HZ:=hid (And.intro hz0 (And.intro hz1 hz2))
 have HFE:Hid (∀k,k≤l.length →((l.take k).foldl (j4 gtS) []).length=k):=hid (awu gtS l)
 obtain⟨n,hn⟩:∃n,l.length=n:=⟨_,rfl⟩
 rw[hn]at hm HFE ⊢
 have HL:=hid hn
 clear hn h hi hz0 hz1 hz2
 have HCL:=fun x y W=>ar9 x y W
 go_enter Tryz.func120,Tryz.ntmps120
 go_wp2_with (refine aal rfl _ _ 202 208 rfl i0 _ Tryz.underlying202 HIN.out HZ.out.1 .i64 .i64 n rfl rfl (by rw[HZ.out.2.2];omega) (by omega) ?_;intro W1 hG;have HG1:=hid hG;clear hG)
 have HK1:Hid (w.heap.size<W1.heap.size∧W1.there w.heap.size 0 (n*3)∧Below w.heap.size w W1):=hid (by
  have hk:=Blk.newL HG1.out rfl
  refine⟨hk.lt,hk.there 0 (n*3) ?_,HG1.out.bel⟩
  rw[ab2,HZ.out.2.1,Nat.zero_add];exact Nat.le_refl _)
 obtain⟨W2,q1,q2⟩:=aja (P:=Tryz.prog) W1 202 202 3 208 3 Tryz.underlying202 (by rw[HIN.out];simp[HZ.out.2.1]) w.heap.size n n A c (zj l) (HI.out.below HK1.out.2.2 (fun _ q=>q.2)) (by rw[ag0,HL.out]) (a8h l) HK1.out.2.1
 have HK2:Hid (Blk W2 w.heap.size (zj l)):=hid (by
  have hk:=Blk.newL HG1.out rfl
  exact hk.all q2 (by rw[ab2,HZ.out.2.1,ag0,HL.out]))
 have HB2:Hid (Below w.heap.size w W2):=hid (HK1.out.2.2.trans (q2.below (Nat.le_refl _)))
 have HRC:=hid q1
 clear q1 q2 HG1 HK1
 go_wp2_with fail
 rw[HRC.out]
 clear HRC
 go_wp2_with fail
 obtain⟨g,hgz⟩:∃g,w.heap.size=g:=⟨_,rfl⟩
 rw[hgz]at HK2
 simp only[hgz]
 have HGZ:=hid hgz
 clear hgz
 go_loopg [16] n (fun t s16 wr=>∃i:Nat,i≤n∧n-i≤t∧s16=.int .i64 i∧Hid (Blk wr g (zj (((l.take i).foldl (j4 gtS) []).reverse++l.drop i)))∧Hid (Below w.heap.size w wr))
 case atStart=>exact⟨0,by omega,by omega,rfl,HK2.out,HB2⟩
 case round=>
  obtain⟨i,hi,ht,rfl,HK,HB⟩:=hrel
  clear HK2 HB2
  by_cases hlt:i<n
  ·have hil:i<l.length:=by rw[HL.out];exact hlt
   have HSN:Hid ((l.take (i+1)).foldl (j4 gtS) []=j4 gtS ((l.take i).foldl (j4 gtS) []) l[i]):=hid (aof gtS l i hil)
   have HRL:=hid (HFE.out i (by omega))
   have HST:Hid (Blk wr g (zj (aat ((l.take i).foldl (j4 gtS) []) l[i] (l.drop (i+1)) 0))):=hid (by rw[anz,← List.drop_eq_getElem_cons hil];exact HK.out)
   clear HK
   generalize (l.take i).foldl (j4 gtS) []=r at *
   generalize l[i]=x at *
   obtain⟨rest,hrest⟩:∃rest,l.drop (i+1)=rest:=⟨_,rfl⟩
   rw[hrest]at HST
   have HRS:=hid hrest
   clear hrest
   have i1:(i:Int)<n:=by omega
   have i2:(0:Int) ≤(i:Int):=Int.natCast_nonneg _
   go_wp2_with fail
   go_loopg [7] i (fun t2 s7 wr=>∃j:Nat,j≤i∧i-j≤t2∧s7=.int .i64 ((i-j:Nat):Int)∧Hid (j4 gtS r x=r.take j++j4 gtS (r.drop j) x)∧Hid (Blk wr g (zj (aat r x rest j)))∧Hid (Below w.heap.size w wr))
   case atStart=>exact⟨0,by omega,by omega,rfl,rfl,HST,HB⟩
   case round=>
    obtain⟨j,hj,ht2,rfl,HIR,HK,HBI⟩:=hrel
    clear HST HB
    obtain⟨kk,hkk⟩:∃kk,i-j=kk:=⟨_,rfl⟩
    rw[hkk]at ht2 ⊢
    rcases kk with _|q
    ·obtain rfl:j=i:=by omega
     have HDONE:Hid (aat r x rest j=(j4 gtS r x).reverse++rest):=hid (ahe gtS r x j (by rw[HRL.out];exact Nat.le_refl _) HIR.out (fun q=>absurd q (by rw[HRL.out];omega)) rest)
     have HKN:Hid (Blk wr.drew g (zj (((l.take (j+1)).foldl (j4 gtS) []).reverse++l.drop (j+1)))):=hid (by rw[HSN.out,HRS.out,← HDONE.out];exact HK.out.drew)
     have HBN:Hid (Below w.heap.size w wr.drew):=hid HBI.out.drew
     go_upto_region 7 with fail
     try (apply wp_seq_k;intro K_ HK_)
     have hS0:Below wr.heap.size wr wr.drew:=(Below.refl _ _).drew
     refine wp_region_held_drew (S:=fun w'=>Below wr.heap.size wr w') (by kernel_rfl) hS0 (fun hHeld0=>?_)
     refine tkQ (i:=0) (oi:=⟨some 20,_,_,_,_,_⟩) (v:=?_) rfl (Or.inl ⟨by rfl,?_⟩) ?_
     rotate_left
     ·intro w' hSw
      go_simp
      try with_reducible rfl
     try go_frame
     refine tkQ (i:=1) (oi:=⟨some 21,_,_,_,_,_⟩) (v:=?_) rfl (Or.inl ⟨by rfl,?_⟩) ?_
     rotate_left
     ·intro w' hSw
      go_simp
      try with_reducible rfl
     try go_frame
     refine tkQ (i:=2) (oi:=⟨some 22,_,_,_,_,_⟩) (v:=?_) rfl (Or.inl ⟨by rfl,?_⟩) ?_
     rotate_left
     ·intro w' hSw
      go_simp
      try with_reducible rfl
     try go_frame
     refine tkQ (i:=3) (oi:=⟨some 23,_,_,_,_,_⟩) (v:=undef) rfl (Or.inr ⟨by rfl,rfl⟩) ?_
     try go_frame
     refine tkQ (i:=4) (oi:=⟨some 24,_,_,_,_,_⟩) (v:=undef) rfl (Or.inr ⟨by rfl,rfl⟩) ?_
     try go_frame
     refine tkQ (i:=5) (oi:=⟨some 25,_,_,_,_,_⟩) (v:=undef) rfl (Or.inr ⟨by rfl,rfl⟩) ?_
     try go_frame
     refine tkQ (i:=6) (oi:=⟨some 26,_,_,_,_,_⟩) (v:=undef) rfl (Or.inr ⟨by rfl,rfl⟩) ?_
     try go_frame
     refine tkQ (i:=7) (oi:=⟨some 27,_,_,_,_,_⟩) (v:=undef) rfl (Or.inr ⟨by rfl,rfl⟩) ?_
     try go_frame
     refine tkQ (i:=8) (oi:=⟨some 28,_,_,_,_,_⟩) (v:=undef) rfl (Or.inr ⟨by rfl,rfl⟩) ?_
     try go_frame
     refine tkQ (i:=9) (oi:=⟨some 29,_,_,_,_,_⟩) (v:=undef) rfl (Or.inr ⟨by rfl,rfl⟩) ?_
     try go_frame
     refine tkQ (i:=10) (oi:=⟨some 30,_,_,_,_,_⟩) (v:=undef) rfl (Or.inr ⟨by rfl,rfl⟩) ?_
     try go_frame
     refine tkQ (i:=11) (oi:=⟨some 31,_,_,_,_,_⟩) (v:=undef) rfl (Or.inr ⟨by rfl,rfl⟩) ?_
     try go_frame
     refine tkQ (i:=12) (oi:=⟨some 32,_,_,_,_,_⟩) (v:=undef) rfl (Or.inr ⟨by rfl,rfl⟩) ?_
     try go_frame
     refine tkQ (i:=13) (oi:=⟨some 33,_,_,_,_,_⟩) (v:=undef) rfl (Or.inr ⟨by rfl,rfl⟩) ?_
     try go_frame
     refine tkQ (i:=14) (oi:=⟨some 34,_,_,_,_,_⟩) (v:=?_) rfl (Or.inl ⟨by rfl,?_⟩) ?_
     rotate_left
     ·intro w' hSw
      go_simp
      try with_reducible rfl
     try go_frame
     refine wpAnyH_done (by kernel_rfl) ?_ _
     try go_frame
     clear hHeld0 hS0
     go_wp2_with fail
     go_roundg (n-(j+1))
     case measure=>omega
     case rel=>exact⟨j+1,by omega,by omega,by go_num,HKN,HBN⟩
    ·have hjr:j<r.length:=by rw[HRL.out];omega
     have HLS:Hid (aat r x rest j=(r.drop (j+1)).reverse ++([r[j]] ++([x] ++((r.take j).reverse++rest)))):=hid (ayx r x rest j hjr)
     have HLT:Hid (aat r x rest (j+1)=(r.drop (j+1)).reverse ++([x] ++([r[j]] ++((r.take j).reverse++rest)))):=hid (aol r x rest j hjr)
     have HGO:Hid (gtS x r[j]=true→j4 gtS r x=r.take (j+1)++j4 gtS (r.drop (j+1)) x):=hid (a39 gtS r x j hjr HIR.out)
     have HSP:Hid (gtS x r[j]=false→aat r x rest j=(j4 gtS r x).reverse++rest):=hid (fun hh=>ahe gtS r x j (Nat.le_of_lt hjr) HIR.out (fun _=>hh) rest)
     have HDQ:Hid ((r.drop (j+1)).reverse.length=q):=hid (by rw[List.length_reverse,List.length_drop,HRL.out];omega)
     generalize (r.drop (j+1)).reverse=D at HLS HLT HDQ
     generalize (r.take j).reverse++rest=E at HLS HLT
     generalize r[j]=y at HLS HLT HGO HSP
     have HBK:Hid (Blk wr g (zj (D ++([y] ++([x]++E))))):=hid (by rw[← HLS.out];exact HK.out)
     have HAT:=hid (aw3 HBK.out HDQ.out)
     obtain⟨bb,hbb⟩:∃bb,gtS x y=bb:=⟨_,rfl⟩
     have HG:∀W,Hid (Calls Tryz.prog 121 #[.agg (ya x).toArray,.agg (ya y).toArray] W fun e w'=>e=.returned (.bool bb)∧Below W.heap.size W w'):=fun W=>hid (by rw[← hbb];exact aqe x y W)
     have HBB:=hid hbb
     clear hbb
     obtain⟨x0,x1,x2⟩:=x
     obtain⟨y0,y1,y2⟩:=y
     have HX:Hid (∀w',Below wr.heap.size wr w'→w'.rangeAt g ((q+1)*3) [.int .i64 (x0:Nat),.bool x1,.int .i64 (x2:Nat)]):=hid HAT.out.1
     have HY:Hid (∀w',Below wr.heap.size wr w'→w'.rangeAt g (q*3) [.int .i64 (y0:Nat),.bool y1,.int .i64 (y2:Nat)]):=hid HAT.out.2.1
     change ∀W,Hid (Calls Tryz.prog 121 #[.agg #[.int .i64 (x0:Nat),.bool x1,.int .i64 (x2:Nat)],.agg #[.int .i64 (y0:Nat),.bool y1,.int .i64 (y2:Nat)]] W fun e w'=>e=.returned (.bool bb)∧Below W.heap.size W w')at HG
     have i3:(q:Int)+1<n:=by omega
     have i4:(0:Int) ≤(q:Int)+1:=by omega
     have i5:(q:Int)<n:=by omega
     have i6:(0:Int) ≤(q:Int):=by omega
     have i7:(0:Int)<(q:Int)+1:=by omega
     have f1:IntKind.i64.wrap (q:Int)=(q:Int):=IntWalk.i64_in _ (by omega)
     clear HAT
     cases bb
     ·have HKN:∀w2,Below wr.heap.size wr w2→Hid (Blk w2 g (zj (((l.take (i+1)).foldl (j4 gtS) []).reverse++l.drop (i+1)))):=fun w2 hb=>hid (by rw[HSN.out,HRS.out,← HSP.out HBB.out];exact HK.out.on hb)
      go_upto_region 7 with fail
      try (apply wp_seq_k;intro K_ HK_)
      have hS0:Below wr.heap.size wr wr.drew:=(Below.refl _ _).drew
      refine wp_region_held_drew (S:=fun w'=>Below wr.heap.size wr w') (by kernel_rfl) hS0 (fun hHeld0=>?_)
      refine tkQ (i:=0) (oi:=⟨some 20,_,_,_,_,_⟩) (v:=?_) rfl (Or.inl ⟨by rfl,?_⟩) ?_
      rotate_left
      ·intro w' hSw
       go_simp
       try with_reducible rfl
      try go_frame
      refine tkQ (i:=1) (oi:=⟨some 21,_,_,_,_,_⟩) (v:=?_) rfl (Or.inl ⟨by rfl,?_⟩) ?_
      rotate_left
      ·intro w' hSw
       go_simp
       try with_reducible rfl
      try go_frame
      refine tkQ (i:=2) (oi:=⟨some 22,_,_,_,_,_⟩) (v:=?_) rfl (Or.inl ⟨by rfl,?_⟩) ?_
      rotate_left
      ·intro w' hSw
       go_simp
       try with_reducible rfl
      try go_frame
      refine tkQ (i:=3) (oi:=⟨some 23,_,_,_,_,_⟩) (v:=?_) rfl (Or.inl ⟨by rfl,?_⟩) ?_
      rotate_left
      ·intro w' hSw
       go_simp
       try with_reducible rfl
      try go_frame
      refine tkQ (i:=4) (oi:=⟨some 24,_,_,_,_,_⟩) (v:=?_) rfl (Or.inl ⟨by rfl,?_⟩) ?_
      rotate_left
      ·intro w' hSw
       go_simp
       try with_reducible rfl
      try go_frame
      refine tkQ (i:=5) (oi:=⟨some 25,_,_,_,_,_⟩) (v:=?_) rfl (Or.inl ⟨by rfl,?_⟩) ?_
      rotate_left
      ·intro w' hSw
       go_simp
       try with_reducible rfl
      try go_frame
      refine tkQ (i:=6) (oi:=⟨some 26,_,_,_,_,_⟩) (v:=?_) rfl (Or.inl ⟨by rfl,?_⟩) ?_
      rotate_left
      ·intro w' hSw
       go_simp
       try with_reducible rfl
      try go_frame
      refine tkQ (i:=7) (oi:=⟨some 27,_,_,_,_,_⟩) (v:=_) rfl (yieldsIf_load_mid (by rfl) 208 _ rfl g ((q+1)*3) rfl [.int .i64 (x0:Nat),.bool x1,.int .i64 (x2:Nat)] _ (fun w' hSw=>(HX.out w' hSw)) Tryz.underlying208 rfl (by kernel_rfl)) ?_
      try go_frame
      refine tkQ (i:=8) (oi:=⟨some 28,_,_,_,_,_⟩) (v:=?_) rfl (Or.inl ⟨by rfl,?_⟩) ?_
      rotate_left
      ·intro w' hSw
       go_simp
       try with_reducible rfl
      try go_frame
      refine tkQ (i:=9) (oi:=⟨some 29,_,_,_,_,_⟩) (v:=?_) rfl (Or.inl ⟨by rfl,?_⟩) ?_
      rotate_left
      ·intro w' hSw
       go_simp
       try with_reducible rfl
      try go_frame
      refine tkQ (i:=10) (oi:=⟨some 30,_,_,_,_,_⟩) (v:=?_) rfl (Or.inl ⟨by rfl,?_⟩) ?_
      rotate_left
      ·intro w' hSw
       go_simp
       try with_reducible rfl
      try go_frame
      refine tkQ (i:=11) (oi:=⟨some 31,_,_,_,_,_⟩) (v:=?_) rfl (Or.inl ⟨by rfl,?_⟩) ?_
      rotate_left
      ·intro w' hSw
       go_simp
       try with_reducible rfl
      try go_frame
      refine tkQ (i:=12) (oi:=⟨some 32,_,_,_,_,_⟩) (v:=_) rfl (yieldsIf_load_mid (by rfl) 208 _ rfl g (q*3) rfl [.int .i64 (y0:Nat),.bool y1,.int .i64 (y2:Nat)] _ (fun w' hSw=>(HY.out w' hSw)) Tryz.underlying208 rfl (by kernel_rfl)) ?_
      try go_frame
      refine wpAnyH_ready (rs:=[13]) (by kernel_rfl) (by simp) ?_
      refine AllReadyH.cons (o:=⟨some 33,_,_,_,_,_⟩) rfl (fun K hK=>?_) AllReadyH.nil
      rw[if_pos (by rfl)]
      go_step
      refine(HG _).out.mono ?_
      rintro e w2 ⟨rfl,hb⟩
      have HS2:Hid (Below wr.heap.size wr w2):=hid (hHeld0.trans (hb.mono hHeld0.size))
      clear hb
      try go_frame
      refine hK.out _ _ (HS2.out) (fun hHeld=>?_)
      clear hK K
      try go_frame
      refine tkQ (i:=14) (oi:=⟨some 34,_,_,_,_,_⟩) (v:=?_) rfl (Or.inl ⟨by rfl,?_⟩) ?_
      rotate_left
      ·intro w' hSw
       go_simp
       try with_reducible rfl
      try go_frame
      refine wpAnyH_done (by kernel_rfl) ?_ _
      try go_frame
      have HKN2:=HKN w2 HS2.out
      have HBN:=hid (qb HBI.out HS2.out)
      clear hHeld hHeld0 hS0
      go_wp2_with fail
      go_roundg (n-(i+1))
      case measure=>omega
      case rel=>exact⟨i+1,by omega,by omega,by go_num,HKN2,HBN⟩
     ·go_upto_region 7 with fail
      try (apply wp_seq_k;intro K_ HK_)
      have hS0:Below wr.heap.size wr wr.drew:=(Below.refl _ _).drew
      refine wp_region_held_drew (S:=fun w'=>Below wr.heap.size wr w') (by kernel_rfl) hS0 (fun hHeld0=>?_)
      refine tkQ (i:=0) (oi:=⟨some 20,_,_,_,_,_⟩) (v:=?_) rfl (Or.inl ⟨by rfl,?_⟩) ?_
      rotate_left
      ·intro w' hSw
       go_simp
       try with_reducible rfl
      try go_frame
      refine tkQ (i:=1) (oi:=⟨some 21,_,_,_,_,_⟩) (v:=?_) rfl (Or.inl ⟨by rfl,?_⟩) ?_
      rotate_left
      ·intro w' hSw
       go_simp
       try with_reducible rfl
      try go_frame
      refine tkQ (i:=2) (oi:=⟨some 22,_,_,_,_,_⟩) (v:=?_) rfl (Or.inl ⟨by rfl,?_⟩) ?_
      rotate_left
      ·intro w' hSw
       go_simp
       try with_reducible rfl
      try go_frame
      refine tkQ (i:=3) (oi:=⟨some 23,_,_,_,_,_⟩) (v:=?_) rfl (Or.inl ⟨by rfl,?_⟩) ?_
      rotate_left
      ·intro w' hSw
       go_simp
       try with_reducible rfl
      try go_frame
      refine tkQ (i:=4) (oi:=⟨some 24,_,_,_,_,_⟩) (v:=?_) rfl (Or.inl ⟨by rfl,?_⟩) ?_
      rotate_left
      ·intro w' hSw
       go_simp
       try with_reducible rfl
      try go_frame
      refine tkQ (i:=5) (oi:=⟨some 25,_,_,_,_,_⟩) (v:=?_) rfl (Or.inl ⟨by rfl,?_⟩) ?_
      rotate_left
      ·intro w' hSw
       go_simp
       try with_reducible rfl
      try go_frame
      refine tkQ (i:=6) (oi:=⟨some 26,_,_,_,_,_⟩) (v:=?_) rfl (Or.inl ⟨by rfl,?_⟩) ?_
      rotate_left
      ·intro w' hSw
       go_simp
       try with_reducible rfl
      try go_frame
      refine tkQ (i:=7) (oi:=⟨some 27,_,_,_,_,_⟩) (v:=_) rfl (yieldsIf_load_mid (by rfl) 208 _ rfl g ((q+1)*3) rfl [.int .i64 (x0:Nat),.bool x1,.int .i64 (x2:Nat)] _ (fun w' hSw=>(HX.out w' hSw)) Tryz.underlying208 rfl (by kernel_rfl)) ?_
      try go_frame
      refine tkQ (i:=8) (oi:=⟨some 28,_,_,_,_,_⟩) (v:=?_) rfl (Or.inl ⟨by rfl,?_⟩) ?_
      rotate_left
      ·intro w' hSw
       go_simp
       try with_reducible rfl
      try go_frame
      refine tkQ (i:=9) (oi:=⟨some 29,_,_,_,_,_⟩) (v:=?_) rfl (Or.inl ⟨by rfl,?_⟩) ?_
      rotate_left
      ·intro w' hSw
       go_simp
       try with_reducible rfl
      try go_frame
      refine tkQ (i:=10) (oi:=⟨some 30,_,_,_,_,_⟩) (v:=?_) rfl (Or.inl ⟨by rfl,?_⟩) ?_
      rotate_left
      ·intro w' hSw
       go_simp
       try with_reducible rfl
      try go_frame
      refine tkQ (i:=11) (oi:=⟨some 31,_,_,_,_,_⟩) (v:=?_) rfl (Or.inl ⟨by rfl,?_⟩) ?_
      rotate_left
      ·intro w' hSw
       go_simp
       try with_reducible rfl
      try go_frame
      refine tkQ (i:=12) (oi:=⟨some 32,_,_,_,_,_⟩) (v:=_) rfl (yieldsIf_load_mid (by rfl) 208 _ rfl g (q*3) rfl [.int .i64 (y0:Nat),.bool y1,.int .i64 (y2:Nat)] _ (fun w' hSw=>(HY.out w' hSw)) Tryz.underlying208 rfl (by kernel_rfl)) ?_
      try go_frame
      refine wpAnyH_ready (rs:=[13]) (by kernel_rfl) (by simp) ?_
      refine AllReadyH.cons (o:=⟨some 33,_,_,_,_,_⟩) rfl (fun K hK=>?_) AllReadyH.nil
      rw[if_pos (by rfl)]
      go_step
      refine(HG _).out.mono ?_
      rintro e w2 ⟨rfl,hb⟩
      have HS2:Hid (Below wr.heap.size wr w2):=hid (hHeld0.trans (hb.mono hHeld0.size))
      clear hb
      try go_frame
      refine hK.out _ _ (HS2.out) (fun hHeld=>?_)
      clear hK K
      try go_frame
      refine tkQ (i:=14) (oi:=⟨some 34,_,_,_,_,_⟩) (v:=?_) rfl (Or.inl ⟨by rfl,?_⟩) ?_
      rotate_left
      ·intro w' hSw
       go_simp
       try with_reducible rfl
      try go_frame
      refine wpAnyH_done (by kernel_rfl) ?_ _
      try go_frame
      have HK2:=hid (HBK.out.on HS2.out)
      have HBN:=hid (qb HBI.out HS2.out)
      have hcx:=HX.out w2 HS2.out
      have hcy:=HY.out w2 HS2.out
      have cx0:w2.cell? ⟨g,(q+1)*3,none⟩=some (.int .i64 (x0:Nat)):=hcx 0 _ rfl
      have cx1:w2.cell? ⟨g,(q+1)*3+1,none⟩=some (.bool x1):=hcx 1 _ rfl
      have cx2:w2.cell? ⟨g,(q+1)*3+2,none⟩=some (.int .i64 (x2:Nat)):=hcx 2 _ rfl
      have cy0:w2.cell? ⟨g,q*3,none⟩=some (.int .i64 (y0:Nat)):=hcy 0 _ rfl
      have cy1:w2.cell? ⟨g,q*3+1,none⟩=some (.bool y1):=hcy 1 _ rfl
      have cy2:w2.cell? ⟨g,q*3+2,none⟩=some (.int .i64 (y2:Nat)):=hcy 2 _ rfl
      have zx0:w2.frozen? ⟨g,(q+1)*3,none⟩=false:=HK2.out.fz _
      have zx1:w2.frozen? ⟨g,(q+1)*3+1,none⟩=false:=HK2.out.fz _
      have zx2:w2.frozen? ⟨g,(q+1)*3+2,none⟩=false:=HK2.out.fz _
      have zy0:w2.frozen? ⟨g,q*3,none⟩=false:=HK2.out.fz _
      have zy1:w2.frozen? ⟨g,q*3+1,none⟩=false:=HK2.out.fz _
      have zy2:w2.frozen? ⟨g,q*3+2,none⟩=false:=HK2.out.fz _
      have HSW:=hid (apy (B:=w.heap.size) HK2.out HDQ.out (by rw[HGZ.out];exact Nat.le_refl _))
      clear hHeld hHeld0 hS0 hcx hcy
      go_upto_region 9 with fail
      have HKN:Hid (Blk (((((((w2.setCell ⟨g,(q+1)*3,none⟩ (.int .i64 (y0:Nat))).setCell ⟨g,(q+1)*3+1,none⟩ (.bool y1)).setCell ⟨g,(q+1)*3+2,none⟩ (.int .i64 (y2:Nat))).setCell ⟨g,q*3,none⟩ (.int .i64 (x0:Nat))).setCell ⟨g,q*3+1,none⟩ (.bool x1)).setCell ⟨g,q*3+2,none⟩ (.int .i64 (x2:Nat)))).drew g (zj (aat r ⟨x0,x1,x2⟩ rest (j+1)))):=hid (by rw[HLT.out];exact HSW.out.1.drew)
      have HBX:Hid (Below w.heap.size w (((((((w2.setCell ⟨g,(q+1)*3,none⟩ (.int .i64 (y0:Nat))).setCell ⟨g,(q+1)*3+1,none⟩ (.bool y1)).setCell ⟨g,(q+1)*3+2,none⟩ (.int .i64 (y2:Nat))).setCell ⟨g,q*3,none⟩ (.int .i64 (x0:Nat))).setCell ⟨g,q*3+1,none⟩ (.bool x1)).setCell ⟨g,q*3+2,none⟩ (.int .i64 (x2:Nat)))).drew):=hid (HBN.out.trans HSW.out.2.drew)
      have HIN2:=hid (HGO.out HBB.out)
      have HQJ:Hid (i-(j+1)=q):=hid (by omega)
      clear HSW HK2 HBN
      go_region
      clear cx0 zx0 cx1 zx1 cx2 zx2 cy0 zy0 cy1 zy1 cy2 zy2
      generalize (((((((w2.setCell ⟨g,(q+1)*3,none⟩ (.int .i64 (y0:Nat))).setCell ⟨g,(q+1)*3+1,none⟩ (.bool y1)).setCell ⟨g,(q+1)*3+2,none⟩ (.int .i64 (y2:Nat))).setCell ⟨g,q*3,none⟩ (.int .i64 (x0:Nat))).setCell ⟨g,q*3+1,none⟩ (.bool x1)).setCell ⟨g,q*3+2,none⟩ (.int .i64 (x2:Nat)))).drew=w3 at *
      go_wp2_with fail
      go_roundg (i-(j+1))
      case measure=>omega
      case rel=>exact⟨j+1,by omega,by omega,by rw[HQJ.out],HIN2,HKN,HBX⟩
  ·obtain rfl:i=n:=by omega
   have HKN:Hid (Blk wr g (zj (aft gtS l))):=hid (by
    have q:=HK.out
    rw[← HL.out,List.take_length,List.drop_length,List.append_nil]at q
    exact q)
   go_wp2_with fail
   go_ret
   exact⟨g,rfl,HKN.out,by rw[HGZ.out];exact Nat.le_refl _,HB.out⟩
end Go.Proofs.YtdkhlkfleggbaaaGreat
