/- Parts. -/
import Derived.Test.YtdkhlkfleggbaaaGreatV01
namespace Go.Proofs.YtdkhlkfleggbaaaGreat
set_option maxHeartbeats 4000000
set_option maxRecDepth 8000
open Tryz
set_option linter.unusedVariables false
open Go.RowKit
structure Prt where
 nm:ByteArray
 sz:Nat
 sg:Bool
 mn:Nat
def yx (p:Prt):List Value:=[.string p.nm,.int .i64 p.sz,.bool p.sg,.int .i64 p.mn]
def q8 (l:List Prt):List Value:=l.flatMap yx
theorem ady (l:List Prt):(q8 l).length=l.length*4:=atv yx 4 (λ_=>rfl) l
theorem adx (l m:List Prt):q8 (l++m)=q8 l++q8 m:=b4l
theorem a1i (p:Prt):∀v∈yx p,v.oneCell'=true:=by
 intro v hv;simp only[yx,b03,b2o,b4u]at hv;rcases hv with rfl|rfl|rfl|rfl<;>rfl
theorem auh (l:List Prt):∀v∈q8 l,v.oneCell'=true:=by
 intro v hv;obtain⟨p,-,h⟩:=b4d.1 hv;exact a1i p v h
def aaq (l:List ByteArray):List Value:=l.map Value.string
def zh (n:Nat) (s:Bool) (l:List ByteArray):List Prt:=l.map λt=>⟨t,n,s,0⟩
def ai4 (m:Nat) (l:List ByteArray):List Prt:=l.map λt=>⟨t,1,false,m⟩
abbrev TFm:=ByteArray×List Prt
def noF:TFm:=(ByteArray.empty,[])
def ae9:List ByteArray:=[⟨#[120,97,99,99]⟩,⟨#[121,97,99,99]⟩,⟨#[122,97,99,99]⟩,⟨#[120,103,121,114,111]⟩,⟨#[121,103,121,114,111]⟩,⟨#[122,103,121,114,111]⟩,⟨#[120,109,97,103]⟩,⟨#[121,109,97,103]⟩,⟨#[122,109,97,103]⟩]
def bn5:List ByteArray:=[⟨#[116,121,112,101]⟩,⟨#[97,117,116,111,112,105,108,111,116]⟩,⟨#[98,97,115,101,95,109,111,100,101]⟩]
def bn6:List ByteArray:=[⟨#[99,117,115,116,111,109,95,109,111,100,101]⟩]
def bn7:List ByteArray:=[⟨#[115,121,115,116,101,109,95,115,116,97,116,117,115]⟩,⟨#[109,97,118,108,105,110,107,95,118,101,114,115,105,111,110]⟩]
def bfb:TFm:=(⟨#[72,69,65,82,84,66,69,65,84]⟩,(zh 1 false bn5) ++(zh 4 false bn6) ++(zh 1 false bn7))
def bn8:List ByteArray:=[⟨#[111,110,98,111,97,114,100,95,99,111,110,116,114,111,108,95,115,101,110,115,111,114,115,95,112,114,101,115,101,110,116]⟩,⟨#[111,110,98,111,97,114,100,95,99,111,110,116,114,111,108,95,115,101,110,115,111,114,115,95,101,110,97,98,108,101,100]⟩,⟨#[111,110,98,111,97,114,100,95,99,111,110,116,114,111,108,95,115,101,110,115,111,114,115,95,104,101,97,108,116,104]⟩]
def bn9:List ByteArray:=[⟨#[108,111,97,100]⟩,⟨#[118,111,108,116,97,103,101,95,98,97,116,116,101,114,121]⟩]
def boa:List ByteArray:=[⟨#[99,117,114,114,101,110,116,95,98,97,116,116,101,114,121]⟩]
def bob:List ByteArray:=[⟨#[98,97,116,116,101,114,121,95,114,101,109,97,105,110,105,110,103]⟩]
def boc:List ByteArray:=[⟨#[100,114,111,112,95,114,97,116,101,95,99,111,109,109]⟩,⟨#[101,114,114,111,114,115,95,99,111,109,109]⟩,⟨#[101,114,114,111,114,115,95,99,111,117,110,116,49]⟩,⟨#[101,114,114,111,114,115,95,99,111,117,110,116,50]⟩,⟨#[101,114,114,111,114,115,95,99,111,117,110,116,51]⟩,⟨#[101,114,114,111,114,115,95,99,111,117,110,116,52]⟩]
def bfc:TFm:=(⟨#[83,89,83,95,83,84,65,84,85,83]⟩,(zh 4 false bn8) ++(zh 2 false bn9) ++(zh 2 true boa) ++(zh 1 true bob) ++(zh 2 false boc))
def bod:List ByteArray:=[⟨#[116,105,109,101,95,117,110,105,120,95,117,115,101,99]⟩]
def boe:List ByteArray:=[⟨#[116,105,109,101,95,98,111,111,116,95,109,115]⟩]
def bfd:TFm:=(⟨#[83,89,83,84,69,77,95,84,73,77,69]⟩,(zh 8 false bod) ++(zh 4 false boe))
def bof:List ByteArray:=[⟨#[116,105,109,101,95,117,115,101,99]⟩]
def bog:List ByteArray:=[⟨#[115,101,113]⟩]
def boh:List ByteArray:=[⟨#[116,97,114,103,101,116,95,115,121,115,116,101,109]⟩,⟨#[116,97,114,103,101,116,95,99,111,109,112,111,110,101,110,116]⟩]
def bfe:TFm:=(⟨#[80,73,78,71]⟩,(zh 8 false bof) ++(zh 4 false bog) ++(zh 1 false boh))
def bfs:List ByteArray:=[⟨#[116,99,49]⟩,⟨#[116,115,49]⟩]
def av1:TFm:=(⟨#[84,73,77,69,83,89,78,67]⟩,zh 8 true bfs)
def bft:List ByteArray:=[⟨#[86,99,99]⟩,⟨#[86,115,101,114,118,111]⟩,⟨#[102,108,97,103,115]⟩]
def av2:TFm:=(⟨#[80,79,87,69,82,95,83,84,65,84,85,83]⟩,zh 2 false bft)
def agv (i:Int):TFm:=if i=0 then bfb else if i=1 then bfc else if i=2 then bfd else if i=4 then bfe else if i=111 then av1 else if i=125 then av2 else noF
def bk3:List ByteArray:=[⟨#[116,105,109,101,95,117,115,101,99]⟩]
def bk4:List ByteArray:=[⟨#[102,105,120,95,116,121,112,101]⟩]
def bk5:List ByteArray:=[⟨#[108,97,116]⟩,⟨#[108,111,110]⟩,⟨#[97,108,116]⟩]
def bk6:List ByteArray:=[⟨#[101,112,104]⟩,⟨#[101,112,118]⟩,⟨#[118,101,108]⟩,⟨#[99,111,103]⟩]
def bk7:List ByteArray:=[⟨#[115,97,116,101,108,108,105,116,101,115,95,118,105,115,105,98,108,101]⟩]
def a49:TFm:=(⟨#[71,80,83,95,82,65,87,95,73,78,84]⟩,(zh 8 false bk3) ++(zh 1 false bk4) ++(zh 4 true bk5) ++(zh 2 false bk6) ++(zh 1 false bk7))
def bk8:List ByteArray:=[⟨#[115,97,116,101,108,108,105,116,101,115,95,118,105,115,105,98,108,101]⟩]
def bk9:List ByteArray:=[⟨#[115,97,116,101,108,108,105,116,101,95,112,114,110]⟩,⟨#[115,97,116,101,108,108,105,116,101,95,117,115,101,100]⟩,⟨#[115,97,116,101,108,108,105,116,101,95,101,108,101,118,97,116,105,111,110]⟩,⟨#[115,97,116,101,108,108,105,116,101,95,97,122,105,109,117,116,104]⟩,⟨#[115,97,116,101,108,108,105,116,101,95,115,110,114]⟩]
def a5a:TFm:=(⟨#[71,80,83,95,83,84,65,84,85,83]⟩,(zh 1 false bk8) ++(ai4 20 bk9))
def bla:List ByteArray:=[⟨#[116,105,109,101,95,98,111,111,116,95,109,115]⟩]
def a5b:TFm:=(⟨#[83,67,65,76,69,68,95,73,77,85]⟩,(zh 4 false bla) ++(zh 2 true ae9))
def blb:List ByteArray:=[⟨#[116,105,109,101,95,117,115,101,99]⟩]
def a5c:TFm:=(⟨#[82,65,87,95,73,77,85]⟩,(zh 8 false blb) ++(zh 2 true ae9))
def blc:List ByteArray:=[⟨#[116,105,109,101,95,117,115,101,99]⟩]
def bld:List ByteArray:=[⟨#[112,114,101,115,115,95,97,98,115]⟩,⟨#[112,114,101,115,115,95,100,105,102,102,49]⟩,⟨#[112,114,101,115,115,95,100,105,102,102,50]⟩,⟨#[116,101,109,112,101,114,97,116,117,114,101]⟩]
def a5d:TFm:=(⟨#[82,65,87,95,80,82,69,83,83,85,82,69]⟩,(zh 8 false blc) ++(zh 2 true bld))
def ble:List ByteArray:=[⟨#[116,105,109,101,95,98,111,111,116,95,109,115]⟩]
def blf:List ByteArray:=[⟨#[108,97,116]⟩,⟨#[108,111,110]⟩,⟨#[97,108,116]⟩,⟨#[114,101,108,97,116,105,118,101,95,97,108,116]⟩]
def blg:List ByteArray:=[⟨#[118,120]⟩,⟨#[118,121]⟩,⟨#[118,122]⟩]
def blh:List ByteArray:=[⟨#[104,100,103]⟩]
def a5e:TFm:=(⟨#[71,76,79,66,65,76,95,80,79,83,73,84,73,79,78,95,73,78,84]⟩,(zh 4 false ble) ++(zh 4 true blf) ++(zh 2 true blg) ++(zh 2 false blh))
def ado (i:Int):TFm:=if i=24 then a49 else if i=25 then a5a else if i=26 then a5b else if i=27 then a5c else if i=28 then a5d else if i=33 then a5e else noF
def bli:List ByteArray:=[⟨#[116,105,109,101,95,98,111,111,116,95,109,115]⟩]
def blj:List ByteArray:=[⟨#[112,111,114,116]⟩]
def bll:List ByteArray:=[⟨#[99,104,97,110,49,95,114,97,119]⟩,⟨#[99,104,97,110,50,95,114,97,119]⟩,⟨#[99,104,97,110,51,95,114,97,119]⟩,⟨#[99,104,97,110,52,95,114,97,119]⟩,⟨#[99,104,97,110,53,95,114,97,119]⟩,⟨#[99,104,97,110,54,95,114,97,119]⟩,⟨#[99,104,97,110,55,95,114,97,119]⟩,⟨#[99,104,97,110,56,95,114,97,119]⟩]
def blm:List ByteArray:=[⟨#[114,115,115,105]⟩]
def a5f:TFm:=(⟨#[82,67,95,67,72,65,78,78,69,76,83,95,82,65,87]⟩,(zh 4 false bli) ++(zh 1 false blj) ++(zh 2 false bll) ++(zh 1 false blm))
def bln:List ByteArray:=[⟨#[116,105,109,101,95,117,115,101,99]⟩]
def blo:List ByteArray:=[⟨#[112,111,114,116]⟩]
def blp:List ByteArray:=[⟨#[115,101,114,118,111,49,95,114,97,119]⟩,⟨#[115,101,114,118,111,50,95,114,97,119]⟩,⟨#[115,101,114,118,111,51,95,114,97,119]⟩,⟨#[115,101,114,118,111,52,95,114,97,119]⟩,⟨#[115,101,114,118,111,53,95,114,97,119]⟩,⟨#[115,101,114,118,111,54,95,114,97,119]⟩,⟨#[115,101,114,118,111,55,95,114,97,119]⟩,⟨#[115,101,114,118,111,56,95,114,97,119]⟩]
def a5g:TFm:=(⟨#[83,69,82,86,79,95,79,85,84,80,85,84,95,82,65,87]⟩,(zh 4 false bln) ++(zh 1 false blo) ++(zh 2 false blp))
def blq:List ByteArray:=[⟨#[115,101,113]⟩]
def a5h:TFm:=(⟨#[77,73,83,83,73,79,78,95,67,85,82,82,69,78,84]⟩,zh 2 false blq)
def blr:List ByteArray:=[⟨#[116,97,114,103,101,116,95,115,121,115,116,101,109]⟩,⟨#[116,97,114,103,101,116,95,99,111,109,112,111,110,101,110,116]⟩]
def bls:List ByteArray:=[⟨#[99,111,117,110,116]⟩]
def a5i:TFm:=(⟨#[77,73,83,83,73,79,78,95,67,79,85,78,84]⟩,(zh 1 false blr) ++(zh 2 false bls))
def blt:List ByteArray:=[⟨#[116,97,114,103,101,116,95,115,121,115,116,101,109]⟩,⟨#[116,97,114,103,101,116,95,99,111,109,112,111,110,101,110,116]⟩,⟨#[116,121,112,101]⟩]
def a5j:TFm:=(⟨#[77,73,83,83,73,79,78,95,65,67,75]⟩,zh 1 false blt)
def blu:List ByteArray:=[⟨#[116,97,114,103,101,116,95,115,121,115,116,101,109]⟩,⟨#[116,97,114,103,101,116,95,99,111,109,112,111,110,101,110,116]⟩,⟨#[114,101,113,95,115,116,114,101,97,109,95,105,100]⟩]
def blv:List ByteArray:=[⟨#[114,101,113,95,109,101,115,115,97,103,101,95,114,97,116,101]⟩]
def blw:List ByteArray:=[⟨#[115,116,97,114,116,95,115,116,111,112]⟩]
def a5k:TFm:=(⟨#[82,69,81,85,69,83,84,95,68,65,84,65,95,83,84,82,69,65,77]⟩,(zh 1 false blu) ++(zh 2 false blv) ++(zh 1 false blw))
def blx:List ByteArray:=[⟨#[99,111,109,109,97,110,100]⟩]
def bly:List ByteArray:=[⟨#[114,101,115,117,108,116]⟩]
def a5l:TFm:=(⟨#[67,79,77,77,65,78,68,95,65,67,75]⟩,(zh 2 false blx) ++(zh 1 false bly))
def aga (i:Int):TFm:=if i=35 then a5f else if i=36 then a5g else if i=42 then a5h else if i=44 then a5i else if i=47 then a5j else if i=66 then a5k else if i=77 then a5l else noF
def bfu:List ByteArray:=[⟨#[116,105,109,101,95,98,111,111,116,95,109,115]⟩,⟨#[113,117,97,116,101,114,110,105,111,110]⟩]
def bfv:List ByteArray:=[⟨#[120,103,121,114,111]⟩,⟨#[121,103,121,114,111]⟩,⟨#[122,103,121,114,111]⟩]
def av3:TFm:=(⟨#[65,84,84,73,84,85,68,69,95,87,79,82,68]⟩,(zh 4 false bfu) ++(zh 2 true bfv))
def bfw:List ByteArray:=[⟨#[116,105,109,101,95,98,111,111,116,95,109,115]⟩]
def bfx:List ByteArray:=[⟨#[120,98,105,97,115]⟩,⟨#[121,98,105,97,115]⟩,⟨#[122,98,105,97,115]⟩]
def bfy:List ByteArray:=[⟨#[115,116,101,112,115]⟩]
def bfz:List ByteArray:=[⟨#[99,117,116,115]⟩]
def av4:TFm:=(⟨#[70,73,76,84,69,82,95,83,84,65,84,69]⟩,(zh 4 false bfw) ++(zh 4 true bfx) ++(zh 4 false bfy) ++(zh 2 false bfz))
def bf0:List ByteArray:=[⟨#[110,117,109,98,101,114]⟩]
def bf1:List ByteArray:=[⟨#[112,97,114,116]⟩]
def bf2:List ByteArray:=[⟨#[98,121,116,101,115]⟩]
def av5:TFm:=(⟨#[76,79,71,95,66,76,79,67,75]⟩,(zh 4 false bf0) ++(zh 1 false bf1) ++(ai4 64 bf2))
def awp (i:Int):TFm:=if i=200 then av3 else if i=201 then av4 else if i=202 then av5 else noF
def xe (i:Int):TFm:=if(agv i).1≠ByteArray.empty then agv i else if(ado i).1≠ByteArray.empty then ado i else if(aga i).1≠ByteArray.empty then aga i else if(awp i).1≠ByteArray.empty then awp i else noF
def ks {α:Type} (ahead:α->α->Bool):List α->α->List α
 | [],x=>[x]
 | y::r,x=>if ahead x y then y::ks ahead r x else x::y::r
def ag6 {α:Type} (ahead:α->α->Bool) (l:List α):List α:=(l.foldl (ks ahead) []).reverse
theorem a01 {α:Type} (ahead:α->α->Bool):∀(r:List α) (x:α),(ks ahead r x).length=r.length+1
 | [],x=>rfl
 | y::r,x=>by unfold ks;split<;>simp[a01 ahead r x]
theorem ami {α:Type} (ahead:α->α->Bool):∀(l r:List α),(l.foldl (ks ahead) r).length=r.length+l.length
 | [],r=>rfl
 | x::l,r=>by rw[b2l,ami ahead l,a01,n6];omega
theorem auu {α:Type} (ahead:α->α->Bool) (l:List α):(ag6 ahead l).length=l.length:=by
 unfold ag6;rw[b3i,ami];simp
theorem at2 {α:Type} (ahead:α->α->Bool):∀(r:List α) (x:α),(ks ahead r x).Perm (x::r)
 | [],x=>List.Perm.refl _
 | y::r,x=>by
  unfold ks;split
  ·exact((at2 ahead r x).cons y).trans (List.Perm.swap x y r)
  ·exact List.Perm.refl _
theorem aqf {α:Type} (ahead:α->α->Bool):∀(l r:List α),(l.foldl (ks ahead) r).Perm (r++l)
 | [],r=>by rw[b0p];exact List.Perm.refl _
 | x::l,r=>by
  rw[b2l];refine(aqf ahead l _).trans (((at2 ahead r x).append_right l).trans ?_);exact List.perm_middle.symm
theorem ags {α:Type} (ahead:α->α->Bool) (l:List α):(ag6 ahead l).Perm l:=by
 unfold ag6;exact(List.reverse_perm _).trans (aqf ahead l [])
def aao (p:Prt):Nat:=if p.mn=0 then 1 else p.mn
def yn (l:List Prt):Nat:=(l.map λp=>p.sz*aao p).sum
def vf (l:List Prt):Nat:=(l.map aao).sum
structure Slt where
 sz:Nat
 sg:Bool
 ix:Nat
def aab (s:Slt):List Value:=[.int .i64 s.sz,.bool s.sg,.int .i64 s.ix]
def zr (l:List Slt):List Value:=l.flatMap aab
theorem aiu (l:List Slt):(zr l).length=l.length*3:=atv aab 3 (λ_=>rfl) l
def aap:List Prt->Nat->List Slt
 | [],_=>[]
 | p::l,n=>(List.range (aao p)).map (λk=>⟨p.sz,p.sg,n+k⟩)++aap l (n+aao p)
def aem (l:List Prt):List Slt:=ag6 (λa b=>decide (b.sz<a.sz)) (aap l 0)
def af1 (l:List Prt):List Prt:=ag6 (λa b=>decide (b.sz<a.sz)) l
def ach (l:List Prt):List Fld:=(aem l).map λs=>af9 s.sz s.sg
def yw:List Slt->List Int->List Int->List Int
 | s::l,x::v,out=>yw l v (out.set s.ix x)
 | _,_,out=>out
theorem aqu:(prog.info? 261).map (λi=>(i.zero,i.size,i.bytes))=some (some (.agg #[.string ByteArray.empty,.int .i64 0,.bool false,.int .i64 0]),4,40):=by kernel_rfl
theorem bdb {l:List ByteArray} {k:Nat} (h:k<l.length):(aaq l)[k]?=some (.string (l[k]'h)):=by
 unfold aaq;rw[b0l,d7 h];rfl
def abz (l:List Prt) (w:World) (e:Ending) (w':World):Prop:=∃v,e=.returned v/\aa0 w 261 4 v l.length (q8 l) w'
theorem yg {Q:Nat->Prop} {w:World} (n:Nat) (s:Bool) (A:Option Addr) (l:List ByteArray) (c:Nat) (h:qf Q w A (aaq l)) (hm:l.length<=1000) :
 Calls prog 214 #[.int .i64 n,.bool s,.slice A l.length c] w (abz (zh n s l) w):=by
 replace h:=h.lt;have HI:=q_ h;have HE:Q_ (zh n s (l.take l.length)=zh n s l /\(zh n s l).length=l.length):=q_ ⟨by rw[b0v],by simp[zh]⟩;obtain⟨i0,hi,hz0,hz1,hz2⟩:=kq aqu;have HIN:=q_ (o3 hi (o3 hz0 (o3 hz1 hz2)));clear hi hz0 hz1 hz2;generalize hL:l.length=m at *;have HL:=q_ hL;clear hL h;unfold abz;rw[HE.o.2];go_enter func214,ntmps214;go_wp2_with fail
 go_loopg [7,12] m (λg s7 s12 wr=>∃k:Nat,k<=m/\m-k<=g/\s12=.int .i64 k/\Q_ (aa0 w 261 4 s7 k (q8 (zh n s (l.take k))) wr))
 case atStart=>exact⟨0,by omega,by omega,rfl,aa0.nil _ _ _ (n9 _ _)⟩
 case round=>
  rename_i s7;obtain⟨k,hk,hg,rfl,HO⟩:=hrel
  by_cases hlt:k<m
  ·have hkl:k<l.length:=by rw[HL.o];exact hlt
   obtain⟨b',o',rfl,hq,hc⟩:=HI.o k _ (bdb hkl);have HSN:Q_ (q8 (zh n s (l.take (k+1)))=q8 (zh n s (l.take k))++q8 (zh n s [l[k]])):=q_ (by rw[o9 hkl,<- adx];unfold zh;rw[b17]);have hc':wr.cell? ⟨b',o'+k,none⟩=some (.string l[k]):=(HO.o.2.cell (p:=⟨b',o'+k,none⟩) hq.2).trans hc;clear hc;generalize l[k]=x at *;have i1:(k:Int)<m:=by omega
   have i2:(0:Int) <=(k:Int):=o5 _;obtain⟨A1,c1,hs1,-,-⟩:=HO.o.flat;subst hs1;obtain⟨v',w3,hrun,ho⟩:=aa0.app (P:=prog) (t:=198) (ty:=198) (HO.o.on (qa wr (.cells #[.string x,.int .i64 n,.bool s,.int .i64 0] 261))) HIN.o underlying198 rfl dc (R:=λ_=>True) (some ⟨wr.1.size,0,none⟩) 1 1 [.string x,.int .i64 n,.bool s,.int .i64 0] rfl ((Blk.newL (qg wr _ _) rfl).flat trivial) (a1i ⟨x,n,s,0⟩) (by unfold maxLen;omega) om;have HRUN:=q_ hrun;have HO3:Q_ (aa0 w 261 4 v' (k+1) (q8 (zh n s (l.take (k+1)))) w3):=q_ (by rw[HSN.o];exact ho);clear hrun ho;go_wp2_with (at_builtin;refine q9 rfl _ _ 198 rfl _ _ _ rfl rfl HRUN.o ?_)
   go_roundg (m-(k+1))
   case measure=>omega
   case rel=>exact⟨k+1,by omega,by omega,by go_num,HO3⟩
  ·obtain rfl:k=m:=by omega
   have HO2:=q_ HO.o;rw[HE.o.1]at HO2;clear HO;obtain⟨A1,c1,hs1,-,-⟩:=HO2.o.flat;subst hs1;go_wp2_with fail;go_ret;exact⟨_,rfl,HO2.o⟩
theorem auq {Q:Nat->Prop} {w:World} (A:Option Addr) (l:List ByteArray) (c:Nat) (h:qf Q w A (aaq l)) (hm:l.length<=1000) :
 Calls prog 187 #[.slice A l.length c] w (abz (zh 1 false l) w):=by
 have HP:=q_ (yg 1 false A l c h hm);generalize l.length=m at *;clear h;go_enter func187,ntmps187;go_wp2_with fail;refine(HP.o).mono ?_;rintro e w1 ⟨v,rfl,ho⟩;have HO:=q_ ho;obtain⟨A1,c1,hs1,-,-⟩:=ho.flat;subst hs1;clear ho;go_wp2_with fail;go_ret;exact⟨_,rfl,HO.o⟩
theorem a7g {Q:Nat->Prop} {w:World} (A:Option Addr) (l:List ByteArray) (c:Nat) (h:qf Q w A (aaq l)) (hm:l.length<=1000) :
 Calls prog 189 #[.slice A l.length c] w (abz (zh 2 false l) w):=by
 have HP:=q_ (yg 2 false A l c h hm);generalize l.length=m at *;clear h;go_enter func189,ntmps189;go_wp2_with fail;refine(HP.o).mono ?_;rintro e w1 ⟨v,rfl,ho⟩;have HO:=q_ ho;obtain⟨A1,c1,hs1,-,-⟩:=ho.flat;subst hs1;clear ho;go_wp2_with fail;go_ret;exact⟨_,rfl,HO.o⟩
theorem a7h {Q:Nat->Prop} {w:World} (A:Option Addr) (l:List ByteArray) (c:Nat) (h:qf Q w A (aaq l)) (hm:l.length<=1000) :
 Calls prog 188 #[.slice A l.length c] w (abz (zh 4 false l) w):=by
 have HP:=q_ (yg 4 false A l c h hm);generalize l.length=m at *;clear h;go_enter func188,ntmps188;go_wp2_with fail;refine(HP.o).mono ?_;rintro e w1 ⟨v,rfl,ho⟩;have HO:=q_ ho;obtain⟨A1,c1,hs1,-,-⟩:=ho.flat;subst hs1;clear ho;go_wp2_with fail;go_ret;exact⟨_,rfl,HO.o⟩
theorem a7i {Q:Nat->Prop} {w:World} (A:Option Addr) (l:List ByteArray) (c:Nat) (h:qf Q w A (aaq l)) (hm:l.length<=1000) :
 Calls prog 192 #[.slice A l.length c] w (abz (zh 8 false l) w):=by
 have HP:=q_ (yg 8 false A l c h hm);generalize l.length=m at *;clear h;go_enter func192,ntmps192;go_wp2_with fail;refine(HP.o).mono ?_;rintro e w1 ⟨v,rfl,ho⟩;have HO:=q_ ho;obtain⟨A1,c1,hs1,-,-⟩:=ho.flat;subst hs1;clear ho;go_wp2_with fail;go_ret;exact⟨_,rfl,HO.o⟩
theorem bck {Q:Nat->Prop} {w:World} (A:Option Addr) (l:List ByteArray) (c:Nat) (h:qf Q w A (aaq l)) (hm:l.length<=1000) :
 Calls prog 191 #[.slice A l.length c] w (abz (zh 1 true l) w):=by
 have HP:=q_ (yg 1 true A l c h hm);generalize l.length=m at *;clear h;go_enter func191,ntmps191;go_wp2_with fail;refine(HP.o).mono ?_;rintro e w1 ⟨v,rfl,ho⟩;have HO:=q_ ho;obtain⟨A1,c1,hs1,-,-⟩:=ho.flat;subst hs1;clear ho;go_wp2_with fail;go_ret;exact⟨_,rfl,HO.o⟩
theorem arc {Q:Nat->Prop} {w:World} (A:Option Addr) (l:List ByteArray) (c:Nat) (h:qf Q w A (aaq l)) (hm:l.length<=1000) :
 Calls prog 190 #[.slice A l.length c] w (abz (zh 2 true l) w):=by
 have HP:=q_ (yg 2 true A l c h hm);generalize l.length=m at *;clear h;go_enter func190,ntmps190;go_wp2_with fail;refine(HP.o).mono ?_;rintro e w1 ⟨v,rfl,ho⟩;have HO:=q_ ho;obtain⟨A1,c1,hs1,-,-⟩:=ho.flat;subst hs1;clear ho;go_wp2_with fail;go_ret;exact⟨_,rfl,HO.o⟩
theorem a66 {Q:Nat->Prop} {w:World} (A:Option Addr) (l:List ByteArray) (c:Nat) (h:qf Q w A (aaq l)) (hm:l.length<=1000) :
 Calls prog 194 #[.slice A l.length c] w (abz (zh 4 true l) w):=by
 have HP:=q_ (yg 4 true A l c h hm);generalize l.length=m at *;clear h;go_enter func194,ntmps194;go_wp2_with fail;refine(HP.o).mono ?_;rintro e w1 ⟨v,rfl,ho⟩;have HO:=q_ ho;obtain⟨A1,c1,hs1,-,-⟩:=ho.flat;subst hs1;clear ho;go_wp2_with fail;go_ret;exact⟨_,rfl,HO.o⟩
theorem a67 {Q:Nat->Prop} {w:World} (A:Option Addr) (l:List ByteArray) (c:Nat) (h:qf Q w A (aaq l)) (hm:l.length<=1000) :
 Calls prog 193 #[.slice A l.length c] w (abz (zh 8 true l) w):=by
 have HP:=q_ (yg 8 true A l c h hm);generalize l.length=m at *;clear h;go_enter func193,ntmps193;go_wp2_with fail;refine(HP.o).mono ?_;rintro e w1 ⟨v,rfl,ho⟩;have HO:=q_ ho;obtain⟨A1,c1,hs1,-,-⟩:=ho.flat;subst hs1;clear ho;go_wp2_with fail;go_ret;exact⟨_,rfl,HO.o⟩
def ag7 (m k:Nat) (l:List ByteArray):List Prt:=ai4 m (l.take k)++zh 1 false (l.drop k)
theorem bbo (m k:Nat) (l:List ByteArray) (h:k<l.length):q8 (ag7 m (k+1) l)=(q8 (ag7 m k l)).set (k*4+3) (.int .i64 m):=by
 have e1:ag7 m k l=ai4 m (l.take k) ++([⟨l[k],1,false,0⟩]++zh 1 false (l.drop (k+1))):=by unfold ag7;rw[b0w h];rfl
 have e2:ag7 m (k+1) l=ai4 m (l.take k) ++([⟨l[k],1,false,m⟩]++zh 1 false (l.drop (k+1))):=by unfold ag7;rw[o9 h];unfold ai4;rw[b17,b0s];rfl
 have hl:(q8 (ai4 m (l.take k))).length=k*4:=by rw[ady];simp[ai4];omega
 rw[e1,e2,adx,adx,adx,adx,List.set_append_right _ _ om,hl,show k*4+3-k*4=3 from by omega];rfl
theorem bfp (m:Nat) (l:List ByteArray):ag7 m l.length l=ai4 m l:=by simp[ag7,zh]
theorem axg {Q:Nat->Prop} {w:World} (m:Nat) (A:Option Addr) (l:List ByteArray) (c:Nat) (h:qf Q w A (aaq l)) (hm:l.length<=1000) :
 Calls prog 195 #[.int .i64 m,.slice A l.length c] w (abz (ai4 m l) w):=by
 have HP:=q_ (auq (w:=w) A l c h hm);have HE:Q_ (ag7 m 0 l=zh 1 false l /\(zh 1 false l).length=l.length/\ag7 m l.length l=ai4 m l /\(ai4 m l).length=l.length):=q_ ⟨by simp[ag7,ai4],by simp[zh],bfp m l,by simp[ai4]⟩;have HS:Q_ (∀k,k<l.length->q8 (ag7 m (k+1) l)=(q8 (ag7 m k l)).set (k*4+3) (.int .i64 m)):=q_ (bbo m · l);generalize l.length=n at *;unfold abz at *;rw[HE.o.2.1]at HP;rw[HE.o.2.2.2];clear h;go_enter func195,ntmps195;go_wp2_with fail;refine(HP.o).mono ?_;rintro e w1 ⟨v,rfl,ho⟩;have HO1:Q_ (aa0 w 261 4 v n (q8 (ag7 m 0 l)) w1):=q_ (by rw[HE.o.1];exact ho);clear ho HP;obtain⟨A1,c1,hs1,-,-⟩:=HO1.o.flat;subst hs1;go_wp2_with fail
 go_loopg [11] n (λg s11 wr=>∃k:Nat,k<=n/\n-k<=g/\s11=.int .i64 k/\Q_ (aa0 w 261 4 (.slice A1 n c1) n (q8 (ag7 m k l)) wr))
 case atStart=>exact⟨0,by omega,by omega,rfl,HO1⟩
 case round=>
  obtain⟨k,hk,hg,rfl,HO⟩:=hrel
  by_cases hlt:k<n
  ·have i1:(k:Int)<n:=by omega
   have i2:(0:Int) <=(k:Int):=o5 _
   obtain⟨g',rfl⟩:∃g',A1=some ⟨g',0,none⟩:=by
    rcases HO.o.1.2 with⟨q,q2⟩|⟨g',cap,cur,q,-⟩
    ·omega
    ·injection q with q;exact⟨g',q⟩
   have hlv:(q8 (ag7 m k l)).length=n*4:=HO.o.1.1;have hc:wr.cell? ⟨g',k*4+3,none⟩=some ((q8 (ag7 m k l))[k*4+3]'(by omega)):=(HO.o.1.cellAt (k*4+3) om).trans (d7 om);have hz:=HO.o.1.frozenAt (k*4+3)
   have HO3:Q_ (aa0 w 261 4 (.slice (some ⟨g',0,none⟩) n c1) n (q8 (ag7 m (k+1) l)) (wr.setCell ⟨g',k*4+3,none⟩ (.int .i64 m))):=q_ (by
    rw[HS.o k hlt];exact⟨(HO.o.1.stored (k*4+3) _).1,b0n (p:=⟨g',k*4+3,none⟩) HO.o.2 (HO.o.1.lt g' rfl).1 _⟩)
   go_wp2_with fail
   go_roundg (n-(k+1))
   case measure=>omega
   case rel=>exact⟨k+1,by omega,by omega,by go_num,HO3⟩
  ·obtain rfl:k=n:=by omega
   have HO2:=q_ HO.o;rw[HE.o.2.2.1]at HO2;clear HO;go_wp2_with fail;go_ret;exact⟨_,rfl,HO2.o⟩
def xy (f:TFm) (w:World) (e:Ending) (w':World):Prop:=∃A c,e=.returned (.agg #[.string f.1,.slice A f.2.length c])/\qf (λb=>w.1.size<=b/\b<w'.1.size) w' A (q8 f.2)/\Below w.1.size w w'
def bky (w:World) (vs:List Value) (rows:List (List Prt)):Prop:=vs.length=rows.length/\∀i (h:i<rows.length),∃A c,vs[i]?=some (.slice A (rows[i]'h).length c)/\qf (λb=>b<w.1.size) w A (q8 (rows[i]'h))
theorem alr {w1 w:World} {b B:Nat} {x y:Value} (hk:Blk w1 b [x,y]) (p q:Value) (hb:Below B w w1) (hB:B<=b) :
 (loadVar 200 ⟨b,0,none⟩).run prog ((w1.setCell ⟨b,0,none⟩ p).setCell ⟨b,1,none⟩ q)=.ok (.agg #[p,q]) ((w1.setCell ⟨b,0,none⟩ p).setCell ⟨b,1,none⟩ q)/\Below B w ((w1.setCell ⟨b,0,none⟩ p).setCell ⟨b,1,none⟩ q) /\((∀k,k≠b ->((w1.setCell ⟨b,0,none⟩ p).setCell ⟨b,1,none⟩ q).heap[k]?=w1.heap[k]?) /\((w1.setCell ⟨b,0,none⟩ p).setCell ⟨b,1,none⟩ q).1.size=w1.1.size):=by
 have hs:qq w1 ((w1.setCell ⟨b,0,none⟩ p).setCell ⟨b,1,none⟩ q) b 0 [p,q]:=qo (cs:=[p,q]) (hk.there 0 2 (a8 _));exact⟨t9 (P:=prog) _ b 0 200 [p,q] _ (hk.all hs rfl).rg underlying200 rfl kr,hb.trans (hs.below hB),hs.far,hs.sz⟩
theorem as6 (rows:List (List Prt)) (hr:∀r∈rows,r.length<=100):∀k,(rows.take k).flatten.length<=k*100:=by
 intro k
 induction rows generalizing k with
 | nil=>simp
 | cons r rows ih=>
  cases k with
  | zero=>simp
  | succ k=>
   have h1:=hr r (b1x ..);have h2:=ih (λx hx=>hr x (b13 _ hx)) k;rw[b3h,b37,e9];omega
theorem bcl {Q:Nat->Prop} {w:World} (nm:ByteArray) (A:Option Addr) (c:Nat) (vs:List Value) (rows:List (List Prt)) (h:qf Q w A vs) (hv:bky w vs rows) (hm:rows.length<=10) (hr:∀r∈rows,r.length<=100) :
 Calls prog 186 #[.string nm,.slice A rows.length c] w (xy (nm,rows.flatten) w):=by
 have HI:=q_ (o3 h.lt hv.2);have HL:=q_ (as6 rows hr);obtain⟨i0,hi,hz0,hz1,hz2⟩:=kq aqu;have HIN:=q_ (o3 hi (o3 hz0 (o3 hz1 hz2)));have HLR:=q_ hr;have HE:Q_ (rows.take rows.length=rows):=q_ (by rw[b0v]);clear hi hz0 hz1 hz2 h hv hr;obtain⟨n,hn⟩:∃n,rows.length=n:=⟨_,rfl⟩;rw[hn]at hm HE ⊢;have HN:=q_ hn;clear hn;unfold xy;dsimp only;go_enter func186,ntmps186;go_upto_region 2 with fail;have HR:Q_ (Blk ((w.alloc (.cells #[.string ⟨#[]⟩,.slice none 0 0] 200)).alloc (.cells #[.string nm,.slice none 0 0] 200)) w.1.size [.string ⟨#[]⟩,.slice none 0 0]):=q_ ((Blk.newL (qg w _ _) rfl).on (qa _ _))
 have HF:Q_ (Blk ((w.alloc (.cells #[.string ⟨#[]⟩,.slice none 0 0] 200)).alloc (.cells #[.string nm,.slice none 0 0] 200)) (w.1.size+1) [.string nm,.slice none 0 0]):=q_ (by
  have q:=Blk.newL (qg (w.alloc (.cells #[.string ⟨#[]⟩,.slice none 0 0] 200)) #[.string nm,.slice none 0 0] 200) (L:=[.string nm,.slice none 0 0]) rfl
  rwa [show (w.alloc (.cells #[.string ⟨#[]⟩,.slice none 0 0] 200)).1.size=w.1.size+1 from Array.size_push _]at q)
 have HB:Q_ (Below w.1.size w ((w.alloc (.cells #[.string ⟨#[]⟩,.slice none 0 0] 200)).alloc (.cells #[.string nm,.slice none 0 0] 200))):=q_ (qb (qa _ _) (qa _ _));have HG:Q_ (w.1.size<w.1.size+1):=q_ (b4e _);generalize (w.alloc (.cells #[.string ⟨#[]⟩,.slice none 0 0] 200)).alloc (.cells #[.string nm,.slice none 0 0] 200)=W1 at *;go_wp2_with fail
 go_loopg [12] n (λg s12 wr=>∃k:Nat,k<=n/\n-k<=g/\s12=.int .i64 k/\Q_ (∃v K,K=(rows.take k).flatten.length/\Blk wr (w.1.size+1) [.string nm,v]/\wr.ownsRow (w.1.size+2) 261 4 v K (q8 (rows.take k).flatten))/\Q_ (Blk wr w.1.size [.string ⟨#[]⟩,.slice none 0 0])/\Q_ (Below w.1.size w wr))
 case atStart=>exact⟨0,by omega,by omega,rfl,⟨_,0,rfl,HF.o,b2p _ _ _ _⟩,HR.o,HB.o⟩
 case round=>
  obtain⟨k,hk,hg,rfl,HV,HR2,HB2⟩:=hrel;clear HR HF HB;obtain⟨v,K,HK,hf,ho⟩:=HV.o;have HK1:=q_ HK;have HF2:=q_ hf;have HO2:=q_ ho;clear HV HK
  by_cases hlt:k<n
  ·have hkl:k<rows.length:=by rw[HN.o];exact hlt
   obtain⟨Ai,ci,hvk,hfi⟩:=HI.o.2 k hkl;obtain⟨b',o',rfl,hq,hc⟩:=HI.o.1 k _ hvk;have HSN:Q_ ((rows.take (k+1)).flatten=(rows.take k).flatten++rows[k]):=q_ (by rw[o9 hkl,b3j];simp);have HLR1:=q_ (HLR.o rows[k] (b1j hkl));have hLk:=HL.o k;rw[<- HK1.o]at hLk;have hc':wr.cell? ⟨b',o'+k,none⟩=some (.slice Ai rows[k].length ci):=(HB2.o.cell (p:=⟨b',o'+k,none⟩) hq.2).trans hc;have hfi':=hfi.below HB2.o (λ_ q=>q);have c1:=HF2.o.cell 1 (v:=v) rfl;have z1:=HF2.o.fz 1;clear hc hfi hvk;generalize rows[k]=x at *;have i1:(k:Int)<n:=by omega
   have i2:(0:Int) <=(k:Int):=o5 _;have hxl:=HLR1.o;have hFs:=HF2.o.lt;obtain⟨v',w3,hrun,ho3,hb3⟩:=aip (P:=prog) (t:=198) (ty:=198) HO2.o om HIN.o underlying198 rfl dc Ai x.length ci (q8 x) (ady x) hfi' (auh x) (by unfold maxLen;omega) om;obtain⟨A1,c1',hs1,-,-⟩:=zt HO2.o;subst hs1;obtain⟨A3,c3,hs3,-,-⟩:=zt ho3;subst hs3;have HRUN:=q_ hrun;have HO3:=q_ ho3;have HF3:=q_ (HF2.o.below hb3 om);have HR3:=q_ (HR2.o.below hb3 (by have:=HG.o;omega));have HB3:=q_ (HB2.o.trans (hb3.mono (by have:=HG.o;omega)));have z1':=HF3.o.fz 1;have d1:=HF3.o.cell 1 (v:=.slice A1 K c1') rfl;obtain⟨hf4,hs4⟩:=HF3.o.set (o:=1) sm (.slice A3 (K+x.length) c3);have HF4:Q_ (Blk (w3.setCell ⟨w.1.size+1,1,none⟩ (.slice A3 (K+x.length) c3)) (w.1.size+1) [.string nm,.slice A3 (K+x.length) c3]):=q_ hf4;have HO4:Q_ ((w3.setCell ⟨w.1.size+1,1,none⟩ (.slice A3 (K+x.length) c3)).ownsRow (w.1.size+2) 261 4 (.slice A3 (K+x.length) c3) (K+x.length) (q8 (rows.take (k+1)).flatten)):=q_ (by rw[HSN.o,adx];exact ala HO3.o (b4e _) _)
   have HR4:=q_ (HR3.o.far hs4 (by have:=HG.o;omega));have HB4:=q_ (HB3.o.trans (hs4.below (by have:=HG.o;omega)));have HK4:Q_ (K+x.length=(rows.take (k+1)).flatten.length):=q_ (by rw[HSN.o,e9,HK1.o]);clear hrun ho3 hb3 hf4 hs4 hfi' ho hf HF3 HR3 HB3 HO3;go_wp2_with (at_builtin;refine q9 rfl _ _ 198 rfl _ _ _ rfl rfl HRUN.o ?_)
   go_roundg (n-(k+1))
   case measure=>omega
   case rel=>exact⟨k+1,by omega,by omega,by go_num,⟨_,_,HK4.o,HF4.o,HO4.o⟩,HR4,HB4⟩
  ·obtain rfl:k=n:=by omega
   have HKE:=q_ (HE.o▸HK1.o:K=rows.flatten.length);rw[HE.o]at HO2;obtain⟨A1,c1',rfl,-,hfl,-⟩:=zt HO2.o;have HFL:=q_ hfl;have c0:=HF2.o.cell 0 (v:=.string nm) rfl;have c1:=HF2.o.cell 1 (v:=.slice A1 K c1') rfl;have r0:=HR2.o.cell 0 (v:=.string ⟨#[]⟩) rfl;have r1:=HR2.o.cell 1 (v:=.slice none 0 0) rfl;have z0:=HR2.o.fz 0;have z1:=HR2.o.fz 1;clear hf ho hfl;go_wp2_with fail;obtain⟨q1,q2,q3,q4⟩:=alr HR2.o (.string nm) (.slice A1 K c1') HB2.o (a8 _);refine b9 (v:=.agg #[.string nm,.slice A1 K c1']) (by rw[qm rfl];simp[asAddr,Result.andThen];exact q1) rfl ⟨A1,c1',by rw[HKE.o],?_,q2⟩;refine(HFL.o.keep λj hj=>q3 j (by have:=HG.o;omega)).less λj hj=>⟨by have:=HG.o;omega,by rw[q4];exact hj.2⟩
theorem bja {w w':World} {A:Option Addr} {xs:List Value} (h:qf (λb=>b<w.1.size) w A xs) (hb:Below w.1.size w w'):qf (λb=>b<w'.1.size) w' A xs:=(h.below hb λ_ q=>q).less λ_ q=>i9 q hb.size
theorem ym (ns:List ByteArray) {W:World} {C:Array Value} {t:TypeId} (hC:C=(aaq ns).toArray):qf (λ_=>True) (W.alloc (.cells C t)) (some ⟨W.1.size,0,none⟩) (aaq ns):=
 (Blk.newL (qg W C t) (by rw[hC])).flat trivial
theorem aoi (w:World):Calls prog 196 #[] w (abz (zh 2 true ae9) w):=by
 have HC:∀C,C=(aaq ae9).toArray->Q_ (Calls prog 190 #[.slice (some ⟨w.1.size,0,none⟩) 9 9] (w.alloc (.cells C 9)) (abz (zh 2 true ae9) (w.alloc (.cells C 9)))):=λC hC=>q_ (arc (some ⟨w.1.size,0,none⟩) ae9 9 (ym ae9 hC) dc)
 go_enter func196,ntmps196;go_wp2_with fail;refine(HC _ rfl).o.mono ?_;rintro e w1 ⟨v,rfl,ho⟩;have HB:Q_ (Below w.1.size w (w.alloc (.cells (aaq ae9).toArray 9))):=q_ (qa _ _);have HO:Q_ (aa0 w 261 4 v 9 (q8 (zh 2 true ae9)) w1):=q_ ⟨ho.1.mono HB.o.size,HB.o.trans (ho.2.mono HB.o.size)⟩;obtain⟨A1,c1,hs1,-,-⟩:=ho.flat;subst hs1;clear ho HC;go_wp2_with fail;go_ret;exact⟨_,rfl,HO.o⟩
def Pk (w W:World) (rows:List (Option Addr×Nat×List Prt)):Prop:=Blk W w.1.size [.string ⟨#[]⟩,.slice none 0 0]/\Below w.1.size w W/\∀x∈rows,qf (λb=>b<W.1.size) W x.1 (q8 x.2.2)
theorem Pk.start (w:World):Pk w (w.alloc (.cells #[.string ⟨#[]⟩,.slice none 0 0] 200)) []:=⟨Blk.newL (qg w _ _) rfl,qa _ _,λx hx=>by cases hx⟩
theorem Pk.on {w W W':World} {rows:List (Option Addr×Nat×List Prt)} (h:Pk w W rows) (hb:Below W.1.size W W'):Pk w W' rows:=⟨h.1.on hb,qb h.2.1 hb,λx hx=>bja (h.2.2 x hx) hb⟩
theorem afc {w W W1:World} {rows:List (Option Addr×Nat×List Prt)} {fn:FuncId} {ar:Array Value} {l:List Prt} {n:Nat} (h:Q_ (Pk w W rows)) (hb:Below W.1.size W W1) (hn:l.length=n) (H:Calls prog fn ar W1 (abz l W1)) :
 Calls prog fn ar W1 λe w'=>∃A c,e=.returned (.slice A n c)/\Q_ (Pk w w' (rows++[(A,c,l)])):=by
 refine H.mono ?_;rintro e w' ⟨v,rfl,ho⟩;obtain⟨A,c,rfl,-,hf⟩:=ho.flat;have hp:=h.o.on (hb.trans (ho.2.mono hb.size));refine⟨A,c,by rw[hn],hp.1,hp.2.1,λx hx=>?_⟩;rcases b1z.1 hx with q|q
 ·exact hp.2.2 x q
 ·rw[b2v.1 q];exact hf.less λ_ r=>r.2
theorem anp {w W:World} {rows:List (Option Addr×Nat×List Prt)} (h:Q_ (Pk w W rows)):Calls prog 196 #[] W λe w'=>∃A c,e=.returned (.slice A 9 c)/\Q_ (Pk w w' (rows++[(A,c,zh 2 true ae9)])):=afc h (n9 _ _) rfl (aoi W)
theorem a1h (m:Nat) (ns:List ByteArray) {w W:World} {rows:List (Option Addr×Nat×List Prt)} {C:Array Value} {n:Nat} (h:Q_ (Pk w W rows)) (hC:C=(aaq ns).toArray) (hn:ns.length=n) (hm:ns.length<=1000) :
 Calls prog 195 #[.int .i64 m,.slice (some ⟨W.1.size,0,none⟩) n n] (W.alloc (.cells C 9)) λe w'=>∃A c,e=.returned (.slice A n c)/\Q_ (Pk w w' (rows++[(A,c,ai4 m ns)])):=
 afc h (qa _ _) (by simp[ai4,hn]) (hn▸axg m (some ⟨W.1.size,0,none⟩) ns _ (ym ns hC) hm)
theorem aei (ns:List ByteArray) {w W:World} {rows:List (Option Addr×Nat×List Prt)} {C:Array Value} {n:Nat} (h:Q_ (Pk w W rows)) (hC:C=(aaq ns).toArray) (hn:ns.length=n) (hm:ns.length<=1000) :
 Calls prog 187 #[.slice (some ⟨W.1.size,0,none⟩) n n] (W.alloc (.cells C 9)) λe w'=>∃A c,e=.returned (.slice A n c)/\Q_ (Pk w w' (rows++[(A,c,zh 1 false ns)])):=
 afc h (qa _ _) (by simp[zh,hn]) (hn▸auq (some ⟨W.1.size,0,none⟩) ns _ (ym ns hC) hm)
theorem adb (ns:List ByteArray) {w W:World} {rows:List (Option Addr×Nat×List Prt)} {C:Array Value} {n:Nat} (h:Q_ (Pk w W rows)) (hC:C=(aaq ns).toArray) (hn:ns.length=n) (hm:ns.length<=1000) :
 Calls prog 189 #[.slice (some ⟨W.1.size,0,none⟩) n n] (W.alloc (.cells C 9)) λe w'=>∃A c,e=.returned (.slice A n c)/\Q_ (Pk w w' (rows++[(A,c,zh 2 false ns)])):=
 afc h (qa _ _) (by simp[zh,hn]) (hn▸a7g (some ⟨W.1.size,0,none⟩) ns _ (ym ns hC) hm)
theorem adc (ns:List ByteArray) {w W:World} {rows:List (Option Addr×Nat×List Prt)} {C:Array Value} {n:Nat} (h:Q_ (Pk w W rows)) (hC:C=(aaq ns).toArray) (hn:ns.length=n) (hm:ns.length<=1000) :
 Calls prog 188 #[.slice (some ⟨W.1.size,0,none⟩) n n] (W.alloc (.cells C 9)) λe w'=>∃A c,e=.returned (.slice A n c)/\Q_ (Pk w w' (rows++[(A,c,zh 4 false ns)])):=
 afc h (qa _ _) (by simp[zh,hn]) (hn▸a7h (some ⟨W.1.size,0,none⟩) ns _ (ym ns hC) hm)
theorem aqs (ns:List ByteArray) {w W:World} {rows:List (Option Addr×Nat×List Prt)} {C:Array Value} {n:Nat} (h:Q_ (Pk w W rows)) (hC:C=(aaq ns).toArray) (hn:ns.length=n) (hm:ns.length<=1000) :
 Calls prog 192 #[.slice (some ⟨W.1.size,0,none⟩) n n] (W.alloc (.cells C 9)) λe w'=>∃A c,e=.returned (.slice A n c)/\Q_ (Pk w w' (rows++[(A,c,zh 8 false ns)])):=
 afc h (qa _ _) (by simp[zh,hn]) (hn▸a7i (some ⟨W.1.size,0,none⟩) ns _ (ym ns hC) hm)
theorem boj (ns:List ByteArray) {w W:World} {rows:List (Option Addr×Nat×List Prt)} {C:Array Value} {n:Nat} (h:Q_ (Pk w W rows)) (hC:C=(aaq ns).toArray) (hn:ns.length=n) (hm:ns.length<=1000) :
 Calls prog 191 #[.slice (some ⟨W.1.size,0,none⟩) n n] (W.alloc (.cells C 9)) λe w'=>∃A c,e=.returned (.slice A n c)/\Q_ (Pk w w' (rows++[(A,c,zh 1 true ns)])):=
 afc h (qa _ _) (by simp[zh,hn]) (hn▸bck (some ⟨W.1.size,0,none⟩) ns _ (ym ns hC) hm)
theorem awr (ns:List ByteArray) {w W:World} {rows:List (Option Addr×Nat×List Prt)} {C:Array Value} {n:Nat} (h:Q_ (Pk w W rows)) (hC:C=(aaq ns).toArray) (hn:ns.length=n) (hm:ns.length<=1000) :
 Calls prog 190 #[.slice (some ⟨W.1.size,0,none⟩) n n] (W.alloc (.cells C 9)) λe w'=>∃A c,e=.returned (.slice A n c)/\Q_ (Pk w w' (rows++[(A,c,zh 2 true ns)])):=
 afc h (qa _ _) (by simp[zh,hn]) (hn▸arc (some ⟨W.1.size,0,none⟩) ns _ (ym ns hC) hm)
theorem a6l (ns:List ByteArray) {w W:World} {rows:List (Option Addr×Nat×List Prt)} {C:Array Value} {n:Nat} (h:Q_ (Pk w W rows)) (hC:C=(aaq ns).toArray) (hn:ns.length=n) (hm:ns.length<=1000) :
 Calls prog 194 #[.slice (some ⟨W.1.size,0,none⟩) n n] (W.alloc (.cells C 9)) λe w'=>∃A c,e=.returned (.slice A n c)/\Q_ (Pk w w' (rows++[(A,c,zh 4 true ns)])):=
 afc h (qa _ _) (by simp[zh,hn]) (hn▸a66 (some ⟨W.1.size,0,none⟩) ns _ (ym ns hC) hm)
theorem bmr (ns:List ByteArray) {w W:World} {rows:List (Option Addr×Nat×List Prt)} {C:Array Value} {n:Nat} (h:Q_ (Pk w W rows)) (hC:C=(aaq ns).toArray) (hn:ns.length=n) (hm:ns.length<=1000) :
 Calls prog 193 #[.slice (some ⟨W.1.size,0,none⟩) n n] (W.alloc (.cells C 9)) λe w'=>∃A c,e=.returned (.slice A n c)/\Q_ (Pk w w' (rows++[(A,c,zh 8 true ns)])):=
 afc h (qa _ _) (by simp[zh,hn]) (hn▸a67 (some ⟨W.1.size,0,none⟩) ns _ (ym ns hC) hm)
def PkF (w W:World) (f:TFm) (A:Option Addr):Prop:=Blk W w.1.size [.string ⟨#[]⟩,.slice none 0 0]/\Below w.1.size w W/\qf (λb=>w.1.size<b/\b<W.1.size) W A (q8 f.2)
def bni (x:Option Addr×Nat×List Prt):Value:=.slice x.1 x.2.2.length x.2.1
theorem abk (f:TFm) {w W:World} {rows:List (Option Addr×Nat×List Prt)} {C:Array Value} {nm:ByteArray} {m k:Nat} (h:Q_ (Pk w W rows)) (hC:C=(rows.map bni).toArray) (hm:rows.length=m) (hs:(decide (rows.length<=10) && (rows.map (·.2.2)).all λl=>decide (l.length<=100))=true) (hf:f=(nm,(rows.map (·.2.2)).flatten)) (hk:f.2.length=k) :
 Calls prog 186 #[.string nm,.slice (some ⟨W.1.size,0,none⟩) m m] (W.alloc (.cells C 198)) λe w'=>∃A c,e=.returned (.agg #[.string nm,.slice A k c])/\Q_ (PkF w w' f A):=by
 rw[b0g,b2c,b1l]at hs;have hb:=qa W (.cells C 198);have hp:=h.o.on hb
 have hv:bky (W.alloc (.cells C 198)) (rows.map bni) (rows.map (·.2.2)):=⟨by simp,λi hi=>by
  have hi':i<rows.length:=by simpa using hi
  refine⟨rows[i].1,rows[i].2.1,?_,?_⟩
  ·rw[b0l,d7 hi',b3m];rfl
  ·rw[b3m];exact hp.2.2 _ (b1j hi')⟩
 have H:=bcl nm (some ⟨W.1.size,0,none⟩) m (rows.map bni) (rows.map (·.2.2)) ((Blk.newL (qg W C 198) (by rw[hC])).flat (Q:=λ_=>True) trivial) hv (by rw[b0o];exact hs.1) (λr hr=>b1g (hs.2 r hr));rw[b0o,hm]at H;refine H.mono ?_;rintro e w' ⟨A,c,rfl,hfl,hb2⟩;have hbb:=hb.trans (hb2.mono hb.size);have hw:=h.o.1.lt;refine⟨A,c,by rw[<- hk,hf],(h.o.on hbb).1,(h.o.on hbb).2.1,?_⟩;rw[hf];exact hfl.less λb q=>⟨by have:=hb.size;have:=q.1;omega,q.2⟩
theorem PkF.cells {w W:World} {f:TFm} {A:Option Addr} (h:PkF w W f A):W.cell? ⟨w.1.size,0,none⟩=some (.string ⟨#[]⟩)/\W.cell? ⟨w.1.size,1,none⟩=some (.slice none 0 0)/\W.frozen? ⟨w.1.size,0,none⟩=false/\W.frozen? ⟨w.1.size,1,none⟩=false:=⟨h.1.cell 0 rfl,h.1.cell 1 rfl,h.1.fz 0,h.1.fz 1⟩
theorem PkF.res {w W:World} {f:TFm} {A:Option Addr} (h:PkF w W f A) (p q:Value):(loadVar 200 ⟨w.1.size,0,none⟩).run prog ((W.setCell ⟨w.1.size,0,none⟩ p).setCell ⟨w.1.size,1,none⟩ q)=.ok (.agg #[p,q]) ((W.setCell ⟨w.1.size,0,none⟩ p).setCell ⟨w.1.size,1,none⟩ q):=(alr h.1 p q h.2.1 (a8 _)).1
theorem PkF.post {w W:World} {f:TFm} {A:Option Addr} {c k:Nat} {nm:ByteArray} (h:PkF w W f A) (p q:Value) (hn:f.1=nm) (hk:f.2.length=k):xy f w (.returned (.agg #[.string nm,.slice A k c])) ((W.setCell ⟨w.1.size,0,none⟩ p).setCell ⟨w.1.size,1,none⟩ q):=by
 obtain⟨-,q2,q3,q4⟩:=alr h.1 p q h.2.1 (a8 _);refine⟨A,c,by rw[hn,hk],(h.2.2.keep λj hj=>q3 j (by have:=hj.1;omega)).less λj hj=>⟨by have:=hj.1;omega,by rw[q4];exact hj.2⟩,q2⟩
theorem ab5 {w:World}:(loadVar 200 ⟨w.1.size,0,none⟩).run prog (w.alloc (.cells #[.string ⟨#[]⟩,.slice none 0 0] 200))=.ok (.agg #[.string ⟨#[]⟩,.slice none 0 0]) (w.alloc (.cells #[.string ⟨#[]⟩,.slice none 0 0] 200))/\xy noF w (.returned (.agg #[.string ⟨#[]⟩,.slice none 0 0])) (w.alloc (.cells #[.string ⟨#[]⟩,.slice none 0 0] 200)):=
 ⟨t9 (P:=prog) _ w.1.size 0 200 [.string ⟨#[]⟩,.slice none 0 0] _ (Pk.start w).1.rg underlying200 rfl kr,none,0,rfl,qf.nil _ _ _,qa _ _⟩
set_option maxRecDepth 8000
set_option maxHeartbeats 1000000
theorem a68 (w:World):Calls prog 119 #[.int .i64 200] w (xy av3 w):=by
 go_enter func119,ntmps119;go_upto_region 1 with fail;have P0:=q_ (Pk.start w);generalize w.alloc (.cells #[.string ⟨#[]⟩,.slice none 0 0] 200)=w0 at *;go_wp2_with fail;refine(adc bfu P0 rfl rfl dc).mono ?_;rintro e w1 ⟨A0,c0,rfl,P1⟩;go_wp2_with fail;refine(awr bfv P1 rfl rfl dc).mono ?_;rintro e w2 ⟨A1,c1,rfl,P2⟩;go_wp2_with fail;refine(abk av3 P2 rfl rfl kr kr rfl).mono ?_;rintro e wf ⟨AF,cf,rfl,PF⟩;obtain⟨r0,r1,z0,z1⟩:=PF.o.cells;go_wp2_with fail;exact b9 (by rw[qm rfl];simp[asAddr,Result.andThen];exact PF.o.res _ _) rfl (PF.o.post _ _ rfl rfl)
theorem a69 (w:World):Calls prog 119 #[.int .i64 201] w (xy av4 w):=by
 go_enter func119,ntmps119;go_upto_region 1 with fail;have P0:=q_ (Pk.start w);generalize w.alloc (.cells #[.string ⟨#[]⟩,.slice none 0 0] 200)=w0 at *;go_wp2_with fail;refine(adc bfw P0 rfl rfl dc).mono ?_;rintro e w1 ⟨A0,c0,rfl,P1⟩;go_wp2_with fail;refine(a6l bfx P1 rfl rfl dc).mono ?_;rintro e w2 ⟨A1,c1,rfl,P2⟩;go_wp2_with fail;refine(adc bfy P2 rfl rfl dc).mono ?_;rintro e w3 ⟨A2,c2,rfl,P3⟩;go_wp2_with fail;refine(adb bfz P3 rfl rfl dc).mono ?_;rintro e w4 ⟨A3,c3,rfl,P4⟩;go_wp2_with fail;refine(abk av4 P4 rfl rfl kr kr rfl).mono ?_;rintro e wf ⟨AF,cf,rfl,PF⟩;obtain⟨r0,r1,z0,z1⟩:=PF.o.cells;go_wp2_with fail;exact b9 (by rw[qm rfl];simp[asAddr,Result.andThen];exact PF.o.res _ _) rfl (PF.o.post _ _ rfl rfl)
theorem a7a (w:World):Calls prog 119 #[.int .i64 202] w (xy av5 w):=by
 go_enter func119,ntmps119;go_upto_region 1 with fail;have P0:=q_ (Pk.start w);generalize w.alloc (.cells #[.string ⟨#[]⟩,.slice none 0 0] 200)=w0 at *;go_wp2_with fail;refine(adc bf0 P0 rfl rfl dc).mono ?_;rintro e w1 ⟨A0,c0,rfl,P1⟩;go_wp2_with fail;refine(aei bf1 P1 rfl rfl dc).mono ?_;rintro e w2 ⟨A1,c1,rfl,P2⟩;go_wp2_with fail;refine(a1h 64 bf2 P2 rfl rfl dc).mono ?_;rintro e w3 ⟨A2,c2,rfl,P3⟩;go_wp2_with fail;refine(abk av5 P3 rfl rfl kr kr rfl).mono ?_;rintro e wf ⟨AF,cf,rfl,PF⟩;obtain⟨r0,r1,z0,z1⟩:=PF.o.cells;go_wp2_with fail;exact b9 (by rw[qm rfl];simp[asAddr,Result.andThen];exact PF.o.res _ _) rfl (PF.o.post _ _ rfl rfl)
theorem a2k (i:Int) (w:World) (h200:¬i=200) (h201:¬i=201) (h202:¬i=202):Calls prog 119 #[.int .i64 i] w (xy noF w):=by
 go_enter func119,ntmps119;go_wp2_with fail;exact b9 (by rw[qm rfl];simp[asAddr,Result.andThen];exact ab5.1) rfl ab5.2
theorem a7b (i:Int) (w:World):Calls prog 119 #[.int .i64 i] w (xy (awp i) w):=by
 by_cases h200:i=200
 ·subst h200;exact a68 w
 by_cases h201:i=201
 ·subst h201;exact a69 w
 by_cases h202:i=202
 ·subst h202;exact a7a w
 rw[show awp i=noF from by unfold awp;rw[if_neg h200];rw[if_neg h201];rw[if_neg h202]];exact a2k i w h200 h201 h202
set_option maxRecDepth 8000
set_option maxHeartbeats 1000000
theorem a7c (w:World):Calls prog 116 #[.int .i64 0] w (xy bfb w):=by
 go_enter func116,ntmps116;go_upto_region 1 with fail;have P0:=q_ (Pk.start w);generalize w.alloc (.cells #[.string ⟨#[]⟩,.slice none 0 0] 200)=w0 at *;go_wp2_with fail;refine(aei bn5 P0 rfl rfl dc).mono ?_;rintro e w1 ⟨A0,c0,rfl,P1⟩;go_wp2_with fail;refine(adc bn6 P1 rfl rfl dc).mono ?_;rintro e w2 ⟨A1,c1,rfl,P2⟩;go_wp2_with fail;refine(aei bn7 P2 rfl rfl dc).mono ?_;rintro e w3 ⟨A2,c2,rfl,P3⟩;go_wp2_with fail;refine(abk bfb P3 rfl rfl kr kr rfl).mono ?_;rintro e wf ⟨AF,cf,rfl,PF⟩;obtain⟨r0,r1,z0,z1⟩:=PF.o.cells;go_wp2_with fail;exact b9 (by rw[qm rfl];simp[asAddr,Result.andThen];exact PF.o.res _ _) rfl (PF.o.post _ _ rfl rfl)
theorem a7d (w:World):Calls prog 116 #[.int .i64 1] w (xy bfc w):=by
 go_enter func116,ntmps116;go_upto_region 1 with fail;have P0:=q_ (Pk.start w);generalize w.alloc (.cells #[.string ⟨#[]⟩,.slice none 0 0] 200)=w0 at *;go_wp2_with fail;refine(adc bn8 P0 rfl rfl dc).mono ?_;rintro e w1 ⟨A0,c0,rfl,P1⟩;go_wp2_with fail;refine(adb bn9 P1 rfl rfl dc).mono ?_;rintro e w2 ⟨A1,c1,rfl,P2⟩;go_wp2_with fail;refine(awr boa P2 rfl rfl dc).mono ?_;rintro e w3 ⟨A2,c2,rfl,P3⟩;go_wp2_with fail;refine(boj bob P3 rfl rfl dc).mono ?_;rintro e w4 ⟨A3,c3,rfl,P4⟩;go_wp2_with fail;refine(adb boc P4 rfl rfl dc).mono ?_;rintro e w5 ⟨A4,c4,rfl,P5⟩;go_wp2_with fail;refine(abk bfc P5 rfl rfl kr kr rfl).mono ?_;rintro e wf ⟨AF,cf,rfl,PF⟩;obtain⟨r0,r1,z0,z1⟩:=PF.o.cells;go_wp2_with fail;exact b9 (by rw[qm rfl];simp[asAddr,Result.andThen];exact PF.o.res _ _) rfl (PF.o.post _ _ rfl rfl)
theorem a7e (w:World):Calls prog 116 #[.int .i64 2] w (xy bfd w):=by
 go_enter func116,ntmps116;go_upto_region 1 with fail;have P0:=q_ (Pk.start w);generalize w.alloc (.cells #[.string ⟨#[]⟩,.slice none 0 0] 200)=w0 at *;go_wp2_with fail;refine(aqs bod P0 rfl rfl dc).mono ?_;rintro e w1 ⟨A0,c0,rfl,P1⟩;go_wp2_with fail;refine(adc boe P1 rfl rfl dc).mono ?_;rintro e w2 ⟨A1,c1,rfl,P2⟩;go_wp2_with fail;refine(abk bfd P2 rfl rfl kr kr rfl).mono ?_;rintro e wf ⟨AF,cf,rfl,PF⟩;obtain⟨r0,r1,z0,z1⟩:=PF.o.cells;go_wp2_with fail;exact b9 (by rw[qm rfl];simp[asAddr,Result.andThen];exact PF.o.res _ _) rfl (PF.o.post _ _ rfl rfl)
theorem a7f (w:World):Calls prog 116 #[.int .i64 4] w (xy bfe w):=by
 go_enter func116,ntmps116;go_upto_region 1 with fail;have P0:=q_ (Pk.start w);generalize w.alloc (.cells #[.string ⟨#[]⟩,.slice none 0 0] 200)=w0 at *;go_wp2_with fail;refine(aqs bof P0 rfl rfl dc).mono ?_;rintro e w1 ⟨A0,c0,rfl,P1⟩;go_wp2_with fail;refine(adc bog P1 rfl rfl dc).mono ?_;rintro e w2 ⟨A1,c1,rfl,P2⟩;go_wp2_with fail;refine(aei boh P2 rfl rfl dc).mono ?_;rintro e w3 ⟨A2,c2,rfl,P3⟩;go_wp2_with fail;refine(abk bfe P3 rfl rfl kr kr rfl).mono ?_;rintro e wf ⟨AF,cf,rfl,PF⟩;obtain⟨r0,r1,z0,z1⟩:=PF.o.cells;go_wp2_with fail;exact b9 (by rw[qm rfl];simp[asAddr,Result.andThen];exact PF.o.res _ _) rfl (PF.o.post _ _ rfl rfl)
theorem axu (w:World):Calls prog 116 #[.int .i64 111] w (xy av1 w):=by
 go_enter func116,ntmps116;go_upto_region 1 with fail;have P0:=q_ (Pk.start w);generalize w.alloc (.cells #[.string ⟨#[]⟩,.slice none 0 0] 200)=w0 at *;go_wp2_with fail;refine(bmr bfs P0 rfl rfl dc).mono ?_;rintro e w1 ⟨A0,c0,rfl,P1⟩;go_wp2_with fail;refine(abk av1 P1 rfl rfl kr kr rfl).mono ?_;rintro e wf ⟨AF,cf,rfl,PF⟩;obtain⟨r0,r1,z0,z1⟩:=PF.o.cells;go_wp2_with fail;exact b9 (by rw[qm rfl];simp[asAddr,Result.andThen];exact PF.o.res _ _) rfl (PF.o.post _ _ rfl rfl)
theorem axv (w:World):Calls prog 116 #[.int .i64 125] w (xy av2 w):=by
 go_enter func116,ntmps116;go_upto_region 1 with fail;have P0:=q_ (Pk.start w);generalize w.alloc (.cells #[.string ⟨#[]⟩,.slice none 0 0] 200)=w0 at *;go_wp2_with fail;refine(adb bft P0 rfl rfl dc).mono ?_;rintro e w1 ⟨A0,c0,rfl,P1⟩;go_wp2_with fail;refine(abk av2 P1 rfl rfl kr kr rfl).mono ?_;rintro e wf ⟨AF,cf,rfl,PF⟩;obtain⟨r0,r1,z0,z1⟩:=PF.o.cells;go_wp2_with fail;exact b9 (by rw[qm rfl];simp[asAddr,Result.andThen];exact PF.o.res _ _) rfl (PF.o.post _ _ rfl rfl)
theorem as3 (i:Int) (w:World) (h0:¬i=0) (h1:¬i=1) (h2:¬i=2) (h4:¬i=4) (h111:¬i=111) (h125:¬i=125):Calls prog 116 #[.int .i64 i] w (xy noF w):=by
 go_enter func116,ntmps116;go_wp2_with fail;exact b9 (by rw[qm rfl];simp[asAddr,Result.andThen];exact ab5.1) rfl ab5.2
theorem axw (i:Int) (w:World):Calls prog 116 #[.int .i64 i] w (xy (agv i) w):=by
 by_cases h0:i=0
 ·subst h0;exact a7c w
 by_cases h1:i=1
 ·subst h1;exact a7d w
 by_cases h2:i=2
 ·subst h2;exact a7e w
 by_cases h4:i=4
 ·subst h4;exact a7f w
 by_cases h111:i=111
 ·subst h111;exact axu w
 by_cases h125:i=125
 ·subst h125;exact axv w
 rw[show agv i=noF from by unfold agv;rw[if_neg h0];rw[if_neg h1];rw[if_neg h2];rw[if_neg h4];rw[if_neg h111];rw[if_neg h125]];exact as3 i w h0 h1 h2 h4 h111 h125
set_option maxRecDepth 8000
set_option maxHeartbeats 1000000
theorem axj (w:World):Calls prog 117 #[.int .i64 24] w (xy a49 w):=by
 go_enter func117,ntmps117;go_upto_region 1 with fail;have P0:=q_ (Pk.start w);generalize w.alloc (.cells #[.string ⟨#[]⟩,.slice none 0 0] 200)=w0 at *;go_wp2_with fail;refine(aqs bk3 P0 rfl rfl dc).mono ?_;rintro e w1 ⟨A0,c0,rfl,P1⟩;go_wp2_with fail;refine(aei bk4 P1 rfl rfl dc).mono ?_;rintro e w2 ⟨A1,c1,rfl,P2⟩;go_wp2_with fail;refine(a6l bk5 P2 rfl rfl dc).mono ?_;rintro e w3 ⟨A2,c2,rfl,P3⟩;go_wp2_with fail;refine(adb bk6 P3 rfl rfl dc).mono ?_;rintro e w4 ⟨A3,c3,rfl,P4⟩;go_wp2_with fail;refine(aei bk7 P4 rfl rfl dc).mono ?_;rintro e w5 ⟨A4,c4,rfl,P5⟩;go_wp2_with fail;refine(abk a49 P5 rfl rfl kr kr rfl).mono ?_;rintro e wf ⟨AF,cf,rfl,PF⟩;obtain⟨r0,r1,z0,z1⟩:=PF.o.cells;go_wp2_with fail;exact b9 (by rw[qm rfl];simp[asAddr,Result.andThen];exact PF.o.res _ _) rfl (PF.o.post _ _ rfl rfl)
theorem axk (w:World):Calls prog 117 #[.int .i64 25] w (xy a5a w):=by
 go_enter func117,ntmps117;go_upto_region 1 with fail;have P0:=q_ (Pk.start w);generalize w.alloc (.cells #[.string ⟨#[]⟩,.slice none 0 0] 200)=w0 at *;go_wp2_with fail;refine(aei bk8 P0 rfl rfl dc).mono ?_;rintro e w1 ⟨A0,c0,rfl,P1⟩;go_wp2_with fail;refine(a1h 20 bk9 P1 rfl rfl dc).mono ?_;rintro e w2 ⟨A1,c1,rfl,P2⟩;go_wp2_with fail;refine(abk a5a P2 rfl rfl kr kr rfl).mono ?_;rintro e wf ⟨AF,cf,rfl,PF⟩;obtain⟨r0,r1,z0,z1⟩:=PF.o.cells;go_wp2_with fail;exact b9 (by rw[qm rfl];simp[asAddr,Result.andThen];exact PF.o.res _ _) rfl (PF.o.post _ _ rfl rfl)
theorem axl (w:World):Calls prog 117 #[.int .i64 26] w (xy a5b w):=by
 go_enter func117,ntmps117;go_upto_region 1 with fail;have P0:=q_ (Pk.start w);generalize w.alloc (.cells #[.string ⟨#[]⟩,.slice none 0 0] 200)=w0 at *;go_wp2_with fail;refine(adc bla P0 rfl rfl dc).mono ?_;rintro e w1 ⟨A0,c0,rfl,P1⟩;go_wp2_with fail;refine(anp P1).mono ?_;rintro e w2 ⟨A1,c1,rfl,P2⟩;go_wp2_with fail;refine(abk a5b P2 rfl rfl kr kr rfl).mono ?_;rintro e wf ⟨AF,cf,rfl,PF⟩;obtain⟨r0,r1,z0,z1⟩:=PF.o.cells;go_wp2_with fail;exact b9 (by rw[qm rfl];simp[asAddr,Result.andThen];exact PF.o.res _ _) rfl (PF.o.post _ _ rfl rfl)
theorem axm (w:World):Calls prog 117 #[.int .i64 27] w (xy a5c w):=by
 go_enter func117,ntmps117;go_upto_region 1 with fail;have P0:=q_ (Pk.start w);generalize w.alloc (.cells #[.string ⟨#[]⟩,.slice none 0 0] 200)=w0 at *;go_wp2_with fail;refine(aqs blb P0 rfl rfl dc).mono ?_;rintro e w1 ⟨A0,c0,rfl,P1⟩;go_wp2_with fail;refine(anp P1).mono ?_;rintro e w2 ⟨A1,c1,rfl,P2⟩;go_wp2_with fail;refine(abk a5c P2 rfl rfl kr kr rfl).mono ?_;rintro e wf ⟨AF,cf,rfl,PF⟩;obtain⟨r0,r1,z0,z1⟩:=PF.o.cells;go_wp2_with fail;exact b9 (by rw[qm rfl];simp[asAddr,Result.andThen];exact PF.o.res _ _) rfl (PF.o.post _ _ rfl rfl)
theorem axn (w:World):Calls prog 117 #[.int .i64 28] w (xy a5d w):=by
 go_enter func117,ntmps117;go_upto_region 1 with fail;have P0:=q_ (Pk.start w);generalize w.alloc (.cells #[.string ⟨#[]⟩,.slice none 0 0] 200)=w0 at *;go_wp2_with fail;refine(aqs blc P0 rfl rfl dc).mono ?_;rintro e w1 ⟨A0,c0,rfl,P1⟩;go_wp2_with fail;refine(awr bld P1 rfl rfl dc).mono ?_;rintro e w2 ⟨A1,c1,rfl,P2⟩;go_wp2_with fail;refine(abk a5d P2 rfl rfl kr kr rfl).mono ?_;rintro e wf ⟨AF,cf,rfl,PF⟩;obtain⟨r0,r1,z0,z1⟩:=PF.o.cells;go_wp2_with fail;exact b9 (by rw[qm rfl];simp[asAddr,Result.andThen];exact PF.o.res _ _) rfl (PF.o.post _ _ rfl rfl)
theorem axo (w:World):Calls prog 117 #[.int .i64 33] w (xy a5e w):=by
 go_enter func117,ntmps117;go_upto_region 1 with fail;have P0:=q_ (Pk.start w);generalize w.alloc (.cells #[.string ⟨#[]⟩,.slice none 0 0] 200)=w0 at *;go_wp2_with fail;refine(adc ble P0 rfl rfl dc).mono ?_;rintro e w1 ⟨A0,c0,rfl,P1⟩;go_wp2_with fail;refine(a6l blf P1 rfl rfl dc).mono ?_;rintro e w2 ⟨A1,c1,rfl,P2⟩;go_wp2_with fail;refine(awr blg P2 rfl rfl dc).mono ?_;rintro e w3 ⟨A2,c2,rfl,P3⟩;go_wp2_with fail;refine(adb blh P3 rfl rfl dc).mono ?_;rintro e w4 ⟨A3,c3,rfl,P4⟩;go_wp2_with fail;refine(abk a5e P4 rfl rfl kr kr rfl).mono ?_;rintro e wf ⟨AF,cf,rfl,PF⟩;obtain⟨r0,r1,z0,z1⟩:=PF.o.cells;go_wp2_with fail;exact b9 (by rw[qm rfl];simp[asAddr,Result.andThen];exact PF.o.res _ _) rfl (PF.o.post _ _ rfl rfl)
theorem ard (i:Int) (w:World) (h24:¬i=24) (h25:¬i=25) (h26:¬i=26) (h27:¬i=27) (h28:¬i=28) (h33:¬i=33):Calls prog 117 #[.int .i64 i] w (xy noF w):=by
 go_enter func117,ntmps117;go_wp2_with fail;exact b9 (by rw[qm rfl];simp[asAddr,Result.andThen];exact ab5.1) rfl ab5.2
theorem asz (i:Int) (w:World):Calls prog 117 #[.int .i64 i] w (xy (ado i) w):=by
 by_cases h24:i=24
 ·subst h24;exact axj w
 by_cases h25:i=25
 ·subst h25;exact axk w
 by_cases h26:i=26
 ·subst h26;exact axl w
 by_cases h27:i=27
 ·subst h27;exact axm w
 by_cases h28:i=28
 ·subst h28;exact axn w
 by_cases h33:i=33
 ·subst h33;exact axo w
 rw[show ado i=noF from by unfold ado;rw[if_neg h24];rw[if_neg h25];rw[if_neg h26];rw[if_neg h27];rw[if_neg h28];rw[if_neg h33]];exact ard i w h24 h25 h26 h27 h28 h33
set_option maxRecDepth 8000
set_option maxHeartbeats 1000000
theorem a2d (w:World):Calls prog 118 #[.int .i64 35] w (xy a5f w):=by
 go_enter func118,ntmps118;go_upto_region 1 with fail;have P0:=q_ (Pk.start w);generalize w.alloc (.cells #[.string ⟨#[]⟩,.slice none 0 0] 200)=w0 at *;go_wp2_with fail;refine(adc bli P0 rfl rfl dc).mono ?_;rintro e w1 ⟨A0,c0,rfl,P1⟩;go_wp2_with fail;refine(aei blj P1 rfl rfl dc).mono ?_;rintro e w2 ⟨A1,c1,rfl,P2⟩;go_wp2_with fail;refine(adb bll P2 rfl rfl dc).mono ?_;rintro e w3 ⟨A2,c2,rfl,P3⟩;go_wp2_with fail;refine(aei blm P3 rfl rfl dc).mono ?_;rintro e w4 ⟨A3,c3,rfl,P4⟩;go_wp2_with fail;refine(abk a5f P4 rfl rfl kr kr rfl).mono ?_;rintro e wf ⟨AF,cf,rfl,PF⟩;obtain⟨r0,r1,z0,z1⟩:=PF.o.cells;go_wp2_with fail;exact b9 (by rw[qm rfl];simp[asAddr,Result.andThen];exact PF.o.res _ _) rfl (PF.o.post _ _ rfl rfl)
theorem a2e (w:World):Calls prog 118 #[.int .i64 36] w (xy a5g w):=by
 go_enter func118,ntmps118;go_upto_region 1 with fail;have P0:=q_ (Pk.start w);generalize w.alloc (.cells #[.string ⟨#[]⟩,.slice none 0 0] 200)=w0 at *;go_wp2_with fail;refine(adc bln P0 rfl rfl dc).mono ?_;rintro e w1 ⟨A0,c0,rfl,P1⟩;go_wp2_with fail;refine(aei blo P1 rfl rfl dc).mono ?_;rintro e w2 ⟨A1,c1,rfl,P2⟩;go_wp2_with fail;refine(adb blp P2 rfl rfl dc).mono ?_;rintro e w3 ⟨A2,c2,rfl,P3⟩;go_wp2_with fail;refine(abk a5g P3 rfl rfl kr kr rfl).mono ?_;rintro e wf ⟨AF,cf,rfl,PF⟩;obtain⟨r0,r1,z0,z1⟩:=PF.o.cells;go_wp2_with fail;exact b9 (by rw[qm rfl];simp[asAddr,Result.andThen];exact PF.o.res _ _) rfl (PF.o.post _ _ rfl rfl)
theorem a2f (w:World):Calls prog 118 #[.int .i64 42] w (xy a5h w):=by
 go_enter func118,ntmps118;go_upto_region 1 with fail;have P0:=q_ (Pk.start w);generalize w.alloc (.cells #[.string ⟨#[]⟩,.slice none 0 0] 200)=w0 at *;go_wp2_with fail;refine(adb blq P0 rfl rfl dc).mono ?_;rintro e w1 ⟨A0,c0,rfl,P1⟩;go_wp2_with fail;refine(abk a5h P1 rfl rfl kr kr rfl).mono ?_;rintro e wf ⟨AF,cf,rfl,PF⟩;obtain⟨r0,r1,z0,z1⟩:=PF.o.cells;go_wp2_with fail;exact b9 (by rw[qm rfl];simp[asAddr,Result.andThen];exact PF.o.res _ _) rfl (PF.o.post _ _ rfl rfl)
theorem a2g (w:World):Calls prog 118 #[.int .i64 44] w (xy a5i w):=by
 go_enter func118,ntmps118;go_upto_region 1 with fail;have P0:=q_ (Pk.start w);generalize w.alloc (.cells #[.string ⟨#[]⟩,.slice none 0 0] 200)=w0 at *;go_wp2_with fail;refine(aei blr P0 rfl rfl dc).mono ?_;rintro e w1 ⟨A0,c0,rfl,P1⟩;go_wp2_with fail;refine(adb bls P1 rfl rfl dc).mono ?_;rintro e w2 ⟨A1,c1,rfl,P2⟩;go_wp2_with fail;refine(abk a5i P2 rfl rfl kr kr rfl).mono ?_;rintro e wf ⟨AF,cf,rfl,PF⟩;obtain⟨r0,r1,z0,z1⟩:=PF.o.cells;go_wp2_with fail;exact b9 (by rw[qm rfl];simp[asAddr,Result.andThen];exact PF.o.res _ _) rfl (PF.o.post _ _ rfl rfl)
theorem a2h (w:World):Calls prog 118 #[.int .i64 47] w (xy a5j w):=by
 go_enter func118,ntmps118;go_upto_region 1 with fail;have P0:=q_ (Pk.start w);generalize w.alloc (.cells #[.string ⟨#[]⟩,.slice none 0 0] 200)=w0 at *;go_wp2_with fail;refine(aei blt P0 rfl rfl dc).mono ?_;rintro e w1 ⟨A0,c0,rfl,P1⟩;go_wp2_with fail;refine(abk a5j P1 rfl rfl kr kr rfl).mono ?_;rintro e wf ⟨AF,cf,rfl,PF⟩;obtain⟨r0,r1,z0,z1⟩:=PF.o.cells;go_wp2_with fail;exact b9 (by rw[qm rfl];simp[asAddr,Result.andThen];exact PF.o.res _ _) rfl (PF.o.post _ _ rfl rfl)
theorem a2i (w:World):Calls prog 118 #[.int .i64 66] w (xy a5k w):=by
 go_enter func118,ntmps118;go_upto_region 1 with fail;have P0:=q_ (Pk.start w);generalize w.alloc (.cells #[.string ⟨#[]⟩,.slice none 0 0] 200)=w0 at *;go_wp2_with fail;refine(aei blu P0 rfl rfl dc).mono ?_;rintro e w1 ⟨A0,c0,rfl,P1⟩;go_wp2_with fail;refine(adb blv P1 rfl rfl dc).mono ?_;rintro e w2 ⟨A1,c1,rfl,P2⟩;go_wp2_with fail;refine(aei blw P2 rfl rfl dc).mono ?_;rintro e w3 ⟨A2,c2,rfl,P3⟩;go_wp2_with fail;refine(abk a5k P3 rfl rfl kr kr rfl).mono ?_;rintro e wf ⟨AF,cf,rfl,PF⟩;obtain⟨r0,r1,z0,z1⟩:=PF.o.cells;go_wp2_with fail;exact b9 (by rw[qm rfl];simp[asAddr,Result.andThen];exact PF.o.res _ _) rfl (PF.o.post _ _ rfl rfl)
theorem a2j (w:World):Calls prog 118 #[.int .i64 77] w (xy a5l w):=by
 go_enter func118,ntmps118;go_upto_region 1 with fail;have P0:=q_ (Pk.start w);generalize w.alloc (.cells #[.string ⟨#[]⟩,.slice none 0 0] 200)=w0 at *;go_wp2_with fail;refine(adb blx P0 rfl rfl dc).mono ?_;rintro e w1 ⟨A0,c0,rfl,P1⟩;go_wp2_with fail;refine(aei bly P1 rfl rfl dc).mono ?_;rintro e w2 ⟨A1,c1,rfl,P2⟩;go_wp2_with fail;refine(abk a5l P2 rfl rfl kr kr rfl).mono ?_;rintro e wf ⟨AF,cf,rfl,PF⟩;obtain⟨r0,r1,z0,z1⟩:=PF.o.cells;go_wp2_with fail;exact b9 (by rw[qm rfl];simp[asAddr,Result.andThen];exact PF.o.res _ _) rfl (PF.o.post _ _ rfl rfl)
theorem asx (i:Int) (w:World) (h35:¬i=35) (h36:¬i=36) (h42:¬i=42) (h44:¬i=44) (h47:¬i=47) (h66:¬i=66) (h77:¬i=77):Calls prog 118 #[.int .i64 i] w (xy noF w):=by
 go_enter func118,ntmps118;go_wp2_with fail;exact b9 (by rw[qm rfl];simp[asAddr,Result.andThen];exact ab5.1) rfl ab5.2
theorem axh (i:Int) (w:World):Calls prog 118 #[.int .i64 i] w (xy (aga i) w):=by
 by_cases h35:i=35
 ·subst h35;exact a2d w
 by_cases h36:i=36
 ·subst h36;exact a2e w
 by_cases h42:i=42
 ·subst h42;exact a2f w
 by_cases h44:i=44
 ·subst h44;exact a2g w
 by_cases h47:i=47
 ·subst h47;exact a2h w
 by_cases h66:i=66
 ·subst h66;exact a2i w
 by_cases h77:i=77
 ·subst h77;exact a2j w
 rw[show aga i=noF from by unfold aga;rw[if_neg h35];rw[if_neg h36];rw[if_neg h42];rw[if_neg h44];rw[if_neg h47];rw[if_neg h66];rw[if_neg h77]];exact asx i w h35 h36 h42 h44 h47 h66 h77
def agl:List TFm->TFm
 | []=>noF
 | f::r=>if f.1≠ByteArray.empty then f else agl r
theorem az3 (i:Int):xe i=agl [agv i,ado i,aga i,awp i]:=rfl
theorem am2 {s:ByteArray} (h:¬s=⟨#[]⟩):s.toList.isEmpty=false:=by
 rw[b07,List.isEmpty_eq_false_iff];intro q;exact h (b33 (Array.toList_inj.1 q))
theorem abn {B B':Nat} {w w':World} {A:Option Addr} {xs:List Value} (h:qf (λb=>B<=b/\b<w.1.size) w A xs) (hb:Below w.1.size w w') (hB:B'<=B):qf (λb=>B'<=b/\b<w'.1.size) w' A xs:=
 (h.below hb λ_ q=>q.2).less λ_ q=>⟨p9 hB q.1,i9 q.2 hb.size⟩
def ayw (B:Nat) (w:World) (g:Nat) (fs:List TFm):Prop:=g<w.1.size/\∀k f,fs[k]?=some f->∃A c,w.cell? ⟨g,2*k,none⟩=some (.string f.1)/\w.cell? ⟨g,2*k+1,none⟩=some (.slice A f.2.length c)/\qf (λb=>B<=b/\b<w.1.size) w A (q8 f.2)
theorem ayw.on {B:Nat} {w w':World} {g:Nat} {fs:List TFm} (h:ayw B w g fs) (hb:Below w.1.size w w'):ayw B w' g fs:=by
 refine⟨i9 h.1 hb.size,λk f hk=>?_⟩;obtain⟨A,c,h1,h2,h3⟩:=h.2 k f hk;exact⟨A,c,(hb.cell (p:=⟨g,2*k,none⟩) h.1).trans h1,(hb.cell (p:=⟨g,2*k+1,none⟩) h.1).trans h2,abn h3 hb (a8 _)⟩
theorem ahz (i:Int) (w:World):Calls prog 89 #[.int .i64 i] w (xy (xe i) w):=by
 rw[az3];have H1:=λW=>q_ (axw i W)
 have H2:=λW=>q_ (asz i W)
 have H3:=λW=>q_ (axh i W)
 have H4:=λW=>q_ (a7b i W)
 generalize agv i=f0 at *;generalize ado i=f1 at *;generalize aga i=f2 at *;generalize awp i=f3 at *;obtain⟨⟨rn,rl⟩,hres⟩:∃res,agl [f0,f1,f2,f3]=res:=⟨_,rfl⟩;have HRES:=q_ hres;rw[hres];clear hres;unfold xy at *;dsimp only;go_enter func89,ntmps89;go_upto_region 1 with fail;have HR0:=q_ (Blk.newL (qg w #[.string ⟨#[]⟩,.slice none 0 0] 200) rfl);have HB0:Q_ (Below w.1.size w (w.alloc (.cells #[.string ⟨#[]⟩,.slice none 0 0] 200))):=q_ (qa _ _);generalize w.alloc (.cells #[.string ⟨#[]⟩,.slice none 0 0] 200)=w0 at *;go_wp2_with fail;refine(H1 w0).o.mono ?_;rintro e w1 ⟨A0,c0,rfl,hf,hb⟩;have HF0:=q_ hf;have HR1:=q_ (HR0.o.on hb);have HB1:=q_ (qb HB0.o hb);have HS1:=q_ HR0.o.lt;clear hf hb HR0 HB0;go_wp2_with fail;refine(H2 w1).o.mono ?_;rintro e w2 ⟨A1,c1,rfl,hf,hb⟩;have HF0':=q_ (abn HF0.o hb (a8 _));have HF1:=q_ hf;have HR2:=q_ (HR1.o.on hb)
 have HB2:=q_ (qb HB1.o hb);have HS2:=q_ HR1.o.lt;clear hf hb HR1 HB1 HF0;go_wp2_with fail;refine(H3 w2).o.mono ?_;rintro e w3 ⟨A2,c2,rfl,hf,hb⟩;have HF0:=q_ (abn HF0'.o hb (a8 _));have HF1':=q_ (abn HF1.o hb (a8 _));have HF2:=q_ hf;have HR3:=q_ (HR2.o.on hb);have HB3:=q_ (qb HB2.o hb);have HS3:=q_ HR2.o.lt;clear hf hb HR2 HB2 HF0' HF1;go_wp2_with fail;refine(H4 w3).o.mono ?_;rintro e w4 ⟨A3,c3,rfl,hf,hb⟩;have HF0':=q_ (abn HF0.o hb (a8 _));have HF1:=q_ (abn HF1'.o hb (a8 _));have HF2':=q_ (abn HF2.o hb (a8 _));have HF3:=q_ hf;have HR4:=q_ (HR3.o.on hb);have HB4:=q_ (qb HB3.o hb);have HS4:=q_ HR3.o.lt;clear hf hb HR3 HB3 HF0 HF1' HF2
 have HX:Q_ (ayw (w.1.size+1) (w4.alloc (.cells #[.string f0.1,.slice A0 f0.2.length c0,.string f1.1,.slice A1 f1.2.length c1,.string f2.1,.slice A2 f2.2.length c2,.string f3.1,.slice A3 f3.2.length c3] 200)) w4.1.size [f0,f1,f2,f3]):=q_ (by
  have hk:=Blk.newL (qg w4 #[.string f0.1,.slice A0 f0.2.length c0,.string f1.1,.slice A1 f1.2.length c1,.string f2.1,.slice A2 f2.2.length c2,.string f3.1,.slice A3 f3.2.length c3] 200) rfl;have hb:=qa w4 (.cells #[.string f0.1,.slice A0 f0.2.length c0,.string f1.1,.slice A1 f1.2.length c1,.string f2.1,.slice A2 f2.2.length c2,.string f3.1,.slice A3 f3.2.length c3] 200);refine⟨hk.lt,λk f hf=>?_⟩
  have:k<4:=by
   have:=(b11.1 hf).1;exact this
  have:k=0\/k=1\/k=2\/k=3:=by omega
  rcases this with rfl|rfl|rfl|rfl
  ·injection hf with hf;subst hf
   exact⟨_,_,hk.cell 0 rfl,hk.cell 1 rfl,abn HF0'.o hb HS1.o⟩
  ·injection hf with hf;subst hf
   exact⟨_,_,hk.cell 2 rfl,hk.cell 3 rfl,abn HF1.o hb HS2.o⟩
  ·injection hf with hf;subst hf
   exact⟨_,_,hk.cell 4 rfl,hk.cell 5 rfl,abn HF2'.o hb HS3.o⟩
  ·injection hf with hf;subst hf
   exact⟨_,_,hk.cell 6 rfl,hk.cell 7 rfl,abn HF3.o hb HS4.o⟩)
 have HR5:=q_ (HR4.o.on (qa w4 (.cells #[.string f0.1,.slice A0 f0.2.length c0,.string f1.1,.slice A1 f1.2.length c1,.string f2.1,.slice A2 f2.2.length c2,.string f3.1,.slice A3 f3.2.length c3] 200)));have HB5:=q_ (qb HB4.o (qa w4 (.cells #[.string f0.1,.slice A0 f0.2.length c0,.string f1.1,.slice A1 f1.2.length c1,.string f2.1,.slice A2 f2.2.length c2,.string f3.1,.slice A3 f3.2.length c3] 200)));clear HF0' HF1 HF2' HF3 HS1 HS2 HS3 HS4 HR4 HB4 H1 H2 H3 H4;go_wp2_with fail;generalize hfs:[f0,f1,f2,f3]=fs at *;have hl4:fs.length=4:=by subst hfs;rfl
 have HL4:=q_ hl4;clear hfs hl4;generalize w4.alloc (.cells #[.string f0.1,.slice A0 f0.2.length c0,.string f1.1,.slice A1 f1.2.length c1,.string f2.1,.slice A2 f2.2.length c2,.string f3.1,.slice A3 f3.2.length c3] 200)=w5 at *;generalize w4.1.size=g at *
 go_loopg [15] 4 (λt s15 wr=>∃k:Nat,k<=4/\4-k<=t/\s15=.int .i64 k/\Q_ (agl (fs.drop k)=agl fs)/\Q_ (ayw (w.1.size+1) wr g fs)/\Q_ (Blk wr w.1.size [.string ⟨#[]⟩,.slice none 0 0])/\Q_ (Below w.1.size w wr))
 case atStart=>exact⟨0,by omega,by omega,rfl,rfl,HX.o,HR5.o,HB5.o⟩
 case round=>
  obtain⟨k,hk,ht,rfl,HFF,HX2,HR,HB⟩:=hrel;clear HX HR5 HB5
  by_cases hlt:k<4
  ·have hkl:k<fs.length:=by rw[HL4.o];exact hlt
   obtain⟨A,c,hc0,hc1,hfl⟩:=HX2.o.2 k _ (d7 hkl);have HDR:Q_ (fs.drop k=fs[k]::fs.drop (k+1)):=q_ (b0w hkl);generalize fs[k]=f at *;obtain⟨n,l⟩:=f;dsimp only at hc0 hc1 hfl;have HFL:=q_ hfl;clear hfl;rw[b3r]at hc0 hc1;have i1:(k:Int)<4:=by omega
   have i2:(0:Int) <=(k:Int):=o5 _;have HR1:=q_ (HR.o.on (qa wr (.cells #[.string n,.slice A l.length c] 200)));have HB1:=q_ (qb HB.o (qa wr (.cells #[.string n,.slice A l.length c] 200)));have HX1:=q_ (HX2.o.on (qa wr (.cells #[.string n,.slice A l.length c] 200)));have HFL1:=q_ (abn HFL.o (qa wr (.cells #[.string n,.slice A l.length c] 200)) (a8 _));have HN1:=q_ (Blk.newL (qg wr #[.string n,.slice A l.length c] 200) rfl);have HRL:=q_ HR.o.lt;go_upto_region 4 with fail;clear HR HB HX2 HFL hc0 hc1;generalize wr.alloc (.cells #[.string n,.slice A l.length c] 200)=wn at *;have n0:=HN1.o.cell 0 (v:=.string n) rfl;have n1:=HN1.o.cell 1 (v:=.slice A l.length c) rfl;have r0:=HR1.o.cell 0 (v:=.string ⟨#[]⟩) rfl;have r1:=HR1.o.cell 1 (v:=.slice none 0 0) rfl;have z0:=HR1.o.fz 0;have z1:=HR1.o.fz 1;generalize wr.1.size=q at *
   by_cases hn:n=⟨#[]⟩
   ·have HF2:Q_ (agl (fs.drop (k+1))=agl fs):=q_ (by rw[<- HFF.o,HDR.o];conv=>rhs;unfold agl;(rw[if_neg (by rw[hn];exact λh=>h rfl)]));subst hn;go_wp2_with fail
    go_roundg (4-(k+1))
    case measure=>omega
    case rel=>exact⟨k+1,by omega,by omega,by go_num,HF2,HX1,HR1,HB1⟩
   ·have hf2:(rn,rl)=(n,l):=by rw[<- HRES.o,<- HFF.o,HDR.o];unfold agl;(rw[if_pos (by exact hn)])
    injection hf2 with e1 e2
    subst e1 e2;have hn2:=am2 hn;go_wp2_with fail;obtain⟨q1,q2,q3,q4⟩:=alr HR1.o (.string rn) (.slice A rl.length c) HB1.o (a8 _);refine b9 (v:=.agg #[.string rn,.slice A rl.length c]) (by rw[qm rfl];simp[asAddr,Result.andThen];exact q1) rfl ⟨A,⟨c,rfl⟩,?_,q2⟩;refine(HFL1.o.keep λj hj=>q3 j om).less λj hj=>⟨by omega,by rw[q4];exact hj.2⟩
  ·obtain rfl:k=4:=by omega
   have hf2:(rn,rl)=noF:=by rw[<- HRES.o,<- HFF.o,<- HL4.o,b5a];rfl
   injection hf2 with e1 e2
   subst e1 e2;have r0:=HR.o.cell 0 (v:=.string ⟨#[]⟩) rfl;have r1:=HR.o.cell 1 (v:=.slice none 0 0) rfl;have z0:=HR.o.fz 0;have z1:=HR.o.fz 1;go_wp2_with fail;obtain⟨q1,q2,q3,q4⟩:=alr HR.o (.string ⟨#[]⟩) (.slice none 0 0) HB.o (a8 _);refine b9 (v:=.agg #[.string ⟨#[]⟩,.slice none 0 0]) (by rw[qm rfl];simp[asAddr,Result.andThen];exact q1) rfl ⟨none,0,rfl,qf.nil _ _ _,q2⟩
theorem bax (a b:Value) (W:World):(Instr.field 200 (.agg #[a,b]) 1).run prog W=.ok b W:=by kernel_rfl
theorem asy (i:Int) (w:World):Calls prog 110 #[.int .i64 i] w λe w'=>∃A c,e=.returned (.slice A (xe i).2.length c)/\qf (λb=>w.1.size<=b/\b<w'.1.size) w' A (q8 (xe i).2)/\Below w.1.size w w':=by
 have H:=q_ (ahz i w);generalize xe i=f at *;obtain⟨n,l⟩:=f;unfold xy at H;dsimp only at *;go_enter func110,ntmps110;go_wp2_with fail;refine(H.o).mono ?_;rintro e w1 ⟨A,c,rfl,hf,hb⟩;have HF:=q_ (o3 hf hb);clear hf hb;have HFD:=bax (.string n) (.slice A l.length c) w1;go_wp2_with fail;go_ret;exact⟨A,c,rfl,HF.o.1,HF.o.2⟩
theorem anu (p:Prt) (w:World):Calls prog 112 #[.agg #[.string p.nm,.int .i64 p.sz,.bool p.sg,.int .i64 p.mn]] w λe w'=>e=.returned (.int .i64 (aao p:Int))/\Below w.1.size w w':=by
 obtain⟨nm,sz,sg,mn⟩:=p;unfold aao;dsimp only;have e:max (mn:Int) 1=((if mn=0 then 1 else mn:Nat):Int):=by split<;>omega
 generalize (if mn=0 then 1 else mn:Nat)=r at *;go_enter func112,ntmps112;go_wp2_with fail;go_ret;exact⟨by rw[<- e];rfl,qa _ _⟩
def SmP (l:List Prt):Prop:=∀p∈l,p.sz<=8/\p.mn<=64
theorem a2o (p:Prt) (w:World) (hs:p.sz<=8) (hn:p.mn<=64):Calls prog 111 #[.agg #[.string p.nm,.int .i64 p.sz,.bool p.sg,.int .i64 p.mn]] w λe w'=>e=.returned (.int .i64 ((p.sz*aao p:Nat):Int))/\Below w.1.size w w':=by
 have HN:=λW=>q_ (anu p W)
 have hnb:aao p<=64:=by unfold aao;split<;>omega
 obtain⟨nm,sz,sg,mn⟩:=p;generalize aao ⟨nm,sz,sg,mn⟩=r at *;dsimp only at *;have hml:sz*r<=8*64:=b4b hs hnb;have hmc:(sz:Int)*(r:Int)=((sz*r:Nat):Int):=(b2a sz r).symm;have e1:IntKind.i64.wrap ((sz:Int)*(r:Int))=((sz*r:Nat):Int):=by rw[hmc];exact b05 _ om
 have HM:=q_ hmc;clear hmc;generalize sz*r=m at *;go_enter func111,ntmps111;go_upto_region 1 with fail;have HK:Q_ (Blk (w.alloc (.cells #[.string nm,.int .i64 sz,.bool sg,.int .i64 mn] 261)) w.1.size [.string nm,.int .i64 sz,.bool sg,.int .i64 mn]):=q_ (Blk.newL (qg w _ _) rfl);have HB:Q_ (Below w.1.size w (w.alloc (.cells #[.string nm,.int .i64 sz,.bool sg,.int .i64 mn] 261))):=q_ (qa _ _);generalize w.alloc (.cells #[.string nm,.int .i64 sz,.bool sg,.int .i64 mn] 261)=W1 at *
 try (apply b1q;intro K_ HK_)
 have hS0:Below W1.1.size W1 W1.drew:=(n9 _ _).drew;refine t6 (S:=λw'=>Below W1.1.size W1 w') kr hS0 (λhHeld0=>?_);refine tkA 0 3 rfl ?_;go_frame;refine tkQ (i:=1) (oi:=⟨some 4,_,_,_,_,_⟩) (v:=?_) rfl (Or.inl ⟨by rfl,?_⟩) ?_;rotate_left
 ·intro w' hSw;have x1:=(HK.o.on hSw).cell 1 (v:=.int .i64 sz) rfl;go_simp
  try with_reducible rfl
 try go_frame
 refine tkQ (i:=2) (oi:=⟨some 5,_,_,_,_,_⟩) (v:=_) rfl (o4 (by rfl) 261 _ rfl w.1.size 0 rfl [.string nm,.int .i64 sz,.bool sg,.int .i64 mn] _ (λw' hSw=>(HK.o.on hSw).rg) underlying261 rfl kr) ?_;go_frame;refine rdB 3 6 rfl λK hK=>?_
 go_step;refine(HN _).o.mono ?_;rintro e w2 ⟨rfl,hb⟩;have HS2:Q_ (Below W1.1.size W1 w2):=q_ (hHeld0.trans (hb.mono hHeld0.size));clear hb
 try go_frame
 refine hK.out _ _ (HS2.o) (λhHeld=>?_);clear hK K
 try go_frame
 refine tkA 4 7 rfl ?_;go_frame;refine tkA 5 2 rfl ?_;go_frame;refine b0m kr ?_ _
 try go_frame
 have HB2:=q_ (qb HB.o HS2.o);clear hHeld hHeld0 hS0;go_wp2_with fail;go_ret;exact⟨rfl,HB2.o⟩
theorem aj7 {Q:Nat->Prop} {w:World} {A:Option Addr} {l:List Prt} (h:qf Q w A (q8 l)) (k:Nat) (hk:k<l.length):∃b off,A=some ⟨b,off,none⟩/\Q b/\w.cell? ⟨b,off+k*4,none⟩=some (.string l[k].nm)/\w.cell? ⟨b,off+k*4+1,none⟩=some (.int .i64 (l[k].sz:Int))/\w.cell? ⟨b,off+k*4+2,none⟩=some (.bool l[k].sg)/\w.cell? ⟨b,off+k*4+3,none⟩=some (.int .i64 (l[k].mn:Int)):=by
 have e:=λj hj=>aij yx 4 (λ_=>rfl) l k hk j hj
 obtain⟨b,off,hA,hb,h0⟩:=h _ _ (e 0 om);refine⟨b,off,hA,hb,h0,?_,?_,?_⟩
 ·obtain⟨b',off',hA',-,h1⟩:=h _ _ (e 1 om);rw[hA]at hA';injection hA' with hA';injection hA' with q1 q2;subst q1 q2
  exact h1
 ·obtain⟨b',off',hA',-,h1⟩:=h _ _ (e 2 om);rw[hA]at hA';injection hA' with hA';injection hA' with q1 q2;subst q1 q2
  exact h1
 ·obtain⟨b',off',hA',-,h1⟩:=h _ _ (e 3 om);rw[hA]at hA';injection hA' with hA';injection hA' with q1 q2;subst q1 q2
  exact h1
theorem bdy (l:List Prt) (p:Prt):yn (l++[p])=yn l+p.sz*aao p:=by simp[yn]
theorem a09 {p:Prt} (h:p.mn<=64):aao p<=64:=by unfold aao;split<;>omega
theorem ayj:∀l:List Prt,SmP l->yn l<=l.length*512
 | [],_=>by simp[yn]
 | p::l,h=>by
  have h1:=h p (b1x ..);have h2:=ayj l (λq hq=>h q (b13 _ hq));have h3:p.sz*aao p<=8*64:=b4b h1.1 (a09 h1.2);have h4:yn (p::l)=p.sz*aao p+yn l:=by simp[yn]
  rw[h4,n6];omega
theorem bin (x:Value) (W:World):(callFunc 111 #[x]).run prog W=.ok (.enter 111 #[x]) W:=by kernel_rfl
theorem a2n {Q:Nat->Prop} {w:World} (A:Option Addr) (l:List Prt) (c:Nat) (h:qf Q w A (q8 l)) (hm:l.length<=1000) (hsm:SmP l) :
 Calls prog 109 #[.slice A l.length c,.func (.func 111) #[] #[]] w λe w'=>e=.returned (.int .i64 (yn l:Int))/\Below w.1.size w w':=by
 replace h:=h.lt;have HI:=q_ h;have HS:=q_ hsm;have HE:Q_ (l.take l.length=l):=q_ (by rw[b0v]);obtain⟨n,hn⟩:∃n,l.length=n:=⟨_,rfl⟩;rw[hn]at hm HE ⊢;have HL:=q_ hn;clear hn h hsm;go_enter func109,ntmps109;go_wp2_with fail
 go_loopg [5,10] n (λg s5 s10 wr=>∃k:Nat,k<=n/\n-k<=g/\s10=.int .i64 k/\s5=.int .i64 (yn (l.take k):Int)/\Q_ (Below w.1.size w wr))
 case atStart=>exact⟨0,by omega,by omega,rfl,rfl,n9 _ _⟩
 case round=>
  obtain⟨k,hk,hg,rfl,rfl,HB⟩:=hrel
  by_cases hlt:k<n
  ·have hkl:k<l.length:=by rw[HL.o];exact hlt
   obtain⟨b',o',rfl,hq,c0,c1,c2,c3⟩:=aj7 HI.o k hkl;have HW:=q_ (by rw[o9 hkl,bdy]:yn (l.take (k+1))=yn (l.take k)+l[k].sz*aao l[k]);have hwl:=ayj (l.take k) (λq hq=>HS.o q (b3g hq));rw[l8,b1m om]at hwl;have hsz:=HS.o l[k] (b1j hkl);have HC:=λW=>q_ (a2o l[k] W hsz.1 hsz.2)
   have hml:l[k].sz*aao l[k]<=8*64:=b4b hsz.1 (a09 hsz.2);have d0:=(HB.o.cell (p:=⟨b',o'+k*4,none⟩) hq.2).trans c0;have d1:=(HB.o.cell (p:=⟨b',o'+k*4+1,none⟩) hq.2).trans c1;have d2:=(HB.o.cell (p:=⟨b',o'+k*4+2,none⟩) hq.2).trans c2;have d3:=(HB.o.cell (p:=⟨b',o'+k*4+3,none⟩) hq.2).trans c3;clear c0 c1 c2 c3 hsz;generalize l[k]=p at *;obtain⟨nm,sz,sg,mn⟩:=p;dsimp only at *;generalize sz*aao ⟨nm,sz,sg,mn⟩=m at *;generalize yn (l.take k)=u at *;have i1:(k:Int)<n:=by omega
   have i2:(0:Int) <=(k:Int):=o5 _;have HN1:Q_ (Blk (wr.alloc (.cells #[.string nm,.int .i64 sz,.bool sg,.int .i64 mn] 261)) wr.1.size [.string nm,.int .i64 sz,.bool sg,.int .i64 mn]):=q_ (Blk.newL (qg wr _ _) rfl);have HB1:=q_ (qb HB.o (qa wr (.cells #[.string nm,.int .i64 sz,.bool sg,.int .i64 mn] 261)));have HCL:=λx W=>bin x W
   go_upto_region 5 with fail;clear d0 d1 d2 d3 HB;generalize wr.alloc (.cells #[.string nm,.int .i64 sz,.bool sg,.int .i64 mn] 261)=W1 at *;generalize wr.1.size=q at *;have x0:=HN1.o.cell 0 (v:=.string nm) rfl;have x1:=HN1.o.cell 1 (v:=.int .i64 sz) rfl;have x2:=HN1.o.cell 2 (v:=.bool sg) rfl;have x3:=HN1.o.cell 3 (v:=.int .i64 mn) rfl;go_wp2_with fail;refine(HC W1).o.mono ?_;rintro e w2 ⟨rfl,hb⟩;have HB2:=q_ (qb HB1.o hb);clear hb x0 x1 x2 x3;go_wp2_with fail
   go_roundg (n-(k+1))
   case measure=>omega
   case rel=>exact⟨k+1,by omega,by omega,by go_num,by rw[HW.o];go_num,HB2⟩
  ·obtain rfl:k=n:=by omega
   rw[HE.o];obtain⟨u,hu⟩:∃u,yn l=u:=⟨_,rfl⟩;have HU:=q_ hu;rw[hu];clear hu;go_wp2_with fail;go_ret;exact⟨by rw[HU.o];rfl,HB.o⟩
theorem axx (i:Int) (w:World) (hm:(xe i).2.length<=1000) (hs:SmP (xe i).2):Calls prog 85 #[.int .i64 i] w λe w'=>e=.returned (.int .i64 (yn (xe i).2:Int))/\Below w.1.size w w':=by
 have HP:=q_ (asy i w);have HS:∀W A c,qf (λb=>w.1.size<=b/\b<W.1.size) W A (q8 (xe i).2)->Q_ (Calls prog 109 #[.slice A (xe i).2.length c,.func (.func 111) #[] #[]] W λe w'=>e=.returned (.int .i64 (yn (xe i).2:Int))/\Below W.1.size W w'):=λW A c hf=>q_ (a2n A (xe i).2 c hf hm hs)
 clear hm hs;generalize (xe i).2=l at *;go_enter func85,ntmps85;go_wp2_with fail;refine(HP.o).mono ?_;rintro e w1 ⟨A,c,rfl,hf,hb⟩;have HC:=HS w1 A c hf;have HB:=q_ hb;clear hf hb HS;go_wp2_with fail;refine HC.o.mono ?_;rintro e w2 ⟨rfl,hb⟩;have HB2:=q_ (qb HB.o hb);clear hb;go_wp2_with fail;go_ret;exact⟨rfl,HB2.o⟩
section
variable {P : Program}
theorem alf (w:World) (dT sT ty elem:TypeId) (m:Nat) (hu:P.underlying dT=some (.slice elem)) (hs:(P.info? elem).map (·.size)=some m) {R:Nat->Prop} (b n dCap:Nat) (X:Option Addr) (sCap:Nat) (xs:List Value)
 (hx:qf R w X xs) (hl:xs.length=n*m) (h1:∀v∈xs,v.oneCell'=true) (ht:w.there b 0 (n*m)) :
 ∃W,(Builtin.copy_ #[dT,sT] ty #[.slice (some ⟨b,0,none⟩) n dCap,.slice X n sCap]).run P w=.ok (goInt n) W/\qq w W b 0 xs:=by
 obtain⟨i,hq,hi⟩:∃i,P.info? elem=some i/\i.size=m:=by
  cases hq:P.info? elem with
  | none=>simp[hq]at hs
  | some i=>exact⟨i,rfl,by simpa [hq]using hs⟩
 have hst:=run_storeCells_cells (P:=P) b 0 xs 0 w (λj hj=>by have:=(ht j om).1;simpa using this) (λj hj=>by have:=(ht j om).2;simpa using this) h1;refine⟨w.setCells b 0 xs,?_,qo (by rw[hl];exact ht)⟩
 by_cases h0:xs=[]
 ·subst h0;have hz:n*i.size=0:=by rw[hi];simpa using hl.symm
  cases X with
  | none=>simp[Builtin.copy_,b3f hu,Builtin.lenOf,Builtin.firstCells,sizeOf,typeInfo,hq,storeCells,World.setCells]
  | some a=>
   have hll:(loadCells a 0).run P w=.ok #[] w:=by simpa using b4q (P:=P) w a [] sm
   simp[Builtin.copy_,b3f hu,Builtin.lenOf,Builtin.firstCells,sizeOf,typeInfo,hq,hz,hll,storeCells,World.setCells]
 ·have hpos:0<xs.length:=b2q.2 h0;obtain⟨xb,xo,hX,-,-⟩:=hx 0 xs[0] (d7 hpos);subst hX
  have hll:=b4q (P:=P) w ⟨xb,xo,none⟩ xs (λj v hv=>by
   obtain⟨b',off,e1,-,e3⟩:=hx j v hv;injection e1 with e1
   injection e1 with e1 e2
   subst e1 e2;rw[ads];exact e3)
  rw[hl,<- hi]at hll;simp[Builtin.copy_,b3f hu,Builtin.lenOf,Builtin.firstCells,sizeOf,typeInfo,hq,hll,hst]
end
def abl {α:Type} (r:List α) (x:α) (rest:List α) (j:Nat):List α:=(r.drop j).reverse ++(x::((r.take j).reverse++rest))
theorem arq {α:Type} (r:List α) (x:α) (rest:List α):abl r x rest 0=r.reverse++x::rest:=by simp[abl]
theorem a20 {α:Type} (r:List α) (x:α) (rest:List α) (j:Nat) (h:j<r.length):abl r x rest j=(r.drop (j+1)).reverse ++([r[j]] ++([x] ++((r.take j).reverse++rest))):=by
 unfold abl;rw[b0w h,b44];simp
theorem arp {α:Type} (r:List α) (x:α) (rest:List α) (j:Nat) (h:j<r.length):abl r x rest (j+1)=(r.drop (j+1)).reverse ++([x] ++([r[j]] ++((r.take j).reverse++rest))):=by
 unfold abl;rw[o9 h,List.reverse_append];simp
theorem aim {α:Type} (ahead:α->α->Bool) (r:List α) (x:α) (j:Nat) (hj:j<=r.length) (hi:ks ahead r x=r.take j++ks ahead (r.drop j) x) (h:∀(q:j<r.length),ahead x r[j]=false) (rest:List α):abl r x rest j=(ks ahead r x).reverse++rest:=by
 have e:ks ahead (r.drop j) x=x::r.drop j:=by
  rcases b08 j r.length with q|q
  ·rw[b0w q];unfold ks;rw[if_neg (by rw[h q];decide)]
  ·rw[b19 q];rfl
 rw[hi,e];simp[abl]
theorem a88 {α:Type} (ahead:α->α->Bool) (r:List α) (x:α) (j:Nat) (hj:j<r.length) (hi:ks ahead r x=r.take j++ks ahead (r.drop j) x) (h:ahead x r[j]=true):ks ahead r x=r.take (j+1)++ks ahead (r.drop (j+1)) x:=by
 rw[hi,b0w hj]
 conv=>lhs;unfold ks
 rw[if_pos h,o9 hj];simp only[b0s,b0u,b0y]
def gtP (a b:Prt):Bool:=decide (b.sz<a.sz)
def gtS (a b:Slt):Bool:=decide (b.sz<a.sz)
theorem arb (p q:Prt) (w:World):Calls prog 185 #[.agg #[.string p.nm,.int .i64 p.sz,.bool p.sg,.int .i64 p.mn],.agg #[.string q.nm,.int .i64 q.sz,.bool q.sg,.int .i64 q.mn]] w λe w'=>e=.returned (.bool (gtP p q))/\Below w.1.size w w':=by
 obtain⟨nm,sz,sg,mn⟩:=p;obtain⟨nm',sz',sg',mn'⟩:=q;unfold gtP;dsimp only
 by_cases h:sz'<sz
 ·have h1:(sz':Int)<(sz:Int):=by omega
  rw[t8 h];go_enter func185,ntmps185;go_wp2_with fail;go_ret;exact⟨rfl,qb (qa _ _) (qa _ _)⟩
 ·have h1:¬(sz':Int)<(sz:Int):=by omega
  rw[o7 h];go_enter func185,ntmps185;go_wp2_with fail;go_ret;exact⟨rfl,qb (qa _ _) (qa _ _)⟩
theorem as0 (p q:Slt) (w:World):Calls prog 121 #[.agg #[.int .i64 p.sz,.bool p.sg,.int .i64 p.ix],.agg #[.int .i64 q.sz,.bool q.sg,.int .i64 q.ix]] w λe w'=>e=.returned (.bool (gtS p q))/\Below w.1.size w w':=by
 obtain⟨sz,sg,mn⟩:=p;obtain⟨sz',sg',mn'⟩:=q;unfold gtS;dsimp only
 by_cases h:sz'<sz
 ·have h1:(sz':Int)<(sz:Int):=by omega
  rw[t8 h];go_enter func121,ntmps121;go_wp2_with fail;go_ret;exact⟨rfl,qb (qa _ _) (qa _ _)⟩
 ·have h1:¬(sz':Int)<(sz:Int):=by omega
  rw[o7 h];go_enter func121,ntmps121;go_wp2_with fail;go_ret;exact⟨rfl,qb (qa _ _) (qa _ _)⟩
theorem arm {α:Type} (ahead:α->α->Bool) (l:List α) (k:Nat) (h:k<l.length):(l.take (k+1)).foldl (ks ahead) []=ks ahead ((l.take k).foldl (ks ahead) []) l[k]:=by
 rw[o9 h,b3v];rfl
theorem az9 {α:Type} (ahead:α->α->Bool) (l:List α) (k:Nat) (h:k<=l.length):((l.take k).foldl (ks ahead) []).length=k:=by
 rw[ami];simp[h]
theorem ac0 (z:Array Value) (n:Nat):(madeCells z n).toList.length=n:=by simp[madeCells]
theorem a2l {w:World} {g q:Nat} {D E:List Prt} {x y:Prt} (h:Blk w g (q8 (D ++([y] ++([x]++E))))) (hq:D.length=q):(∀w',Below w.1.size w w'->w'.rangeAt g ((q+1)*4) (yx x)) /\(∀w',Below w.1.size w w'->w'.rangeAt g (q*4) (yx y))/\∀o,w.frozen? ⟨g,o,none⟩=false:=by
 have e:q8 (D ++([y] ++([x]++E)))=q8 D++yx y++yx x++q8 E:=by simp[q8]
 have e2:q8 (D ++([y] ++([x]++E)))=q8 D++yx y ++(yx x++q8 E):=by simp[q8]
 have l1:(q8 D).length=q*4:=by rw[ady,hq]
 refine⟨λw' hb=>?_,λw' hb=>?_,h.fz⟩
 ·have q1:=(h.on hb);rw[e]at q1;have q2:=Blk.sub (A:=q8 D++yx y) (M:=yx x) (D:=q8 E) q1
  rwa [e9,l1,show q*4 +(yx y).length=(q+1)*4 from by show q*4+4=_;omega]at q2
 ·have q1:=(h.on hb);rw[e2]at q1;have q2:=Blk.sub (A:=q8 D) (M:=yx y) (D:=yx x++q8 E) q1
  rwa [l1]at q2
theorem as1 {w:World} {g q B:Nat} {D E:List Prt} {x y:Prt} (h:Blk w g (q8 (D ++([y] ++([x]++E))))) (hq:D.length=q) (hB:B<=g):Blk ((w.setCells g ((q+1)*4) (yx y)).setCells g (q*4) (yx x)) g (q8 (D ++([x] ++([y]++E))))/\Below B w ((w.setCells g ((q+1)*4) (yx y)).setCells g (q*4) (yx x)):=by
 have e:q8 (D ++([y] ++([x]++E)))=(q8 D++yx y)++yx x++q8 E:=by simp[q8]
 have e2:q8 (D ++([x] ++([y]++E)))=q8 D++yx x ++(yx y++q8 E):=by simp[q8]
 have l1:(q8 D).length=q*4:=by rw[ady,hq]
 have l2:(q8 D++yx y).length=(q+1)*4:=by rw[e9,l1];show q*4+4=_;omega
 rw[e]at h;have s1:qq w (w.setCells g ((q+1)*4) (yx y)) g ((q+1)*4) (yx y):=qo (h.there _ _ (by rw[e9,e9,l2];show (q+1)*4+4 <=(q+1)*4+4+_;omega));have h1:=Blk.put (A:=q8 D++yx y) (M:=yx x) (D:=q8 E) h s1 l2 rfl;rw[show q8 D++yx y++yx y++q8 E=q8 D++yx y ++(yx y++q8 E)from by simp]at h1;have s2:qq (w.setCells g ((q+1)*4) (yx y)) ((w.setCells g ((q+1)*4) (yx y)).setCells g (q*4) (yx x)) g (q*4) (yx x):=qo (h1.there _ _ (by rw[e9,e9,l1];show q*4+4<=q*4+4+_;omega));have h2:=Blk.put (A:=q8 D) (M:=yx y) (D:=yx y++q8 E) h1 s2 l1 rfl;rw[e2];exact⟨h2,(s1.below hB).trans (s2.below hB)⟩
theorem axr (x y:Value) (W:World):(callFunc 185 #[x,y]).run prog W=.ok (.enter 185 #[x,y]) W:=by kernel_rfl
theorem axq {Q:Nat->Prop} {w:World} (A:Option Addr) (l:List Prt) (c:Nat) (h:qf Q w A (q8 l)) (hm:l.length<=1000) :
 Calls prog 184 #[.slice A l.length c,.func (.func 185) #[] #[]] w λe w'=>∃g,e=.returned (.slice (some ⟨g,0,none⟩) l.length l.length)/\Blk w' g (q8 (ag6 gtP l))/\w.1.size<=g/\Below w.1.size w w':=by
 have HI:=q_ h.lt;obtain⟨i0,hi,hz0,hz1,hz2⟩:=kq aqu;have HIN:=q_ hi;have HZ:=q_ (o3 hz0 (o3 hz1 hz2));have HFE:Q_ (∀k,k<=l.length ->((l.take k).foldl (ks gtP) []).length=k):=q_ (az9 gtP l);obtain⟨n,hn⟩:∃n,l.length=n:=⟨_,rfl⟩;rw[hn]at hm HFE ⊢;have HL:=q_ hn;clear hn h hi hz0 hz1 hz2;have HCL:=λx y W=>axr x y W
 go_enter func184,ntmps184;go_wp2_with (refine aae rfl _ _ 198 261 rfl i0 _ underlying198 HIN.o HZ.o.1 .i64 .i64 n rfl rfl (by rw[HZ.o.2.2];omega) om ?_;intro W1 hG;have HG1:=q_ hG;clear hG)
 have HK1:Q_ (w.1.size<W1.1.size/\W1.there w.1.size 0 (n*4)/\Below w.1.size w W1):=q_ (by
  have hk:=Blk.newL HG1.o rfl;refine⟨hk.lt,hk.there 0 (n*4) ?_,HG1.o.bel⟩;rw[ac0,HZ.o.2.1,b0j];exact a8 _)
 obtain⟨W2,q1,q2⟩:=alf (P:=prog) W1 198 198 3 261 4 underlying198 (by rw[HIN.o];simp[HZ.o.2.1]) w.1.size n n A c (q8 l) (HI.o.below HK1.o.2.2 (λ_ q=>q.2)) (by rw[ady,HL.o]) (auh l) HK1.o.2.1
 have HK2:Q_ (Blk W2 w.1.size (q8 l)):=q_ (by
  have hk:=Blk.newL HG1.o rfl;exact hk.all q2 (by rw[ac0,HZ.o.2.1,ady,HL.o]))
 have HB2:Q_ (Below w.1.size w W2):=q_ (HK1.o.2.2.trans (q2.below (a8 _)));have HRC:=q_ q1;clear q1 q2 HG1 HK1;go_wp2_with fail;rw[HRC.o];clear HRC;go_wp2_with fail;obtain⟨g,hgz⟩:∃g,w.1.size=g:=⟨_,rfl⟩;rw[hgz]at HK2;simp only[hgz];have HGZ:=q_ hgz;clear hgz
 go_loopg [16] n (λt s16 wr=>∃i:Nat,i<=n/\n-i<=t/\s16=.int .i64 i/\Q_ (Blk wr g (q8 (((l.take i).foldl (ks gtP) []).reverse++l.drop i)))/\Q_ (Below w.1.size w wr))
 case atStart=>exact⟨0,by omega,by omega,rfl,HK2.o,HB2⟩
 case round=>
  obtain⟨i,hi,ht,rfl,HK,HB⟩:=hrel;clear HK2 HB2
  by_cases hlt:i<n
  ·have hil:i<l.length:=by rw[HL.o];exact hlt
   have HSN:Q_ ((l.take (i+1)).foldl (ks gtP) []=ks gtP ((l.take i).foldl (ks gtP) []) l[i]):=q_ (arm gtP l i hil);have HRL:=q_ (HFE.o i om);have HST:Q_ (Blk wr g (q8 (abl ((l.take i).foldl (ks gtP) []) l[i] (l.drop (i+1)) 0))):=q_ (by rw[arq,<- b0w hil];exact HK.o);clear HK;generalize (l.take i).foldl (ks gtP) []=r at *;generalize l[i]=x at *;obtain⟨rest,hrest⟩:∃rest,l.drop (i+1)=rest:=⟨_,rfl⟩;rw[hrest]at HST;have HRS:=q_ hrest;clear hrest;have i1:(i:Int)<n:=by omega
   have i2:(0:Int) <=(i:Int):=o5 _;go_wp2_with fail
   go_loopg [7] i (λt2 s7 wr=>∃j:Nat,j<=i/\i-j<=t2/\s7=.int .i64 ((i-j:Nat):Int)/\Q_ (ks gtP r x=r.take j++ks gtP (r.drop j) x)/\Q_ (Blk wr g (q8 (abl r x rest j)))/\Q_ (Below w.1.size w wr))
   case atStart=>exact⟨0,by omega,by omega,rfl,rfl,HST,HB⟩
   case round=>
    obtain⟨j,hj,ht2,rfl,HIR,HK,HBI⟩:=hrel;clear HST HB;obtain⟨kk,hkk⟩:∃kk,i-j=kk:=⟨_,rfl⟩;rw[hkk]at ht2 ⊢;rcases kk with _|q
    ·obtain rfl:j=i:=by omega
     have HDONE:Q_ (abl r x rest j=(ks gtP r x).reverse++rest):=q_ (aim gtP r x j (by rw[HRL.o];exact a8 _) HIR.o (λq=>absurd q (by rw[HRL.o];omega)) rest);have HKN:Q_ (Blk wr.drew g (q8 (((l.take (j+1)).foldl (ks gtP) []).reverse++l.drop (j+1)))):=q_ (by rw[HSN.o,HRS.o,<- HDONE.o];exact HK.o.drew);have HBN:Q_ (Below w.1.size w wr.drew):=q_ HBI.o.drew;go_upto_region 7 with fail
     try (apply b1q;intro K_ HK_)
     have hS0:Below wr.1.size wr wr.drew:=(n9 _ _).drew;refine t6 (S:=λw'=>Below wr.1.size wr w') kr hS0 (λhHeld0=>?_);refine tkA 0 20 rfl ?_;go_frame;refine tkA 1 21 rfl ?_;go_frame;refine tkA 2 22 rfl ?_;go_frame;refine tkU 3 23 rfl ?_;go_frame;refine tkU 4 24 rfl ?_;go_frame;refine tkU 5 25 rfl ?_;go_frame;refine tkU 6 26 rfl ?_;go_frame;refine tkU 7 27 rfl ?_;go_frame;refine tkU 8 28 rfl ?_;go_frame;refine tkU 9 29 rfl ?_;go_frame;refine tkU 10 30 rfl ?_;go_frame;refine tkU 11 31 rfl ?_;go_frame;refine tkU 12 32 rfl ?_;go_frame;refine tkU 13 33 rfl ?_;go_frame;refine tkA 14 34 rfl ?_;go_frame;refine b0m kr ?_ _
     try go_frame
     clear hHeld0 hS0;go_wp2_with fail
     go_roundg (n-(j+1))
     case measure=>omega
     case rel=>exact⟨j+1,by omega,by omega,by go_num,HKN,HBN⟩
    ·have hjr:j<r.length:=by rw[HRL.o];omega
     have HLS:Q_ (abl r x rest j=(r.drop (j+1)).reverse ++([r[j]] ++([x] ++((r.take j).reverse++rest)))):=q_ (a20 r x rest j hjr);have HLT:Q_ (abl r x rest (j+1)=(r.drop (j+1)).reverse ++([x] ++([r[j]] ++((r.take j).reverse++rest)))):=q_ (arp r x rest j hjr);have HGO:Q_ (gtP x r[j]=true->ks gtP r x=r.take (j+1)++ks gtP (r.drop (j+1)) x):=q_ (a88 gtP r x j hjr HIR.o);have HSP:Q_ (gtP x r[j]=false->abl r x rest j=(ks gtP r x).reverse++rest):=q_ (λhh=>aim gtP r x j (b2h hjr) HIR.o (λ_=>hh) rest);have HDQ:Q_ ((r.drop (j+1)).reverse.length=q):=q_ (by rw[b3i,n5,HRL.o];omega);generalize (r.drop (j+1)).reverse=D at HLS HLT HDQ;generalize (r.take j).reverse++rest=E at HLS HLT;generalize r[j]=y at HLS HLT HGO HSP;have HBK:Q_ (Blk wr g (q8 (D ++([y] ++([x]++E))))):=q_ (by rw[<- HLS.o];exact HK.o);have HAT:=q_ (a2l HBK.o HDQ.o)
     obtain⟨bb,hbb⟩:∃bb,gtP x y=bb:=⟨_,rfl⟩;have HG:∀W,Q_ (Calls prog 185 #[.agg (yx x).toArray,.agg (yx y).toArray] W λe w'=>e=.returned (.bool bb)/\Below W.1.size W w'):=λW=>q_ (by rw[<- hbb];exact arb x y W)
     have HBB:=q_ hbb;clear hbb;obtain⟨x0,x1,x2,x3⟩:=x;obtain⟨y0,y1,y2,y3⟩:=y;have HX:Q_ (∀w',Below wr.1.size wr w'->w'.rangeAt g ((q+1)*4) [.string x0,.int .i64 (x1:Nat),.bool x2,.int .i64 (x3:Nat)]):=q_ HAT.o.1;have HY:Q_ (∀w',Below wr.1.size wr w'->w'.rangeAt g (q*4) [.string y0,.int .i64 (y1:Nat),.bool y2,.int .i64 (y3:Nat)]):=q_ HAT.o.2.1;change ∀W,Q_ (Calls prog 185 #[.agg #[.string x0,.int .i64 (x1:Nat),.bool x2,.int .i64 (x3:Nat)],.agg #[.string y0,.int .i64 (y1:Nat),.bool y2,.int .i64 (y3:Nat)]] W λe w'=>e=.returned (.bool bb)/\Below W.1.size W w')at HG;have i3:(q:Int)+1<n:=by omega
     have i4:(0:Int) <=(q:Int)+1:=by omega
     have i5:(q:Int)<n:=by omega
     have i6:(0:Int) <=(q:Int):=by omega
     have i7:(0:Int)<(q:Int)+1:=by omega
     have f1:IntKind.i64.wrap (q:Int)=(q:Int):=b05 _ om;clear HAT;cases bb
     ·have HKN:∀w2,Below wr.1.size wr w2->Q_ (Blk w2 g (q8 (((l.take (i+1)).foldl (ks gtP) []).reverse++l.drop (i+1)))):=λw2 hb=>q_ (by rw[HSN.o,HRS.o,<- HSP.o HBB.o];exact HK.o.on hb)
      go_upto_region 7 with fail
      try (apply b1q;intro K_ HK_)
      have hS0:Below wr.1.size wr wr.drew:=(n9 _ _).drew;refine t6 (S:=λw'=>Below wr.1.size wr w') kr hS0 (λhHeld0=>?_);refine tkA 0 20 rfl ?_;go_frame;refine tkA 1 21 rfl ?_;go_frame;refine tkA 2 22 rfl ?_;go_frame;refine tkA 3 23 rfl ?_;go_frame;refine tkA 4 24 rfl ?_;go_frame;refine tkA 5 25 rfl ?_;go_frame;refine tkA 6 26 rfl ?_;go_frame;refine tkQ (i:=7) (oi:=⟨some 27,_,_,_,_,_⟩) (v:=_) rfl (o4 (by rfl) 261 _ rfl g ((q+1)*4) rfl [.string x0,.int .i64 (x1:Nat),.bool x2,.int .i64 (x3:Nat)] _ (λw' hSw=>(HX.o w' hSw)) underlying261 rfl kr) ?_;go_frame;refine tkA 8 28 rfl ?_;go_frame;refine tkA 9 29 rfl ?_;go_frame;refine tkA 10 30 rfl ?_;go_frame;refine tkA 11 31 rfl ?_;go_frame;refine tkQ (i:=12) (oi:=⟨some 32,_,_,_,_,_⟩) (v:=_) rfl (o4 (by rfl) 261 _ rfl g (q*4) rfl [.string y0,.int .i64 (y1:Nat),.bool y2,.int .i64 (y3:Nat)] _ (λw' hSw=>(HY.o w' hSw)) underlying261 rfl kr) ?_
      go_frame;refine rdB 13 33 rfl λK hK=>?_
      go_step;refine(HG _).o.mono ?_;rintro e w2 ⟨rfl,hb⟩;have HS2:Q_ (Below wr.1.size wr w2):=q_ (hHeld0.trans (hb.mono hHeld0.size));clear hb
      try go_frame
      refine hK.out _ _ (HS2.o) (λhHeld=>?_);clear hK K
      try go_frame
      refine tkA 14 34 rfl ?_;go_frame;refine b0m kr ?_ _
      try go_frame
      have HKN2:=HKN w2 HS2.o;have HBN:=q_ (qb HBI.o HS2.o);clear hHeld hHeld0 hS0;go_wp2_with fail
      go_roundg (n-(i+1))
      case measure=>omega
      case rel=>exact⟨i+1,by omega,by omega,by go_num,HKN2,HBN⟩
     ·go_upto_region 7 with fail
      try (apply b1q;intro K_ HK_)
      have hS0:Below wr.1.size wr wr.drew:=(n9 _ _).drew;refine t6 (S:=λw'=>Below wr.1.size wr w') kr hS0 (λhHeld0=>?_);refine tkA 0 20 rfl ?_;go_frame;refine tkA 1 21 rfl ?_;go_frame;refine tkA 2 22 rfl ?_;go_frame;refine tkA 3 23 rfl ?_;go_frame;refine tkA 4 24 rfl ?_;go_frame;refine tkA 5 25 rfl ?_;go_frame;refine tkA 6 26 rfl ?_;go_frame;refine tkQ (i:=7) (oi:=⟨some 27,_,_,_,_,_⟩) (v:=_) rfl (o4 (by rfl) 261 _ rfl g ((q+1)*4) rfl [.string x0,.int .i64 (x1:Nat),.bool x2,.int .i64 (x3:Nat)] _ (λw' hSw=>(HX.o w' hSw)) underlying261 rfl kr) ?_;go_frame;refine tkA 8 28 rfl ?_;go_frame;refine tkA 9 29 rfl ?_;go_frame;refine tkA 10 30 rfl ?_;go_frame;refine tkA 11 31 rfl ?_;go_frame;refine tkQ (i:=12) (oi:=⟨some 32,_,_,_,_,_⟩) (v:=_) rfl (o4 (by rfl) 261 _ rfl g (q*4) rfl [.string y0,.int .i64 (y1:Nat),.bool y2,.int .i64 (y3:Nat)] _ (λw' hSw=>(HY.o w' hSw)) underlying261 rfl kr) ?_
      go_frame;refine rdB 13 33 rfl λK hK=>?_
      go_step;refine(HG _).o.mono ?_;rintro e w2 ⟨rfl,hb⟩;have HS2:Q_ (Below wr.1.size wr w2):=q_ (hHeld0.trans (hb.mono hHeld0.size));clear hb
      try go_frame
      refine hK.out _ _ (HS2.o) (λhHeld=>?_);clear hK K
      try go_frame
      refine tkA 14 34 rfl ?_;go_frame;refine b0m kr ?_ _
      try go_frame
      have HK2:=q_ (HBK.o.on HS2.o);have HBN:=q_ (qb HBI.o HS2.o);have hcx:=HX.o w2 HS2.o;have hcy:=HY.o w2 HS2.o;have cx0:w2.cell? ⟨g,(q+1)*4,none⟩=some (.string x0):=hcx 0 _ rfl;have cx1:w2.cell? ⟨g,(q+1)*4+1,none⟩=some (.int .i64 (x1:Nat)):=hcx 1 _ rfl;have cx2:w2.cell? ⟨g,(q+1)*4+2,none⟩=some (.bool x2):=hcx 2 _ rfl;have cx3:w2.cell? ⟨g,(q+1)*4+3,none⟩=some (.int .i64 (x3:Nat)):=hcx 3 _ rfl;have cy0:w2.cell? ⟨g,q*4,none⟩=some (.string y0):=hcy 0 _ rfl;have cy1:w2.cell? ⟨g,q*4+1,none⟩=some (.int .i64 (y1:Nat)):=hcy 1 _ rfl;have cy2:w2.cell? ⟨g,q*4+2,none⟩=some (.bool y2):=hcy 2 _ rfl;have cy3:w2.cell? ⟨g,q*4+3,none⟩=some (.int .i64 (y3:Nat)):=hcy 3 _ rfl;have zx0:w2.frozen? ⟨g,(q+1)*4,none⟩=false:=HK2.o.fz _;have zx1:w2.frozen? ⟨g,(q+1)*4+1,none⟩=false:=HK2.o.fz _;have zx2:w2.frozen? ⟨g,(q+1)*4+2,none⟩=false:=HK2.o.fz _
      have zx3:w2.frozen? ⟨g,(q+1)*4+3,none⟩=false:=HK2.o.fz _;have zy0:w2.frozen? ⟨g,q*4,none⟩=false:=HK2.o.fz _;have zy1:w2.frozen? ⟨g,q*4+1,none⟩=false:=HK2.o.fz _;have zy2:w2.frozen? ⟨g,q*4+2,none⟩=false:=HK2.o.fz _;have zy3:w2.frozen? ⟨g,q*4+3,none⟩=false:=HK2.o.fz _;have HSW:=q_ (as1 (B:=w.1.size) HK2.o HDQ.o (by rw[HGZ.o];exact a8 _));clear hHeld hHeld0 hS0 hcx hcy;go_upto_region 9 with fail;have HKN:Q_ (Blk (((((((((w2.setCell ⟨g,(q+1)*4,none⟩ (.string y0)).setCell ⟨g,(q+1)*4+1,none⟩ (.int .i64 (y1:Nat))).setCell ⟨g,(q+1)*4+2,none⟩ (.bool y2)).setCell ⟨g,(q+1)*4+3,none⟩ (.int .i64 (y3:Nat))).setCell ⟨g,q*4,none⟩ (.string x0)).setCell ⟨g,q*4+1,none⟩ (.int .i64 (x1:Nat))).setCell ⟨g,q*4+2,none⟩ (.bool x2)).setCell ⟨g,q*4+3,none⟩ (.int .i64 (x3:Nat)))).drew g (q8 (abl r ⟨x0,x1,x2,x3⟩ rest (j+1)))):=q_ (by rw[HLT.o];exact HSW.o.1.drew)
      have HBX:Q_ (Below w.1.size w (((((((((w2.setCell ⟨g,(q+1)*4,none⟩ (.string y0)).setCell ⟨g,(q+1)*4+1,none⟩ (.int .i64 (y1:Nat))).setCell ⟨g,(q+1)*4+2,none⟩ (.bool y2)).setCell ⟨g,(q+1)*4+3,none⟩ (.int .i64 (y3:Nat))).setCell ⟨g,q*4,none⟩ (.string x0)).setCell ⟨g,q*4+1,none⟩ (.int .i64 (x1:Nat))).setCell ⟨g,q*4+2,none⟩ (.bool x2)).setCell ⟨g,q*4+3,none⟩ (.int .i64 (x3:Nat)))).drew):=q_ (HBN.o.trans HSW.o.2.drew);have HIN2:=q_ (HGO.o HBB.o);have HQJ:Q_ (i-(j+1)=q):=q_ om;clear HSW HK2 HBN
      go_region
      clear cx0 zx0 cx1 zx1 cx2 zx2 cx3 zx3 cy0 zy0 cy1 zy1 cy2 zy2 cy3 zy3;generalize (((((((((w2.setCell ⟨g,(q+1)*4,none⟩ (.string y0)).setCell ⟨g,(q+1)*4+1,none⟩ (.int .i64 (y1:Nat))).setCell ⟨g,(q+1)*4+2,none⟩ (.bool y2)).setCell ⟨g,(q+1)*4+3,none⟩ (.int .i64 (y3:Nat))).setCell ⟨g,q*4,none⟩ (.string x0)).setCell ⟨g,q*4+1,none⟩ (.int .i64 (x1:Nat))).setCell ⟨g,q*4+2,none⟩ (.bool x2)).setCell ⟨g,q*4+3,none⟩ (.int .i64 (x3:Nat)))).drew=w3 at *;go_wp2_with fail
      go_roundg (i-(j+1))
      case measure=>omega
      case rel=>exact⟨j+1,by omega,by omega,by rw[HQJ.o],HIN2,HKN,HBX⟩
  ·obtain rfl:i=n:=by omega
   have HKN:Q_ (Blk wr g (q8 (ag6 gtP l))):=q_ (by
    have q:=HK.o;rw[<- HL.o,b0v,b5a,b0p]at q;exact q)
   go_wp2_with fail;go_ret;exact⟨g,rfl,HKN.o,by rw[HGZ.o];exact a8 _,HB.o⟩
theorem a2u:(prog.info? 208).map (λi=>(i.zero,i.size,i.bytes))=some (some (.agg #[.int .i64 0,.bool false,.int .i64 0]),3,24):=by kernel_rfl
theorem bc3 (l m:List Slt):zr (l++m)=zr l++zr m:=b4l
theorem a2t (p:Slt):∀v∈aab p,v.oneCell'=true:=by
 intro v hv;simp only[aab,b03,b2o,b4u]at hv;rcases hv with rfl|rfl|rfl<;>rfl
theorem bc4 (l:List Slt):∀v∈zr l,v.oneCell'=true:=by
 intro v hv;obtain⟨p,-,h⟩:=b4d.1 hv;exact a2t p v h
theorem a2m {w:World} {g q:Nat} {D E:List Slt} {x y:Slt} (h:Blk w g (zr (D ++([y] ++([x]++E))))) (hq:D.length=q):(∀w',Below w.1.size w w'->w'.rangeAt g ((q+1)*3) (aab x)) /\(∀w',Below w.1.size w w'->w'.rangeAt g (q*3) (aab y))/\∀o,w.frozen? ⟨g,o,none⟩=false:=by
 have e:zr (D ++([y] ++([x]++E)))=zr D++aab y++aab x++zr E:=by simp[zr]
 have e2:zr (D ++([y] ++([x]++E)))=zr D++aab y ++(aab x++zr E):=by simp[zr]
 have l1:(zr D).length=q*3:=by rw[aiu,hq]
 refine⟨λw' hb=>?_,λw' hb=>?_,h.fz⟩
 ·have q1:=(h.on hb);rw[e]at q1;have q2:=Blk.sub (A:=zr D++aab y) (M:=aab x) (D:=zr E) q1
  rwa [e9,l1,show q*3 +(aab y).length=(q+1)*3 from by show q*3+3=_;omega]at q2
 ·have q1:=(h.on hb);rw[e2]at q1;have q2:=Blk.sub (A:=zr D) (M:=aab y) (D:=aab x++zr E) q1
  rwa [l1]at q2
theorem as2 {w:World} {g q B:Nat} {D E:List Slt} {x y:Slt} (h:Blk w g (zr (D ++([y] ++([x]++E))))) (hq:D.length=q) (hB:B<=g):Blk ((w.setCells g ((q+1)*3) (aab y)).setCells g (q*3) (aab x)) g (zr (D ++([x] ++([y]++E))))/\Below B w ((w.setCells g ((q+1)*3) (aab y)).setCells g (q*3) (aab x)):=by
 have e:zr (D ++([y] ++([x]++E)))=(zr D++aab y)++aab x++zr E:=by simp[zr]
 have e2:zr (D ++([x] ++([y]++E)))=zr D++aab x ++(aab y++zr E):=by simp[zr]
 have l1:(zr D).length=q*3:=by rw[aiu,hq]
 have l2:(zr D++aab y).length=(q+1)*3:=by rw[e9,l1];show q*3+3=_;omega
 rw[e]at h;have s1:qq w (w.setCells g ((q+1)*3) (aab y)) g ((q+1)*3) (aab y):=qo (h.there _ _ (by rw[e9,e9,l2];show (q+1)*3+3 <=(q+1)*3+3+_;omega));have h1:=Blk.put (A:=zr D++aab y) (M:=aab x) (D:=zr E) h s1 l2 rfl;rw[show zr D++aab y++aab y++zr E=zr D++aab y ++(aab y++zr E)from by simp]at h1;have s2:qq (w.setCells g ((q+1)*3) (aab y)) ((w.setCells g ((q+1)*3) (aab y)).setCells g (q*3) (aab x)) g (q*3) (aab x):=qo (h1.there _ _ (by rw[e9,e9,l1];show q*3+3<=q*3+3+_;omega));have h2:=Blk.put (A:=zr D) (M:=aab y) (D:=aab y++zr E) h1 s2 l1 rfl;rw[e2];exact⟨h2,(s1.below hB).trans (s2.below hB)⟩
theorem axt (x y:Value) (W:World):(callFunc 121 #[x,y]).run prog W=.ok (.enter 121 #[x,y]) W:=by kernel_rfl
theorem axs {Q:Nat->Prop} {w:World} (A:Option Addr) (l:List Slt) (c:Nat) (h:qf Q w A (zr l)) (hm:l.length<=1000) :
 Calls prog 120 #[.slice A l.length c,.func (.func 121) #[] #[]] w λe w'=>∃g,e=.returned (.slice (some ⟨g,0,none⟩) l.length l.length)/\Blk w' g (zr (ag6 gtS l))/\w.1.size<=g/\Below w.1.size w w':=by
 have HI:=q_ h.lt;obtain⟨i0,hi,hz0,hz1,hz2⟩:=kq a2u;have HIN:=q_ hi;have HZ:=q_ (o3 hz0 (o3 hz1 hz2));have HFE:Q_ (∀k,k<=l.length ->((l.take k).foldl (ks gtS) []).length=k):=q_ (az9 gtS l);obtain⟨n,hn⟩:∃n,l.length=n:=⟨_,rfl⟩;rw[hn]at hm HFE ⊢;have HL:=q_ hn;clear hn h hi hz0 hz1 hz2;have HCL:=λx y W=>axt x y W
 go_enter func120,ntmps120;go_wp2_with (refine aae rfl _ _ 202 208 rfl i0 _ underlying202 HIN.o HZ.o.1 .i64 .i64 n rfl rfl (by rw[HZ.o.2.2];omega) om ?_;intro W1 hG;have HG1:=q_ hG;clear hG)
 have HK1:Q_ (w.1.size<W1.1.size/\W1.there w.1.size 0 (n*3)/\Below w.1.size w W1):=q_ (by
  have hk:=Blk.newL HG1.o rfl;refine⟨hk.lt,hk.there 0 (n*3) ?_,HG1.o.bel⟩;rw[ac0,HZ.o.2.1,b0j];exact a8 _)
 obtain⟨W2,q1,q2⟩:=alf (P:=prog) W1 202 202 3 208 3 underlying202 (by rw[HIN.o];simp[HZ.o.2.1]) w.1.size n n A c (zr l) (HI.o.below HK1.o.2.2 (λ_ q=>q.2)) (by rw[aiu,HL.o]) (bc4 l) HK1.o.2.1
 have HK2:Q_ (Blk W2 w.1.size (zr l)):=q_ (by
  have hk:=Blk.newL HG1.o rfl;exact hk.all q2 (by rw[ac0,HZ.o.2.1,aiu,HL.o]))
 have HB2:Q_ (Below w.1.size w W2):=q_ (HK1.o.2.2.trans (q2.below (a8 _)));have HRC:=q_ q1;clear q1 q2 HG1 HK1;go_wp2_with fail;rw[HRC.o];clear HRC;go_wp2_with fail;obtain⟨g,hgz⟩:∃g,w.1.size=g:=⟨_,rfl⟩;rw[hgz]at HK2;simp only[hgz];have HGZ:=q_ hgz;clear hgz
 go_loopg [16] n (λt s16 wr=>∃i:Nat,i<=n/\n-i<=t/\s16=.int .i64 i/\Q_ (Blk wr g (zr (((l.take i).foldl (ks gtS) []).reverse++l.drop i)))/\Q_ (Below w.1.size w wr))
 case atStart=>exact⟨0,by omega,by omega,rfl,HK2.o,HB2⟩
 case round=>
  obtain⟨i,hi,ht,rfl,HK,HB⟩:=hrel;clear HK2 HB2
  by_cases hlt:i<n
  ·have hil:i<l.length:=by rw[HL.o];exact hlt
   have HSN:Q_ ((l.take (i+1)).foldl (ks gtS) []=ks gtS ((l.take i).foldl (ks gtS) []) l[i]):=q_ (arm gtS l i hil);have HRL:=q_ (HFE.o i om);have HST:Q_ (Blk wr g (zr (abl ((l.take i).foldl (ks gtS) []) l[i] (l.drop (i+1)) 0))):=q_ (by rw[arq,<- b0w hil];exact HK.o);clear HK;generalize (l.take i).foldl (ks gtS) []=r at *;generalize l[i]=x at *;obtain⟨rest,hrest⟩:∃rest,l.drop (i+1)=rest:=⟨_,rfl⟩;rw[hrest]at HST;have HRS:=q_ hrest;clear hrest;have i1:(i:Int)<n:=by omega
   have i2:(0:Int) <=(i:Int):=o5 _;go_wp2_with fail
   go_loopg [7] i (λt2 s7 wr=>∃j:Nat,j<=i/\i-j<=t2/\s7=.int .i64 ((i-j:Nat):Int)/\Q_ (ks gtS r x=r.take j++ks gtS (r.drop j) x)/\Q_ (Blk wr g (zr (abl r x rest j)))/\Q_ (Below w.1.size w wr))
   case atStart=>exact⟨0,by omega,by omega,rfl,rfl,HST,HB⟩
   case round=>
    obtain⟨j,hj,ht2,rfl,HIR,HK,HBI⟩:=hrel;clear HST HB;obtain⟨kk,hkk⟩:∃kk,i-j=kk:=⟨_,rfl⟩;rw[hkk]at ht2 ⊢;rcases kk with _|q
    ·obtain rfl:j=i:=by omega
     have HDONE:Q_ (abl r x rest j=(ks gtS r x).reverse++rest):=q_ (aim gtS r x j (by rw[HRL.o];exact a8 _) HIR.o (λq=>absurd q (by rw[HRL.o];omega)) rest);have HKN:Q_ (Blk wr.drew g (zr (((l.take (j+1)).foldl (ks gtS) []).reverse++l.drop (j+1)))):=q_ (by rw[HSN.o,HRS.o,<- HDONE.o];exact HK.o.drew);have HBN:Q_ (Below w.1.size w wr.drew):=q_ HBI.o.drew;go_upto_region 7 with fail
     try (apply b1q;intro K_ HK_)
     have hS0:Below wr.1.size wr wr.drew:=(n9 _ _).drew;refine t6 (S:=λw'=>Below wr.1.size wr w') kr hS0 (λhHeld0=>?_);refine tkA 0 20 rfl ?_;go_frame;refine tkA 1 21 rfl ?_;go_frame;refine tkA 2 22 rfl ?_;go_frame;refine tkU 3 23 rfl ?_;go_frame;refine tkU 4 24 rfl ?_;go_frame;refine tkU 5 25 rfl ?_;go_frame;refine tkU 6 26 rfl ?_;go_frame;refine tkU 7 27 rfl ?_;go_frame;refine tkU 8 28 rfl ?_;go_frame;refine tkU 9 29 rfl ?_;go_frame;refine tkU 10 30 rfl ?_;go_frame;refine tkU 11 31 rfl ?_;go_frame;refine tkU 12 32 rfl ?_;go_frame;refine tkU 13 33 rfl ?_;go_frame;refine tkA 14 34 rfl ?_;go_frame;refine b0m kr ?_ _
     try go_frame
     clear hHeld0 hS0;go_wp2_with fail
     go_roundg (n-(j+1))
     case measure=>omega
     case rel=>exact⟨j+1,by omega,by omega,by go_num,HKN,HBN⟩
    ·have hjr:j<r.length:=by rw[HRL.o];omega
     have HLS:Q_ (abl r x rest j=(r.drop (j+1)).reverse ++([r[j]] ++([x] ++((r.take j).reverse++rest)))):=q_ (a20 r x rest j hjr);have HLT:Q_ (abl r x rest (j+1)=(r.drop (j+1)).reverse ++([x] ++([r[j]] ++((r.take j).reverse++rest)))):=q_ (arp r x rest j hjr);have HGO:Q_ (gtS x r[j]=true->ks gtS r x=r.take (j+1)++ks gtS (r.drop (j+1)) x):=q_ (a88 gtS r x j hjr HIR.o);have HSP:Q_ (gtS x r[j]=false->abl r x rest j=(ks gtS r x).reverse++rest):=q_ (λhh=>aim gtS r x j (b2h hjr) HIR.o (λ_=>hh) rest);have HDQ:Q_ ((r.drop (j+1)).reverse.length=q):=q_ (by rw[b3i,n5,HRL.o];omega);generalize (r.drop (j+1)).reverse=D at HLS HLT HDQ;generalize (r.take j).reverse++rest=E at HLS HLT;generalize r[j]=y at HLS HLT HGO HSP;have HBK:Q_ (Blk wr g (zr (D ++([y] ++([x]++E))))):=q_ (by rw[<- HLS.o];exact HK.o);have HAT:=q_ (a2m HBK.o HDQ.o)
     obtain⟨bb,hbb⟩:∃bb,gtS x y=bb:=⟨_,rfl⟩;have HG:∀W,Q_ (Calls prog 121 #[.agg (aab x).toArray,.agg (aab y).toArray] W λe w'=>e=.returned (.bool bb)/\Below W.1.size W w'):=λW=>q_ (by rw[<- hbb];exact as0 x y W)
     have HBB:=q_ hbb;clear hbb;obtain⟨x0,x1,x2⟩:=x;obtain⟨y0,y1,y2⟩:=y;have HX:Q_ (∀w',Below wr.1.size wr w'->w'.rangeAt g ((q+1)*3) [.int .i64 (x0:Nat),.bool x1,.int .i64 (x2:Nat)]):=q_ HAT.o.1;have HY:Q_ (∀w',Below wr.1.size wr w'->w'.rangeAt g (q*3) [.int .i64 (y0:Nat),.bool y1,.int .i64 (y2:Nat)]):=q_ HAT.o.2.1;change ∀W,Q_ (Calls prog 121 #[.agg #[.int .i64 (x0:Nat),.bool x1,.int .i64 (x2:Nat)],.agg #[.int .i64 (y0:Nat),.bool y1,.int .i64 (y2:Nat)]] W λe w'=>e=.returned (.bool bb)/\Below W.1.size W w')at HG;have i3:(q:Int)+1<n:=by omega
     have i4:(0:Int) <=(q:Int)+1:=by omega
     have i5:(q:Int)<n:=by omega
     have i6:(0:Int) <=(q:Int):=by omega
     have i7:(0:Int)<(q:Int)+1:=by omega
     have f1:IntKind.i64.wrap (q:Int)=(q:Int):=b05 _ om;clear HAT;cases bb
     ·have HKN:∀w2,Below wr.1.size wr w2->Q_ (Blk w2 g (zr (((l.take (i+1)).foldl (ks gtS) []).reverse++l.drop (i+1)))):=λw2 hb=>q_ (by rw[HSN.o,HRS.o,<- HSP.o HBB.o];exact HK.o.on hb)
      go_upto_region 7 with fail
      try (apply b1q;intro K_ HK_)
      have hS0:Below wr.1.size wr wr.drew:=(n9 _ _).drew;refine t6 (S:=λw'=>Below wr.1.size wr w') kr hS0 (λhHeld0=>?_);refine tkA 0 20 rfl ?_;go_frame;refine tkA 1 21 rfl ?_;go_frame;refine tkA 2 22 rfl ?_;go_frame;refine tkA 3 23 rfl ?_;go_frame;refine tkA 4 24 rfl ?_;go_frame;refine tkA 5 25 rfl ?_;go_frame;refine tkA 6 26 rfl ?_;go_frame;refine tkQ (i:=7) (oi:=⟨some 27,_,_,_,_,_⟩) (v:=_) rfl (o4 (by rfl) 208 _ rfl g ((q+1)*3) rfl [.int .i64 (x0:Nat),.bool x1,.int .i64 (x2:Nat)] _ (λw' hSw=>(HX.o w' hSw)) underlying208 rfl kr) ?_;go_frame;refine tkA 8 28 rfl ?_;go_frame;refine tkA 9 29 rfl ?_;go_frame;refine tkA 10 30 rfl ?_;go_frame;refine tkA 11 31 rfl ?_;go_frame;refine tkQ (i:=12) (oi:=⟨some 32,_,_,_,_,_⟩) (v:=_) rfl (o4 (by rfl) 208 _ rfl g (q*3) rfl [.int .i64 (y0:Nat),.bool y1,.int .i64 (y2:Nat)] _ (λw' hSw=>(HY.o w' hSw)) underlying208 rfl kr) ?_
      go_frame;refine rdB 13 33 rfl λK hK=>?_
      go_step;refine(HG _).o.mono ?_;rintro e w2 ⟨rfl,hb⟩;have HS2:Q_ (Below wr.1.size wr w2):=q_ (hHeld0.trans (hb.mono hHeld0.size));clear hb
      try go_frame
      refine hK.out _ _ (HS2.o) (λhHeld=>?_);clear hK K
      try go_frame
      refine tkA 14 34 rfl ?_;go_frame;refine b0m kr ?_ _
      try go_frame
      have HKN2:=HKN w2 HS2.o;have HBN:=q_ (qb HBI.o HS2.o);clear hHeld hHeld0 hS0;go_wp2_with fail
      go_roundg (n-(i+1))
      case measure=>omega
      case rel=>exact⟨i+1,by omega,by omega,by go_num,HKN2,HBN⟩
     ·go_upto_region 7 with fail
      try (apply b1q;intro K_ HK_)
      have hS0:Below wr.1.size wr wr.drew:=(n9 _ _).drew;refine t6 (S:=λw'=>Below wr.1.size wr w') kr hS0 (λhHeld0=>?_);refine tkA 0 20 rfl ?_;go_frame;refine tkA 1 21 rfl ?_;go_frame;refine tkA 2 22 rfl ?_;go_frame;refine tkA 3 23 rfl ?_;go_frame;refine tkA 4 24 rfl ?_;go_frame;refine tkA 5 25 rfl ?_;go_frame;refine tkA 6 26 rfl ?_;go_frame;refine tkQ (i:=7) (oi:=⟨some 27,_,_,_,_,_⟩) (v:=_) rfl (o4 (by rfl) 208 _ rfl g ((q+1)*3) rfl [.int .i64 (x0:Nat),.bool x1,.int .i64 (x2:Nat)] _ (λw' hSw=>(HX.o w' hSw)) underlying208 rfl kr) ?_;go_frame;refine tkA 8 28 rfl ?_;go_frame;refine tkA 9 29 rfl ?_;go_frame;refine tkA 10 30 rfl ?_;go_frame;refine tkA 11 31 rfl ?_;go_frame;refine tkQ (i:=12) (oi:=⟨some 32,_,_,_,_,_⟩) (v:=_) rfl (o4 (by rfl) 208 _ rfl g (q*3) rfl [.int .i64 (y0:Nat),.bool y1,.int .i64 (y2:Nat)] _ (λw' hSw=>(HY.o w' hSw)) underlying208 rfl kr) ?_
      go_frame;refine rdB 13 33 rfl λK hK=>?_
      go_step;refine(HG _).o.mono ?_;rintro e w2 ⟨rfl,hb⟩;have HS2:Q_ (Below wr.1.size wr w2):=q_ (hHeld0.trans (hb.mono hHeld0.size));clear hb
      try go_frame
      refine hK.out _ _ (HS2.o) (λhHeld=>?_);clear hK K
      try go_frame
      refine tkA 14 34 rfl ?_;go_frame;refine b0m kr ?_ _
      try go_frame
      have HK2:=q_ (HBK.o.on HS2.o);have HBN:=q_ (qb HBI.o HS2.o);have hcx:=HX.o w2 HS2.o;have hcy:=HY.o w2 HS2.o;have cx0:w2.cell? ⟨g,(q+1)*3,none⟩=some (.int .i64 (x0:Nat)):=hcx 0 _ rfl;have cx1:w2.cell? ⟨g,(q+1)*3+1,none⟩=some (.bool x1):=hcx 1 _ rfl;have cx2:w2.cell? ⟨g,(q+1)*3+2,none⟩=some (.int .i64 (x2:Nat)):=hcx 2 _ rfl;have cy0:w2.cell? ⟨g,q*3,none⟩=some (.int .i64 (y0:Nat)):=hcy 0 _ rfl;have cy1:w2.cell? ⟨g,q*3+1,none⟩=some (.bool y1):=hcy 1 _ rfl;have cy2:w2.cell? ⟨g,q*3+2,none⟩=some (.int .i64 (y2:Nat)):=hcy 2 _ rfl;have zx0:w2.frozen? ⟨g,(q+1)*3,none⟩=false:=HK2.o.fz _;have zx1:w2.frozen? ⟨g,(q+1)*3+1,none⟩=false:=HK2.o.fz _;have zx2:w2.frozen? ⟨g,(q+1)*3+2,none⟩=false:=HK2.o.fz _;have zy0:w2.frozen? ⟨g,q*3,none⟩=false:=HK2.o.fz _;have zy1:w2.frozen? ⟨g,q*3+1,none⟩=false:=HK2.o.fz _;have zy2:w2.frozen? ⟨g,q*3+2,none⟩=false:=HK2.o.fz _
      have HSW:=q_ (as2 (B:=w.1.size) HK2.o HDQ.o (by rw[HGZ.o];exact a8 _));clear hHeld hHeld0 hS0 hcx hcy;go_upto_region 9 with fail;have HKN:Q_ (Blk (((((((w2.setCell ⟨g,(q+1)*3,none⟩ (.int .i64 (y0:Nat))).setCell ⟨g,(q+1)*3+1,none⟩ (.bool y1)).setCell ⟨g,(q+1)*3+2,none⟩ (.int .i64 (y2:Nat))).setCell ⟨g,q*3,none⟩ (.int .i64 (x0:Nat))).setCell ⟨g,q*3+1,none⟩ (.bool x1)).setCell ⟨g,q*3+2,none⟩ (.int .i64 (x2:Nat)))).drew g (zr (abl r ⟨x0,x1,x2⟩ rest (j+1)))):=q_ (by rw[HLT.o];exact HSW.o.1.drew);have HBX:Q_ (Below w.1.size w (((((((w2.setCell ⟨g,(q+1)*3,none⟩ (.int .i64 (y0:Nat))).setCell ⟨g,(q+1)*3+1,none⟩ (.bool y1)).setCell ⟨g,(q+1)*3+2,none⟩ (.int .i64 (y2:Nat))).setCell ⟨g,q*3,none⟩ (.int .i64 (x0:Nat))).setCell ⟨g,q*3+1,none⟩ (.bool x1)).setCell ⟨g,q*3+2,none⟩ (.int .i64 (x2:Nat)))).drew):=q_ (HBN.o.trans HSW.o.2.drew)
      have HIN2:=q_ (HGO.o HBB.o);have HQJ:Q_ (i-(j+1)=q):=q_ om;clear HSW HK2 HBN
      go_region
      clear cx0 zx0 cx1 zx1 cx2 zx2 cy0 zy0 cy1 zy1 cy2 zy2;generalize (((((((w2.setCell ⟨g,(q+1)*3,none⟩ (.int .i64 (y0:Nat))).setCell ⟨g,(q+1)*3+1,none⟩ (.bool y1)).setCell ⟨g,(q+1)*3+2,none⟩ (.int .i64 (y2:Nat))).setCell ⟨g,q*3,none⟩ (.int .i64 (x0:Nat))).setCell ⟨g,q*3+1,none⟩ (.bool x1)).setCell ⟨g,q*3+2,none⟩ (.int .i64 (x2:Nat)))).drew=w3 at *;go_wp2_with fail
      go_roundg (i-(j+1))
      case measure=>omega
      case rel=>exact⟨j+1,by omega,by omega,by rw[HQJ.o],HIN2,HKN,HBX⟩
  ·obtain rfl:i=n:=by omega
   have HKN:Q_ (Blk wr g (zr (ag6 gtS l))):=q_ (by
    have q:=HK.o;rw[<- HL.o,b0v,b5a,b0p]at q;exact q)
   go_wp2_with fail;go_ret;exact⟨g,rfl,HKN.o,by rw[HGZ.o];exact a8 _,HB.o⟩
