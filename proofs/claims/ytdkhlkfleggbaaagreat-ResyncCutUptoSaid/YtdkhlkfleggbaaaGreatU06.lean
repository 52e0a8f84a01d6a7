/- Parts. -/
import Derived.Test.YtdkhlkfleggbaaaGreatU01
namespace Go.Proofs.YtdkhlkfleggbaaaGreat
set_option maxHeartbeats 4000000
set_option maxRecDepth 8000
open Lib (hid)
open Tryz
set_option linter.unusedVariables false
open Go.RowKit
structure Prt where
 nm:ByteArray
 sz:Nat
 sg:Bool
 mn:Nat
def ys (p:Prt):List Value:=[.string p.nm,.int .i64 p.sz,.bool p.sg,.int .i64 p.mn]
def q7 (l:List Prt):List Value:=l.flatMap ys
theorem ads (l:List Prt):(q7 l).length=l.length*4:=ate ys 4 (fun _=>rfl) l
theorem adr (l m:List Prt):q7 (l++m)=q7 l++q7 m:=b4f
theorem a0o (p:Prt):∀v∈ys p,v.oneCell'=true:=by
 intro v hv;simp only[ys,b0z,b2d,b4o]at hv;rcases hv with rfl|rfl|rfl|rfl<;>rfl
theorem aty (l:List Prt):∀v∈q7 l,v.oneCell'=true:=by
 intro v hv;obtain⟨p,-,h⟩:=b37.1 hv;exact a0o p v h
def aam (l:List ByteArray):List Value:=l.map Value.string
def zi (n:Nat) (s:Bool) (l:List ByteArray):List Prt:=l.map fun t=>⟨t,n,s,0⟩
def aiw (m:Nat) (l:List ByteArray):List Prt:=l.map fun t=>⟨t,1,false,m⟩
abbrev TFm:=ByteArray×List Prt
def noF:TFm:=(ByteArray.empty,[])
def ae2:List ByteArray:=[⟨#[120,97,99,99]⟩,⟨#[121,97,99,99]⟩,⟨#[122,97,99,99]⟩,⟨#[120,103,121,114,111]⟩,⟨#[121,103,121,114,111]⟩,⟨#[122,103,121,114,111]⟩,⟨#[120,109,97,103]⟩,⟨#[121,109,97,103]⟩,⟨#[122,109,97,103]⟩]
def bms:List ByteArray:=[⟨#[116,121,112,101]⟩,⟨#[97,117,116,111,112,105,108,111,116]⟩,⟨#[98,97,115,101,95,109,111,100,101]⟩]
def bmt:List ByteArray:=[⟨#[99,117,115,116,111,109,95,109,111,100,101]⟩]
def bmu:List ByteArray:=[⟨#[115,121,115,116,101,109,95,115,116,97,116,117,115]⟩,⟨#[109,97,118,108,105,110,107,95,118,101,114,115,105,111,110]⟩]
def bd1:TFm:=(⟨#[72,69,65,82,84,66,69,65,84]⟩,(zi 1 false bms) ++(zi 4 false bmt) ++(zi 1 false bmu))
def bmv:List ByteArray:=[⟨#[111,110,98,111,97,114,100,95,99,111,110,116,114,111,108,95,115,101,110,115,111,114,115,95,112,114,101,115,101,110,116]⟩,⟨#[111,110,98,111,97,114,100,95,99,111,110,116,114,111,108,95,115,101,110,115,111,114,115,95,101,110,97,98,108,101,100]⟩,⟨#[111,110,98,111,97,114,100,95,99,111,110,116,114,111,108,95,115,101,110,115,111,114,115,95,104,101,97,108,116,104]⟩]
def bmw:List ByteArray:=[⟨#[108,111,97,100]⟩,⟨#[118,111,108,116,97,103,101,95,98,97,116,116,101,114,121]⟩]
def bmx:List ByteArray:=[⟨#[99,117,114,114,101,110,116,95,98,97,116,116,101,114,121]⟩]
def bmy:List ByteArray:=[⟨#[98,97,116,116,101,114,121,95,114,101,109,97,105,110,105,110,103]⟩]
def bmz:List ByteArray:=[⟨#[100,114,111,112,95,114,97,116,101,95,99,111,109,109]⟩,⟨#[101,114,114,111,114,115,95,99,111,109,109]⟩,⟨#[101,114,114,111,114,115,95,99,111,117,110,116,49]⟩,⟨#[101,114,114,111,114,115,95,99,111,117,110,116,50]⟩,⟨#[101,114,114,111,114,115,95,99,111,117,110,116,51]⟩,⟨#[101,114,114,111,114,115,95,99,111,117,110,116,52]⟩]
def bd2:TFm:=(⟨#[83,89,83,95,83,84,65,84,85,83]⟩,(zi 4 false bmv) ++(zi 2 false bmw) ++(zi 2 true bmx) ++(zi 1 true bmy) ++(zi 2 false bmz))
def bm0:List ByteArray:=[⟨#[116,105,109,101,95,117,110,105,120,95,117,115,101,99]⟩]
def bm1:List ByteArray:=[⟨#[116,105,109,101,95,98,111,111,116,95,109,115]⟩]
def bd3:TFm:=(⟨#[83,89,83,84,69,77,95,84,73,77,69]⟩,(zi 8 false bm0) ++(zi 4 false bm1))
def bm2:List ByteArray:=[⟨#[116,105,109,101,95,117,115,101,99]⟩]
def bm3:List ByteArray:=[⟨#[115,101,113]⟩]
def bm4:List ByteArray:=[⟨#[116,97,114,103,101,116,95,115,121,115,116,101,109]⟩,⟨#[116,97,114,103,101,116,95,99,111,109,112,111,110,101,110,116]⟩]
def bd4:TFm:=(⟨#[80,73,78,71]⟩,(zi 8 false bm2) ++(zi 4 false bm3) ++(zi 1 false bm4))
def beh:List ByteArray:=[⟨#[116,99,49]⟩,⟨#[116,115,49]⟩]
def ave:TFm:=(⟨#[84,73,77,69,83,89,78,67]⟩,zi 8 true beh)
def bei:List ByteArray:=[⟨#[86,99,99]⟩,⟨#[86,115,101,114,118,111]⟩,⟨#[102,108,97,103,115]⟩]
def avf:TFm:=(⟨#[80,79,87,69,82,95,83,84,65,84,85,83]⟩,zi 2 false bei)
def agn (i:Int):TFm:=if i=0 then bd1 else if i=1 then bd2 else if i=2 then bd3 else if i=4 then bd4 else if i=111 then ave else if i=125 then avf else noF
def bjs:List ByteArray:=[⟨#[116,105,109,101,95,117,115,101,99]⟩]
def bjt:List ByteArray:=[⟨#[102,105,120,95,116,121,112,101]⟩]
def bju:List ByteArray:=[⟨#[108,97,116]⟩,⟨#[108,111,110]⟩,⟨#[97,108,116]⟩]
def bjv:List ByteArray:=[⟨#[101,112,104]⟩,⟨#[101,112,118]⟩,⟨#[118,101,108]⟩,⟨#[99,111,103]⟩]
def bjw:List ByteArray:=[⟨#[115,97,116,101,108,108,105,116,101,115,95,118,105,115,105,98,108,101]⟩]
def a4c:TFm:=(⟨#[71,80,83,95,82,65,87,95,73,78,84]⟩,(zi 8 false bjs) ++(zi 1 false bjt) ++(zi 4 true bju) ++(zi 2 false bjv) ++(zi 1 false bjw))
def bjx:List ByteArray:=[⟨#[115,97,116,101,108,108,105,116,101,115,95,118,105,115,105,98,108,101]⟩]
def bjy:List ByteArray:=[⟨#[115,97,116,101,108,108,105,116,101,95,112,114,110]⟩,⟨#[115,97,116,101,108,108,105,116,101,95,117,115,101,100]⟩,⟨#[115,97,116,101,108,108,105,116,101,95,101,108,101,118,97,116,105,111,110]⟩,⟨#[115,97,116,101,108,108,105,116,101,95,97,122,105,109,117,116,104]⟩,⟨#[115,97,116,101,108,108,105,116,101,95,115,110,114]⟩]
def a4d:TFm:=(⟨#[71,80,83,95,83,84,65,84,85,83]⟩,(zi 1 false bjx) ++(aiw 20 bjy))
def bjz:List ByteArray:=[⟨#[116,105,109,101,95,98,111,111,116,95,109,115]⟩]
def a4e:TFm:=(⟨#[83,67,65,76,69,68,95,73,77,85]⟩,(zi 4 false bjz) ++(zi 2 true ae2))
def bj0:List ByteArray:=[⟨#[116,105,109,101,95,117,115,101,99]⟩]
def a4f:TFm:=(⟨#[82,65,87,95,73,77,85]⟩,(zi 8 false bj0) ++(zi 2 true ae2))
def bj1:List ByteArray:=[⟨#[116,105,109,101,95,117,115,101,99]⟩]
def bj2:List ByteArray:=[⟨#[112,114,101,115,115,95,97,98,115]⟩,⟨#[112,114,101,115,115,95,100,105,102,102,49]⟩,⟨#[112,114,101,115,115,95,100,105,102,102,50]⟩,⟨#[116,101,109,112,101,114,97,116,117,114,101]⟩]
def a4g:TFm:=(⟨#[82,65,87,95,80,82,69,83,83,85,82,69]⟩,(zi 8 false bj1) ++(zi 2 true bj2))
def bj3:List ByteArray:=[⟨#[116,105,109,101,95,98,111,111,116,95,109,115]⟩]
def bj4:List ByteArray:=[⟨#[108,97,116]⟩,⟨#[108,111,110]⟩,⟨#[97,108,116]⟩,⟨#[114,101,108,97,116,105,118,101,95,97,108,116]⟩]
def bj5:List ByteArray:=[⟨#[118,120]⟩,⟨#[118,121]⟩,⟨#[118,122]⟩]
def bj6:List ByteArray:=[⟨#[104,100,103]⟩]
def a4h:TFm:=(⟨#[71,76,79,66,65,76,95,80,79,83,73,84,73,79,78,95,73,78,84]⟩,(zi 4 false bj3) ++(zi 4 true bj4) ++(zi 2 true bj5) ++(zi 2 false bj6))
def adj (i:Int):TFm:=if i=24 then a4c else if i=25 then a4d else if i=26 then a4e else if i=27 then a4f else if i=28 then a4g else if i=33 then a4h else noF
def bj7:List ByteArray:=[⟨#[116,105,109,101,95,98,111,111,116,95,109,115]⟩]
def bj8:List ByteArray:=[⟨#[112,111,114,116]⟩]
def bj9:List ByteArray:=[⟨#[99,104,97,110,49,95,114,97,119]⟩,⟨#[99,104,97,110,50,95,114,97,119]⟩,⟨#[99,104,97,110,51,95,114,97,119]⟩,⟨#[99,104,97,110,52,95,114,97,119]⟩,⟨#[99,104,97,110,53,95,114,97,119]⟩,⟨#[99,104,97,110,54,95,114,97,119]⟩,⟨#[99,104,97,110,55,95,114,97,119]⟩,⟨#[99,104,97,110,56,95,114,97,119]⟩]
def bka:List ByteArray:=[⟨#[114,115,115,105]⟩]
def a4i:TFm:=(⟨#[82,67,95,67,72,65,78,78,69,76,83,95,82,65,87]⟩,(zi 4 false bj7) ++(zi 1 false bj8) ++(zi 2 false bj9) ++(zi 1 false bka))
def bkb:List ByteArray:=[⟨#[116,105,109,101,95,117,115,101,99]⟩]
def bkc:List ByteArray:=[⟨#[112,111,114,116]⟩]
def bkd:List ByteArray:=[⟨#[115,101,114,118,111,49,95,114,97,119]⟩,⟨#[115,101,114,118,111,50,95,114,97,119]⟩,⟨#[115,101,114,118,111,51,95,114,97,119]⟩,⟨#[115,101,114,118,111,52,95,114,97,119]⟩,⟨#[115,101,114,118,111,53,95,114,97,119]⟩,⟨#[115,101,114,118,111,54,95,114,97,119]⟩,⟨#[115,101,114,118,111,55,95,114,97,119]⟩,⟨#[115,101,114,118,111,56,95,114,97,119]⟩]
def a4j:TFm:=(⟨#[83,69,82,86,79,95,79,85,84,80,85,84,95,82,65,87]⟩,(zi 4 false bkb) ++(zi 1 false bkc) ++(zi 2 false bkd))
def bke:List ByteArray:=[⟨#[115,101,113]⟩]
def a4k:TFm:=(⟨#[77,73,83,83,73,79,78,95,67,85,82,82,69,78,84]⟩,zi 2 false bke)
def bkf:List ByteArray:=[⟨#[116,97,114,103,101,116,95,115,121,115,116,101,109]⟩,⟨#[116,97,114,103,101,116,95,99,111,109,112,111,110,101,110,116]⟩]
def bkg:List ByteArray:=[⟨#[99,111,117,110,116]⟩]
def a4l:TFm:=(⟨#[77,73,83,83,73,79,78,95,67,79,85,78,84]⟩,(zi 1 false bkf) ++(zi 2 false bkg))
def bkh:List ByteArray:=[⟨#[116,97,114,103,101,116,95,115,121,115,116,101,109]⟩,⟨#[116,97,114,103,101,116,95,99,111,109,112,111,110,101,110,116]⟩,⟨#[116,121,112,101]⟩]
def a4m:TFm:=(⟨#[77,73,83,83,73,79,78,95,65,67,75]⟩,zi 1 false bkh)
def bki:List ByteArray:=[⟨#[116,97,114,103,101,116,95,115,121,115,116,101,109]⟩,⟨#[116,97,114,103,101,116,95,99,111,109,112,111,110,101,110,116]⟩,⟨#[114,101,113,95,115,116,114,101,97,109,95,105,100]⟩]
def bkj:List ByteArray:=[⟨#[114,101,113,95,109,101,115,115,97,103,101,95,114,97,116,101]⟩]
def bkk:List ByteArray:=[⟨#[115,116,97,114,116,95,115,116,111,112]⟩]
def a4n:TFm:=(⟨#[82,69,81,85,69,83,84,95,68,65,84,65,95,83,84,82,69,65,77]⟩,(zi 1 false bki) ++(zi 2 false bkj) ++(zi 1 false bkk))
def bkl:List ByteArray:=[⟨#[99,111,109,109,97,110,100]⟩]
def bkm:List ByteArray:=[⟨#[114,101,115,117,108,116]⟩]
def a4o:TFm:=(⟨#[67,79,77,77,65,78,68,95,65,67,75]⟩,(zi 2 false bkl) ++(zi 1 false bkm))
def afz (i:Int):TFm:=if i=35 then a4i else if i=36 then a4j else if i=42 then a4k else if i=44 then a4l else if i=47 then a4m else if i=66 then a4n else if i=77 then a4o else noF
def bej:List ByteArray:=[⟨#[116,105,109,101,95,98,111,111,116,95,109,115]⟩,⟨#[113,117,97,116,101,114,110,105,111,110]⟩]
def bek:List ByteArray:=[⟨#[120,103,121,114,111]⟩,⟨#[121,103,121,114,111]⟩,⟨#[122,103,121,114,111]⟩]
def avg:TFm:=(⟨#[65,84,84,73,84,85,68,69,95,87,79,82,68]⟩,(zi 4 false bej) ++(zi 2 true bek))
def bem:List ByteArray:=[⟨#[116,105,109,101,95,98,111,111,116,95,109,115]⟩]
def ben:List ByteArray:=[⟨#[120,98,105,97,115]⟩,⟨#[121,98,105,97,115]⟩,⟨#[122,98,105,97,115]⟩]
def beo:List ByteArray:=[⟨#[115,116,101,112,115]⟩]
def bep:List ByteArray:=[⟨#[99,117,116,115]⟩]
def avh:TFm:=(⟨#[70,73,76,84,69,82,95,83,84,65,84,69]⟩,(zi 4 false bem) ++(zi 4 true ben) ++(zi 4 false beo) ++(zi 2 false bep))
def beq:List ByteArray:=[⟨#[110,117,109,98,101,114]⟩]
def ber:List ByteArray:=[⟨#[112,97,114,116]⟩]
def bes:List ByteArray:=[⟨#[98,121,116,101,115]⟩]
def avi:TFm:=(⟨#[76,79,71,95,66,76,79,67,75]⟩,(zi 4 false beq) ++(zi 1 false ber) ++(aiw 64 bes))
def av0 (i:Int):TFm:=if i=200 then avg else if i=201 then avh else if i=202 then avi else noF
def xe (i:Int):TFm:=if(agn i).1≠ByteArray.empty then agn i else if(adj i).1≠ByteArray.empty then adj i else if(afz i).1≠ByteArray.empty then afz i else if(av0 i).1≠ByteArray.empty then av0 i else noF
def km {α:Type} (ahead:α→α→Bool):List α→α→List α
 | [],x=>[x]
 | y::r,x=>if ahead x y then y::km ahead r x else x::y::r
def agy {α:Type} (ahead:α→α→Bool) (l:List α):List α:=(l.foldl (km ahead) []).reverse
theorem az9 {α:Type} (ahead:α→α→Bool):∀(r:List α) (x:α),(km ahead r x).length=r.length+1
 | [],x=>rfl
 | y::r,x=>by unfold km;split<;>simp[az9 ahead r x]
theorem al1 {α:Type} (ahead:α→α→Bool):∀(l r:List α),(l.foldl (km ahead) r).length=r.length+l.length
 | [],r=>rfl
 | x::l,r=>by rw[b26,al1 ahead l,az9,n7];omega
theorem at9 {α:Type} (ahead:α→α→Bool) (l:List α):(agy ahead l).length=l.length:=by
 unfold agy;rw[b29,al1];simp
theorem atl {α:Type} (ahead:α→α→Bool):∀(r:List α) (x:α),(km ahead r x).Perm (x::r)
 | [],x=>List.Perm.refl _
 | y::r,x=>by
  unfold km;split
  ·exact((atl ahead r x).cons y).trans (List.Perm.swap x y r)
  ·exact List.Perm.refl _
theorem apz {α:Type} (ahead:α→α→Bool):∀(l r:List α),(l.foldl (km ahead) r).Perm (r++l)
 | [],r=>by rw[b0k];exact List.Perm.refl _
 | x::l,r=>by
  rw[b26];refine(apz ahead l _).trans (((atl ahead r x).append_right l).trans ?_);exact List.perm_middle.symm
theorem agj {α:Type} (ahead:α→α→Bool) (l:List α):(agy ahead l).Perm l:=by
 unfold agy;exact(List.reverse_perm _).trans (apz ahead l [])
def aak (p:Prt):Nat:=if p.mn=0 then 1 else p.mn
def ym (l:List Prt):Nat:=(l.map fun p=>p.sz*aak p).sum
def kz (l:List Prt):Nat:=(l.map aak).sum
structure Slt where
 sz:Nat
 sg:Bool
 ix:Nat
def yv (s:Slt):List Value:=[.int .i64 s.sz,.bool s.sg,.int .i64 s.ix]
def zr (l:List Slt):List Value:=l.flatMap yv
theorem ain (l:List Slt):(zr l).length=l.length*3:=ate yv 3 (fun _=>rfl) l
def aal:List Prt→Nat→List Slt
 | [],_=>[]
 | p::l,n=>(List.range (aak p)).map (fun k=>⟨p.sz,p.sg,n+k⟩)++aal l (n+aak p)
def aeg (l:List Prt):List Slt:=agy (fun a b=>decide (b.sz<a.sz)) (aal l 0)
def afq (l:List Prt):List Prt:=agy (fun a b=>decide (b.sz<a.sz)) l
def acc (l:List Prt):List Fld:=(aeg l).map fun s=>afy s.sz s.sg
def yr:List Slt→List Int→List Int→List Int
 | s::l,x::v,out=>yr l v (out.set s.ix x)
 | _,_,out=>out
theorem aqh:(prog.info? 261).map (fun i=>(i.zero,i.size,i.bytes))=some (some (.agg #[.string ByteArray.empty,.int .i64 0,.bool false,.int .i64 0]),4,40):=by kernel_rfl
theorem bb3 {l:List ByteArray} {k:Nat} (h:k<l.length):(aam l)[k]?=some (.string (l[k]'h)):=by
 unfold aam;rw[b0m,c8 h];rfl
def abx (l:List Prt) (w:World) (e:Ending) (w':World):Prop:=∃v,e=.returned v∧aax w 261 4 v l.length (q7 l) w'
theorem ye {Q:Nat→Prop} {w:World} (n:Nat) (s:Bool) (A:Option Addr) (l:List ByteArray) (c:Nat) (h:qf Q w A (aam l)) (hm:l.length≤1000) :
 Calls prog 214 #[.int .i64 n,.bool s,.slice A l.length c] w (abx (zi n s l) w):=by
 replace h:=h.lt;have HI:=hid h;have HE:Hid (zi n s (l.take l.length)=zi n s l ∧(zi n s l).length=l.length):=hid ⟨by rw[b0o],by simp[zi]⟩;obtain⟨i0,hi,hz0,hz1,hz2⟩:=kj aqh;have HIN:=hid (o4 hi (o4 hz0 (o4 hz1 hz2)));clear hi hz0 hz1 hz2;generalize hL:l.length=m at *;have HL:=hid hL;clear hL h;unfold abx;rw[HE.out.2];go_enter func214,ntmps214;go_wp2_with fail
 go_loopg [7,12] m (fun g s7 s12 wr=>∃k:Nat,k≤m∧m-k≤g∧s12=.int .i64 k∧Hid (aax w 261 4 s7 k (q7 (zi n s (l.take k))) wr))
 case atStart=>exact⟨0,by omega,by omega,rfl,aax.nil _ _ _ (n6 _ _)⟩
 case round=>
  rename_i s7;obtain⟨k,hk,hg,rfl,HO⟩:=hrel
  by_cases hlt:k<m
  ·have hkl:k<l.length:=by rw[HL.out];exact hlt
   obtain⟨b',o',rfl,hq,hc⟩:=HI.out k _ (bb3 hkl);have HSN:Hid (q7 (zi n s (l.take (k+1)))=q7 (zi n s (l.take k))++q7 (zi n s [l[k]])):=hid (by rw[o5 hkl,← adr];unfold zi;rw[b1y]);have hc':wr.cell? ⟨b',o'+k,none⟩=some (.string l[k]):=(HO.out.2.cell (p:=⟨b',o'+k,none⟩) hq.2).trans hc;clear hc;generalize l[k]=x at *;have i1:(k:Int)<m:=by omega
   have i2:(0:Int) ≤(k:Int):=n8 _;obtain⟨A1,c1,hs1,-,-⟩:=HO.out.flat;subst hs1;obtain⟨v',w3,hrun,ho⟩:=aax.app (P:=prog) (t:=198) (ty:=198) (HO.out.on (qa wr (.cells #[.string x,.int .i64 n,.bool s,.int .i64 0] 261))) HIN.out underlying198 rfl dc (R:=fun _=>True) (some ⟨wr.1.size,0,none⟩) 1 1 [.string x,.int .i64 n,.bool s,.int .i64 0] rfl ((Blk.newL (qg wr _ _) rfl).flat trivial) (a0o ⟨x,n,s,0⟩) (by unfold maxLen;omega) om;have HRUN:=hid hrun;have HO3:Hid (aax w 261 4 v' (k+1) (q7 (zi n s (l.take (k+1)))) w3):=hid (by rw[HSN.out];exact ho);clear hrun ho;go_wp2_with (at_builtin;refine qw rfl _ _ 198 rfl _ _ _ rfl rfl HRUN.out ?_)
   go_roundg (m-(k+1))
   case measure=>omega
   case rel=>exact⟨k+1,by omega,by omega,by go_num,HO3⟩
  ·obtain rfl:k=m:=by omega
   have HO2:=hid HO.out;rw[HE.out.1]at HO2;clear HO;obtain⟨A1,c1,hs1,-,-⟩:=HO2.out.flat;subst hs1;go_wp2_with fail;go_ret;exact⟨_,rfl,HO2.out⟩
theorem at5 {Q:Nat→Prop} {w:World} (A:Option Addr) (l:List ByteArray) (c:Nat) (h:qf Q w A (aam l)) (hm:l.length≤1000) :
 Calls prog 187 #[.slice A l.length c] w (abx (zi 1 false l) w):=by
 have HP:=hid (ye 1 false A l c h hm);generalize l.length=m at *;clear h;go_enter func187,ntmps187;go_wp2_with fail;refine(HP.out).mono ?_;rintro e w1 ⟨v,rfl,ho⟩;have HO:=hid ho;obtain⟨A1,c1,hs1,-,-⟩:=ho.flat;subst hs1;clear ho;go_wp2_with fail;go_ret;exact⟨_,rfl,HO.out⟩
theorem a6c {Q:Nat→Prop} {w:World} (A:Option Addr) (l:List ByteArray) (c:Nat) (h:qf Q w A (aam l)) (hm:l.length≤1000) :
 Calls prog 189 #[.slice A l.length c] w (abx (zi 2 false l) w):=by
 have HP:=hid (ye 2 false A l c h hm);generalize l.length=m at *;clear h;go_enter func189,ntmps189;go_wp2_with fail;refine(HP.out).mono ?_;rintro e w1 ⟨v,rfl,ho⟩;have HO:=hid ho;obtain⟨A1,c1,hs1,-,-⟩:=ho.flat;subst hs1;clear ho;go_wp2_with fail;go_ret;exact⟨_,rfl,HO.out⟩
theorem a6d {Q:Nat→Prop} {w:World} (A:Option Addr) (l:List ByteArray) (c:Nat) (h:qf Q w A (aam l)) (hm:l.length≤1000) :
 Calls prog 188 #[.slice A l.length c] w (abx (zi 4 false l) w):=by
 have HP:=hid (ye 4 false A l c h hm);generalize l.length=m at *;clear h;go_enter func188,ntmps188;go_wp2_with fail;refine(HP.out).mono ?_;rintro e w1 ⟨v,rfl,ho⟩;have HO:=hid ho;obtain⟨A1,c1,hs1,-,-⟩:=ho.flat;subst hs1;clear ho;go_wp2_with fail;go_ret;exact⟨_,rfl,HO.out⟩
theorem a6e {Q:Nat→Prop} {w:World} (A:Option Addr) (l:List ByteArray) (c:Nat) (h:qf Q w A (aam l)) (hm:l.length≤1000) :
 Calls prog 192 #[.slice A l.length c] w (abx (zi 8 false l) w):=by
 have HP:=hid (ye 8 false A l c h hm);generalize l.length=m at *;clear h;go_enter func192,ntmps192;go_wp2_with fail;refine(HP.out).mono ?_;rintro e w1 ⟨v,rfl,ho⟩;have HO:=hid ho;obtain⟨A1,c1,hs1,-,-⟩:=ho.flat;subst hs1;clear ho;go_wp2_with fail;go_ret;exact⟨_,rfl,HO.out⟩
theorem bbd {Q:Nat→Prop} {w:World} (A:Option Addr) (l:List ByteArray) (c:Nat) (h:qf Q w A (aam l)) (hm:l.length≤1000) :
 Calls prog 191 #[.slice A l.length c] w (abx (zi 1 true l) w):=by
 have HP:=hid (ye 1 true A l c h hm);generalize l.length=m at *;clear h;go_enter func191,ntmps191;go_wp2_with fail;refine(HP.out).mono ?_;rintro e w1 ⟨v,rfl,ho⟩;have HO:=hid ho;obtain⟨A1,c1,hs1,-,-⟩:=ho.flat;subst hs1;clear ho;go_wp2_with fail;go_ret;exact⟨_,rfl,HO.out⟩
theorem aqz {Q:Nat→Prop} {w:World} (A:Option Addr) (l:List ByteArray) (c:Nat) (h:qf Q w A (aam l)) (hm:l.length≤1000) :
 Calls prog 190 #[.slice A l.length c] w (abx (zi 2 true l) w):=by
 have HP:=hid (ye 2 true A l c h hm);generalize l.length=m at *;clear h;go_enter func190,ntmps190;go_wp2_with fail;refine(HP.out).mono ?_;rintro e w1 ⟨v,rfl,ho⟩;have HO:=hid ho;obtain⟨A1,c1,hs1,-,-⟩:=ho.flat;subst hs1;clear ho;go_wp2_with fail;go_ret;exact⟨_,rfl,HO.out⟩
theorem a52 {Q:Nat→Prop} {w:World} (A:Option Addr) (l:List ByteArray) (c:Nat) (h:qf Q w A (aam l)) (hm:l.length≤1000) :
 Calls prog 194 #[.slice A l.length c] w (abx (zi 4 true l) w):=by
 have HP:=hid (ye 4 true A l c h hm);generalize l.length=m at *;clear h;go_enter func194,ntmps194;go_wp2_with fail;refine(HP.out).mono ?_;rintro e w1 ⟨v,rfl,ho⟩;have HO:=hid ho;obtain⟨A1,c1,hs1,-,-⟩:=ho.flat;subst hs1;clear ho;go_wp2_with fail;go_ret;exact⟨_,rfl,HO.out⟩
theorem a53 {Q:Nat→Prop} {w:World} (A:Option Addr) (l:List ByteArray) (c:Nat) (h:qf Q w A (aam l)) (hm:l.length≤1000) :
 Calls prog 193 #[.slice A l.length c] w (abx (zi 8 true l) w):=by
 have HP:=hid (ye 8 true A l c h hm);generalize l.length=m at *;clear h;go_enter func193,ntmps193;go_wp2_with fail;refine(HP.out).mono ?_;rintro e w1 ⟨v,rfl,ho⟩;have HO:=hid ho;obtain⟨A1,c1,hs1,-,-⟩:=ho.flat;subst hs1;clear ho;go_wp2_with fail;go_ret;exact⟨_,rfl,HO.out⟩
def ag0 (m k:Nat) (l:List ByteArray):List Prt:=aiw m (l.take k)++zi 1 false (l.drop k)
theorem bae (m k:Nat) (l:List ByteArray) (h:k<l.length):q7 (ag0 m (k+1) l)=(q7 (ag0 m k l)).set (k*4+3) (.int .i64 m):=by
 have e1:ag0 m k l=aiw m (l.take k) ++([⟨l[k],1,false,0⟩]++zi 1 false (l.drop (k+1))):=by unfold ag0;rw[b0n h];rfl
 have e2:ag0 m (k+1) l=aiw m (l.take k) ++([⟨l[k],1,false,m⟩]++zi 1 false (l.drop (k+1))):=by unfold ag0;rw[o5 h];unfold aiw;rw[b1y,b0l];rfl
 have hl:(q7 (aiw m (l.take k))).length=k*4:=by rw[ads];simp[aiw];omega
 rw[e1,e2,adr,adr,adr,adr,List.set_append_right _ _ om,hl,show k*4+3-k*4=3 from by omega];rfl
theorem bee (m:Nat) (l:List ByteArray):ag0 m l.length l=aiw m l:=by simp[ag0,zi]
theorem aws {Q:Nat→Prop} {w:World} (m:Nat) (A:Option Addr) (l:List ByteArray) (c:Nat) (h:qf Q w A (aam l)) (hm:l.length≤1000) :
 Calls prog 195 #[.int .i64 m,.slice A l.length c] w (abx (aiw m l) w):=by
 have HP:=hid (at5 (w:=w) A l c h hm);have HE:Hid (ag0 m 0 l=zi 1 false l ∧(zi 1 false l).length=l.length∧ag0 m l.length l=aiw m l ∧(aiw m l).length=l.length):=hid ⟨by simp[ag0,aiw],by simp[zi],bee m l,by simp[aiw]⟩;have HS:Hid (∀k,k<l.length→q7 (ag0 m (k+1) l)=(q7 (ag0 m k l)).set (k*4+3) (.int .i64 m)):=hid (bae m · l);generalize l.length=n at *;unfold abx at *;rw[HE.out.2.1]at HP;rw[HE.out.2.2.2];clear h;go_enter func195,ntmps195;go_wp2_with fail;refine(HP.out).mono ?_;rintro e w1 ⟨v,rfl,ho⟩;have HO1:Hid (aax w 261 4 v n (q7 (ag0 m 0 l)) w1):=hid (by rw[HE.out.1];exact ho);clear ho HP;obtain⟨A1,c1,hs1,-,-⟩:=HO1.out.flat;subst hs1;go_wp2_with fail
 go_loopg [11] n (fun g s11 wr=>∃k:Nat,k≤n∧n-k≤g∧s11=.int .i64 k∧Hid (aax w 261 4 (.slice A1 n c1) n (q7 (ag0 m k l)) wr))
 case atStart=>exact⟨0,by omega,by omega,rfl,HO1⟩
 case round=>
  obtain⟨k,hk,hg,rfl,HO⟩:=hrel
  by_cases hlt:k<n
  ·have i1:(k:Int)<n:=by omega
   have i2:(0:Int) ≤(k:Int):=n8 _
   obtain⟨g',rfl⟩:∃g',A1=some ⟨g',0,none⟩:=by
    rcases HO.out.1.2 with⟨q,q2⟩|⟨g',cap,cur,q,-⟩
    ·omega
    ·injection q with q;exact⟨g',q⟩
   have hlv:(q7 (ag0 m k l)).length=n*4:=HO.out.1.1;have hc:wr.cell? ⟨g',k*4+3,none⟩=some ((q7 (ag0 m k l))[k*4+3]'(by omega)):=(HO.out.1.cellAt (k*4+3) om).trans (c8 om);have hz:=HO.out.1.frozenAt (k*4+3)
   have HO3:Hid (aax w 261 4 (.slice (some ⟨g',0,none⟩) n c1) n (q7 (ag0 m (k+1) l)) (wr.setCell ⟨g',k*4+3,none⟩ (.int .i64 m))):=hid (by
    rw[HS.out k hlt];exact⟨(HO.out.1.stored (k*4+3) _).1,b0h (p:=⟨g',k*4+3,none⟩) HO.out.2 (HO.out.1.lt g' rfl).1 _⟩)
   go_wp2_with fail
   go_roundg (n-(k+1))
   case measure=>omega
   case rel=>exact⟨k+1,by omega,by omega,by go_num,HO3⟩
  ·obtain rfl:k=n:=by omega
   have HO2:=hid HO.out;rw[HE.out.2.2.1]at HO2;clear HO;go_wp2_with fail;go_ret;exact⟨_,rfl,HO2.out⟩
def xy (f:TFm) (w:World) (e:Ending) (w':World):Prop:=∃A c,e=.returned (.agg #[.string f.1,.slice A f.2.length c])∧qf (fun b=>w.1.size≤b∧b<w'.1.size) w' A (q7 f.2)∧Below w.1.size w w'
def bjo (w:World) (vs:List Value) (rows:List (List Prt)):Prop:=vs.length=rows.length∧∀i (h:i<rows.length),∃A c,vs[i]?=some (.slice A (rows[i]'h).length c)∧qf (fun b=>b<w.1.size) w A (q7 (rows[i]'h))
theorem ali {w1 w:World} {b B:Nat} {x y:Value} (hk:Blk w1 b [x,y]) (p q:Value) (hb:Below B w w1) (hB:B≤b) :
 (loadVar 200 ⟨b,0,none⟩).run prog ((w1.setCell ⟨b,0,none⟩ p).setCell ⟨b,1,none⟩ q)=.ok (.agg #[p,q]) ((w1.setCell ⟨b,0,none⟩ p).setCell ⟨b,1,none⟩ q)∧Below B w ((w1.setCell ⟨b,0,none⟩ p).setCell ⟨b,1,none⟩ q) ∧((∀k,k≠b →((w1.setCell ⟨b,0,none⟩ p).setCell ⟨b,1,none⟩ q).heap[k]?=w1.heap[k]?) ∧((w1.setCell ⟨b,0,none⟩ p).setCell ⟨b,1,none⟩ q).1.size=w1.1.size):=by
 have hs:qp w1 ((w1.setCell ⟨b,0,none⟩ p).setCell ⟨b,1,none⟩ q) b 0 [p,q]:=qo (cs:=[p,q]) (hk.there 0 2 (a8 _));exact⟨t6 (P:=prog) _ b 0 200 [p,q] _ (hk.all hs rfl).rg underlying200 rfl kr,hb.trans (hs.below hB),hs.far,hs.sz⟩
theorem asr (rows:List (List Prt)) (hr:∀r∈rows,r.length≤100):∀k,(rows.take k).flatten.length≤k*100:=by
 intro k
 induction rows generalizing k with
 | nil=>simp
 | cons r rows ih=>
  cases k with
  | zero=>simp
  | succ k=>
   have h1:=hr r (b1s ..);have h2:=ih (fun x hx=>hr x (b1w _ hx)) k;rw[b28,b30,d7];omega
theorem bbe {Q:Nat→Prop} {w:World} (nm:ByteArray) (A:Option Addr) (c:Nat) (vs:List Value) (rows:List (List Prt)) (h:qf Q w A vs) (hv:bjo w vs rows) (hm:rows.length≤10) (hr:∀r∈rows,r.length≤100) :
 Calls prog 186 #[.string nm,.slice A rows.length c] w (xy (nm,rows.flatten) w):=by
 have HI:=hid (o4 h.lt hv.2);have HL:=hid (asr rows hr);obtain⟨i0,hi,hz0,hz1,hz2⟩:=kj aqh;have HIN:=hid (o4 hi (o4 hz0 (o4 hz1 hz2)));have HLR:=hid hr;have HE:Hid (rows.take rows.length=rows):=hid (by rw[b0o]);clear hi hz0 hz1 hz2 h hv hr;obtain⟨n,hn⟩:∃n,rows.length=n:=⟨_,rfl⟩;rw[hn]at hm HE ⊢;have HN:=hid hn;clear hn;unfold xy;dsimp only;go_enter func186,ntmps186;go_upto_region 2 with fail;have HR:Hid (Blk ((w.alloc (.cells #[.string ⟨#[]⟩,.slice none 0 0] 200)).alloc (.cells #[.string nm,.slice none 0 0] 200)) w.1.size [.string ⟨#[]⟩,.slice none 0 0]):=hid ((Blk.newL (qg w _ _) rfl).on (qa _ _))
 have HF:Hid (Blk ((w.alloc (.cells #[.string ⟨#[]⟩,.slice none 0 0] 200)).alloc (.cells #[.string nm,.slice none 0 0] 200)) (w.1.size+1) [.string nm,.slice none 0 0]):=hid (by
  have q:=Blk.newL (qg (w.alloc (.cells #[.string ⟨#[]⟩,.slice none 0 0] 200)) #[.string nm,.slice none 0 0] 200) (L:=[.string nm,.slice none 0 0]) rfl
  rwa [show (w.alloc (.cells #[.string ⟨#[]⟩,.slice none 0 0] 200)).1.size=w.1.size+1 from Array.size_push _]at q)
 have HB:Hid (Below w.1.size w ((w.alloc (.cells #[.string ⟨#[]⟩,.slice none 0 0] 200)).alloc (.cells #[.string nm,.slice none 0 0] 200))):=hid (qb (qa _ _) (qa _ _));have HG:Hid (w.1.size<w.1.size+1):=hid (b38 _);generalize (w.alloc (.cells #[.string ⟨#[]⟩,.slice none 0 0] 200)).alloc (.cells #[.string nm,.slice none 0 0] 200)=W1 at *;go_wp2_with fail
 go_loopg [12] n (fun g s12 wr=>∃k:Nat,k≤n∧n-k≤g∧s12=.int .i64 k∧Hid (∃v K,K=(rows.take k).flatten.length∧Blk wr (w.1.size+1) [.string nm,v]∧wr.ownsRow (w.1.size+2) 261 4 v K (q7 (rows.take k).flatten))∧Hid (Blk wr w.1.size [.string ⟨#[]⟩,.slice none 0 0])∧Hid (Below w.1.size w wr))
 case atStart=>exact⟨0,by omega,by omega,rfl,⟨_,0,rfl,HF.out,b2q _ _ _ _⟩,HR.out,HB.out⟩
 case round=>
  obtain⟨k,hk,hg,rfl,HV,HR2,HB2⟩:=hrel;clear HR HF HB;obtain⟨v,K,HK,hf,ho⟩:=HV.out;have HK1:=hid HK;have HF2:=hid hf;have HO2:=hid ho;clear HV HK
  by_cases hlt:k<n
  ·have hkl:k<rows.length:=by rw[HN.out];exact hlt
   obtain⟨Ai,ci,hvk,hfi⟩:=HI.out.2 k hkl;obtain⟨b',o',rfl,hq,hc⟩:=HI.out.1 k _ hvk;have HSN:Hid ((rows.take (k+1)).flatten=(rows.take k).flatten++rows[k]):=hid (by rw[o5 hkl,b3a];simp);have HLR1:=hid (HLR.out rows[k] (b1c hkl));have hLk:=HL.out k;rw[← HK1.out]at hLk;have hc':wr.cell? ⟨b',o'+k,none⟩=some (.slice Ai rows[k].length ci):=(HB2.out.cell (p:=⟨b',o'+k,none⟩) hq.2).trans hc;have hfi':=hfi.below HB2.out (fun _ q=>q);have c1:=HF2.out.cell 1 (v:=v) rfl;have z1:=HF2.out.fz 1;clear hc hfi hvk;generalize rows[k]=x at *;have i1:(k:Int)<n:=by omega
   have i2:(0:Int) ≤(k:Int):=n8 _;have hxl:=HLR1.out;have hFs:=HF2.out.lt;obtain⟨v',w3,hrun,ho3,hb3⟩:=aih (P:=prog) (t:=198) (ty:=198) HO2.out om HIN.out underlying198 rfl dc Ai x.length ci (q7 x) (ads x) hfi' (aty x) (by unfold maxLen;omega) om;obtain⟨A1,c1',hs1,-,-⟩:=xx HO2.out;subst hs1;obtain⟨A3,c3,hs3,-,-⟩:=xx ho3;subst hs3;have HRUN:=hid hrun;have HO3:=hid ho3;have HF3:=hid (HF2.out.below hb3 om);have HR3:=hid (HR2.out.below hb3 (by have:=HG.out;omega));have HB3:=hid (HB2.out.trans (hb3.mono (by have:=HG.out;omega)));have z1':=HF3.out.fz 1;have d1:=HF3.out.cell 1 (v:=.slice A1 K c1') rfl;obtain⟨hf4,hs4⟩:=HF3.out.set (o:=1) sm (.slice A3 (K+x.length) c3);have HF4:Hid (Blk (w3.setCell ⟨w.1.size+1,1,none⟩ (.slice A3 (K+x.length) c3)) (w.1.size+1) [.string nm,.slice A3 (K+x.length) c3]):=hid hf4;have HO4:Hid ((w3.setCell ⟨w.1.size+1,1,none⟩ (.slice A3 (K+x.length) c3)).ownsRow (w.1.size+2) 261 4 (.slice A3 (K+x.length) c3) (K+x.length) (q7 (rows.take (k+1)).flatten)):=hid (by rw[HSN.out,adr];exact ak5 HO3.out (b38 _) _)
   have HR4:=hid (HR3.out.far hs4 (by have:=HG.out;omega));have HB4:=hid (HB3.out.trans (hs4.below (by have:=HG.out;omega)));have HK4:Hid (K+x.length=(rows.take (k+1)).flatten.length):=hid (by rw[HSN.out,d7,HK1.out]);clear hrun ho3 hb3 hf4 hs4 hfi' ho hf HF3 HR3 HB3 HO3;go_wp2_with (at_builtin;refine qw rfl _ _ 198 rfl _ _ _ rfl rfl HRUN.out ?_)
   go_roundg (n-(k+1))
   case measure=>omega
   case rel=>exact⟨k+1,by omega,by omega,by go_num,⟨_,_,HK4.out,HF4.out,HO4.out⟩,HR4,HB4⟩
  ·obtain rfl:k=n:=by omega
   have HKE:=hid (HE.out▸HK1.out:K=rows.flatten.length);rw[HE.out]at HO2;obtain⟨A1,c1',rfl,-,hfl,-⟩:=xx HO2.out;have HFL:=hid hfl;have c0:=HF2.out.cell 0 (v:=.string nm) rfl;have c1:=HF2.out.cell 1 (v:=.slice A1 K c1') rfl;have r0:=HR2.out.cell 0 (v:=.string ⟨#[]⟩) rfl;have r1:=HR2.out.cell 1 (v:=.slice none 0 0) rfl;have z0:=HR2.out.fz 0;have z1:=HR2.out.fz 1;clear hf ho hfl;go_wp2_with fail;obtain⟨q1,q2,q3,q4⟩:=ali HR2.out (.string nm) (.slice A1 K c1') HB2.out (a8 _);refine b9 (v:=.agg #[.string nm,.slice A1 K c1']) (by rw[qm rfl];simp[asAddr,Result.andThen];exact q1) rfl ⟨A1,c1',by rw[HKE.out],?_,q2⟩;refine(HFL.out.keep fun j hj=>q3 j (by have:=HG.out;omega)).less fun j hj=>⟨by have:=HG.out;omega,by rw[q4];exact hj.2⟩
theorem bhz {w w':World} {A:Option Addr} {xs:List Value} (h:qf (fun b=>b<w.1.size) w A xs) (hb:Below w.1.size w w'):qf (fun b=>b<w'.1.size) w' A xs:=(h.below hb fun _ q=>q).less fun _ q=>e9 q hb.size
theorem yl (ns:List ByteArray) {W:World} {C:Array Value} {t:TypeId} (hC:C=(aam ns).toArray):qf (fun _=>True) (W.alloc (.cells C t)) (some ⟨W.1.size,0,none⟩) (aam ns):=
 (Blk.newL (qg W C t) (by rw[hC])).flat trivial
theorem an2 (w:World):Calls prog 196 #[] w (abx (zi 2 true ae2) w):=by
 have HC:∀C,C=(aam ae2).toArray→Hid (Calls prog 190 #[.slice (some ⟨w.1.size,0,none⟩) 9 9] (w.alloc (.cells C 9)) (abx (zi 2 true ae2) (w.alloc (.cells C 9)))):=fun C hC=>hid (aqz (some ⟨w.1.size,0,none⟩) ae2 9 (yl ae2 hC) dc)
 go_enter func196,ntmps196;go_wp2_with fail;refine(HC _ rfl).out.mono ?_;rintro e w1 ⟨v,rfl,ho⟩;have HB:Hid (Below w.1.size w (w.alloc (.cells (aam ae2).toArray 9))):=hid (qa _ _);have HO:Hid (aax w 261 4 v 9 (q7 (zi 2 true ae2)) w1):=hid ⟨ho.1.mono HB.out.size,HB.out.trans (ho.2.mono HB.out.size)⟩;obtain⟨A1,c1,hs1,-,-⟩:=ho.flat;subst hs1;clear ho HC;go_wp2_with fail;go_ret;exact⟨_,rfl,HO.out⟩
def Pk (w W:World) (rows:List (Option Addr×Nat×List Prt)):Prop:=Blk W w.1.size [.string ⟨#[]⟩,.slice none 0 0]∧Below w.1.size w W∧∀x∈rows,qf (fun b=>b<W.1.size) W x.1 (q7 x.2.2)
theorem Pk.start (w:World):Pk w (w.alloc (.cells #[.string ⟨#[]⟩,.slice none 0 0] 200)) []:=⟨Blk.newL (qg w _ _) rfl,qa _ _,fun x hx=>by cases hx⟩
theorem Pk.on {w W W':World} {rows:List (Option Addr×Nat×List Prt)} (h:Pk w W rows) (hb:Below W.1.size W W'):Pk w W' rows:=⟨h.1.on hb,qb h.2.1 hb,fun x hx=>bhz (h.2.2 x hx) hb⟩
theorem ae5 {w W W1:World} {rows:List (Option Addr×Nat×List Prt)} {fn:FuncId} {ar:Array Value} {l:List Prt} {n:Nat} (h:Hid (Pk w W rows)) (hb:Below W.1.size W W1) (hn:l.length=n) (H:Calls prog fn ar W1 (abx l W1)) :
 Calls prog fn ar W1 fun e w'=>∃A c,e=.returned (.slice A n c)∧Hid (Pk w w' (rows++[(A,c,l)])):=by
 refine H.mono ?_;rintro e w' ⟨v,rfl,ho⟩;obtain⟨A,c,rfl,-,hf⟩:=ho.flat;have hp:=h.out.on (hb.trans (ho.2.mono hb.size));refine⟨A,c,by rw[hn],hp.1,hp.2.1,fun x hx=>?_⟩;rcases b1u.1 hx with q|q
 ·exact hp.2.2 x q
 ·rw[b3h.1 q];exact hf.less fun _ r=>r.2
theorem am8 {w W:World} {rows:List (Option Addr×Nat×List Prt)} (h:Hid (Pk w W rows)):Calls prog 196 #[] W fun e w'=>∃A c,e=.returned (.slice A 9 c)∧Hid (Pk w w' (rows++[(A,c,zi 2 true ae2)])):=ae5 h (n6 _ _) rfl (an2 W)
theorem a0n (m:Nat) (ns:List ByteArray) {w W:World} {rows:List (Option Addr×Nat×List Prt)} {C:Array Value} {n:Nat} (h:Hid (Pk w W rows)) (hC:C=(aam ns).toArray) (hn:ns.length=n) (hm:ns.length≤1000) :
 Calls prog 195 #[.int .i64 m,.slice (some ⟨W.1.size,0,none⟩) n n] (W.alloc (.cells C 9)) fun e w'=>∃A c,e=.returned (.slice A n c)∧Hid (Pk w w' (rows++[(A,c,aiw m ns)])):=
 ae5 h (qa _ _) (by simp[aiw,hn]) (hn▸aws m (some ⟨W.1.size,0,none⟩) ns _ (yl ns hC) hm)
theorem aeb (ns:List ByteArray) {w W:World} {rows:List (Option Addr×Nat×List Prt)} {C:Array Value} {n:Nat} (h:Hid (Pk w W rows)) (hC:C=(aam ns).toArray) (hn:ns.length=n) (hm:ns.length≤1000) :
 Calls prog 187 #[.slice (some ⟨W.1.size,0,none⟩) n n] (W.alloc (.cells C 9)) fun e w'=>∃A c,e=.returned (.slice A n c)∧Hid (Pk w w' (rows++[(A,c,zi 1 false ns)])):=
 ae5 h (qa _ _) (by simp[zi,hn]) (hn▸at5 (some ⟨W.1.size,0,none⟩) ns _ (yl ns hC) hm)
theorem ac6 (ns:List ByteArray) {w W:World} {rows:List (Option Addr×Nat×List Prt)} {C:Array Value} {n:Nat} (h:Hid (Pk w W rows)) (hC:C=(aam ns).toArray) (hn:ns.length=n) (hm:ns.length≤1000) :
 Calls prog 189 #[.slice (some ⟨W.1.size,0,none⟩) n n] (W.alloc (.cells C 9)) fun e w'=>∃A c,e=.returned (.slice A n c)∧Hid (Pk w w' (rows++[(A,c,zi 2 false ns)])):=
 ae5 h (qa _ _) (by simp[zi,hn]) (hn▸a6c (some ⟨W.1.size,0,none⟩) ns _ (yl ns hC) hm)
theorem ac7 (ns:List ByteArray) {w W:World} {rows:List (Option Addr×Nat×List Prt)} {C:Array Value} {n:Nat} (h:Hid (Pk w W rows)) (hC:C=(aam ns).toArray) (hn:ns.length=n) (hm:ns.length≤1000) :
 Calls prog 188 #[.slice (some ⟨W.1.size,0,none⟩) n n] (W.alloc (.cells C 9)) fun e w'=>∃A c,e=.returned (.slice A n c)∧Hid (Pk w w' (rows++[(A,c,zi 4 false ns)])):=
 ae5 h (qa _ _) (by simp[zi,hn]) (hn▸a6d (some ⟨W.1.size,0,none⟩) ns _ (yl ns hC) hm)
theorem aqf (ns:List ByteArray) {w W:World} {rows:List (Option Addr×Nat×List Prt)} {C:Array Value} {n:Nat} (h:Hid (Pk w W rows)) (hC:C=(aam ns).toArray) (hn:ns.length=n) (hm:ns.length≤1000) :
 Calls prog 192 #[.slice (some ⟨W.1.size,0,none⟩) n n] (W.alloc (.cells C 9)) fun e w'=>∃A c,e=.returned (.slice A n c)∧Hid (Pk w w' (rows++[(A,c,zi 8 false ns)])):=
 ae5 h (qa _ _) (by simp[zi,hn]) (hn▸a6e (some ⟨W.1.size,0,none⟩) ns _ (yl ns hC) hm)
theorem bm6 (ns:List ByteArray) {w W:World} {rows:List (Option Addr×Nat×List Prt)} {C:Array Value} {n:Nat} (h:Hid (Pk w W rows)) (hC:C=(aam ns).toArray) (hn:ns.length=n) (hm:ns.length≤1000) :
 Calls prog 191 #[.slice (some ⟨W.1.size,0,none⟩) n n] (W.alloc (.cells C 9)) fun e w'=>∃A c,e=.returned (.slice A n c)∧Hid (Pk w w' (rows++[(A,c,zi 1 true ns)])):=
 ae5 h (qa _ _) (by simp[zi,hn]) (hn▸bbd (some ⟨W.1.size,0,none⟩) ns _ (yl ns hC) hm)
theorem av2 (ns:List ByteArray) {w W:World} {rows:List (Option Addr×Nat×List Prt)} {C:Array Value} {n:Nat} (h:Hid (Pk w W rows)) (hC:C=(aam ns).toArray) (hn:ns.length=n) (hm:ns.length≤1000) :
 Calls prog 190 #[.slice (some ⟨W.1.size,0,none⟩) n n] (W.alloc (.cells C 9)) fun e w'=>∃A c,e=.returned (.slice A n c)∧Hid (Pk w w' (rows++[(A,c,zi 2 true ns)])):=
 ae5 h (qa _ _) (by simp[zi,hn]) (hn▸aqz (some ⟨W.1.size,0,none⟩) ns _ (yl ns hC) hm)
theorem a5i (ns:List ByteArray) {w W:World} {rows:List (Option Addr×Nat×List Prt)} {C:Array Value} {n:Nat} (h:Hid (Pk w W rows)) (hC:C=(aam ns).toArray) (hn:ns.length=n) (hm:ns.length≤1000) :
 Calls prog 194 #[.slice (some ⟨W.1.size,0,none⟩) n n] (W.alloc (.cells C 9)) fun e w'=>∃A c,e=.returned (.slice A n c)∧Hid (Pk w w' (rows++[(A,c,zi 4 true ns)])):=
 ae5 h (qa _ _) (by simp[zi,hn]) (hn▸a52 (some ⟨W.1.size,0,none⟩) ns _ (yl ns hC) hm)
theorem blf (ns:List ByteArray) {w W:World} {rows:List (Option Addr×Nat×List Prt)} {C:Array Value} {n:Nat} (h:Hid (Pk w W rows)) (hC:C=(aam ns).toArray) (hn:ns.length=n) (hm:ns.length≤1000) :
 Calls prog 193 #[.slice (some ⟨W.1.size,0,none⟩) n n] (W.alloc (.cells C 9)) fun e w'=>∃A c,e=.returned (.slice A n c)∧Hid (Pk w w' (rows++[(A,c,zi 8 true ns)])):=
 ae5 h (qa _ _) (by simp[zi,hn]) (hn▸a53 (some ⟨W.1.size,0,none⟩) ns _ (yl ns hC) hm)
def PkF (w W:World) (f:TFm) (A:Option Addr):Prop:=Blk W w.1.size [.string ⟨#[]⟩,.slice none 0 0]∧Below w.1.size w W∧qf (fun b=>w.1.size<b∧b<W.1.size) W A (q7 f.2)
def bl7 (x:Option Addr×Nat×List Prt):Value:=.slice x.1 x.2.2.length x.2.1
theorem abf (f:TFm) {w W:World} {rows:List (Option Addr×Nat×List Prt)} {C:Array Value} {nm:ByteArray} {m k:Nat} (h:Hid (Pk w W rows)) (hC:C=(rows.map bl7).toArray) (hm:rows.length=m) (hs:(decide (rows.length≤10) && (rows.map (·.2.2)).all fun l=>decide (l.length≤100))=true) (hf:f=(nm,(rows.map (·.2.2)).flatten)) (hk:f.2.length=k) :
 Calls prog 186 #[.string nm,.slice (some ⟨W.1.size,0,none⟩) m m] (W.alloc (.cells C 198)) fun e w'=>∃A c,e=.returned (.agg #[.string nm,.slice A k c])∧Hid (PkF w w' f A):=by
 rw[b0d,b11,b1b]at hs;have hb:=qa W (.cells C 198);have hp:=h.out.on hb
 have hv:bjo (W.alloc (.cells C 198)) (rows.map bl7) (rows.map (·.2.2)):=⟨by simp,fun i hi=>by
  have hi':i<rows.length:=by simpa using hi
  refine⟨rows[i].1,rows[i].2.1,?_,?_⟩
  ·rw[b0m,c8 hi',b3d];rfl
  ·rw[b3d];exact hp.2.2 _ (b1c hi')⟩
 have H:=bbe nm (some ⟨W.1.size,0,none⟩) m (rows.map bl7) (rows.map (·.2.2)) ((Blk.newL (qg W C 198) (by rw[hC])).flat (Q:=fun _=>True) trivial) hv (by rw[b0s];exact hs.1) (fun r hr=>b07 (hs.2 r hr));rw[b0s,hm]at H;refine H.mono ?_;rintro e w' ⟨A,c,rfl,hfl,hb2⟩;have hbb:=hb.trans (hb2.mono hb.size);have hw:=h.out.1.lt;refine⟨A,c,by rw[← hk,hf],(h.out.on hbb).1,(h.out.on hbb).2.1,?_⟩;rw[hf];exact hfl.less fun b q=>⟨by have:=hb.size;have:=q.1;omega,q.2⟩
theorem PkF.cells {w W:World} {f:TFm} {A:Option Addr} (h:PkF w W f A):W.cell? ⟨w.1.size,0,none⟩=some (.string ⟨#[]⟩)∧W.cell? ⟨w.1.size,1,none⟩=some (.slice none 0 0)∧W.frozen? ⟨w.1.size,0,none⟩=false∧W.frozen? ⟨w.1.size,1,none⟩=false:=⟨h.1.cell 0 rfl,h.1.cell 1 rfl,h.1.fz 0,h.1.fz 1⟩
theorem PkF.res {w W:World} {f:TFm} {A:Option Addr} (h:PkF w W f A) (p q:Value):(loadVar 200 ⟨w.1.size,0,none⟩).run prog ((W.setCell ⟨w.1.size,0,none⟩ p).setCell ⟨w.1.size,1,none⟩ q)=.ok (.agg #[p,q]) ((W.setCell ⟨w.1.size,0,none⟩ p).setCell ⟨w.1.size,1,none⟩ q):=(ali h.1 p q h.2.1 (a8 _)).1
theorem PkF.post {w W:World} {f:TFm} {A:Option Addr} {c k:Nat} {nm:ByteArray} (h:PkF w W f A) (p q:Value) (hn:f.1=nm) (hk:f.2.length=k):xy f w (.returned (.agg #[.string nm,.slice A k c])) ((W.setCell ⟨w.1.size,0,none⟩ p).setCell ⟨w.1.size,1,none⟩ q):=by
 obtain⟨-,q2,q3,q4⟩:=ali h.1 p q h.2.1 (a8 _);refine⟨A,c,by rw[hn,hk],(h.2.2.keep fun j hj=>q3 j (by have:=hj.1;omega)).less fun j hj=>⟨by have:=hj.1;omega,by rw[q4];exact hj.2⟩,q2⟩
theorem ab3 {w:World}:(loadVar 200 ⟨w.1.size,0,none⟩).run prog (w.alloc (.cells #[.string ⟨#[]⟩,.slice none 0 0] 200))=.ok (.agg #[.string ⟨#[]⟩,.slice none 0 0]) (w.alloc (.cells #[.string ⟨#[]⟩,.slice none 0 0] 200))∧xy noF w (.returned (.agg #[.string ⟨#[]⟩,.slice none 0 0])) (w.alloc (.cells #[.string ⟨#[]⟩,.slice none 0 0] 200)):=
 ⟨t6 (P:=prog) _ w.1.size 0 200 [.string ⟨#[]⟩,.slice none 0 0] _ (Pk.start w).1.rg underlying200 rfl kr,none,0,rfl,qf.nil _ _ _,qa _ _⟩
set_option maxRecDepth 8000
set_option maxHeartbeats 1000000
theorem a54 (w:World):Calls prog 119 #[.int .i64 200] w (xy avg w):=by
 go_enter func119,ntmps119;go_upto_region 1 with fail;have P0:=hid (Pk.start w);generalize w.alloc (.cells #[.string ⟨#[]⟩,.slice none 0 0] 200)=w0 at *;go_wp2_with fail;refine(ac7 bej P0 rfl rfl dc).mono ?_;rintro e w1 ⟨A0,c0,rfl,P1⟩;go_wp2_with fail;refine(av2 bek P1 rfl rfl dc).mono ?_;rintro e w2 ⟨A1,c1,rfl,P2⟩;go_wp2_with fail;refine(abf avg P2 rfl rfl kr kr rfl).mono ?_;rintro e wf ⟨AF,cf,rfl,PF⟩;obtain⟨r0,r1,z0,z1⟩:=PF.out.cells;go_wp2_with fail;exact b9 (by rw[qm rfl];simp[asAddr,Result.andThen];exact PF.out.res _ _) rfl (PF.out.post _ _ rfl rfl)
theorem a55 (w:World):Calls prog 119 #[.int .i64 201] w (xy avh w):=by
 go_enter func119,ntmps119;go_upto_region 1 with fail;have P0:=hid (Pk.start w);generalize w.alloc (.cells #[.string ⟨#[]⟩,.slice none 0 0] 200)=w0 at *;go_wp2_with fail;refine(ac7 bem P0 rfl rfl dc).mono ?_;rintro e w1 ⟨A0,c0,rfl,P1⟩;go_wp2_with fail;refine(a5i ben P1 rfl rfl dc).mono ?_;rintro e w2 ⟨A1,c1,rfl,P2⟩;go_wp2_with fail;refine(ac7 beo P2 rfl rfl dc).mono ?_;rintro e w3 ⟨A2,c2,rfl,P3⟩;go_wp2_with fail;refine(ac6 bep P3 rfl rfl dc).mono ?_;rintro e w4 ⟨A3,c3,rfl,P4⟩;go_wp2_with fail;refine(abf avh P4 rfl rfl kr kr rfl).mono ?_;rintro e wf ⟨AF,cf,rfl,PF⟩;obtain⟨r0,r1,z0,z1⟩:=PF.out.cells;go_wp2_with fail;exact b9 (by rw[qm rfl];simp[asAddr,Result.andThen];exact PF.out.res _ _) rfl (PF.out.post _ _ rfl rfl)
theorem a56 (w:World):Calls prog 119 #[.int .i64 202] w (xy avi w):=by
 go_enter func119,ntmps119;go_upto_region 1 with fail;have P0:=hid (Pk.start w);generalize w.alloc (.cells #[.string ⟨#[]⟩,.slice none 0 0] 200)=w0 at *;go_wp2_with fail;refine(ac7 beq P0 rfl rfl dc).mono ?_;rintro e w1 ⟨A0,c0,rfl,P1⟩;go_wp2_with fail;refine(aeb ber P1 rfl rfl dc).mono ?_;rintro e w2 ⟨A1,c1,rfl,P2⟩;go_wp2_with fail;refine(a0n 64 bes P2 rfl rfl dc).mono ?_;rintro e w3 ⟨A2,c2,rfl,P3⟩;go_wp2_with fail;refine(abf avi P3 rfl rfl kr kr rfl).mono ?_;rintro e wf ⟨AF,cf,rfl,PF⟩;obtain⟨r0,r1,z0,z1⟩:=PF.out.cells;go_wp2_with fail;exact b9 (by rw[qm rfl];simp[asAddr,Result.andThen];exact PF.out.res _ _) rfl (PF.out.post _ _ rfl rfl)
theorem a1m (i:Int) (w:World) (h200:¬i=200) (h201:¬i=201) (h202:¬i=202):Calls prog 119 #[.int .i64 i] w (xy noF w):=by
 go_enter func119,ntmps119;go_wp2_with fail;exact b9 (by rw[qm rfl];simp[asAddr,Result.andThen];exact ab3.1) rfl ab3.2
theorem a57 (i:Int) (w:World):Calls prog 119 #[.int .i64 i] w (xy (av0 i) w):=by
 by_cases h200:i=200
 ·subst h200;exact a54 w
 by_cases h201:i=201
 ·subst h201;exact a55 w
 by_cases h202:i=202
 ·subst h202;exact a56 w
 rw[show av0 i=noF from by unfold av0;rw[if_neg h200];rw[if_neg h201];rw[if_neg h202]];exact a1m i w h200 h201 h202
set_option maxRecDepth 8000
set_option maxHeartbeats 1000000
theorem a58 (w:World):Calls prog 116 #[.int .i64 0] w (xy bd1 w):=by
 go_enter func116,ntmps116;go_upto_region 1 with fail;have P0:=hid (Pk.start w);generalize w.alloc (.cells #[.string ⟨#[]⟩,.slice none 0 0] 200)=w0 at *;go_wp2_with fail;refine(aeb bms P0 rfl rfl dc).mono ?_;rintro e w1 ⟨A0,c0,rfl,P1⟩;go_wp2_with fail;refine(ac7 bmt P1 rfl rfl dc).mono ?_;rintro e w2 ⟨A1,c1,rfl,P2⟩;go_wp2_with fail;refine(aeb bmu P2 rfl rfl dc).mono ?_;rintro e w3 ⟨A2,c2,rfl,P3⟩;go_wp2_with fail;refine(abf bd1 P3 rfl rfl kr kr rfl).mono ?_;rintro e wf ⟨AF,cf,rfl,PF⟩;obtain⟨r0,r1,z0,z1⟩:=PF.out.cells;go_wp2_with fail;exact b9 (by rw[qm rfl];simp[asAddr,Result.andThen];exact PF.out.res _ _) rfl (PF.out.post _ _ rfl rfl)
theorem a59 (w:World):Calls prog 116 #[.int .i64 1] w (xy bd2 w):=by
 go_enter func116,ntmps116;go_upto_region 1 with fail;have P0:=hid (Pk.start w);generalize w.alloc (.cells #[.string ⟨#[]⟩,.slice none 0 0] 200)=w0 at *;go_wp2_with fail;refine(ac7 bmv P0 rfl rfl dc).mono ?_;rintro e w1 ⟨A0,c0,rfl,P1⟩;go_wp2_with fail;refine(ac6 bmw P1 rfl rfl dc).mono ?_;rintro e w2 ⟨A1,c1,rfl,P2⟩;go_wp2_with fail;refine(av2 bmx P2 rfl rfl dc).mono ?_;rintro e w3 ⟨A2,c2,rfl,P3⟩;go_wp2_with fail;refine(bm6 bmy P3 rfl rfl dc).mono ?_;rintro e w4 ⟨A3,c3,rfl,P4⟩;go_wp2_with fail;refine(ac6 bmz P4 rfl rfl dc).mono ?_;rintro e w5 ⟨A4,c4,rfl,P5⟩;go_wp2_with fail;refine(abf bd2 P5 rfl rfl kr kr rfl).mono ?_;rintro e wf ⟨AF,cf,rfl,PF⟩;obtain⟨r0,r1,z0,z1⟩:=PF.out.cells;go_wp2_with fail;exact b9 (by rw[qm rfl];simp[asAddr,Result.andThen];exact PF.out.res _ _) rfl (PF.out.post _ _ rfl rfl)
theorem a6a (w:World):Calls prog 116 #[.int .i64 2] w (xy bd3 w):=by
 go_enter func116,ntmps116;go_upto_region 1 with fail;have P0:=hid (Pk.start w);generalize w.alloc (.cells #[.string ⟨#[]⟩,.slice none 0 0] 200)=w0 at *;go_wp2_with fail;refine(aqf bm0 P0 rfl rfl dc).mono ?_;rintro e w1 ⟨A0,c0,rfl,P1⟩;go_wp2_with fail;refine(ac7 bm1 P1 rfl rfl dc).mono ?_;rintro e w2 ⟨A1,c1,rfl,P2⟩;go_wp2_with fail;refine(abf bd3 P2 rfl rfl kr kr rfl).mono ?_;rintro e wf ⟨AF,cf,rfl,PF⟩;obtain⟨r0,r1,z0,z1⟩:=PF.out.cells;go_wp2_with fail;exact b9 (by rw[qm rfl];simp[asAddr,Result.andThen];exact PF.out.res _ _) rfl (PF.out.post _ _ rfl rfl)
theorem a6b (w:World):Calls prog 116 #[.int .i64 4] w (xy bd4 w):=by
 go_enter func116,ntmps116;go_upto_region 1 with fail;have P0:=hid (Pk.start w);generalize w.alloc (.cells #[.string ⟨#[]⟩,.slice none 0 0] 200)=w0 at *;go_wp2_with fail;refine(aqf bm2 P0 rfl rfl dc).mono ?_;rintro e w1 ⟨A0,c0,rfl,P1⟩;go_wp2_with fail;refine(ac7 bm3 P1 rfl rfl dc).mono ?_;rintro e w2 ⟨A1,c1,rfl,P2⟩;go_wp2_with fail;refine(aeb bm4 P2 rfl rfl dc).mono ?_;rintro e w3 ⟨A2,c2,rfl,P3⟩;go_wp2_with fail;refine(abf bd4 P3 rfl rfl kr kr rfl).mono ?_;rintro e wf ⟨AF,cf,rfl,PF⟩;obtain⟨r0,r1,z0,z1⟩:=PF.out.cells;go_wp2_with fail;exact b9 (by rw[qm rfl];simp[asAddr,Result.andThen];exact PF.out.res _ _) rfl (PF.out.post _ _ rfl rfl)
theorem aw6 (w:World):Calls prog 116 #[.int .i64 111] w (xy ave w):=by
 go_enter func116,ntmps116;go_upto_region 1 with fail;have P0:=hid (Pk.start w);generalize w.alloc (.cells #[.string ⟨#[]⟩,.slice none 0 0] 200)=w0 at *;go_wp2_with fail;refine(blf beh P0 rfl rfl dc).mono ?_;rintro e w1 ⟨A0,c0,rfl,P1⟩;go_wp2_with fail;refine(abf ave P1 rfl rfl kr kr rfl).mono ?_;rintro e wf ⟨AF,cf,rfl,PF⟩;obtain⟨r0,r1,z0,z1⟩:=PF.out.cells;go_wp2_with fail;exact b9 (by rw[qm rfl];simp[asAddr,Result.andThen];exact PF.out.res _ _) rfl (PF.out.post _ _ rfl rfl)
theorem aw7 (w:World):Calls prog 116 #[.int .i64 125] w (xy avf w):=by
 go_enter func116,ntmps116;go_upto_region 1 with fail;have P0:=hid (Pk.start w);generalize w.alloc (.cells #[.string ⟨#[]⟩,.slice none 0 0] 200)=w0 at *;go_wp2_with fail;refine(ac6 bei P0 rfl rfl dc).mono ?_;rintro e w1 ⟨A0,c0,rfl,P1⟩;go_wp2_with fail;refine(abf avf P1 rfl rfl kr kr rfl).mono ?_;rintro e wf ⟨AF,cf,rfl,PF⟩;obtain⟨r0,r1,z0,z1⟩:=PF.out.cells;go_wp2_with fail;exact b9 (by rw[qm rfl];simp[asAddr,Result.andThen];exact PF.out.res _ _) rfl (PF.out.post _ _ rfl rfl)
theorem aso (i:Int) (w:World) (h0:¬i=0) (h1:¬i=1) (h2:¬i=2) (h4:¬i=4) (h111:¬i=111) (h125:¬i=125):Calls prog 116 #[.int .i64 i] w (xy noF w):=by
 go_enter func116,ntmps116;go_wp2_with fail;exact b9 (by rw[qm rfl];simp[asAddr,Result.andThen];exact ab3.1) rfl ab3.2
theorem aw8 (i:Int) (w:World):Calls prog 116 #[.int .i64 i] w (xy (agn i) w):=by
 by_cases h0:i=0
 ·subst h0;exact a58 w
 by_cases h1:i=1
 ·subst h1;exact a59 w
 by_cases h2:i=2
 ·subst h2;exact a6a w
 by_cases h4:i=4
 ·subst h4;exact a6b w
 by_cases h111:i=111
 ·subst h111;exact aw6 w
 by_cases h125:i=125
 ·subst h125;exact aw7 w
 rw[show agn i=noF from by unfold agn;rw[if_neg h0];rw[if_neg h1];rw[if_neg h2];rw[if_neg h4];rw[if_neg h111];rw[if_neg h125]];exact aso i w h0 h1 h2 h4 h111 h125
set_option maxRecDepth 8000
set_option maxHeartbeats 1000000
theorem awv (w:World):Calls prog 117 #[.int .i64 24] w (xy a4c w):=by
 go_enter func117,ntmps117;go_upto_region 1 with fail;have P0:=hid (Pk.start w);generalize w.alloc (.cells #[.string ⟨#[]⟩,.slice none 0 0] 200)=w0 at *;go_wp2_with fail;refine(aqf bjs P0 rfl rfl dc).mono ?_;rintro e w1 ⟨A0,c0,rfl,P1⟩;go_wp2_with fail;refine(aeb bjt P1 rfl rfl dc).mono ?_;rintro e w2 ⟨A1,c1,rfl,P2⟩;go_wp2_with fail;refine(a5i bju P2 rfl rfl dc).mono ?_;rintro e w3 ⟨A2,c2,rfl,P3⟩;go_wp2_with fail;refine(ac6 bjv P3 rfl rfl dc).mono ?_;rintro e w4 ⟨A3,c3,rfl,P4⟩;go_wp2_with fail;refine(aeb bjw P4 rfl rfl dc).mono ?_;rintro e w5 ⟨A4,c4,rfl,P5⟩;go_wp2_with fail;refine(abf a4c P5 rfl rfl kr kr rfl).mono ?_;rintro e wf ⟨AF,cf,rfl,PF⟩;obtain⟨r0,r1,z0,z1⟩:=PF.out.cells;go_wp2_with fail;exact b9 (by rw[qm rfl];simp[asAddr,Result.andThen];exact PF.out.res _ _) rfl (PF.out.post _ _ rfl rfl)
theorem aww (w:World):Calls prog 117 #[.int .i64 25] w (xy a4d w):=by
 go_enter func117,ntmps117;go_upto_region 1 with fail;have P0:=hid (Pk.start w);generalize w.alloc (.cells #[.string ⟨#[]⟩,.slice none 0 0] 200)=w0 at *;go_wp2_with fail;refine(aeb bjx P0 rfl rfl dc).mono ?_;rintro e w1 ⟨A0,c0,rfl,P1⟩;go_wp2_with fail;refine(a0n 20 bjy P1 rfl rfl dc).mono ?_;rintro e w2 ⟨A1,c1,rfl,P2⟩;go_wp2_with fail;refine(abf a4d P2 rfl rfl kr kr rfl).mono ?_;rintro e wf ⟨AF,cf,rfl,PF⟩;obtain⟨r0,r1,z0,z1⟩:=PF.out.cells;go_wp2_with fail;exact b9 (by rw[qm rfl];simp[asAddr,Result.andThen];exact PF.out.res _ _) rfl (PF.out.post _ _ rfl rfl)
theorem awx (w:World):Calls prog 117 #[.int .i64 26] w (xy a4e w):=by
 go_enter func117,ntmps117;go_upto_region 1 with fail;have P0:=hid (Pk.start w);generalize w.alloc (.cells #[.string ⟨#[]⟩,.slice none 0 0] 200)=w0 at *;go_wp2_with fail;refine(ac7 bjz P0 rfl rfl dc).mono ?_;rintro e w1 ⟨A0,c0,rfl,P1⟩;go_wp2_with fail;refine(am8 P1).mono ?_;rintro e w2 ⟨A1,c1,rfl,P2⟩;go_wp2_with fail;refine(abf a4e P2 rfl rfl kr kr rfl).mono ?_;rintro e wf ⟨AF,cf,rfl,PF⟩;obtain⟨r0,r1,z0,z1⟩:=PF.out.cells;go_wp2_with fail;exact b9 (by rw[qm rfl];simp[asAddr,Result.andThen];exact PF.out.res _ _) rfl (PF.out.post _ _ rfl rfl)
theorem awy (w:World):Calls prog 117 #[.int .i64 27] w (xy a4f w):=by
 go_enter func117,ntmps117;go_upto_region 1 with fail;have P0:=hid (Pk.start w);generalize w.alloc (.cells #[.string ⟨#[]⟩,.slice none 0 0] 200)=w0 at *;go_wp2_with fail;refine(aqf bj0 P0 rfl rfl dc).mono ?_;rintro e w1 ⟨A0,c0,rfl,P1⟩;go_wp2_with fail;refine(am8 P1).mono ?_;rintro e w2 ⟨A1,c1,rfl,P2⟩;go_wp2_with fail;refine(abf a4f P2 rfl rfl kr kr rfl).mono ?_;rintro e wf ⟨AF,cf,rfl,PF⟩;obtain⟨r0,r1,z0,z1⟩:=PF.out.cells;go_wp2_with fail;exact b9 (by rw[qm rfl];simp[asAddr,Result.andThen];exact PF.out.res _ _) rfl (PF.out.post _ _ rfl rfl)
theorem awz (w:World):Calls prog 117 #[.int .i64 28] w (xy a4g w):=by
 go_enter func117,ntmps117;go_upto_region 1 with fail;have P0:=hid (Pk.start w);generalize w.alloc (.cells #[.string ⟨#[]⟩,.slice none 0 0] 200)=w0 at *;go_wp2_with fail;refine(aqf bj1 P0 rfl rfl dc).mono ?_;rintro e w1 ⟨A0,c0,rfl,P1⟩;go_wp2_with fail;refine(av2 bj2 P1 rfl rfl dc).mono ?_;rintro e w2 ⟨A1,c1,rfl,P2⟩;go_wp2_with fail;refine(abf a4g P2 rfl rfl kr kr rfl).mono ?_;rintro e wf ⟨AF,cf,rfl,PF⟩;obtain⟨r0,r1,z0,z1⟩:=PF.out.cells;go_wp2_with fail;exact b9 (by rw[qm rfl];simp[asAddr,Result.andThen];exact PF.out.res _ _) rfl (PF.out.post _ _ rfl rfl)
theorem aw0 (w:World):Calls prog 117 #[.int .i64 33] w (xy a4h w):=by
 go_enter func117,ntmps117;go_upto_region 1 with fail;have P0:=hid (Pk.start w);generalize w.alloc (.cells #[.string ⟨#[]⟩,.slice none 0 0] 200)=w0 at *;go_wp2_with fail;refine(ac7 bj3 P0 rfl rfl dc).mono ?_;rintro e w1 ⟨A0,c0,rfl,P1⟩;go_wp2_with fail;refine(a5i bj4 P1 rfl rfl dc).mono ?_;rintro e w2 ⟨A1,c1,rfl,P2⟩;go_wp2_with fail;refine(av2 bj5 P2 rfl rfl dc).mono ?_;rintro e w3 ⟨A2,c2,rfl,P3⟩;go_wp2_with fail;refine(ac6 bj6 P3 rfl rfl dc).mono ?_;rintro e w4 ⟨A3,c3,rfl,P4⟩;go_wp2_with fail;refine(abf a4h P4 rfl rfl kr kr rfl).mono ?_;rintro e wf ⟨AF,cf,rfl,PF⟩;obtain⟨r0,r1,z0,z1⟩:=PF.out.cells;go_wp2_with fail;exact b9 (by rw[qm rfl];simp[asAddr,Result.andThen];exact PF.out.res _ _) rfl (PF.out.post _ _ rfl rfl)
theorem aq0 (i:Int) (w:World) (h24:¬i=24) (h25:¬i=25) (h26:¬i=26) (h27:¬i=27) (h28:¬i=28) (h33:¬i=33):Calls prog 117 #[.int .i64 i] w (xy noF w):=by
 go_enter func117,ntmps117;go_wp2_with fail;exact b9 (by rw[qm rfl];simp[asAddr,Result.andThen];exact ab3.1) rfl ab3.2
theorem ask (i:Int) (w:World):Calls prog 117 #[.int .i64 i] w (xy (adj i) w):=by
 by_cases h24:i=24
 ·subst h24;exact awv w
 by_cases h25:i=25
 ·subst h25;exact aww w
 by_cases h26:i=26
 ·subst h26;exact awx w
 by_cases h27:i=27
 ·subst h27;exact awy w
 by_cases h28:i=28
 ·subst h28;exact awz w
 by_cases h33:i=33
 ·subst h33;exact aw0 w
 rw[show adj i=noF from by unfold adj;rw[if_neg h24];rw[if_neg h25];rw[if_neg h26];rw[if_neg h27];rw[if_neg h28];rw[if_neg h33]];exact aq0 i w h24 h25 h26 h27 h28 h33
set_option maxRecDepth 8000
set_option maxHeartbeats 1000000
theorem a1f (w:World):Calls prog 118 #[.int .i64 35] w (xy a4i w):=by
 go_enter func118,ntmps118;go_upto_region 1 with fail;have P0:=hid (Pk.start w);generalize w.alloc (.cells #[.string ⟨#[]⟩,.slice none 0 0] 200)=w0 at *;go_wp2_with fail;refine(ac7 bj7 P0 rfl rfl dc).mono ?_;rintro e w1 ⟨A0,c0,rfl,P1⟩;go_wp2_with fail;refine(aeb bj8 P1 rfl rfl dc).mono ?_;rintro e w2 ⟨A1,c1,rfl,P2⟩;go_wp2_with fail;refine(ac6 bj9 P2 rfl rfl dc).mono ?_;rintro e w3 ⟨A2,c2,rfl,P3⟩;go_wp2_with fail;refine(aeb bka P3 rfl rfl dc).mono ?_;rintro e w4 ⟨A3,c3,rfl,P4⟩;go_wp2_with fail;refine(abf a4i P4 rfl rfl kr kr rfl).mono ?_;rintro e wf ⟨AF,cf,rfl,PF⟩;obtain⟨r0,r1,z0,z1⟩:=PF.out.cells;go_wp2_with fail;exact b9 (by rw[qm rfl];simp[asAddr,Result.andThen];exact PF.out.res _ _) rfl (PF.out.post _ _ rfl rfl)
theorem a1g (w:World):Calls prog 118 #[.int .i64 36] w (xy a4j w):=by
 go_enter func118,ntmps118;go_upto_region 1 with fail;have P0:=hid (Pk.start w);generalize w.alloc (.cells #[.string ⟨#[]⟩,.slice none 0 0] 200)=w0 at *;go_wp2_with fail;refine(ac7 bkb P0 rfl rfl dc).mono ?_;rintro e w1 ⟨A0,c0,rfl,P1⟩;go_wp2_with fail;refine(aeb bkc P1 rfl rfl dc).mono ?_;rintro e w2 ⟨A1,c1,rfl,P2⟩;go_wp2_with fail;refine(ac6 bkd P2 rfl rfl dc).mono ?_;rintro e w3 ⟨A2,c2,rfl,P3⟩;go_wp2_with fail;refine(abf a4j P3 rfl rfl kr kr rfl).mono ?_;rintro e wf ⟨AF,cf,rfl,PF⟩;obtain⟨r0,r1,z0,z1⟩:=PF.out.cells;go_wp2_with fail;exact b9 (by rw[qm rfl];simp[asAddr,Result.andThen];exact PF.out.res _ _) rfl (PF.out.post _ _ rfl rfl)
theorem a1h (w:World):Calls prog 118 #[.int .i64 42] w (xy a4k w):=by
 go_enter func118,ntmps118;go_upto_region 1 with fail;have P0:=hid (Pk.start w);generalize w.alloc (.cells #[.string ⟨#[]⟩,.slice none 0 0] 200)=w0 at *;go_wp2_with fail;refine(ac6 bke P0 rfl rfl dc).mono ?_;rintro e w1 ⟨A0,c0,rfl,P1⟩;go_wp2_with fail;refine(abf a4k P1 rfl rfl kr kr rfl).mono ?_;rintro e wf ⟨AF,cf,rfl,PF⟩;obtain⟨r0,r1,z0,z1⟩:=PF.out.cells;go_wp2_with fail;exact b9 (by rw[qm rfl];simp[asAddr,Result.andThen];exact PF.out.res _ _) rfl (PF.out.post _ _ rfl rfl)
theorem a1i (w:World):Calls prog 118 #[.int .i64 44] w (xy a4l w):=by
 go_enter func118,ntmps118;go_upto_region 1 with fail;have P0:=hid (Pk.start w);generalize w.alloc (.cells #[.string ⟨#[]⟩,.slice none 0 0] 200)=w0 at *;go_wp2_with fail;refine(aeb bkf P0 rfl rfl dc).mono ?_;rintro e w1 ⟨A0,c0,rfl,P1⟩;go_wp2_with fail;refine(ac6 bkg P1 rfl rfl dc).mono ?_;rintro e w2 ⟨A1,c1,rfl,P2⟩;go_wp2_with fail;refine(abf a4l P2 rfl rfl kr kr rfl).mono ?_;rintro e wf ⟨AF,cf,rfl,PF⟩;obtain⟨r0,r1,z0,z1⟩:=PF.out.cells;go_wp2_with fail;exact b9 (by rw[qm rfl];simp[asAddr,Result.andThen];exact PF.out.res _ _) rfl (PF.out.post _ _ rfl rfl)
theorem a1j (w:World):Calls prog 118 #[.int .i64 47] w (xy a4m w):=by
 go_enter func118,ntmps118;go_upto_region 1 with fail;have P0:=hid (Pk.start w);generalize w.alloc (.cells #[.string ⟨#[]⟩,.slice none 0 0] 200)=w0 at *;go_wp2_with fail;refine(aeb bkh P0 rfl rfl dc).mono ?_;rintro e w1 ⟨A0,c0,rfl,P1⟩;go_wp2_with fail;refine(abf a4m P1 rfl rfl kr kr rfl).mono ?_;rintro e wf ⟨AF,cf,rfl,PF⟩;obtain⟨r0,r1,z0,z1⟩:=PF.out.cells;go_wp2_with fail;exact b9 (by rw[qm rfl];simp[asAddr,Result.andThen];exact PF.out.res _ _) rfl (PF.out.post _ _ rfl rfl)
theorem a1k (w:World):Calls prog 118 #[.int .i64 66] w (xy a4n w):=by
 go_enter func118,ntmps118;go_upto_region 1 with fail;have P0:=hid (Pk.start w);generalize w.alloc (.cells #[.string ⟨#[]⟩,.slice none 0 0] 200)=w0 at *;go_wp2_with fail;refine(aeb bki P0 rfl rfl dc).mono ?_;rintro e w1 ⟨A0,c0,rfl,P1⟩;go_wp2_with fail;refine(ac6 bkj P1 rfl rfl dc).mono ?_;rintro e w2 ⟨A1,c1,rfl,P2⟩;go_wp2_with fail;refine(aeb bkk P2 rfl rfl dc).mono ?_;rintro e w3 ⟨A2,c2,rfl,P3⟩;go_wp2_with fail;refine(abf a4n P3 rfl rfl kr kr rfl).mono ?_;rintro e wf ⟨AF,cf,rfl,PF⟩;obtain⟨r0,r1,z0,z1⟩:=PF.out.cells;go_wp2_with fail;exact b9 (by rw[qm rfl];simp[asAddr,Result.andThen];exact PF.out.res _ _) rfl (PF.out.post _ _ rfl rfl)
theorem a1l (w:World):Calls prog 118 #[.int .i64 77] w (xy a4o w):=by
 go_enter func118,ntmps118;go_upto_region 1 with fail;have P0:=hid (Pk.start w);generalize w.alloc (.cells #[.string ⟨#[]⟩,.slice none 0 0] 200)=w0 at *;go_wp2_with fail;refine(ac6 bkl P0 rfl rfl dc).mono ?_;rintro e w1 ⟨A0,c0,rfl,P1⟩;go_wp2_with fail;refine(aeb bkm P1 rfl rfl dc).mono ?_;rintro e w2 ⟨A1,c1,rfl,P2⟩;go_wp2_with fail;refine(abf a4o P2 rfl rfl kr kr rfl).mono ?_;rintro e wf ⟨AF,cf,rfl,PF⟩;obtain⟨r0,r1,z0,z1⟩:=PF.out.cells;go_wp2_with fail;exact b9 (by rw[qm rfl];simp[asAddr,Result.andThen];exact PF.out.res _ _) rfl (PF.out.post _ _ rfl rfl)
theorem asi (i:Int) (w:World) (h35:¬i=35) (h36:¬i=36) (h42:¬i=42) (h44:¬i=44) (h47:¬i=47) (h66:¬i=66) (h77:¬i=77):Calls prog 118 #[.int .i64 i] w (xy noF w):=by
 go_enter func118,ntmps118;go_wp2_with fail;exact b9 (by rw[qm rfl];simp[asAddr,Result.andThen];exact ab3.1) rfl ab3.2
theorem awt (i:Int) (w:World):Calls prog 118 #[.int .i64 i] w (xy (afz i) w):=by
 by_cases h35:i=35
 ·subst h35;exact a1f w
 by_cases h36:i=36
 ·subst h36;exact a1g w
 by_cases h42:i=42
 ·subst h42;exact a1h w
 by_cases h44:i=44
 ·subst h44;exact a1i w
 by_cases h47:i=47
 ·subst h47;exact a1j w
 by_cases h66:i=66
 ·subst h66;exact a1k w
 by_cases h77:i=77
 ·subst h77;exact a1l w
 rw[show afz i=noF from by unfold afz;rw[if_neg h35];rw[if_neg h36];rw[if_neg h42];rw[if_neg h44];rw[if_neg h47];rw[if_neg h66];rw[if_neg h77]];exact asi i w h35 h36 h42 h44 h47 h66 h77
def af9:List TFm→TFm
 | []=>noF
 | f::r=>if f.1≠ByteArray.empty then f else af9 r
theorem azd (i:Int):xe i=af9 [agn i,adj i,afz i,av0 i]:=rfl
theorem amk {s:ByteArray} (h:¬s=⟨#[]⟩):s.toList.isEmpty=false:=by
 rw[b0x,List.isEmpty_eq_false_iff];intro q;exact h (b3w (Array.toList_inj.1 q))
theorem abj {B B':Nat} {w w':World} {A:Option Addr} {xs:List Value} (h:qf (fun b=>B≤b∧b<w.1.size) w A xs) (hb:Below w.1.size w w') (hB:B'≤B):qf (fun b=>B'≤b∧b<w'.1.size) w' A xs:=
 (h.below hb fun _ q=>q.2).less fun _ q=>⟨o8 hB q.1,e9 q.2 hb.size⟩
def ax9 (B:Nat) (w:World) (g:Nat) (fs:List TFm):Prop:=g<w.1.size∧∀k f,fs[k]?=some f→∃A c,w.cell? ⟨g,2*k,none⟩=some (.string f.1)∧w.cell? ⟨g,2*k+1,none⟩=some (.slice A f.2.length c)∧qf (fun b=>B≤b∧b<w.1.size) w A (q7 f.2)
theorem ax9.on {B:Nat} {w w':World} {g:Nat} {fs:List TFm} (h:ax9 B w g fs) (hb:Below w.1.size w w'):ax9 B w' g fs:=by
 refine⟨e9 h.1 hb.size,fun k f hk=>?_⟩;obtain⟨A,c,h1,h2,h3⟩:=h.2 k f hk;exact⟨A,c,(hb.cell (p:=⟨g,2*k,none⟩) h.1).trans h1,(hb.cell (p:=⟨g,2*k+1,none⟩) h.1).trans h2,abj h3 hb (a8 _)⟩
theorem aht (i:Int) (w:World):Calls prog 89 #[.int .i64 i] w (xy (xe i) w):=by
 rw[azd];have H1:=fun W=>hid (aw8 i W)
 have H2:=fun W=>hid (ask i W)
 have H3:=fun W=>hid (awt i W)
 have H4:=fun W=>hid (a57 i W)
 generalize agn i=f0 at *;generalize adj i=f1 at *;generalize afz i=f2 at *;generalize av0 i=f3 at *;obtain⟨⟨rn,rl⟩,hres⟩:∃res,af9 [f0,f1,f2,f3]=res:=⟨_,rfl⟩;have HRES:=hid hres;rw[hres];clear hres;unfold xy at *;dsimp only;go_enter func89,ntmps89;go_upto_region 1 with fail;have HR0:=hid (Blk.newL (qg w #[.string ⟨#[]⟩,.slice none 0 0] 200) rfl);have HB0:Hid (Below w.1.size w (w.alloc (.cells #[.string ⟨#[]⟩,.slice none 0 0] 200))):=hid (qa _ _);generalize w.alloc (.cells #[.string ⟨#[]⟩,.slice none 0 0] 200)=w0 at *;go_wp2_with fail;refine(H1 w0).out.mono ?_;rintro e w1 ⟨A0,c0,rfl,hf,hb⟩;have HF0:=hid hf;have HR1:=hid (HR0.out.on hb);have HB1:=hid (qb HB0.out hb);have HS1:=hid HR0.out.lt;clear hf hb HR0 HB0;go_wp2_with fail;refine(H2 w1).out.mono ?_;rintro e w2 ⟨A1,c1,rfl,hf,hb⟩;have HF0':=hid (abj HF0.out hb (a8 _));have HF1:=hid hf;have HR2:=hid (HR1.out.on hb)
 have HB2:=hid (qb HB1.out hb);have HS2:=hid HR1.out.lt;clear hf hb HR1 HB1 HF0;go_wp2_with fail;refine(H3 w2).out.mono ?_;rintro e w3 ⟨A2,c2,rfl,hf,hb⟩;have HF0:=hid (abj HF0'.out hb (a8 _));have HF1':=hid (abj HF1.out hb (a8 _));have HF2:=hid hf;have HR3:=hid (HR2.out.on hb);have HB3:=hid (qb HB2.out hb);have HS3:=hid HR2.out.lt;clear hf hb HR2 HB2 HF0' HF1;go_wp2_with fail;refine(H4 w3).out.mono ?_;rintro e w4 ⟨A3,c3,rfl,hf,hb⟩;have HF0':=hid (abj HF0.out hb (a8 _));have HF1:=hid (abj HF1'.out hb (a8 _));have HF2':=hid (abj HF2.out hb (a8 _));have HF3:=hid hf;have HR4:=hid (HR3.out.on hb);have HB4:=hid (qb HB3.out hb);have HS4:=hid HR3.out.lt;clear hf hb HR3 HB3 HF0 HF1' HF2
 have HX:Hid (ax9 (w.1.size+1) (w4.alloc (.cells #[.string f0.1,.slice A0 f0.2.length c0,.string f1.1,.slice A1 f1.2.length c1,.string f2.1,.slice A2 f2.2.length c2,.string f3.1,.slice A3 f3.2.length c3] 200)) w4.1.size [f0,f1,f2,f3]):=hid (by
  have hk:=Blk.newL (qg w4 #[.string f0.1,.slice A0 f0.2.length c0,.string f1.1,.slice A1 f1.2.length c1,.string f2.1,.slice A2 f2.2.length c2,.string f3.1,.slice A3 f3.2.length c3] 200) rfl;have hb:=qa w4 (.cells #[.string f0.1,.slice A0 f0.2.length c0,.string f1.1,.slice A1 f1.2.length c1,.string f2.1,.slice A2 f2.2.length c2,.string f3.1,.slice A3 f3.2.length c3] 200);refine⟨hk.lt,fun k f hf=>?_⟩
  have:k<4:=by
   have:=(b1q.1 hf).1;exact this
  have:k=0∨k=1∨k=2∨k=3:=by omega
  rcases this with rfl|rfl|rfl|rfl
  ·injection hf with hf;subst hf
   exact⟨_,_,hk.cell 0 rfl,hk.cell 1 rfl,abj HF0'.out hb HS1.out⟩
  ·injection hf with hf;subst hf
   exact⟨_,_,hk.cell 2 rfl,hk.cell 3 rfl,abj HF1.out hb HS2.out⟩
  ·injection hf with hf;subst hf
   exact⟨_,_,hk.cell 4 rfl,hk.cell 5 rfl,abj HF2'.out hb HS3.out⟩
  ·injection hf with hf;subst hf
   exact⟨_,_,hk.cell 6 rfl,hk.cell 7 rfl,abj HF3.out hb HS4.out⟩)
 have HR5:=hid (HR4.out.on (qa w4 (.cells #[.string f0.1,.slice A0 f0.2.length c0,.string f1.1,.slice A1 f1.2.length c1,.string f2.1,.slice A2 f2.2.length c2,.string f3.1,.slice A3 f3.2.length c3] 200)));have HB5:=hid (qb HB4.out (qa w4 (.cells #[.string f0.1,.slice A0 f0.2.length c0,.string f1.1,.slice A1 f1.2.length c1,.string f2.1,.slice A2 f2.2.length c2,.string f3.1,.slice A3 f3.2.length c3] 200)));clear HF0' HF1 HF2' HF3 HS1 HS2 HS3 HS4 HR4 HB4 H1 H2 H3 H4;go_wp2_with fail;generalize hfs:[f0,f1,f2,f3]=fs at *;have hl4:fs.length=4:=by subst hfs;rfl
 have HL4:=hid hl4;clear hfs hl4;generalize w4.alloc (.cells #[.string f0.1,.slice A0 f0.2.length c0,.string f1.1,.slice A1 f1.2.length c1,.string f2.1,.slice A2 f2.2.length c2,.string f3.1,.slice A3 f3.2.length c3] 200)=w5 at *;generalize w4.1.size=g at *
 go_loopg [15] 4 (fun t s15 wr=>∃k:Nat,k≤4∧4-k≤t∧s15=.int .i64 k∧Hid (af9 (fs.drop k)=af9 fs)∧Hid (ax9 (w.1.size+1) wr g fs)∧Hid (Blk wr w.1.size [.string ⟨#[]⟩,.slice none 0 0])∧Hid (Below w.1.size w wr))
 case atStart=>exact⟨0,by omega,by omega,rfl,rfl,HX.out,HR5.out,HB5.out⟩
 case round=>
  obtain⟨k,hk,ht,rfl,HFF,HX2,HR,HB⟩:=hrel;clear HX HR5 HB5
  by_cases hlt:k<4
  ·have hkl:k<fs.length:=by rw[HL4.out];exact hlt
   obtain⟨A,c,hc0,hc1,hfl⟩:=HX2.out.2 k _ (c8 hkl);have HDR:Hid (fs.drop k=fs[k]::fs.drop (k+1)):=hid (b0n hkl);generalize fs[k]=f at *;obtain⟨n,l⟩:=f;dsimp only at hc0 hc1 hfl;have HFL:=hid hfl;clear hfl;rw[b3i]at hc0 hc1;have i1:(k:Int)<4:=by omega
   have i2:(0:Int) ≤(k:Int):=n8 _;have HR1:=hid (HR.out.on (qa wr (.cells #[.string n,.slice A l.length c] 200)));have HB1:=hid (qb HB.out (qa wr (.cells #[.string n,.slice A l.length c] 200)));have HX1:=hid (HX2.out.on (qa wr (.cells #[.string n,.slice A l.length c] 200)));have HFL1:=hid (abj HFL.out (qa wr (.cells #[.string n,.slice A l.length c] 200)) (a8 _));have HN1:=hid (Blk.newL (qg wr #[.string n,.slice A l.length c] 200) rfl);have HRL:=hid HR.out.lt;go_upto_region 4 with fail;clear HR HB HX2 HFL hc0 hc1;generalize wr.alloc (.cells #[.string n,.slice A l.length c] 200)=wn at *;have n0:=HN1.out.cell 0 (v:=.string n) rfl;have n1:=HN1.out.cell 1 (v:=.slice A l.length c) rfl;have r0:=HR1.out.cell 0 (v:=.string ⟨#[]⟩) rfl;have r1:=HR1.out.cell 1 (v:=.slice none 0 0) rfl;have z0:=HR1.out.fz 0;have z1:=HR1.out.fz 1;generalize wr.1.size=q at *
   by_cases hn:n=⟨#[]⟩
   ·have HF2:Hid (af9 (fs.drop (k+1))=af9 fs):=hid (by rw[← HFF.out,HDR.out];conv=>rhs;unfold af9;(rw[if_neg (by rw[hn];exact fun h=>h rfl)]));subst hn;go_wp2_with fail
    go_roundg (4-(k+1))
    case measure=>omega
    case rel=>exact⟨k+1,by omega,by omega,by go_num,HF2,HX1,HR1,HB1⟩
   ·have hf2:(rn,rl)=(n,l):=by rw[← HRES.out,← HFF.out,HDR.out];unfold af9;(rw[if_pos (by exact hn)])
    injection hf2 with e1 e2
    subst e1 e2;have hn2:=amk hn;go_wp2_with fail;obtain⟨q1,q2,q3,q4⟩:=ali HR1.out (.string rn) (.slice A rl.length c) HB1.out (a8 _);refine b9 (v:=.agg #[.string rn,.slice A rl.length c]) (by rw[qm rfl];simp[asAddr,Result.andThen];exact q1) rfl ⟨A,⟨c,rfl⟩,?_,q2⟩;refine(HFL1.out.keep fun j hj=>q3 j om).less fun j hj=>⟨by omega,by rw[q4];exact hj.2⟩
  ·obtain rfl:k=4:=by omega
   have hf2:(rn,rl)=noF:=by rw[← HRES.out,← HFF.out,← HL4.out,b43];rfl
   injection hf2 with e1 e2
   subst e1 e2;have r0:=HR.out.cell 0 (v:=.string ⟨#[]⟩) rfl;have r1:=HR.out.cell 1 (v:=.slice none 0 0) rfl;have z0:=HR.out.fz 0;have z1:=HR.out.fz 1;go_wp2_with fail;obtain⟨q1,q2,q3,q4⟩:=ali HR.out (.string ⟨#[]⟩) (.slice none 0 0) HB.out (a8 _);refine b9 (v:=.agg #[.string ⟨#[]⟩,.slice none 0 0]) (by rw[qm rfl];simp[asAddr,Result.andThen];exact q1) rfl ⟨none,0,rfl,qf.nil _ _ _,q2⟩
theorem a9q (a b:Value) (W:World):(Instr.field 200 (.agg #[a,b]) 1).run prog W=.ok b W:=by kernel_rfl
theorem asj (i:Int) (w:World):Calls prog 110 #[.int .i64 i] w fun e w'=>∃A c,e=.returned (.slice A (xe i).2.length c)∧qf (fun b=>w.1.size≤b∧b<w'.1.size) w' A (q7 (xe i).2)∧Below w.1.size w w':=by
 have H:=hid (aht i w);generalize xe i=f at *;obtain⟨n,l⟩:=f;unfold xy at H;dsimp only at *;go_enter func110,ntmps110;go_wp2_with fail;refine(H.out).mono ?_;rintro e w1 ⟨A,c,rfl,hf,hb⟩;have HF:=hid (o4 hf hb);clear hf hb;have HFD:=a9q (.string n) (.slice A l.length c) w1;go_wp2_with fail;go_ret;exact⟨A,c,rfl,HF.out.1,HF.out.2⟩
theorem anf (p:Prt) (w:World):Calls prog 112 #[.agg #[.string p.nm,.int .i64 p.sz,.bool p.sg,.int .i64 p.mn]] w fun e w'=>e=.returned (.int .i64 (aak p:Int))∧Below w.1.size w w':=by
 obtain⟨nm,sz,sg,mn⟩:=p;unfold aak;dsimp only;have e:max (mn:Int) 1=((if mn=0 then 1 else mn:Nat):Int):=by split<;>omega
 generalize (if mn=0 then 1 else mn:Nat)=r at *;go_enter func112,ntmps112;go_wp2_with fail;go_ret;exact⟨by rw[← e];rfl,qa _ _⟩
def SmP (l:List Prt):Prop:=∀p∈l,p.sz≤8∧p.mn≤64
theorem a1q (p:Prt) (w:World) (hs:p.sz≤8) (hn:p.mn≤64):Calls prog 111 #[.agg #[.string p.nm,.int .i64 p.sz,.bool p.sg,.int .i64 p.mn]] w fun e w'=>e=.returned (.int .i64 ((p.sz*aak p:Nat):Int))∧Below w.1.size w w':=by
 have HN:=fun W=>hid (anf p W)
 have hnb:aak p≤64:=by unfold aak;split<;>omega
 obtain⟨nm,sz,sg,mn⟩:=p;generalize aak ⟨nm,sz,sg,mn⟩=r at *;dsimp only at *;have hml:sz*r≤8*64:=b34 hs hnb;have hmc:(sz:Int)*(r:Int)=((sz*r:Nat):Int):=(b1z sz r).symm;have e1:IntKind.i64.wrap ((sz:Int)*(r:Int))=((sz*r:Nat):Int):=by rw[hmc];exact b00 _ om
 have HM:=hid hmc;clear hmc;generalize sz*r=m at *;go_enter func111,ntmps111;go_upto_region 1 with fail;have HK:Hid (Blk (w.alloc (.cells #[.string nm,.int .i64 sz,.bool sg,.int .i64 mn] 261)) w.1.size [.string nm,.int .i64 sz,.bool sg,.int .i64 mn]):=hid (Blk.newL (qg w _ _) rfl);have HB:Hid (Below w.1.size w (w.alloc (.cells #[.string nm,.int .i64 sz,.bool sg,.int .i64 mn] 261))):=hid (qa _ _);generalize w.alloc (.cells #[.string nm,.int .i64 sz,.bool sg,.int .i64 mn] 261)=W1 at *
 try (apply b1e;intro K_ HK_)
 have hS0:Below W1.1.size W1 W1.drew:=(n6 _ _).drew;refine o7 (S:=fun w'=>Below W1.1.size W1 w') kr hS0 (fun hHeld0=>?_);refine tkA 0 3 rfl ?_;go_frame;refine tkQ (i:=1) (oi:=⟨some 4,_,_,_,_,_⟩) (v:=?_) rfl (Or.inl ⟨by rfl,?_⟩) ?_;rotate_left
 ·intro w' hSw;have x1:=(HK.out.on hSw).cell 1 (v:=.int .i64 sz) rfl;go_simp
  try with_reducible rfl
 try go_frame
 refine tkQ (i:=2) (oi:=⟨some 5,_,_,_,_,_⟩) (v:=_) rfl (n9 (by rfl) 261 _ rfl w.1.size 0 rfl [.string nm,.int .i64 sz,.bool sg,.int .i64 mn] _ (fun w' hSw=>(HK.out.on hSw).rg) underlying261 rfl kr) ?_;go_frame;refine rdB 3 6 rfl fun K hK=>?_
 go_step;refine(HN _).out.mono ?_;rintro e w2 ⟨rfl,hb⟩;have HS2:Hid (Below W1.1.size W1 w2):=hid (hHeld0.trans (hb.mono hHeld0.size));clear hb
 try go_frame
 refine hK.out _ _ (HS2.out) (fun hHeld=>?_);clear hK K
 try go_frame
 refine tkA 4 7 rfl ?_;go_frame;refine tkA 5 2 rfl ?_;go_frame;refine b0j kr ?_ _
 try go_frame
 have HB2:=hid (qb HB.out HS2.out);clear hHeld hHeld0 hS0;go_wp2_with fail;go_ret;exact⟨rfl,HB2.out⟩
theorem aj0 {Q:Nat→Prop} {w:World} {A:Option Addr} {l:List Prt} (h:qf Q w A (q7 l)) (k:Nat) (hk:k<l.length):∃b off,A=some ⟨b,off,none⟩∧Q b∧w.cell? ⟨b,off+k*4,none⟩=some (.string l[k].nm)∧w.cell? ⟨b,off+k*4+1,none⟩=some (.int .i64 (l[k].sz:Int))∧w.cell? ⟨b,off+k*4+2,none⟩=some (.bool l[k].sg)∧w.cell? ⟨b,off+k*4+3,none⟩=some (.int .i64 (l[k].mn:Int)):=by
 have e:=fun j hj=>aib ys 4 (fun _=>rfl) l k hk j hj
 obtain⟨b,off,hA,hb,h0⟩:=h _ _ (e 0 om);refine⟨b,off,hA,hb,h0,?_,?_,?_⟩
 ·obtain⟨b',off',hA',-,h1⟩:=h _ _ (e 1 om);rw[hA]at hA';injection hA' with hA';injection hA' with q1 q2;subst q1 q2
  exact h1
 ·obtain⟨b',off',hA',-,h1⟩:=h _ _ (e 2 om);rw[hA]at hA';injection hA' with hA';injection hA' with q1 q2;subst q1 q2
  exact h1
 ·obtain⟨b',off',hA',-,h1⟩:=h _ _ (e 3 om);rw[hA]at hA';injection hA' with hA';injection hA' with q1 q2;subst q1 q2
  exact h1
theorem bcr (l:List Prt) (p:Prt):ym (l++[p])=ym l+p.sz*aak p:=by simp[ym]
theorem a0g {p:Prt} (h:p.mn≤64):aak p≤64:=by unfold aak;split<;>omega
theorem axx:∀l:List Prt,SmP l→ym l≤l.length*512
 | [],_=>by simp[ym]
 | p::l,h=>by
  have h1:=h p (b1s ..);have h2:=axx l (fun q hq=>h q (b1w _ hq));have h3:p.sz*aak p≤8*64:=b34 h1.1 (a0g h1.2);have h4:ym (p::l)=p.sz*aak p+ym l:=by simp[ym]
  rw[h4,n7];omega
theorem bhe (x:Value) (W:World):(callFunc 111 #[x]).run prog W=.ok (.enter 111 #[x]) W:=by kernel_rfl
theorem a1p {Q:Nat→Prop} {w:World} (A:Option Addr) (l:List Prt) (c:Nat) (h:qf Q w A (q7 l)) (hm:l.length≤1000) (hsm:SmP l) :
 Calls prog 109 #[.slice A l.length c,.func (.func 111) #[] #[]] w fun e w'=>e=.returned (.int .i64 (ym l:Int))∧Below w.1.size w w':=by
 replace h:=h.lt;have HI:=hid h;have HS:=hid hsm;have HE:Hid (l.take l.length=l):=hid (by rw[b0o]);obtain⟨n,hn⟩:∃n,l.length=n:=⟨_,rfl⟩;rw[hn]at hm HE ⊢;have HL:=hid hn;clear hn h hsm;go_enter func109,ntmps109;go_wp2_with fail
 go_loopg [5,10] n (fun g s5 s10 wr=>∃k:Nat,k≤n∧n-k≤g∧s10=.int .i64 k∧s5=.int .i64 (ym (l.take k):Int)∧Hid (Below w.1.size w wr))
 case atStart=>exact⟨0,by omega,by omega,rfl,rfl,n6 _ _⟩
 case round=>
  obtain⟨k,hk,hg,rfl,rfl,HB⟩:=hrel
  by_cases hlt:k<n
  ·have hkl:k<l.length:=by rw[HL.out];exact hlt
   obtain⟨b',o',rfl,hq,c0,c1,c2,c3⟩:=aj0 HI.out k hkl;have HW:=hid (by rw[o5 hkl,bcr]:ym (l.take (k+1))=ym (l.take k)+l[k].sz*aak l[k]);have hwl:=axx (l.take k) (fun q hq=>HS.out q (b25 hq));rw[l7,b1d om]at hwl;have hsz:=HS.out l[k] (b1c hkl);have HC:=fun W=>hid (a1q l[k] W hsz.1 hsz.2)
   have hml:l[k].sz*aak l[k]≤8*64:=b34 hsz.1 (a0g hsz.2);have d0:=(HB.out.cell (p:=⟨b',o'+k*4,none⟩) hq.2).trans c0;have d1:=(HB.out.cell (p:=⟨b',o'+k*4+1,none⟩) hq.2).trans c1;have d2:=(HB.out.cell (p:=⟨b',o'+k*4+2,none⟩) hq.2).trans c2;have d3:=(HB.out.cell (p:=⟨b',o'+k*4+3,none⟩) hq.2).trans c3;clear c0 c1 c2 c3 hsz;generalize l[k]=p at *;obtain⟨nm,sz,sg,mn⟩:=p;dsimp only at *;generalize sz*aak ⟨nm,sz,sg,mn⟩=m at *;generalize ym (l.take k)=u at *;have i1:(k:Int)<n:=by omega
   have i2:(0:Int) ≤(k:Int):=n8 _;have HN1:Hid (Blk (wr.alloc (.cells #[.string nm,.int .i64 sz,.bool sg,.int .i64 mn] 261)) wr.1.size [.string nm,.int .i64 sz,.bool sg,.int .i64 mn]):=hid (Blk.newL (qg wr _ _) rfl);have HB1:=hid (qb HB.out (qa wr (.cells #[.string nm,.int .i64 sz,.bool sg,.int .i64 mn] 261)));have HCL:=fun x W=>bhe x W
   go_upto_region 5 with fail;clear d0 d1 d2 d3 HB;generalize wr.alloc (.cells #[.string nm,.int .i64 sz,.bool sg,.int .i64 mn] 261)=W1 at *;generalize wr.1.size=q at *;have x0:=HN1.out.cell 0 (v:=.string nm) rfl;have x1:=HN1.out.cell 1 (v:=.int .i64 sz) rfl;have x2:=HN1.out.cell 2 (v:=.bool sg) rfl;have x3:=HN1.out.cell 3 (v:=.int .i64 mn) rfl;go_wp2_with fail;refine(HC W1).out.mono ?_;rintro e w2 ⟨rfl,hb⟩;have HB2:=hid (qb HB1.out hb);clear hb x0 x1 x2 x3;go_wp2_with fail
   go_roundg (n-(k+1))
   case measure=>omega
   case rel=>exact⟨k+1,by omega,by omega,by go_num,by rw[HW.out];go_num,HB2⟩
  ·obtain rfl:k=n:=by omega
   rw[HE.out];obtain⟨u,hu⟩:∃u,ym l=u:=⟨_,rfl⟩;have HU:=hid hu;rw[hu];clear hu;go_wp2_with fail;go_ret;exact⟨by rw[HU.out];rfl,HB.out⟩
theorem aw9 (i:Int) (w:World) (hm:(xe i).2.length≤1000) (hs:SmP (xe i).2):Calls prog 85 #[.int .i64 i] w fun e w'=>e=.returned (.int .i64 (ym (xe i).2:Int))∧Below w.1.size w w':=by
 have HP:=hid (asj i w);have HS:∀W A c,qf (fun b=>w.1.size≤b∧b<W.1.size) W A (q7 (xe i).2)→Hid (Calls prog 109 #[.slice A (xe i).2.length c,.func (.func 111) #[] #[]] W fun e w'=>e=.returned (.int .i64 (ym (xe i).2:Int))∧Below W.1.size W w'):=fun W A c hf=>hid (a1p A (xe i).2 c hf hm hs)
 clear hm hs;generalize (xe i).2=l at *;go_enter func85,ntmps85;go_wp2_with fail;refine(HP.out).mono ?_;rintro e w1 ⟨A,c,rfl,hf,hb⟩;have HC:=HS w1 A c hf;have HB:=hid hb;clear hf hb HS;go_wp2_with fail;refine HC.out.mono ?_;rintro e w2 ⟨rfl,hb⟩;have HB2:=hid (qb HB.out hb);clear hb;go_wp2_with fail;go_ret;exact⟨rfl,HB2.out⟩
section
variable {P : Program}
theorem ak9 (w:World) (dT sT ty elem:TypeId) (m:Nat) (hu:P.underlying dT=some (.slice elem)) (hs:(P.info? elem).map (·.size)=some m) {R:Nat→Prop} (b n dCap:Nat) (X:Option Addr) (sCap:Nat) (xs:List Value)
 (hx:qf R w X xs) (hl:xs.length=n*m) (h1:∀v∈xs,v.oneCell'=true) (ht:w.there b 0 (n*m)) :
 ∃W,(Builtin.copy_ #[dT,sT] ty #[.slice (some ⟨b,0,none⟩) n dCap,.slice X n sCap]).run P w=.ok (goInt n) W∧qp w W b 0 xs:=by
 obtain⟨i,hq,hi⟩:∃i,P.info? elem=some i∧i.size=m:=by
  cases hq:P.info? elem with
  | none=>simp[hq]at hs
  | some i=>exact⟨i,rfl,by simpa [hq]using hs⟩
 have hst:=run_storeCells_cells (P:=P) b 0 xs 0 w (fun j hj=>by have:=(ht j om).1;simpa using this) (fun j hj=>by have:=(ht j om).2;simpa using this) h1;refine⟨w.setCells b 0 xs,?_,qo (by rw[hl];exact ht)⟩
 by_cases h0:xs=[]
 ·subst h0;have hz:n*i.size=0:=by rw[hi];simpa using hl.symm
  cases X with
  | none=>simp[Builtin.copy_,b24 hu,Builtin.lenOf,Builtin.firstCells,sizeOf,typeInfo,hq,storeCells,World.setCells]
  | some a=>
   have hll:(loadCells a 0).run P w=.ok #[] w:=by simpa using b4k (P:=P) w a [] sm
   simp[Builtin.copy_,b24 hu,Builtin.lenOf,Builtin.firstCells,sizeOf,typeInfo,hq,hz,hll,storeCells,World.setCells]
 ·have hpos:0<xs.length:=b2f.2 h0;obtain⟨xb,xo,hX,-,-⟩:=hx 0 xs[0] (c8 hpos);subst hX
  have hll:=b4k (P:=P) w ⟨xb,xo,none⟩ xs (fun j v hv=>by
   obtain⟨b',off,e1,-,e3⟩:=hx j v hv;injection e1 with e1
   injection e1 with e1 e2
   subst e1 e2;rw[adn];exact e3)
  rw[hl,← hi]at hll;simp[Builtin.copy_,b24 hu,Builtin.lenOf,Builtin.firstCells,sizeOf,typeInfo,hq,hll,hst]
end
def abg {α:Type} (r:List α) (x:α) (rest:List α) (j:Nat):List α:=(r.drop j).reverse ++(x::((r.take j).reverse++rest))
theorem arc {α:Type} (r:List α) (x:α) (rest:List α):abg r x rest 0=r.reverse++x::rest:=by simp[abg]
theorem a12 {α:Type} (r:List α) (x:α) (rest:List α) (j:Nat) (h:j<r.length):abg r x rest j=(r.drop (j+1)).reverse ++([r[j]] ++([x] ++((r.take j).reverse++rest))):=by
 unfold abg;rw[b0n h,b4v];simp
theorem arb {α:Type} (r:List α) (x:α) (rest:List α) (j:Nat) (h:j<r.length):abg r x rest (j+1)=(r.drop (j+1)).reverse ++([x] ++([r[j]] ++((r.take j).reverse++rest))):=by
 unfold abg;rw[o5 h,List.reverse_append];simp
theorem aie {α:Type} (ahead:α→α→Bool) (r:List α) (x:α) (j:Nat) (hj:j≤r.length) (hi:km ahead r x=r.take j++km ahead (r.drop j) x) (h:∀(q:j<r.length),ahead x r[j]=false) (rest:List α):abg r x rest j=(km ahead r x).reverse++rest:=by
 have e:km ahead (r.drop j) x=x::r.drop j:=by
  rcases b01 j r.length with q|q
  ·rw[b0n q];unfold km;rw[if_neg (by rw[h q];decide)]
  ·rw[b1x q];rfl
 rw[hi,e];simp[abg]
theorem a71 {α:Type} (ahead:α→α→Bool) (r:List α) (x:α) (j:Nat) (hj:j<r.length) (hi:km ahead r x=r.take j++km ahead (r.drop j) x) (h:ahead x r[j]=true):km ahead r x=r.take (j+1)++km ahead (r.drop (j+1)) x:=by
 rw[hi,b0n hj]
 conv=>lhs;unfold km
 rw[if_pos h,o5 hj];simp only[b0l,b02,b03]
def gtP (a b:Prt):Bool:=decide (b.sz<a.sz)
def gtS (a b:Slt):Bool:=decide (b.sz<a.sz)
theorem aqy (p q:Prt) (w:World):Calls prog 185 #[.agg #[.string p.nm,.int .i64 p.sz,.bool p.sg,.int .i64 p.mn],.agg #[.string q.nm,.int .i64 q.sz,.bool q.sg,.int .i64 q.mn]] w fun e w'=>e=.returned (.bool (gtP p q))∧Below w.1.size w w':=by
 obtain⟨nm,sz,sg,mn⟩:=p;obtain⟨nm',sz',sg',mn'⟩:=q;unfold gtP;dsimp only
 by_cases h:sz'<sz
 ·have h1:(sz':Int)<(sz:Int):=by omega
  rw[p9 h];go_enter func185,ntmps185;go_wp2_with fail;go_ret;exact⟨rfl,qb (qa _ _) (qa _ _)⟩
 ·have h1:¬(sz':Int)<(sz:Int):=by omega
  rw[o3 h];go_enter func185,ntmps185;go_wp2_with fail;go_ret;exact⟨rfl,qb (qa _ _) (qa _ _)⟩
theorem asl (p q:Slt) (w:World):Calls prog 121 #[.agg #[.int .i64 p.sz,.bool p.sg,.int .i64 p.ix],.agg #[.int .i64 q.sz,.bool q.sg,.int .i64 q.ix]] w fun e w'=>e=.returned (.bool (gtS p q))∧Below w.1.size w w':=by
 obtain⟨sz,sg,mn⟩:=p;obtain⟨sz',sg',mn'⟩:=q;unfold gtS;dsimp only
 by_cases h:sz'<sz
 ·have h1:(sz':Int)<(sz:Int):=by omega
  rw[p9 h];go_enter func121,ntmps121;go_wp2_with fail;go_ret;exact⟨rfl,qb (qa _ _) (qa _ _)⟩
 ·have h1:¬(sz':Int)<(sz:Int):=by omega
  rw[o3 h];go_enter func121,ntmps121;go_wp2_with fail;go_ret;exact⟨rfl,qb (qa _ _) (qa _ _)⟩
theorem aq9 {α:Type} (ahead:α→α→Bool) (l:List α) (k:Nat) (h:k<l.length):(l.take (k+1)).foldl (km ahead) []=km ahead ((l.take k).foldl (km ahead) []) l[k]:=by
 rw[o5 h,b4w];rfl
theorem azj {α:Type} (ahead:α→α→Bool) (l:List α) (k:Nat) (h:k≤l.length):((l.take k).foldl (km ahead) []).length=k:=by
 rw[al1];simp[h]
theorem acw (z:Array Value) (n:Nat):(madeCells z n).toList.length=n:=by simp[madeCells]
theorem a1n {w:World} {g q:Nat} {D E:List Prt} {x y:Prt} (h:Blk w g (q7 (D ++([y] ++([x]++E))))) (hq:D.length=q):(∀w',Below w.1.size w w'→w'.rangeAt g ((q+1)*4) (ys x)) ∧(∀w',Below w.1.size w w'→w'.rangeAt g (q*4) (ys y))∧∀o,w.frozen? ⟨g,o,none⟩=false:=by
 have e:q7 (D ++([y] ++([x]++E)))=q7 D++ys y++ys x++q7 E:=by simp[q7]
 have e2:q7 (D ++([y] ++([x]++E)))=q7 D++ys y ++(ys x++q7 E):=by simp[q7]
 have l1:(q7 D).length=q*4:=by rw[ads,hq]
 refine⟨fun w' hb=>?_,fun w' hb=>?_,h.fz⟩
 ·have q1:=(h.on hb);rw[e]at q1;have q2:=Blk.sub (A:=q7 D++ys y) (M:=ys x) (D:=q7 E) q1
  rwa [d7,l1,show q*4 +(ys y).length=(q+1)*4 from by show q*4+4=_;omega]at q2
 ·have q1:=(h.on hb);rw[e2]at q1;have q2:=Blk.sub (A:=q7 D) (M:=ys y) (D:=ys x++q7 E) q1
  rwa [l1]at q2
theorem asm {w:World} {g q B:Nat} {D E:List Prt} {x y:Prt} (h:Blk w g (q7 (D ++([y] ++([x]++E))))) (hq:D.length=q) (hB:B≤g):Blk ((w.setCells g ((q+1)*4) (ys y)).setCells g (q*4) (ys x)) g (q7 (D ++([x] ++([y]++E))))∧Below B w ((w.setCells g ((q+1)*4) (ys y)).setCells g (q*4) (ys x)):=by
 have e:q7 (D ++([y] ++([x]++E)))=(q7 D++ys y)++ys x++q7 E:=by simp[q7]
 have e2:q7 (D ++([x] ++([y]++E)))=q7 D++ys x ++(ys y++q7 E):=by simp[q7]
 have l1:(q7 D).length=q*4:=by rw[ads,hq]
 have l2:(q7 D++ys y).length=(q+1)*4:=by rw[d7,l1];show q*4+4=_;omega
 rw[e]at h;have s1:qp w (w.setCells g ((q+1)*4) (ys y)) g ((q+1)*4) (ys y):=qo (h.there _ _ (by rw[d7,d7,l2];show (q+1)*4+4 ≤(q+1)*4+4+_;omega));have h1:=Blk.put (A:=q7 D++ys y) (M:=ys x) (D:=q7 E) h s1 l2 rfl;rw[show q7 D++ys y++ys y++q7 E=q7 D++ys y ++(ys y++q7 E)from by simp]at h1;have s2:qp (w.setCells g ((q+1)*4) (ys y)) ((w.setCells g ((q+1)*4) (ys y)).setCells g (q*4) (ys x)) g (q*4) (ys x):=qo (h1.there _ _ (by rw[d7,d7,l1];show q*4+4≤q*4+4+_;omega));have h2:=Blk.put (A:=q7 D) (M:=ys y) (D:=ys y++q7 E) h1 s2 l1 rfl;rw[e2];exact⟨h2,(s1.below hB).trans (s2.below hB)⟩
theorem aw3 (x y:Value) (W:World):(callFunc 185 #[x,y]).run prog W=.ok (.enter 185 #[x,y]) W:=by kernel_rfl
theorem aw2 {Q:Nat→Prop} {w:World} (A:Option Addr) (l:List Prt) (c:Nat) (h:qf Q w A (q7 l)) (hm:l.length≤1000) :
 Calls prog 184 #[.slice A l.length c,.func (.func 185) #[] #[]] w fun e w'=>∃g,e=.returned (.slice (some ⟨g,0,none⟩) l.length l.length)∧Blk w' g (q7 (agy gtP l))∧w.1.size≤g∧Below w.1.size w w':=by
 have HI:=hid h.lt;obtain⟨i0,hi,hz0,hz1,hz2⟩:=kj aqh;have HIN:=hid hi;have HZ:=hid (o4 hz0 (o4 hz1 hz2));have HFE:Hid (∀k,k≤l.length →((l.take k).foldl (km gtP) []).length=k):=hid (azj gtP l);obtain⟨n,hn⟩:∃n,l.length=n:=⟨_,rfl⟩;rw[hn]at hm HFE ⊢;have HL:=hid hn;clear hn h hi hz0 hz1 hz2;have HCL:=fun x y W=>aw3 x y W
 go_enter func184,ntmps184;go_wp2_with (refine yz rfl _ _ 198 261 rfl i0 _ underlying198 HIN.out HZ.out.1 .i64 .i64 n rfl rfl (by rw[HZ.out.2.2];omega) om ?_;intro W1 hG;have HG1:=hid hG;clear hG)
 have HK1:Hid (w.1.size<W1.1.size∧W1.there w.1.size 0 (n*4)∧Below w.1.size w W1):=hid (by
  have hk:=Blk.newL HG1.out rfl;refine⟨hk.lt,hk.there 0 (n*4) ?_,HG1.out.bel⟩;rw[acw,HZ.out.2.1,b0e];exact a8 _)
 obtain⟨W2,q1,q2⟩:=ak9 (P:=prog) W1 198 198 3 261 4 underlying198 (by rw[HIN.out];simp[HZ.out.2.1]) w.1.size n n A c (q7 l) (HI.out.below HK1.out.2.2 (fun _ q=>q.2)) (by rw[ads,HL.out]) (aty l) HK1.out.2.1
 have HK2:Hid (Blk W2 w.1.size (q7 l)):=hid (by
  have hk:=Blk.newL HG1.out rfl;exact hk.all q2 (by rw[acw,HZ.out.2.1,ads,HL.out]))
 have HB2:Hid (Below w.1.size w W2):=hid (HK1.out.2.2.trans (q2.below (a8 _)));have HRC:=hid q1;clear q1 q2 HG1 HK1;go_wp2_with fail;rw[HRC.out];clear HRC;go_wp2_with fail;obtain⟨g,hgz⟩:∃g,w.1.size=g:=⟨_,rfl⟩;rw[hgz]at HK2;simp only[hgz];have HGZ:=hid hgz;clear hgz
 go_loopg [16] n (fun t s16 wr=>∃i:Nat,i≤n∧n-i≤t∧s16=.int .i64 i∧Hid (Blk wr g (q7 (((l.take i).foldl (km gtP) []).reverse++l.drop i)))∧Hid (Below w.1.size w wr))
 case atStart=>exact⟨0,by omega,by omega,rfl,HK2.out,HB2⟩
 case round=>
  obtain⟨i,hi,ht,rfl,HK,HB⟩:=hrel;clear HK2 HB2
  by_cases hlt:i<n
  ·have hil:i<l.length:=by rw[HL.out];exact hlt
   have HSN:Hid ((l.take (i+1)).foldl (km gtP) []=km gtP ((l.take i).foldl (km gtP) []) l[i]):=hid (aq9 gtP l i hil);have HRL:=hid (HFE.out i om);have HST:Hid (Blk wr g (q7 (abg ((l.take i).foldl (km gtP) []) l[i] (l.drop (i+1)) 0))):=hid (by rw[arc,← b0n hil];exact HK.out);clear HK;generalize (l.take i).foldl (km gtP) []=r at *;generalize l[i]=x at *;obtain⟨rest,hrest⟩:∃rest,l.drop (i+1)=rest:=⟨_,rfl⟩;rw[hrest]at HST;have HRS:=hid hrest;clear hrest;have i1:(i:Int)<n:=by omega
   have i2:(0:Int) ≤(i:Int):=n8 _;go_wp2_with fail
   go_loopg [7] i (fun t2 s7 wr=>∃j:Nat,j≤i∧i-j≤t2∧s7=.int .i64 ((i-j:Nat):Int)∧Hid (km gtP r x=r.take j++km gtP (r.drop j) x)∧Hid (Blk wr g (q7 (abg r x rest j)))∧Hid (Below w.1.size w wr))
   case atStart=>exact⟨0,by omega,by omega,rfl,rfl,HST,HB⟩
   case round=>
    obtain⟨j,hj,ht2,rfl,HIR,HK,HBI⟩:=hrel;clear HST HB;obtain⟨kk,hkk⟩:∃kk,i-j=kk:=⟨_,rfl⟩;rw[hkk]at ht2 ⊢;rcases kk with _|q
    ·obtain rfl:j=i:=by omega
     have HDONE:Hid (abg r x rest j=(km gtP r x).reverse++rest):=hid (aie gtP r x j (by rw[HRL.out];exact a8 _) HIR.out (fun q=>absurd q (by rw[HRL.out];omega)) rest);have HKN:Hid (Blk wr.drew g (q7 (((l.take (j+1)).foldl (km gtP) []).reverse++l.drop (j+1)))):=hid (by rw[HSN.out,HRS.out,← HDONE.out];exact HK.out.drew);have HBN:Hid (Below w.1.size w wr.drew):=hid HBI.out.drew;go_upto_region 7 with fail
     try (apply b1e;intro K_ HK_)
     have hS0:Below wr.1.size wr wr.drew:=(n6 _ _).drew;refine o7 (S:=fun w'=>Below wr.1.size wr w') kr hS0 (fun hHeld0=>?_);refine tkA 0 20 rfl ?_;go_frame;refine tkA 1 21 rfl ?_;go_frame;refine tkA 2 22 rfl ?_;go_frame;refine tkU 3 23 rfl ?_;go_frame;refine tkU 4 24 rfl ?_;go_frame;refine tkU 5 25 rfl ?_;go_frame;refine tkU 6 26 rfl ?_;go_frame;refine tkU 7 27 rfl ?_;go_frame;refine tkU 8 28 rfl ?_;go_frame;refine tkU 9 29 rfl ?_;go_frame;refine tkU 10 30 rfl ?_;go_frame;refine tkU 11 31 rfl ?_;go_frame;refine tkU 12 32 rfl ?_;go_frame;refine tkU 13 33 rfl ?_;go_frame;refine tkA 14 34 rfl ?_;go_frame;refine b0j kr ?_ _
     try go_frame
     clear hHeld0 hS0;go_wp2_with fail
     go_roundg (n-(j+1))
     case measure=>omega
     case rel=>exact⟨j+1,by omega,by omega,by go_num,HKN,HBN⟩
    ·have hjr:j<r.length:=by rw[HRL.out];omega
     have HLS:Hid (abg r x rest j=(r.drop (j+1)).reverse ++([r[j]] ++([x] ++((r.take j).reverse++rest)))):=hid (a12 r x rest j hjr);have HLT:Hid (abg r x rest (j+1)=(r.drop (j+1)).reverse ++([x] ++([r[j]] ++((r.take j).reverse++rest)))):=hid (arb r x rest j hjr);have HGO:Hid (gtP x r[j]=true→km gtP r x=r.take (j+1)++km gtP (r.drop (j+1)) x):=hid (a71 gtP r x j hjr HIR.out);have HSP:Hid (gtP x r[j]=false→abg r x rest j=(km gtP r x).reverse++rest):=hid (fun hh=>aie gtP r x j (b14 hjr) HIR.out (fun _=>hh) rest);have HDQ:Hid ((r.drop (j+1)).reverse.length=q):=hid (by rw[b29,l8,HRL.out];omega);generalize (r.drop (j+1)).reverse=D at HLS HLT HDQ;generalize (r.take j).reverse++rest=E at HLS HLT;generalize r[j]=y at HLS HLT HGO HSP;have HBK:Hid (Blk wr g (q7 (D ++([y] ++([x]++E))))):=hid (by rw[← HLS.out];exact HK.out);have HAT:=hid (a1n HBK.out HDQ.out)
     obtain⟨bb,hbb⟩:∃bb,gtP x y=bb:=⟨_,rfl⟩;have HG:∀W,Hid (Calls prog 185 #[.agg (ys x).toArray,.agg (ys y).toArray] W fun e w'=>e=.returned (.bool bb)∧Below W.1.size W w'):=fun W=>hid (by rw[← hbb];exact aqy x y W)
     have HBB:=hid hbb;clear hbb;obtain⟨x0,x1,x2,x3⟩:=x;obtain⟨y0,y1,y2,y3⟩:=y;have HX:Hid (∀w',Below wr.1.size wr w'→w'.rangeAt g ((q+1)*4) [.string x0,.int .i64 (x1:Nat),.bool x2,.int .i64 (x3:Nat)]):=hid HAT.out.1;have HY:Hid (∀w',Below wr.1.size wr w'→w'.rangeAt g (q*4) [.string y0,.int .i64 (y1:Nat),.bool y2,.int .i64 (y3:Nat)]):=hid HAT.out.2.1;change ∀W,Hid (Calls prog 185 #[.agg #[.string x0,.int .i64 (x1:Nat),.bool x2,.int .i64 (x3:Nat)],.agg #[.string y0,.int .i64 (y1:Nat),.bool y2,.int .i64 (y3:Nat)]] W fun e w'=>e=.returned (.bool bb)∧Below W.1.size W w')at HG;have i3:(q:Int)+1<n:=by omega
     have i4:(0:Int) ≤(q:Int)+1:=by omega
     have i5:(q:Int)<n:=by omega
     have i6:(0:Int) ≤(q:Int):=by omega
     have i7:(0:Int)<(q:Int)+1:=by omega
     have f1:IntKind.i64.wrap (q:Int)=(q:Int):=b00 _ om;clear HAT;cases bb
     ·have HKN:∀w2,Below wr.1.size wr w2→Hid (Blk w2 g (q7 (((l.take (i+1)).foldl (km gtP) []).reverse++l.drop (i+1)))):=fun w2 hb=>hid (by rw[HSN.out,HRS.out,← HSP.out HBB.out];exact HK.out.on hb)
      go_upto_region 7 with fail
      try (apply b1e;intro K_ HK_)
      have hS0:Below wr.1.size wr wr.drew:=(n6 _ _).drew;refine o7 (S:=fun w'=>Below wr.1.size wr w') kr hS0 (fun hHeld0=>?_);refine tkA 0 20 rfl ?_;go_frame;refine tkA 1 21 rfl ?_;go_frame;refine tkA 2 22 rfl ?_;go_frame;refine tkA 3 23 rfl ?_;go_frame;refine tkA 4 24 rfl ?_;go_frame;refine tkA 5 25 rfl ?_;go_frame;refine tkA 6 26 rfl ?_;go_frame;refine tkQ (i:=7) (oi:=⟨some 27,_,_,_,_,_⟩) (v:=_) rfl (n9 (by rfl) 261 _ rfl g ((q+1)*4) rfl [.string x0,.int .i64 (x1:Nat),.bool x2,.int .i64 (x3:Nat)] _ (fun w' hSw=>(HX.out w' hSw)) underlying261 rfl kr) ?_;go_frame;refine tkA 8 28 rfl ?_;go_frame;refine tkA 9 29 rfl ?_;go_frame;refine tkA 10 30 rfl ?_;go_frame;refine tkA 11 31 rfl ?_;go_frame;refine tkQ (i:=12) (oi:=⟨some 32,_,_,_,_,_⟩) (v:=_) rfl (n9 (by rfl) 261 _ rfl g (q*4) rfl [.string y0,.int .i64 (y1:Nat),.bool y2,.int .i64 (y3:Nat)] _ (fun w' hSw=>(HY.out w' hSw)) underlying261 rfl kr) ?_
      go_frame;refine rdB 13 33 rfl fun K hK=>?_
      go_step;refine(HG _).out.mono ?_;rintro e w2 ⟨rfl,hb⟩;have HS2:Hid (Below wr.1.size wr w2):=hid (hHeld0.trans (hb.mono hHeld0.size));clear hb
      try go_frame
      refine hK.out _ _ (HS2.out) (fun hHeld=>?_);clear hK K
      try go_frame
      refine tkA 14 34 rfl ?_;go_frame;refine b0j kr ?_ _
      try go_frame
      have HKN2:=HKN w2 HS2.out;have HBN:=hid (qb HBI.out HS2.out);clear hHeld hHeld0 hS0;go_wp2_with fail
      go_roundg (n-(i+1))
      case measure=>omega
      case rel=>exact⟨i+1,by omega,by omega,by go_num,HKN2,HBN⟩
     ·go_upto_region 7 with fail
      try (apply b1e;intro K_ HK_)
      have hS0:Below wr.1.size wr wr.drew:=(n6 _ _).drew;refine o7 (S:=fun w'=>Below wr.1.size wr w') kr hS0 (fun hHeld0=>?_);refine tkA 0 20 rfl ?_;go_frame;refine tkA 1 21 rfl ?_;go_frame;refine tkA 2 22 rfl ?_;go_frame;refine tkA 3 23 rfl ?_;go_frame;refine tkA 4 24 rfl ?_;go_frame;refine tkA 5 25 rfl ?_;go_frame;refine tkA 6 26 rfl ?_;go_frame;refine tkQ (i:=7) (oi:=⟨some 27,_,_,_,_,_⟩) (v:=_) rfl (n9 (by rfl) 261 _ rfl g ((q+1)*4) rfl [.string x0,.int .i64 (x1:Nat),.bool x2,.int .i64 (x3:Nat)] _ (fun w' hSw=>(HX.out w' hSw)) underlying261 rfl kr) ?_;go_frame;refine tkA 8 28 rfl ?_;go_frame;refine tkA 9 29 rfl ?_;go_frame;refine tkA 10 30 rfl ?_;go_frame;refine tkA 11 31 rfl ?_;go_frame;refine tkQ (i:=12) (oi:=⟨some 32,_,_,_,_,_⟩) (v:=_) rfl (n9 (by rfl) 261 _ rfl g (q*4) rfl [.string y0,.int .i64 (y1:Nat),.bool y2,.int .i64 (y3:Nat)] _ (fun w' hSw=>(HY.out w' hSw)) underlying261 rfl kr) ?_
      go_frame;refine rdB 13 33 rfl fun K hK=>?_
      go_step;refine(HG _).out.mono ?_;rintro e w2 ⟨rfl,hb⟩;have HS2:Hid (Below wr.1.size wr w2):=hid (hHeld0.trans (hb.mono hHeld0.size));clear hb
      try go_frame
      refine hK.out _ _ (HS2.out) (fun hHeld=>?_);clear hK K
      try go_frame
      refine tkA 14 34 rfl ?_;go_frame;refine b0j kr ?_ _
      try go_frame
      have HK2:=hid (HBK.out.on HS2.out);have HBN:=hid (qb HBI.out HS2.out);have hcx:=HX.out w2 HS2.out;have hcy:=HY.out w2 HS2.out;have cx0:w2.cell? ⟨g,(q+1)*4,none⟩=some (.string x0):=hcx 0 _ rfl;have cx1:w2.cell? ⟨g,(q+1)*4+1,none⟩=some (.int .i64 (x1:Nat)):=hcx 1 _ rfl;have cx2:w2.cell? ⟨g,(q+1)*4+2,none⟩=some (.bool x2):=hcx 2 _ rfl;have cx3:w2.cell? ⟨g,(q+1)*4+3,none⟩=some (.int .i64 (x3:Nat)):=hcx 3 _ rfl;have cy0:w2.cell? ⟨g,q*4,none⟩=some (.string y0):=hcy 0 _ rfl;have cy1:w2.cell? ⟨g,q*4+1,none⟩=some (.int .i64 (y1:Nat)):=hcy 1 _ rfl;have cy2:w2.cell? ⟨g,q*4+2,none⟩=some (.bool y2):=hcy 2 _ rfl;have cy3:w2.cell? ⟨g,q*4+3,none⟩=some (.int .i64 (y3:Nat)):=hcy 3 _ rfl;have zx0:w2.frozen? ⟨g,(q+1)*4,none⟩=false:=HK2.out.fz _;have zx1:w2.frozen? ⟨g,(q+1)*4+1,none⟩=false:=HK2.out.fz _;have zx2:w2.frozen? ⟨g,(q+1)*4+2,none⟩=false:=HK2.out.fz _
      have zx3:w2.frozen? ⟨g,(q+1)*4+3,none⟩=false:=HK2.out.fz _;have zy0:w2.frozen? ⟨g,q*4,none⟩=false:=HK2.out.fz _;have zy1:w2.frozen? ⟨g,q*4+1,none⟩=false:=HK2.out.fz _;have zy2:w2.frozen? ⟨g,q*4+2,none⟩=false:=HK2.out.fz _;have zy3:w2.frozen? ⟨g,q*4+3,none⟩=false:=HK2.out.fz _;have HSW:=hid (asm (B:=w.1.size) HK2.out HDQ.out (by rw[HGZ.out];exact a8 _));clear hHeld hHeld0 hS0 hcx hcy;go_upto_region 9 with fail;have HKN:Hid (Blk (((((((((w2.setCell ⟨g,(q+1)*4,none⟩ (.string y0)).setCell ⟨g,(q+1)*4+1,none⟩ (.int .i64 (y1:Nat))).setCell ⟨g,(q+1)*4+2,none⟩ (.bool y2)).setCell ⟨g,(q+1)*4+3,none⟩ (.int .i64 (y3:Nat))).setCell ⟨g,q*4,none⟩ (.string x0)).setCell ⟨g,q*4+1,none⟩ (.int .i64 (x1:Nat))).setCell ⟨g,q*4+2,none⟩ (.bool x2)).setCell ⟨g,q*4+3,none⟩ (.int .i64 (x3:Nat)))).drew g (q7 (abg r ⟨x0,x1,x2,x3⟩ rest (j+1)))):=hid (by rw[HLT.out];exact HSW.out.1.drew)
      have HBX:Hid (Below w.1.size w (((((((((w2.setCell ⟨g,(q+1)*4,none⟩ (.string y0)).setCell ⟨g,(q+1)*4+1,none⟩ (.int .i64 (y1:Nat))).setCell ⟨g,(q+1)*4+2,none⟩ (.bool y2)).setCell ⟨g,(q+1)*4+3,none⟩ (.int .i64 (y3:Nat))).setCell ⟨g,q*4,none⟩ (.string x0)).setCell ⟨g,q*4+1,none⟩ (.int .i64 (x1:Nat))).setCell ⟨g,q*4+2,none⟩ (.bool x2)).setCell ⟨g,q*4+3,none⟩ (.int .i64 (x3:Nat)))).drew):=hid (HBN.out.trans HSW.out.2.drew);have HIN2:=hid (HGO.out HBB.out);have HQJ:Hid (i-(j+1)=q):=hid om;clear HSW HK2 HBN
      go_region
      clear cx0 zx0 cx1 zx1 cx2 zx2 cx3 zx3 cy0 zy0 cy1 zy1 cy2 zy2 cy3 zy3;generalize (((((((((w2.setCell ⟨g,(q+1)*4,none⟩ (.string y0)).setCell ⟨g,(q+1)*4+1,none⟩ (.int .i64 (y1:Nat))).setCell ⟨g,(q+1)*4+2,none⟩ (.bool y2)).setCell ⟨g,(q+1)*4+3,none⟩ (.int .i64 (y3:Nat))).setCell ⟨g,q*4,none⟩ (.string x0)).setCell ⟨g,q*4+1,none⟩ (.int .i64 (x1:Nat))).setCell ⟨g,q*4+2,none⟩ (.bool x2)).setCell ⟨g,q*4+3,none⟩ (.int .i64 (x3:Nat)))).drew=w3 at *;go_wp2_with fail
      go_roundg (i-(j+1))
      case measure=>omega
      case rel=>exact⟨j+1,by omega,by omega,by rw[HQJ.out],HIN2,HKN,HBX⟩
  ·obtain rfl:i=n:=by omega
   have HKN:Hid (Blk wr g (q7 (agy gtP l))):=hid (by
    have q:=HK.out;rw[← HL.out,b0o,b43,b0k]at q;exact q)
   go_wp2_with fail;go_ret;exact⟨g,rfl,HKN.out,by rw[HGZ.out];exact a8 _,HB.out⟩
theorem a1w:(prog.info? 208).map (fun i=>(i.zero,i.size,i.bytes))=some (some (.agg #[.int .i64 0,.bool false,.int .i64 0]),3,24):=by kernel_rfl
theorem bbw (l m:List Slt):zr (l++m)=zr l++zr m:=b4f
theorem a1v (p:Slt):∀v∈yv p,v.oneCell'=true:=by
 intro v hv;simp only[yv,b0z,b2d,b4o]at hv;rcases hv with rfl|rfl|rfl<;>rfl
theorem bbx (l:List Slt):∀v∈zr l,v.oneCell'=true:=by
 intro v hv;obtain⟨p,-,h⟩:=b37.1 hv;exact a1v p v h
theorem a1o {w:World} {g q:Nat} {D E:List Slt} {x y:Slt} (h:Blk w g (zr (D ++([y] ++([x]++E))))) (hq:D.length=q):(∀w',Below w.1.size w w'→w'.rangeAt g ((q+1)*3) (yv x)) ∧(∀w',Below w.1.size w w'→w'.rangeAt g (q*3) (yv y))∧∀o,w.frozen? ⟨g,o,none⟩=false:=by
 have e:zr (D ++([y] ++([x]++E)))=zr D++yv y++yv x++zr E:=by simp[zr]
 have e2:zr (D ++([y] ++([x]++E)))=zr D++yv y ++(yv x++zr E):=by simp[zr]
 have l1:(zr D).length=q*3:=by rw[ain,hq]
 refine⟨fun w' hb=>?_,fun w' hb=>?_,h.fz⟩
 ·have q1:=(h.on hb);rw[e]at q1;have q2:=Blk.sub (A:=zr D++yv y) (M:=yv x) (D:=zr E) q1
  rwa [d7,l1,show q*3 +(yv y).length=(q+1)*3 from by show q*3+3=_;omega]at q2
 ·have q1:=(h.on hb);rw[e2]at q1;have q2:=Blk.sub (A:=zr D) (M:=yv y) (D:=yv x++zr E) q1
  rwa [l1]at q2
theorem asn {w:World} {g q B:Nat} {D E:List Slt} {x y:Slt} (h:Blk w g (zr (D ++([y] ++([x]++E))))) (hq:D.length=q) (hB:B≤g):Blk ((w.setCells g ((q+1)*3) (yv y)).setCells g (q*3) (yv x)) g (zr (D ++([x] ++([y]++E))))∧Below B w ((w.setCells g ((q+1)*3) (yv y)).setCells g (q*3) (yv x)):=by
 have e:zr (D ++([y] ++([x]++E)))=(zr D++yv y)++yv x++zr E:=by simp[zr]
 have e2:zr (D ++([x] ++([y]++E)))=zr D++yv x ++(yv y++zr E):=by simp[zr]
 have l1:(zr D).length=q*3:=by rw[ain,hq]
 have l2:(zr D++yv y).length=(q+1)*3:=by rw[d7,l1];show q*3+3=_;omega
 rw[e]at h;have s1:qp w (w.setCells g ((q+1)*3) (yv y)) g ((q+1)*3) (yv y):=qo (h.there _ _ (by rw[d7,d7,l2];show (q+1)*3+3 ≤(q+1)*3+3+_;omega));have h1:=Blk.put (A:=zr D++yv y) (M:=yv x) (D:=zr E) h s1 l2 rfl;rw[show zr D++yv y++yv y++zr E=zr D++yv y ++(yv y++zr E)from by simp]at h1;have s2:qp (w.setCells g ((q+1)*3) (yv y)) ((w.setCells g ((q+1)*3) (yv y)).setCells g (q*3) (yv x)) g (q*3) (yv x):=qo (h1.there _ _ (by rw[d7,d7,l1];show q*3+3≤q*3+3+_;omega));have h2:=Blk.put (A:=zr D) (M:=yv y) (D:=yv y++zr E) h1 s2 l1 rfl;rw[e2];exact⟨h2,(s1.below hB).trans (s2.below hB)⟩
theorem aw5 (x y:Value) (W:World):(callFunc 121 #[x,y]).run prog W=.ok (.enter 121 #[x,y]) W:=by kernel_rfl
theorem aw4 {Q:Nat→Prop} {w:World} (A:Option Addr) (l:List Slt) (c:Nat) (h:qf Q w A (zr l)) (hm:l.length≤1000) :
 Calls prog 120 #[.slice A l.length c,.func (.func 121) #[] #[]] w fun e w'=>∃g,e=.returned (.slice (some ⟨g,0,none⟩) l.length l.length)∧Blk w' g (zr (agy gtS l))∧w.1.size≤g∧Below w.1.size w w':=by
 have HI:=hid h.lt;obtain⟨i0,hi,hz0,hz1,hz2⟩:=kj a1w;have HIN:=hid hi;have HZ:=hid (o4 hz0 (o4 hz1 hz2));have HFE:Hid (∀k,k≤l.length →((l.take k).foldl (km gtS) []).length=k):=hid (azj gtS l);obtain⟨n,hn⟩:∃n,l.length=n:=⟨_,rfl⟩;rw[hn]at hm HFE ⊢;have HL:=hid hn;clear hn h hi hz0 hz1 hz2;have HCL:=fun x y W=>aw5 x y W
 go_enter func120,ntmps120;go_wp2_with (refine yz rfl _ _ 202 208 rfl i0 _ underlying202 HIN.out HZ.out.1 .i64 .i64 n rfl rfl (by rw[HZ.out.2.2];omega) om ?_;intro W1 hG;have HG1:=hid hG;clear hG)
 have HK1:Hid (w.1.size<W1.1.size∧W1.there w.1.size 0 (n*3)∧Below w.1.size w W1):=hid (by
  have hk:=Blk.newL HG1.out rfl;refine⟨hk.lt,hk.there 0 (n*3) ?_,HG1.out.bel⟩;rw[acw,HZ.out.2.1,b0e];exact a8 _)
 obtain⟨W2,q1,q2⟩:=ak9 (P:=prog) W1 202 202 3 208 3 underlying202 (by rw[HIN.out];simp[HZ.out.2.1]) w.1.size n n A c (zr l) (HI.out.below HK1.out.2.2 (fun _ q=>q.2)) (by rw[ain,HL.out]) (bbx l) HK1.out.2.1
 have HK2:Hid (Blk W2 w.1.size (zr l)):=hid (by
  have hk:=Blk.newL HG1.out rfl;exact hk.all q2 (by rw[acw,HZ.out.2.1,ain,HL.out]))
 have HB2:Hid (Below w.1.size w W2):=hid (HK1.out.2.2.trans (q2.below (a8 _)));have HRC:=hid q1;clear q1 q2 HG1 HK1;go_wp2_with fail;rw[HRC.out];clear HRC;go_wp2_with fail;obtain⟨g,hgz⟩:∃g,w.1.size=g:=⟨_,rfl⟩;rw[hgz]at HK2;simp only[hgz];have HGZ:=hid hgz;clear hgz
 go_loopg [16] n (fun t s16 wr=>∃i:Nat,i≤n∧n-i≤t∧s16=.int .i64 i∧Hid (Blk wr g (zr (((l.take i).foldl (km gtS) []).reverse++l.drop i)))∧Hid (Below w.1.size w wr))
 case atStart=>exact⟨0,by omega,by omega,rfl,HK2.out,HB2⟩
 case round=>
  obtain⟨i,hi,ht,rfl,HK,HB⟩:=hrel;clear HK2 HB2
  by_cases hlt:i<n
  ·have hil:i<l.length:=by rw[HL.out];exact hlt
   have HSN:Hid ((l.take (i+1)).foldl (km gtS) []=km gtS ((l.take i).foldl (km gtS) []) l[i]):=hid (aq9 gtS l i hil);have HRL:=hid (HFE.out i om);have HST:Hid (Blk wr g (zr (abg ((l.take i).foldl (km gtS) []) l[i] (l.drop (i+1)) 0))):=hid (by rw[arc,← b0n hil];exact HK.out);clear HK;generalize (l.take i).foldl (km gtS) []=r at *;generalize l[i]=x at *;obtain⟨rest,hrest⟩:∃rest,l.drop (i+1)=rest:=⟨_,rfl⟩;rw[hrest]at HST;have HRS:=hid hrest;clear hrest;have i1:(i:Int)<n:=by omega
   have i2:(0:Int) ≤(i:Int):=n8 _;go_wp2_with fail
   go_loopg [7] i (fun t2 s7 wr=>∃j:Nat,j≤i∧i-j≤t2∧s7=.int .i64 ((i-j:Nat):Int)∧Hid (km gtS r x=r.take j++km gtS (r.drop j) x)∧Hid (Blk wr g (zr (abg r x rest j)))∧Hid (Below w.1.size w wr))
   case atStart=>exact⟨0,by omega,by omega,rfl,rfl,HST,HB⟩
   case round=>
    obtain⟨j,hj,ht2,rfl,HIR,HK,HBI⟩:=hrel;clear HST HB;obtain⟨kk,hkk⟩:∃kk,i-j=kk:=⟨_,rfl⟩;rw[hkk]at ht2 ⊢;rcases kk with _|q
    ·obtain rfl:j=i:=by omega
     have HDONE:Hid (abg r x rest j=(km gtS r x).reverse++rest):=hid (aie gtS r x j (by rw[HRL.out];exact a8 _) HIR.out (fun q=>absurd q (by rw[HRL.out];omega)) rest);have HKN:Hid (Blk wr.drew g (zr (((l.take (j+1)).foldl (km gtS) []).reverse++l.drop (j+1)))):=hid (by rw[HSN.out,HRS.out,← HDONE.out];exact HK.out.drew);have HBN:Hid (Below w.1.size w wr.drew):=hid HBI.out.drew;go_upto_region 7 with fail
     try (apply b1e;intro K_ HK_)
     have hS0:Below wr.1.size wr wr.drew:=(n6 _ _).drew;refine o7 (S:=fun w'=>Below wr.1.size wr w') kr hS0 (fun hHeld0=>?_);refine tkA 0 20 rfl ?_;go_frame;refine tkA 1 21 rfl ?_;go_frame;refine tkA 2 22 rfl ?_;go_frame;refine tkU 3 23 rfl ?_;go_frame;refine tkU 4 24 rfl ?_;go_frame;refine tkU 5 25 rfl ?_;go_frame;refine tkU 6 26 rfl ?_;go_frame;refine tkU 7 27 rfl ?_;go_frame;refine tkU 8 28 rfl ?_;go_frame;refine tkU 9 29 rfl ?_;go_frame;refine tkU 10 30 rfl ?_;go_frame;refine tkU 11 31 rfl ?_;go_frame;refine tkU 12 32 rfl ?_;go_frame;refine tkU 13 33 rfl ?_;go_frame;refine tkA 14 34 rfl ?_;go_frame;refine b0j kr ?_ _
     try go_frame
     clear hHeld0 hS0;go_wp2_with fail
     go_roundg (n-(j+1))
     case measure=>omega
     case rel=>exact⟨j+1,by omega,by omega,by go_num,HKN,HBN⟩
    ·have hjr:j<r.length:=by rw[HRL.out];omega
     have HLS:Hid (abg r x rest j=(r.drop (j+1)).reverse ++([r[j]] ++([x] ++((r.take j).reverse++rest)))):=hid (a12 r x rest j hjr);have HLT:Hid (abg r x rest (j+1)=(r.drop (j+1)).reverse ++([x] ++([r[j]] ++((r.take j).reverse++rest)))):=hid (arb r x rest j hjr);have HGO:Hid (gtS x r[j]=true→km gtS r x=r.take (j+1)++km gtS (r.drop (j+1)) x):=hid (a71 gtS r x j hjr HIR.out);have HSP:Hid (gtS x r[j]=false→abg r x rest j=(km gtS r x).reverse++rest):=hid (fun hh=>aie gtS r x j (b14 hjr) HIR.out (fun _=>hh) rest);have HDQ:Hid ((r.drop (j+1)).reverse.length=q):=hid (by rw[b29,l8,HRL.out];omega);generalize (r.drop (j+1)).reverse=D at HLS HLT HDQ;generalize (r.take j).reverse++rest=E at HLS HLT;generalize r[j]=y at HLS HLT HGO HSP;have HBK:Hid (Blk wr g (zr (D ++([y] ++([x]++E))))):=hid (by rw[← HLS.out];exact HK.out);have HAT:=hid (a1o HBK.out HDQ.out)
     obtain⟨bb,hbb⟩:∃bb,gtS x y=bb:=⟨_,rfl⟩;have HG:∀W,Hid (Calls prog 121 #[.agg (yv x).toArray,.agg (yv y).toArray] W fun e w'=>e=.returned (.bool bb)∧Below W.1.size W w'):=fun W=>hid (by rw[← hbb];exact asl x y W)
     have HBB:=hid hbb;clear hbb;obtain⟨x0,x1,x2⟩:=x;obtain⟨y0,y1,y2⟩:=y;have HX:Hid (∀w',Below wr.1.size wr w'→w'.rangeAt g ((q+1)*3) [.int .i64 (x0:Nat),.bool x1,.int .i64 (x2:Nat)]):=hid HAT.out.1;have HY:Hid (∀w',Below wr.1.size wr w'→w'.rangeAt g (q*3) [.int .i64 (y0:Nat),.bool y1,.int .i64 (y2:Nat)]):=hid HAT.out.2.1;change ∀W,Hid (Calls prog 121 #[.agg #[.int .i64 (x0:Nat),.bool x1,.int .i64 (x2:Nat)],.agg #[.int .i64 (y0:Nat),.bool y1,.int .i64 (y2:Nat)]] W fun e w'=>e=.returned (.bool bb)∧Below W.1.size W w')at HG;have i3:(q:Int)+1<n:=by omega
     have i4:(0:Int) ≤(q:Int)+1:=by omega
     have i5:(q:Int)<n:=by omega
     have i6:(0:Int) ≤(q:Int):=by omega
     have i7:(0:Int)<(q:Int)+1:=by omega
     have f1:IntKind.i64.wrap (q:Int)=(q:Int):=b00 _ om;clear HAT;cases bb
     ·have HKN:∀w2,Below wr.1.size wr w2→Hid (Blk w2 g (zr (((l.take (i+1)).foldl (km gtS) []).reverse++l.drop (i+1)))):=fun w2 hb=>hid (by rw[HSN.out,HRS.out,← HSP.out HBB.out];exact HK.out.on hb)
      go_upto_region 7 with fail
      try (apply b1e;intro K_ HK_)
      have hS0:Below wr.1.size wr wr.drew:=(n6 _ _).drew;refine o7 (S:=fun w'=>Below wr.1.size wr w') kr hS0 (fun hHeld0=>?_);refine tkA 0 20 rfl ?_;go_frame;refine tkA 1 21 rfl ?_;go_frame;refine tkA 2 22 rfl ?_;go_frame;refine tkA 3 23 rfl ?_;go_frame;refine tkA 4 24 rfl ?_;go_frame;refine tkA 5 25 rfl ?_;go_frame;refine tkA 6 26 rfl ?_;go_frame;refine tkQ (i:=7) (oi:=⟨some 27,_,_,_,_,_⟩) (v:=_) rfl (n9 (by rfl) 208 _ rfl g ((q+1)*3) rfl [.int .i64 (x0:Nat),.bool x1,.int .i64 (x2:Nat)] _ (fun w' hSw=>(HX.out w' hSw)) underlying208 rfl kr) ?_;go_frame;refine tkA 8 28 rfl ?_;go_frame;refine tkA 9 29 rfl ?_;go_frame;refine tkA 10 30 rfl ?_;go_frame;refine tkA 11 31 rfl ?_;go_frame;refine tkQ (i:=12) (oi:=⟨some 32,_,_,_,_,_⟩) (v:=_) rfl (n9 (by rfl) 208 _ rfl g (q*3) rfl [.int .i64 (y0:Nat),.bool y1,.int .i64 (y2:Nat)] _ (fun w' hSw=>(HY.out w' hSw)) underlying208 rfl kr) ?_
      go_frame;refine rdB 13 33 rfl fun K hK=>?_
      go_step;refine(HG _).out.mono ?_;rintro e w2 ⟨rfl,hb⟩;have HS2:Hid (Below wr.1.size wr w2):=hid (hHeld0.trans (hb.mono hHeld0.size));clear hb
      try go_frame
      refine hK.out _ _ (HS2.out) (fun hHeld=>?_);clear hK K
      try go_frame
      refine tkA 14 34 rfl ?_;go_frame;refine b0j kr ?_ _
      try go_frame
      have HKN2:=HKN w2 HS2.out;have HBN:=hid (qb HBI.out HS2.out);clear hHeld hHeld0 hS0;go_wp2_with fail
      go_roundg (n-(i+1))
      case measure=>omega
      case rel=>exact⟨i+1,by omega,by omega,by go_num,HKN2,HBN⟩
     ·go_upto_region 7 with fail
      try (apply b1e;intro K_ HK_)
      have hS0:Below wr.1.size wr wr.drew:=(n6 _ _).drew;refine o7 (S:=fun w'=>Below wr.1.size wr w') kr hS0 (fun hHeld0=>?_);refine tkA 0 20 rfl ?_;go_frame;refine tkA 1 21 rfl ?_;go_frame;refine tkA 2 22 rfl ?_;go_frame;refine tkA 3 23 rfl ?_;go_frame;refine tkA 4 24 rfl ?_;go_frame;refine tkA 5 25 rfl ?_;go_frame;refine tkA 6 26 rfl ?_;go_frame;refine tkQ (i:=7) (oi:=⟨some 27,_,_,_,_,_⟩) (v:=_) rfl (n9 (by rfl) 208 _ rfl g ((q+1)*3) rfl [.int .i64 (x0:Nat),.bool x1,.int .i64 (x2:Nat)] _ (fun w' hSw=>(HX.out w' hSw)) underlying208 rfl kr) ?_;go_frame;refine tkA 8 28 rfl ?_;go_frame;refine tkA 9 29 rfl ?_;go_frame;refine tkA 10 30 rfl ?_;go_frame;refine tkA 11 31 rfl ?_;go_frame;refine tkQ (i:=12) (oi:=⟨some 32,_,_,_,_,_⟩) (v:=_) rfl (n9 (by rfl) 208 _ rfl g (q*3) rfl [.int .i64 (y0:Nat),.bool y1,.int .i64 (y2:Nat)] _ (fun w' hSw=>(HY.out w' hSw)) underlying208 rfl kr) ?_
      go_frame;refine rdB 13 33 rfl fun K hK=>?_
      go_step;refine(HG _).out.mono ?_;rintro e w2 ⟨rfl,hb⟩;have HS2:Hid (Below wr.1.size wr w2):=hid (hHeld0.trans (hb.mono hHeld0.size));clear hb
      try go_frame
      refine hK.out _ _ (HS2.out) (fun hHeld=>?_);clear hK K
      try go_frame
      refine tkA 14 34 rfl ?_;go_frame;refine b0j kr ?_ _
      try go_frame
      have HK2:=hid (HBK.out.on HS2.out);have HBN:=hid (qb HBI.out HS2.out);have hcx:=HX.out w2 HS2.out;have hcy:=HY.out w2 HS2.out;have cx0:w2.cell? ⟨g,(q+1)*3,none⟩=some (.int .i64 (x0:Nat)):=hcx 0 _ rfl;have cx1:w2.cell? ⟨g,(q+1)*3+1,none⟩=some (.bool x1):=hcx 1 _ rfl;have cx2:w2.cell? ⟨g,(q+1)*3+2,none⟩=some (.int .i64 (x2:Nat)):=hcx 2 _ rfl;have cy0:w2.cell? ⟨g,q*3,none⟩=some (.int .i64 (y0:Nat)):=hcy 0 _ rfl;have cy1:w2.cell? ⟨g,q*3+1,none⟩=some (.bool y1):=hcy 1 _ rfl;have cy2:w2.cell? ⟨g,q*3+2,none⟩=some (.int .i64 (y2:Nat)):=hcy 2 _ rfl;have zx0:w2.frozen? ⟨g,(q+1)*3,none⟩=false:=HK2.out.fz _;have zx1:w2.frozen? ⟨g,(q+1)*3+1,none⟩=false:=HK2.out.fz _;have zx2:w2.frozen? ⟨g,(q+1)*3+2,none⟩=false:=HK2.out.fz _;have zy0:w2.frozen? ⟨g,q*3,none⟩=false:=HK2.out.fz _;have zy1:w2.frozen? ⟨g,q*3+1,none⟩=false:=HK2.out.fz _;have zy2:w2.frozen? ⟨g,q*3+2,none⟩=false:=HK2.out.fz _
      have HSW:=hid (asn (B:=w.1.size) HK2.out HDQ.out (by rw[HGZ.out];exact a8 _));clear hHeld hHeld0 hS0 hcx hcy;go_upto_region 9 with fail;have HKN:Hid (Blk (((((((w2.setCell ⟨g,(q+1)*3,none⟩ (.int .i64 (y0:Nat))).setCell ⟨g,(q+1)*3+1,none⟩ (.bool y1)).setCell ⟨g,(q+1)*3+2,none⟩ (.int .i64 (y2:Nat))).setCell ⟨g,q*3,none⟩ (.int .i64 (x0:Nat))).setCell ⟨g,q*3+1,none⟩ (.bool x1)).setCell ⟨g,q*3+2,none⟩ (.int .i64 (x2:Nat)))).drew g (zr (abg r ⟨x0,x1,x2⟩ rest (j+1)))):=hid (by rw[HLT.out];exact HSW.out.1.drew);have HBX:Hid (Below w.1.size w (((((((w2.setCell ⟨g,(q+1)*3,none⟩ (.int .i64 (y0:Nat))).setCell ⟨g,(q+1)*3+1,none⟩ (.bool y1)).setCell ⟨g,(q+1)*3+2,none⟩ (.int .i64 (y2:Nat))).setCell ⟨g,q*3,none⟩ (.int .i64 (x0:Nat))).setCell ⟨g,q*3+1,none⟩ (.bool x1)).setCell ⟨g,q*3+2,none⟩ (.int .i64 (x2:Nat)))).drew):=hid (HBN.out.trans HSW.out.2.drew)
      have HIN2:=hid (HGO.out HBB.out);have HQJ:Hid (i-(j+1)=q):=hid om;clear HSW HK2 HBN
      go_region
      clear cx0 zx0 cx1 zx1 cx2 zx2 cy0 zy0 cy1 zy1 cy2 zy2;generalize (((((((w2.setCell ⟨g,(q+1)*3,none⟩ (.int .i64 (y0:Nat))).setCell ⟨g,(q+1)*3+1,none⟩ (.bool y1)).setCell ⟨g,(q+1)*3+2,none⟩ (.int .i64 (y2:Nat))).setCell ⟨g,q*3,none⟩ (.int .i64 (x0:Nat))).setCell ⟨g,q*3+1,none⟩ (.bool x1)).setCell ⟨g,q*3+2,none⟩ (.int .i64 (x2:Nat)))).drew=w3 at *;go_wp2_with fail
      go_roundg (i-(j+1))
      case measure=>omega
      case rel=>exact⟨j+1,by omega,by omega,by rw[HQJ.out],HIN2,HKN,HBX⟩
  ·obtain rfl:i=n:=by omega
   have HKN:Hid (Blk wr g (zr (agy gtS l))):=hid (by
    have q:=HK.out;rw[← HL.out,b0o,b43,b0k]at q;exact q)
   go_wp2_with fail;go_ret;exact⟨g,rfl,HKN.out,by rw[HGZ.out];exact a8 _,HB.out⟩
