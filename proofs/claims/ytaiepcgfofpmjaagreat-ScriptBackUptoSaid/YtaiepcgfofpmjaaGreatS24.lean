/- Layer 31, plain: the forms of telemetry; a stable order; slots. Printed by gensch0.py. -/
import Derived.Test.YtaiepcgfofpmjaaGreatS05
import Derived.Test.YtaiepcgfofpmjaaGreatS06
namespace Go.Proofs.YtaiepcgfofpmjaaGreat
set_option linter.unusedVariables false
open Go.RowKit
structure Prt where
  nm:ByteArray
  sz:Nat
  sg:Bool
  mn:Nat
def prtL (p:Prt):List Value:=[.string p.nm,.int .i64 p.sz,.bool p.sg,.int .i64 p.mn]
def prtsV (l:List Prt):List Value:=l.flatMap prtL
theorem prtsV_len (l:List Prt):(prtsV l).length=l.length * 4:=flat4_len prtL 4 (fun _=>rfl) l
theorem prtsV_app (l m:List Prt):prtsV (l++m)=prtsV l++prtsV m:=List.flatMap_append
theorem prtL_one (p:Prt):∀ v∈prtL p,v.oneCell'=true:=by
  intro v hv
  simp only [prtL,List.mem_cons,List.not_mem_nil,or_false] at hv
  rcases hv with rfl | rfl | rfl | rfl <;> rfl
theorem prtsV_one (l:List Prt):∀ v∈prtsV l,v.oneCell'=true:=by
  intro v hv
  obtain⟨p,-,h⟩:=List.mem_flatMap.1 hv
  exact prtL_one p v h
def strsV (l:List ByteArray):List Value:=l.map Value.string
def rowP (n:Nat) (s:Bool) (l:List ByteArray):List Prt:=l.map fun t=>⟨t,n,s,0⟩
def arrP (m:Nat) (l:List ByteArray):List Prt:=l.map fun t=>⟨t,1,false,m⟩
abbrev TFm:=ByteArray×List Prt
def noF:TFm:=(ByteArray.empty,[])
def nInert:List ByteArray:=[⟨#[120,97,99,99]⟩,⟨#[121,97,99,99]⟩,⟨#[122,97,99,99]⟩,⟨#[120,103,121,114,111]⟩,⟨#[121,103,121,114,111]⟩,⟨#[122,103,121,114,111]⟩,⟨#[120,109,97,103]⟩,⟨#[121,109,97,103]⟩,⟨#[122,109,97,103]⟩]
def n0_0:List ByteArray:=[⟨#[116,121,112,101]⟩,⟨#[97,117,116,111,112,105,108,111,116]⟩,⟨#[98,97,115,101,95,109,111,100,101]⟩]
def n0_1:List ByteArray:=[⟨#[99,117,115,116,111,109,95,109,111,100,101]⟩]
def n0_2:List ByteArray:=[⟨#[115,121,115,116,101,109,95,115,116,97,116,117,115]⟩,⟨#[109,97,118,108,105,110,107,95,118,101,114,115,105,111,110]⟩]
def form0:TFm:=(⟨#[72,69,65,82,84,66,69,65,84]⟩,(rowP 1 false n0_0)++(rowP 4 false n0_1)++(rowP 1 false n0_2))
def n1_0:List ByteArray:=[⟨#[111,110,98,111,97,114,100,95,99,111,110,116,114,111,108,95,115,101,110,115,111,114,115,95,112,114,101,115,101,110,116]⟩,⟨#[111,110,98,111,97,114,100,95,99,111,110,116,114,111,108,95,115,101,110,115,111,114,115,95,101,110,97,98,108,101,100]⟩,⟨#[111,110,98,111,97,114,100,95,99,111,110,116,114,111,108,95,115,101,110,115,111,114,115,95,104,101,97,108,116,104]⟩]
def n1_1:List ByteArray:=[⟨#[108,111,97,100]⟩,⟨#[118,111,108,116,97,103,101,95,98,97,116,116,101,114,121]⟩]
def n1_2:List ByteArray:=[⟨#[99,117,114,114,101,110,116,95,98,97,116,116,101,114,121]⟩]
def n1_3:List ByteArray:=[⟨#[98,97,116,116,101,114,121,95,114,101,109,97,105,110,105,110,103]⟩]
def n1_4:List ByteArray:=[⟨#[100,114,111,112,95,114,97,116,101,95,99,111,109,109]⟩,⟨#[101,114,114,111,114,115,95,99,111,109,109]⟩,⟨#[101,114,114,111,114,115,95,99,111,117,110,116,49]⟩,⟨#[101,114,114,111,114,115,95,99,111,117,110,116,50]⟩,⟨#[101,114,114,111,114,115,95,99,111,117,110,116,51]⟩,⟨#[101,114,114,111,114,115,95,99,111,117,110,116,52]⟩]
def form1:TFm:=(⟨#[83,89,83,95,83,84,65,84,85,83]⟩,(rowP 4 false n1_0)++(rowP 2 false n1_1)++(rowP 2 true n1_2)++(rowP 1 true n1_3)++(rowP 2 false n1_4))
def n2_0:List ByteArray:=[⟨#[116,105,109,101,95,117,110,105,120,95,117,115,101,99]⟩]
def n2_1:List ByteArray:=[⟨#[116,105,109,101,95,98,111,111,116,95,109,115]⟩]
def form2:TFm:=(⟨#[83,89,83,84,69,77,95,84,73,77,69]⟩,(rowP 8 false n2_0)++(rowP 4 false n2_1))
def n4_0:List ByteArray:=[⟨#[116,105,109,101,95,117,115,101,99]⟩]
def n4_1:List ByteArray:=[⟨#[115,101,113]⟩]
def n4_2:List ByteArray:=[⟨#[116,97,114,103,101,116,95,115,121,115,116,101,109]⟩,⟨#[116,97,114,103,101,116,95,99,111,109,112,111,110,101,110,116]⟩]
def form4:TFm:=(⟨#[80,73,78,71]⟩,(rowP 8 false n4_0)++(rowP 4 false n4_1)++(rowP 1 false n4_2))
def n111_0:List ByteArray:=[⟨#[116,99,49]⟩,⟨#[116,115,49]⟩]
def form111:TFm:=(⟨#[84,73,77,69,83,89,78,67]⟩,rowP 8 true n111_0)
def n125_0:List ByteArray:=[⟨#[86,99,99]⟩,⟨#[86,115,101,114,118,111]⟩,⟨#[102,108,97,103,115]⟩]
def form125:TFm:=(⟨#[80,79,87,69,82,95,83,84,65,84,85,83]⟩,rowP 2 false n125_0)
def stateF (i:Int):TFm:=if i=0 then form0 else if i=1 then form1 else if i=2 then form2 else if i=4 then form4 else if i=111 then form111 else if i=125 then form125 else noF
def n24_0:List ByteArray:=[⟨#[116,105,109,101,95,117,115,101,99]⟩]
def n24_1:List ByteArray:=[⟨#[102,105,120,95,116,121,112,101]⟩]
def n24_2:List ByteArray:=[⟨#[108,97,116]⟩,⟨#[108,111,110]⟩,⟨#[97,108,116]⟩]
def n24_3:List ByteArray:=[⟨#[101,112,104]⟩,⟨#[101,112,118]⟩,⟨#[118,101,108]⟩,⟨#[99,111,103]⟩]
def n24_4:List ByteArray:=[⟨#[115,97,116,101,108,108,105,116,101,115,95,118,105,115,105,98,108,101]⟩]
def form24:TFm:=(⟨#[71,80,83,95,82,65,87,95,73,78,84]⟩,(rowP 8 false n24_0)++(rowP 1 false n24_1)++(rowP 4 true n24_2)++(rowP 2 false n24_3)++(rowP 1 false n24_4))
def n25_0:List ByteArray:=[⟨#[115,97,116,101,108,108,105,116,101,115,95,118,105,115,105,98,108,101]⟩]
def n25_1:List ByteArray:=[⟨#[115,97,116,101,108,108,105,116,101,95,112,114,110]⟩,⟨#[115,97,116,101,108,108,105,116,101,95,117,115,101,100]⟩,⟨#[115,97,116,101,108,108,105,116,101,95,101,108,101,118,97,116,105,111,110]⟩,⟨#[115,97,116,101,108,108,105,116,101,95,97,122,105,109,117,116,104]⟩,⟨#[115,97,116,101,108,108,105,116,101,95,115,110,114]⟩]
def form25:TFm:=(⟨#[71,80,83,95,83,84,65,84,85,83]⟩,(rowP 1 false n25_0)++(arrP 20 n25_1))
def n26_0:List ByteArray:=[⟨#[116,105,109,101,95,98,111,111,116,95,109,115]⟩]
def form26:TFm:=(⟨#[83,67,65,76,69,68,95,73,77,85]⟩,(rowP 4 false n26_0)++(rowP 2 true nInert))
def n27_0:List ByteArray:=[⟨#[116,105,109,101,95,117,115,101,99]⟩]
def form27:TFm:=(⟨#[82,65,87,95,73,77,85]⟩,(rowP 8 false n27_0)++(rowP 2 true nInert))
def n28_0:List ByteArray:=[⟨#[116,105,109,101,95,117,115,101,99]⟩]
def n28_1:List ByteArray:=[⟨#[112,114,101,115,115,95,97,98,115]⟩,⟨#[112,114,101,115,115,95,100,105,102,102,49]⟩,⟨#[112,114,101,115,115,95,100,105,102,102,50]⟩,⟨#[116,101,109,112,101,114,97,116,117,114,101]⟩]
def form28:TFm:=(⟨#[82,65,87,95,80,82,69,83,83,85,82,69]⟩,(rowP 8 false n28_0)++(rowP 2 true n28_1))
def n33_0:List ByteArray:=[⟨#[116,105,109,101,95,98,111,111,116,95,109,115]⟩]
def n33_1:List ByteArray:=[⟨#[108,97,116]⟩,⟨#[108,111,110]⟩,⟨#[97,108,116]⟩,⟨#[114,101,108,97,116,105,118,101,95,97,108,116]⟩]
def n33_2:List ByteArray:=[⟨#[118,120]⟩,⟨#[118,121]⟩,⟨#[118,122]⟩]
def n33_3:List ByteArray:=[⟨#[104,100,103]⟩]
def form33:TFm:=(⟨#[71,76,79,66,65,76,95,80,79,83,73,84,73,79,78,95,73,78,84]⟩,(rowP 4 false n33_0)++(rowP 4 true n33_1)++(rowP 2 true n33_2)++(rowP 2 false n33_3))
def sensedF (i:Int):TFm:=if i=24 then form24 else if i=25 then form25 else if i=26 then form26 else if i=27 then form27 else if i=28 then form28 else if i=33 then form33 else noF
def n35_0:List ByteArray:=[⟨#[116,105,109,101,95,98,111,111,116,95,109,115]⟩]
def n35_1:List ByteArray:=[⟨#[112,111,114,116]⟩]
def n35_2:List ByteArray:=[⟨#[99,104,97,110,49,95,114,97,119]⟩,⟨#[99,104,97,110,50,95,114,97,119]⟩,⟨#[99,104,97,110,51,95,114,97,119]⟩,⟨#[99,104,97,110,52,95,114,97,119]⟩,⟨#[99,104,97,110,53,95,114,97,119]⟩,⟨#[99,104,97,110,54,95,114,97,119]⟩,⟨#[99,104,97,110,55,95,114,97,119]⟩,⟨#[99,104,97,110,56,95,114,97,119]⟩]
def n35_3:List ByteArray:=[⟨#[114,115,115,105]⟩]
def form35:TFm:=(⟨#[82,67,95,67,72,65,78,78,69,76,83,95,82,65,87]⟩,(rowP 4 false n35_0)++(rowP 1 false n35_1)++(rowP 2 false n35_2)++(rowP 1 false n35_3))
def n36_0:List ByteArray:=[⟨#[116,105,109,101,95,117,115,101,99]⟩]
def n36_1:List ByteArray:=[⟨#[112,111,114,116]⟩]
def n36_2:List ByteArray:=[⟨#[115,101,114,118,111,49,95,114,97,119]⟩,⟨#[115,101,114,118,111,50,95,114,97,119]⟩,⟨#[115,101,114,118,111,51,95,114,97,119]⟩,⟨#[115,101,114,118,111,52,95,114,97,119]⟩,⟨#[115,101,114,118,111,53,95,114,97,119]⟩,⟨#[115,101,114,118,111,54,95,114,97,119]⟩,⟨#[115,101,114,118,111,55,95,114,97,119]⟩,⟨#[115,101,114,118,111,56,95,114,97,119]⟩]
def form36:TFm:=(⟨#[83,69,82,86,79,95,79,85,84,80,85,84,95,82,65,87]⟩,(rowP 4 false n36_0)++(rowP 1 false n36_1)++(rowP 2 false n36_2))
def n42_0:List ByteArray:=[⟨#[115,101,113]⟩]
def form42:TFm:=(⟨#[77,73,83,83,73,79,78,95,67,85,82,82,69,78,84]⟩,rowP 2 false n42_0)
def n44_0:List ByteArray:=[⟨#[116,97,114,103,101,116,95,115,121,115,116,101,109]⟩,⟨#[116,97,114,103,101,116,95,99,111,109,112,111,110,101,110,116]⟩]
def n44_1:List ByteArray:=[⟨#[99,111,117,110,116]⟩]
def form44:TFm:=(⟨#[77,73,83,83,73,79,78,95,67,79,85,78,84]⟩,(rowP 1 false n44_0)++(rowP 2 false n44_1))
def n47_0:List ByteArray:=[⟨#[116,97,114,103,101,116,95,115,121,115,116,101,109]⟩,⟨#[116,97,114,103,101,116,95,99,111,109,112,111,110,101,110,116]⟩,⟨#[116,121,112,101]⟩]
def form47:TFm:=(⟨#[77,73,83,83,73,79,78,95,65,67,75]⟩,rowP 1 false n47_0)
def n66_0:List ByteArray:=[⟨#[116,97,114,103,101,116,95,115,121,115,116,101,109]⟩,⟨#[116,97,114,103,101,116,95,99,111,109,112,111,110,101,110,116]⟩,⟨#[114,101,113,95,115,116,114,101,97,109,95,105,100]⟩]
def n66_1:List ByteArray:=[⟨#[114,101,113,95,109,101,115,115,97,103,101,95,114,97,116,101]⟩]
def n66_2:List ByteArray:=[⟨#[115,116,97,114,116,95,115,116,111,112]⟩]
def form66:TFm:=(⟨#[82,69,81,85,69,83,84,95,68,65,84,65,95,83,84,82,69,65,77]⟩,(rowP 1 false n66_0)++(rowP 2 false n66_1)++(rowP 1 false n66_2))
def n77_0:List ByteArray:=[⟨#[99,111,109,109,97,110,100]⟩]
def n77_1:List ByteArray:=[⟨#[114,101,115,117,108,116]⟩]
def form77:TFm:=(⟨#[67,79,77,77,65,78,68,95,65,67,75]⟩,(rowP 2 false n77_0)++(rowP 1 false n77_1))
def askedF (i:Int):TFm:=if i=35 then form35 else if i=36 then form36 else if i=42 then form42 else if i=44 then form44 else if i=47 then form47 else if i=66 then form66 else if i=77 then form77 else noF
def n200_0:List ByteArray:=[⟨#[116,105,109,101,95,98,111,111,116,95,109,115]⟩,⟨#[113,117,97,116,101,114,110,105,111,110]⟩]
def n200_1:List ByteArray:=[⟨#[120,103,121,114,111]⟩,⟨#[121,103,121,114,111]⟩,⟨#[122,103,121,114,111]⟩]
def form200:TFm:=(⟨#[65,84,84,73,84,85,68,69,95,87,79,82,68]⟩,(rowP 4 false n200_0)++(rowP 2 true n200_1))
def n201_0:List ByteArray:=[⟨#[116,105,109,101,95,98,111,111,116,95,109,115]⟩]
def n201_1:List ByteArray:=[⟨#[120,98,105,97,115]⟩,⟨#[121,98,105,97,115]⟩,⟨#[122,98,105,97,115]⟩]
def n201_2:List ByteArray:=[⟨#[115,116,101,112,115]⟩]
def n201_3:List ByteArray:=[⟨#[99,117,116,115]⟩]
def form201:TFm:=(⟨#[70,73,76,84,69,82,95,83,84,65,84,69]⟩,(rowP 4 false n201_0)++(rowP 4 true n201_1)++(rowP 4 false n201_2)++(rowP 2 false n201_3))
def n202_0:List ByteArray:=[⟨#[110,117,109,98,101,114]⟩]
def n202_1:List ByteArray:=[⟨#[112,97,114,116]⟩]
def n202_2:List ByteArray:=[⟨#[98,121,116,101,115]⟩]
def form202:TFm:=(⟨#[76,79,71,95,66,76,79,67,75]⟩,(rowP 4 false n202_0)++(rowP 1 false n202_1)++(arrP 64 n202_2))
def ownF (i:Int):TFm:=if i=200 then form200 else if i=201 then form201 else if i=202 then form202 else noF
def findF (i:Int):TFm:=if (stateF i).1≠ByteArray.empty then stateF i else if (sensedF i).1≠ByteArray.empty then sensedF i else if (askedF i).1≠ByteArray.empty then askedF i else if (ownF i).1≠ByteArray.empty then ownF i else noF
def insR {α:Type} (ahead:α→α→Bool):List α→α→List α
  | [],x=>[x]
  | y :: r,x=>if ahead x y then y :: insR ahead r x else x :: y :: r
def sortR {α:Type} (ahead:α→α→Bool) (l:List α):List α:=(l.foldl (insR ahead) []).reverse
theorem insR_len {α:Type} (ahead:α→α→Bool):∀ (r:List α) (x:α),(insR ahead r x).length=r.length+1
  | [],x=>rfl
  | y :: r,x=>by unfold insR;split <;> simp [insR_len ahead r x]
theorem foldR_len {α:Type} (ahead:α→α→Bool):∀ (l r:List α),(l.foldl (insR ahead) r).length=r.length+l.length
  | [],r=>rfl
  | x :: l,r=>by rw [List.foldl_cons,foldR_len ahead l,insR_len,List.length_cons];omega
theorem sortR_len {α:Type} (ahead:α→α→Bool) (l:List α):(sortR ahead l).length=l.length:=by
  unfold sortR;rw [List.length_reverse,foldR_len];simp
theorem insR_perm {α:Type} (ahead:α→α→Bool):∀ (r:List α) (x:α),(insR ahead r x).Perm (x :: r)
  | [],x=>List.Perm.refl _
  | y :: r,x=>by
    unfold insR;split
    · exact ((insR_perm ahead r x).cons y).trans (List.Perm.swap x y r)
    · exact List.Perm.refl _
theorem foldR_perm {α:Type} (ahead:α→α→Bool):∀ (l r:List α),(l.foldl (insR ahead) r).Perm (r++l)
  | [],r=>by rw [List.append_nil];exact List.Perm.refl _
  | x :: l,r=>by
    rw [List.foldl_cons]
    refine (foldR_perm ahead l _).trans (((insR_perm ahead r x).append_right l).trans ?_)
    exact List.perm_middle.symm
theorem sortR_perm {α:Type} (ahead:α→α→Bool) (l:List α):(sortR ahead l).Perm l:=by
  unfold sortR
  exact (List.reverse_perm _).trans (foldR_perm ahead l [])
def numbP (p:Prt):Nat:=if p.mn=0 then 1 else p.mn
def cntP (l:List Prt):Nat:=(l.map numbP).sum
structure Slt where
  sz:Nat
  sg:Bool
  ix:Nat
def sltL (s:Slt):List Value:=[.int .i64 s.sz,.bool s.sg,.int .i64 s.ix]
def sltsV (l:List Slt):List Value:=l.flatMap sltL
theorem sltsV_len (l:List Slt):(sltsV l).length=l.length * 3:=flat4_len sltL 3 (fun _=>rfl) l
def sltsP:List Prt→Nat→List Slt
  | [],_=>[]
  | p :: l,n=>(List.range (numbP p)).map (fun k=>⟨p.sz,p.sg,n+k⟩)++sltsP l (n+numbP p)
def sltsS (l:List Prt):List Slt:=sortR (fun a b=>decide (b.sz < a.sz)) (sltsP l 0)
def wireP (l:List Prt):List Prt:=sortR (fun a b=>decide (b.sz < a.sz)) l
def fldsS (l:List Prt):List Fld:=(sltsS l).map fun s=>anyF s.sz s.sg
def wordP (p:Prt):ByteArray:=
  let s:ByteArray:=match p.sz with
    | 1=>⟨#[105,110,116,56,95,116]⟩
    | 2=>⟨#[105,110,116,49,54,95,116]⟩
    | 4=>⟨#[105,110,116,51,50,95,116]⟩
    | 8=>⟨#[105,110,116,54,52,95,116]⟩
    | _=>ByteArray.empty
  if p.sg then s else ⟨#[117]⟩++s
def extStep (c:Nat) (p:Prt):Nat:=
  let d:=crcMore c (wordP p++⟨#[32]⟩++p.nm++⟨#[32]⟩).data.toList
  if 0 < p.mn then crcStep d (p.mn % 256) else d
def extF (f:TFm):Nat:=
  if f.1=ByteArray.empty then 0 else
    let c:=(wireP f.2).foldl extStep (crcMore 65535 (f.1++⟨#[32]⟩).data.toList)
    Nat.xor (c % 256) (c / 256)
end Go.Proofs.YtaiepcgfofpmjaaGreat
