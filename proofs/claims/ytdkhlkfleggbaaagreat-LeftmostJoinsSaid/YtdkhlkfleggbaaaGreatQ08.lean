/- Parts. -/
import Derived.Test.YtdkhlkfleggbaaaGreatQ07
import Derived.Test.YtdkhlkfleggbaaaGreatQ06
import Derived.BigRegion
namespace Go.Proofs.YtdkhlkfleggbaaaGreat
set_option maxHeartbeats 4000000
set_option maxRecDepth 8000
open Lib (hid)
open Tryz
set_option linter.unusedVariables false
open Go.RowKit
def ae1 (c:Nat):Nat:=(c / 2) ^^^ (if c%2=1 then 33800 else 0)
def ayk:Nat→Nat→Nat
 | 0,c=>c
 | k+1,c=>ae1 (ayk k c)
def act (c b:Nat):Nat:=ayk 8 (c ^^^ b)
def acb:List Nat:=[0,4225,8450,12675,16900,21125,25350,29575,33800,38025,42250,46475,50700,54925,59150,63375]
def aa4 (c:Nat):Nat:=(c / 16) ^^^ acb.getD (c%16) 0
def aj8 (c:Nat) (x:UInt8):Nat:=aa4 (aa4 (c ^^^ x.toNat))
def xf (c:Nat) (l:List UInt8):Nat:=l.foldl aj8 c
theorem afy {a b:Nat} (ha:a<65536) (hb:b<65536):a ^^^ b<65536:=Nat.xor_lt_two_pow (n:=16) ha hb
theorem a8p {c:Nat} (h:c<65536):ae1 c<65536:=by
 unfold ae1;refine afy om ?_
 split<;>omega
theorem auq {c:Nat} (h:c<65536):∀k,ayk k c<65536
 | 0=>h
 | k+1=>a8p (auq h k)
theorem as4 (i:Nat):acb.getD i 0<65536:=by
 rcases Nat.lt_or_ge i 16 with h|h
 ·have:∀j:Fin 16,acb.getD j 0<65536:=by decide
  exact this ⟨i,h⟩
 ·rw[List.getD_eq_getElem?_getD,List.getElem?_eq_none (by simpa [acb]using h)];decide
theorem ajb {c:Nat} (h:c<65536):aa4 c<65536:=afy om (as4 _)
theorem a3e {c:Nat} (h:c<65536) (x:UInt8):aj8 c x<65536:=ajb (ajb (afy h (by have:=x.toNat_lt;omega)))
theorem aax:∀(l:List UInt8) {c:Nat},c<65536→xf c l<65536
 | [],c,h=>h
 | x::l,c,h=>aax l (a3e h x)
theorem ajc {c b:Nat} (hc:c<65536) (hb:b<65536):act c b<65536:=auq (afy hc hb) 8
theorem aup (c:Nat) (l:List UInt8) (x:UInt8):xf c (l++[x])=aj8 (xf c l) x:=by simp[xf]
theorem amo (c b:Nat) (w:World) (hc:c<65536) (hb:b<256):Calls prog 86 #[.int .u16 c,.int .u8 b] w fun e w'=>e=.returned (.int .u16 (act c b:Int))∧w=w':=by
 have f1:bits BinOp.xor IntKind.u16 (c:Int) (b:Int)=((c ^^^ b:Nat):Int):=u16_xor_nat c b hc om;have hx:=afy hc (show b<65536 by omega);have f2:IntKind.u16.wrap (b:Int)=(b:Int):=IntWalk.u16_in _ om;unfold act;generalize c ^^^ b=d at *;go_enter func86,ntmps86;go_wp2_with fail
 go_loopg [0,9] 8 (fun g s0 s9 wr=>∃k:Nat,k≤8∧8-k≤g∧s9=.int .i64 k∧s0=.int .u16 (ayk k d:Int)∧wr=w)
 case atStart=>exact⟨0,Nat.zero_le _,by omega,rfl,rfl,rfl⟩
 case round=>
  obtain⟨k,hk,hg,rfl,rfl,rfl⟩:=hrel
  by_cases hlt:k<8
  ·have hl:=auq hx k;have HE:=hid (show ayk (k+1) d=ae1 (ayk k d)from rfl);generalize ayk k d=e at *;have i1:(k:Int)<8:=by omega
   obtain⟨h,hh⟩:∃h,e / 2=h:=⟨_,rfl⟩;have f3:(e:Int) / 2=(h:Int):=by omega
   by_cases ho:e%2=1
   ·have f4:bits BinOp.and IntKind.u16 (e:Int) 1=1:=by
     have:=u16_and_nat e 1 om dc;rw[show ((1:Nat):Int)=1 from rfl,nat_mask1]at this;rw[this];omega
    have f5:bits BinOp.and IntKind.u16 (IntKind.u16.wrap (-1)) 33800=33800:=by decide
    have f6:bits BinOp.xor IntKind.u16 (h:Int) 33800=(ae1 e:Int):=by
     have:=u16_xor_nat h 33800 om dc;rw[show ((33800:Nat):Int)=33800 from rfl]at this;rw[this];unfold ae1;rw[if_pos ho,hh]
    clear hh ho;generalize ae1 e=e' at *;go_wp2_with fail
    go_roundg (8-(k+1))
    case measure=>omega
    case rel=>exact⟨k+1,by omega,by omega,by go_num,by rw[HE.out],rfl⟩
   ·have f4:bits BinOp.and IntKind.u16 (e:Int) 1=0:=by
     have:=u16_and_nat e 1 om dc;rw[show ((1:Nat):Int)=1 from rfl,nat_mask1]at this;rw[this];omega
    have f5:bits BinOp.and IntKind.u16 0 33800=0:=by decide
    have f6:bits BinOp.xor IntKind.u16 (h:Int) 0=(ae1 e:Int):=by
     have:=u16_xor_nat h 0 om dc;rw[show ((0:Nat):Int)=0 from rfl]at this;rw[this];unfold ae1;rw[if_neg ho,hh]
    clear hh ho;generalize ae1 e=e' at *;go_wp2_with fail
    go_roundg (8-(k+1))
    case measure=>omega
    case rel=>exact⟨k+1,by omega,by omega,by go_num,by rw[HE.out],rfl⟩
  ·obtain rfl:k=8:=by omega
   obtain⟨e,he⟩:∃e,ayk 8 d=e:=⟨_,rfl⟩;have HE:=hid he;rw[he];clear he;go_wp2_with fail;go_ret;exact⟨by rw[HE.out];rfl,rfl⟩
theorem ayj (c:Nat) (w:World) (hc:c<65536):Calls prog 183 #[.int .u16 c] w fun e w'=>e=.returned (.int .u16 (aa4 c:Int))∧Below w.1.size w w':=by
 obtain⟨h,hh⟩:∃h,c / 16=h:=⟨_,rfl⟩;have f3:(c:Int) / 16=(h:Int):=by omega
 obtain⟨i,hi⟩:∃i,c%16=i:=⟨_,rfl⟩
 have f4:bits BinOp.and IntKind.u16 (c:Int) 15=(i:Int):=by
  have:=u16_and_nat c 15 hc dc;rw[show ((15:Nat):Int)=15 from rfl,nat_mask4]at this;rw[this,hi]
 have f5:bits BinOp.xor IntKind.u16 (h:Int) ((acb.getD i 0:Nat):Int)=(aa4 c:Int):=by
  rw[u16_xor_nat h _ om (as4 _)];unfold aa4;rw[hh,hi]
 have HK:Hid (Blk (w.alloc (.cells (acb.map fun n:Nat=>Value.int .u16 (n:Int)).toArray 350)) w.1.size (acb.map fun n:Nat=>Value.int .u16 (n:Int))):=hid (Blk.newL (qg w _ _) rfl)
 have c0:(w.alloc (.cells (acb.map fun n:Nat=>Value.int .u16 (n:Int)).toArray 350)).cell? ⟨w.1.size,i,none⟩=some (.int .u16 ((acb.getD i 0:Nat):Int)):=HK.out.cell i (by
  rw[List.getElem?_map,List.getElem?_eq_getElem (show i<acb.length by simp[acb];omega),List.getD_eq_getElem?_getD,List.getElem?_eq_getElem (show i<acb.length by simp[acb];omega)];rfl)
 have g1:(i:Int)<16:=by omega
 have g2:(0:Int) ≤(i:Int):=Int.natCast_nonneg _;generalize aa4 c=r at *;generalize acb.getD i 0=y at *;change (w.alloc (.cells #[.int .u16 0,.int .u16 4225,.int .u16 8450,.int .u16 12675,.int .u16 16900,.int .u16 21125,.int .u16 25350,.int .u16 29575,.int .u16 33800,.int .u16 38025,.int .u16 42250,.int .u16 46475,.int .u16 50700,.int .u16 54925,.int .u16 59150,.int .u16 63375] 350)).cell? ⟨w.1.size,i,none⟩=some (.int .u16 (y:Int))at c0;clear HK hh hi;go_enter func183,ntmps183;go_upto_region 2 with fail;have HB:Hid (Below w.1.size w (w.alloc (.cells #[.int .u16 0,.int .u16 4225,.int .u16 8450,.int .u16 12675,.int .u16 16900,.int .u16 21125,.int .u16 25350,.int .u16 29575,.int .u16 33800,.int .u16 38025,.int .u16 42250,.int .u16 46475,.int .u16 50700,.int .u16 54925,.int .u16 59150,.int .u16 63375] 350))):=hid (qa _ _);generalize w.alloc (.cells #[.int .u16 0,.int .u16 4225,.int .u16 8450,.int .u16 12675,.int .u16 16900,.int .u16 21125,.int .u16 25350,.int .u16 29575,.int .u16 33800,.int .u16 38025,.int .u16 42250,.int .u16 46475,.int .u16 50700,.int .u16 54925,.int .u16 59150,.int .u16 63375] 350)=W1 at *
 go_wp2_with fail;go_ret;exact⟨rfl,HB.out⟩
theorem ag3 {Q:Nat→Prop} {w:World} (s:Nat) (A:Option Addr) (l:List UInt8) (c:Nat) (h:qf Q w A (bsV l)) (hs:s<65536) (hm:l.length≤1000000) :
 Calls prog 113 #[.int .u16 s,.slice A l.length c] w fun e w'=>e=.returned (.int .u16 (xf s l:Int))∧Below w.1.size w w':=by
 replace h:=h.lt;have HI:=hid h;have HE:Hid (xf s (l.take l.length)=xf s l):=hid (by rw[List.take_length]);generalize hL:l.length=n at *;have HL:=hid hL;have HS:=hid hs;clear hL h hs;go_enter func113,ntmps113;go_wp2_with fail
 go_loopg [0,9] n (fun g s0 s9 wr=>∃k:Nat,k≤n∧n-k≤g∧s9=.int .i64 k∧s0=.int .u16 (xf s (l.take k):Int)∧Hid (Below w.1.size w wr))
 case atStart=>exact⟨0,Nat.zero_le _,by omega,rfl,rfl,Below.refl _ _⟩
 case round=>
  obtain⟨k,hk,hg,rfl,rfl,HB⟩:=hrel
  by_cases hlt:k<n
  ·have hkl:k<l.length:=by rw[HL.out];exact hlt
   obtain⟨b',o',rfl,hq,hc⟩:=HI.out k (bV (l[k]'hkl)) (yk hkl);have HSN:Hid (xf s (l.take (k+1))=aj8 (xf s (l.take k)) l[k]):=hid (by rw[List.take_succ_eq_append_getElem hkl,aup]);have hml:=aax (l.take k) HS.out;generalize xf s (l.take k)=m at *;have hc':wr.cell? ⟨b',o'+k,none⟩=some (bV l[k]):=(HB.out.cell (p:=⟨b',o'+k,none⟩) hq.2).trans hc;unfold bV at hc';clear hc;generalize l[k]=x at *;have hx:=x.toNat_lt;have f1:bits BinOp.xor IntKind.u16 (m:Int) (x.toNat:Int)=((m ^^^ x.toNat:Nat):Int):=u16_xor_nat m _ hml om;have f2:IntKind.u16.wrap (x.toNat:Int)=(x.toNat:Int):=IntWalk.u16_in _ om;have hd:=afy hml (show x.toNat<65536 by omega);have HF:=fun e W (q:e<65536)=>hid (ayj e W q)
   have HY:=hid (show aj8 m x=aa4 (aa4 (m ^^^ x.toNat))from rfl);generalize m ^^^ x.toNat=d at *;have i1:(k:Int)<n:=by omega
   have i2:(0:Int) ≤(k:Int):=Int.natCast_nonneg _;go_wp2_with fail;refine((HF _ _ hd).out).mono ?_;rintro e w1 ⟨rfl,hb⟩;have HB1:=hid (qb HB.out hb);clear hb hc';go_wp2_with fail;refine((HF _ _ (ajb hd)).out).mono ?_;rintro e w2 ⟨rfl,hb⟩;have HB2:Hid (Below w.1.size w w2):=hid (qb HB1.out hb);clear hb;have e1:xf s (l.take (k+1))=aa4 (aa4 d):=HSN.out.trans HY.out;have HE1:=hid e1;clear e1;generalize aa4 (aa4 d)=r at *;go_wp2_with fail
   go_roundg (n-(k+1))
   case measure=>omega
   case rel=>exact⟨k+1,by omega,by omega,by go_num,by rw[HE1.out],HB2⟩
  ·obtain rfl:k=n:=by omega
   have HE2:=HE.out;generalize xf s (l.take k)=m at *;go_wp2_with fail;go_ret;exact⟨by rw[← HE2];rfl,HB.out⟩
theorem a8q {Q:Nat→Prop} {w:World} (g:Nat) (A:Option Addr) (l:List UInt8) (c:Nat) (hg:w.cell? ⟨g,0,none⟩=some (.slice A l.length c)) (h:qf Q w A (bsV l)) (hm:l.length≤1000000) :
 Calls prog 87 #[.slice (some ⟨g,0,none⟩) 1 1] w fun e w'=>e=.returned (.int .u16 (xf 65535 l:Int))∧Below w.1.size w w':=by
 have HM:=hid (ag3 (w:=w) 65535 A l c h dc hm);generalize xf 65535 l=r at *;generalize l.length=n at *;clear h;go_enter func87,ntmps87;go_wp2_with fail
 go_loopg [3,8] 1 (fun t s3 s8 wr=>(s8=.int .i64 0∧s3=.int .u16 65535∧wr=w∧1≤t) ∨(s8=.int .i64 1∧s3=.int .u16 (r:Int)∧Hid (Below w.1.size w wr)))
 case atStart=>exact .inl ⟨rfl,rfl,rfl,by omega⟩
 case round=>
  rcases hrel with⟨rfl,rfl,rfl,ht⟩|⟨rfl,rfl,HB⟩
  ·go_wp2_with fail;refine(HM.out).mono ?_;rintro e w1 ⟨rfl,hb⟩;have HB1:=hid hb;clear hb;go_wp2_with fail
   go_roundg 0
   case measure=>omega
   case rel=>exact .inr ⟨rfl,rfl,HB1⟩
  ·go_wp2_with fail;go_ret;exact⟨rfl,HB.out⟩
def ard (p:Prt):ByteArray:=
 let s:ByteArray:=match p.sz with
  | 1=>⟨#[105,110,116,56,95,116]⟩
  | 2=>⟨#[105,110,116,49,54,95,116]⟩
  | 4=>⟨#[105,110,116,51,50,95,116]⟩
  | 8=>⟨#[105,110,116,54,52,95,116]⟩
  | _=>ByteArray.empty
 if p.sg then s else⟨#[117]⟩++s
def yl (c:Nat) (p:Prt):Nat:=
 let d:=xf c (ard p ++⟨#[32]⟩++p.nm ++⟨#[32]⟩).data.toList
 if 0<p.mn then act d (p.mn%256)else d
def anf (f:TFm):Nat:=
 if f.1=ByteArray.empty then 0 else
  let c:=(afv f.2).foldl yl (xf 65535 (f.1 ++⟨#[32]⟩).data.toList)
  Nat.xor (c%256) (c / 256)
def yx:ag1:=⟨0,0,0,0,[]⟩
def aik (i:Nat) (b:List UInt8):Int×List Int:=
 let f:=xe i
 if f.1=ByteArray.empty then(6,[])else
  let r:=xk (aca f.2) b
  if r.1=0 then(0,yp (aeh f.2) r.2 (List.replicate (k9 f.2) 0))else(r.1,[])
def abv (b:List UInt8):Int×Nat×ag1:=
 if b.length=0 then(2,0,yx)else if zx b 0≠254 then(3,0,yx)else if b.length<6 then(2,0,yx)else
  let i:=(zx b 5).toNat;let w:=yi (xe i).2
  if w=0 then(6,0,yx)else if(zx b 1).toNat≠w then(3,0,yx)else if b.length<w+8 then(2,0,yx)else
   let s:=act (xf 65535 ((b.drop 1).take (w+5))) (anf (xe i))
   if(zx b (w+6)).toNat=s%256 ∧(zx b (w+7)).toNat=s / 256 then
    let r:=aik i ((b.drop 6).take w)
    if r.1=0 then(0,w+8,⟨(zx b 2).toNat,(zx b 3).toNat,(zx b 4).toNat,i,r.2.map fun x=>abn [x]⟩)else(r.1,w+8,yx)
   else(4,0,yx)
theorem a1b (p:Prt) (hz:p.sz=1∨p.sz=2∨p.sz=4∨p.sz=8) (w:World):Calls prog 115 #[.agg #[.string p.nm,.int .i64 p.sz,.bool p.sg,.int .i64 p.mn]] w fun e w'=>e=.returned (.string (ard p))∧Below w.1.size w w':=by
 obtain⟨nm,sz,sg,mn⟩:=p;dsimp only at *;rcases hz with rfl|rfl|rfl|rfl<;>cases sg<;>unfold ard<;>dsimp only
 all_goals
  go_enter func115,ntmps115;go_wp2_with fail;go_ret;exact⟨rfl,qb (qa _ _) (qa _ _)⟩
theorem a1a {Q:Nat→Prop} {w:World} (A:Option Addr) (l:List Prt) (c:Nat) (h:qf Q w A (q7 l)) (hm:l.length≤1000) :
 Calls prog 114 #[.slice A l.length c] w fun e w'=>∃g,e=.returned (.slice (some ⟨g,0,none⟩) l.length l.length)∧Blk w' g (q7 (afv l))∧w.1.size≤g∧Below w.1.size w w':=by
 have H:=hid (awm A l c h hm);have HE:Hid (ags gtP l=afv l):=hid rfl;rw[HE.out]at H;generalize afv l=s at *;generalize l.length=n at *;clear h;go_enter func114,ntmps114;go_wp2_with fail;refine(H.out).mono ?_;rintro e w1 ⟨g,rfl,hk,hg,hb⟩;have HK:=hid (And.intro hk (And.intro hg hb));clear hk hg hb;go_wp2_with fail;go_ret;exact⟨g,rfl,HK.out⟩
theorem a3b (s:ByteArray) (w:World):∃c W,(convert 9 22 (.string s)).run prog w=.ok (.slice (some ⟨w.1.size,0,none⟩) s.size c) W∧qf (fun b=>w.1.size≤b) W (some ⟨w.1.size,0,none⟩) (bsV s.data.toList)∧Below w.1.size w W:=by
 refine⟨_,_,run_bytes_of_string (P:=prog) w 9 22 5 s underlying9 underlying22 underlying5,fun j u hu=>?_,?_⟩
 ·have hj:j<s.data.size:=by
   have:=(List.getElem?_eq_some_iff.1 hu).1
   simpa [bsV]using this
  have hu2:u=bV s.data[j]:=by
   have:=yk (l:=s.data.toList) (k:=j) (by simpa using hj);rw[this]at hu
   simpa using hu.symm
  refine⟨w.1.size,0,rfl,Nat.le_refl _,?_⟩;rw[hu2,Nat.zero_add];have hb:=bytesRow_at s (grownCap w s.size 0 5) j hj;have hlt:j<(bytesRow s (grownCap w s.size 0 5)).size:=(Array.getElem?_eq_some_iff.1 hb).1
  have hh:∀X:Obj,(w.drew.alloc X).heap[w.1.size]?=some X:=fun X=>by
   show (w.heap.push X)[w.1.size]?=_;simp
  unfold World.cell?;rw[hh];exact hb
 ·exact(Below.refl w.1.size w).drew.trans (qa w.drew (.cells (bytesRow s (grownCap w s.size 0 5)) 5 _))
theorem aml (s:ByteArray) (z:Nat) (hz:s.size=z) (w:World):∃c W,(convert 9 22 (.string s)).run prog w=.ok (.slice (some ⟨w.1.size,0,none⟩) z c) W∧qf (fun b=>w.1.size≤b) W (some ⟨w.1.size,0,none⟩) (bsV s.data.toList)∧Below w.1.size w W:=hz▸a3b s w
def arj (p:Prt):Prop:=(p.sz=1∨p.sz=2∨p.sz=4∨p.sz=8)∧p.mn≤64∧p.nm.size≤100
theorem a3k {c:Nat} (h:c<65536) {p:Prt} (hp:arj p):yl c p<65536:=by
 unfold yl;dsimp only;have:=aax (ard p ++⟨#[32]⟩++p.nm ++⟨#[32]⟩).data.toList h
 split
 ·exact ajc this om
 ·exact this
theorem af9:∀(l:List Prt) {c:Nat},c<65536 →(∀p∈l,arj p)→l.foldl yl c<65536
 | [],c,h,_=>h
 | p::l,c,h,hp=>af9 l (a3k h (hp p (List.mem_cons_self ..))) (fun q hq=>hp q (List.mem_cons_of_mem _ hq))
theorem a6s (p:Prt):(ard p).size≤9:=by
 have h:∀s:ByteArray,s.size≤8 →((⟨#[117]⟩:ByteArray)++s).size≤9:=fun s hs=>by rw[ByteArray.size_append];show 1+s.size≤9;omega
 have h2:∀n:Nat,(match n with|1=>(⟨#[105,110,116,56,95,116]⟩:ByteArray)|2=>⟨#[105,110,116,49,54,95,116]⟩|4=>⟨#[105,110,116,51,50,95,116]⟩|8=>⟨#[105,110,116,54,52,95,116]⟩|_=>ByteArray.empty).size≤8:=fun n=>by split<;>decide
 unfold ard;dsimp only
 split
 ·exact Nat.le_trans (h2 _) dc
 ·exact h _ (h2 _)
theorem aj7 (s:ByteArray):s.data.toList.length=s.size:=by simp
theorem awe (i:Int) (w:World) (hm:(xe i).2.length≤1000) (hnm:(xe i).1.size≤100) (hp:∀p∈(xe i).2,arj p):Calls prog 88 #[.int .i64 i] w fun e w'=>e=.returned (.int .u8 (anf (xe i):Int))∧Below w.1.size w w':=by
 have H:=hid (ahi i w);generalize xe i=f at *;obtain⟨n,l⟩:=f;unfold xu at H;dsimp only at *;have HP:=hid hp
 have HLN:Hid ((afv l).length=l.length ∧(afv l).take l.length=afv l):=hid (by
  have:(afv l).length=l.length:=atv _ l;exact⟨this,by rw[← this,List.take_length]⟩)
 have HPW:Hid (∀p∈afv l,arj p):=hid (fun p q=>hp p ((agi gtP l).mem_iff.1 q));clear hp;obtain⟨res,hres⟩:∃res,anf (n,l)=res:=⟨_,rfl⟩;rw[hres];have HRES:=hid hres;clear hres;go_enter func88,ntmps88;go_wp2_with fail;refine(H.out).mono ?_;rintro e w1 ⟨A,c,rfl,hf,hb⟩;have HF:=hid hf;have HB:=hid hb;clear hf hb H;have HN:Hid (Blk (w1.alloc (.cells #[.string n,.slice A l.length c] 200)) w1.1.size [.string n,.slice A l.length c]):=hid (Blk.newL (qg w1 _ _) rfl);have HB2:=hid (qb HB.out (qa w1 (.cells #[.string n,.slice A l.length c] 200)));have HF2:=hid (abf HF.out (qa w1 (.cells #[.string n,.slice A l.length c] 200)) (Nat.le_refl _));go_upto_region 2 with fail;clear HF HB;generalize w1.alloc (.cells #[.string n,.slice A l.length c] 200)=W2 at *;generalize w1.1.size=fb at *;have n0:=HN.out.cell 0 (v:=.string n) rfl
 by_cases hn:n=⟨#[]⟩
 ·have hr:res=0:=by rw[← HRES.out];unfold anf;exact if_pos hn
  subst hn;subst hr;go_wp2_with fail;go_ret;exact⟨rfl,HB2.out⟩
 ·have hn2:=ama hn;have HR2:Hid (res=Nat.xor (((afv l).foldl yl (xf 65535 (n ++⟨#[32]⟩).data.toList))%256) (((afv l).foldl yl (xf 65535 (n ++⟨#[32]⟩).data.toList)) / 256)):=hid (by rw[← HRES.out];unfold anf;exact if_neg hn);clear hn HRES;go_wp2_with fail;have hsz:(n ++⟨#[32]⟩:ByteArray).size≤1000000:=by rw[ByteArray.size_append];show n.size+1≤_;omega
  obtain⟨z,hz⟩:∃z,(n ++⟨#[32]⟩:ByteArray).size=z:=⟨_,rfl⟩;obtain⟨cc,W3,hcv,hfb,hbb⟩:=aml (n ++⟨#[32]⟩) z hz W2;rw[hcv];have HM:=hid (ag3 (w:=W3) 65535 _ (n ++⟨#[32]⟩).data.toList cc hfb dc (by rw[aj7];exact hsz));have HC0:Hid (xf 65535 (n ++⟨#[32]⟩).data.toList<65536):=hid (aax _ dc);rw[aj7,hz]at HM;have HN3:=hid (HN.out.on hbb);have HB3:=hid (qb HB2.out hbb);have HF3:=hid (abf HF2.out hbb (Nat.le_refl _));clear hcv hfb hbb hsz HN HB2 HF2 n0 hz;generalize xf 65535 (n ++⟨#[32]⟩).data.toList=c0 at *;have HM2:Hid (Calls prog 113 #[.int .u16 65535,.slice (some ⟨W2.1.size,0,none⟩) z cc] W3 fun e w'=>e=.returned (.int .u16 (c0:Int))∧Below W3.1.size W3 w'):=HM;clear HM;go_wp2_with fail;refine HM2.out.mono ?_;rintro e W4 ⟨rfl,hb⟩;have HN4:=hid (HN3.out.on hb);have HB4:=hid (qb HB3.out hb);have HF4:=hid (abf HF3.out hb (Nat.le_refl _));clear hb HM2 HN3 HB3 HF3
  have n1:=HN4.out.cell 1 (v:=.slice A l.length c) rfl;have HW:=hid (a1a A l c HF4.out hm);obtain⟨N,hN⟩:∃N,l.length=N:=⟨_,rfl⟩;rw[hN]at HW n1 hm;rw[hN]at HLN;clear hN;obtain⟨L,hL⟩:∃L,afv l=L:=⟨_,rfl⟩;rw[hL]at HW HLN HPW HR2;clear hL;go_wp2_with fail;refine HW.out.mono ?_;rintro e W5 ⟨g,rfl,hk,hg,hb⟩;have HK5:=hid hk;have HB5:=hid (qb HB4.out hb);clear hk hb hg n1 HW HN4 HB4 HF4;go_wp2_with fail
  go_loopg [4,21] N (fun t s4 s21 wr=>∃k:Nat,k≤N∧N-k≤t∧s21=.int .i64 k∧s4=.int .u16 (((L.take k).foldl yl c0:Nat):Int)∧Hid (Blk wr g (q7 L))∧Hid (Below w.1.size w wr))
  case atStart=>exact⟨0,by omega,by omega,rfl,rfl,HK5.out,HB5.out⟩
  case round=>
   obtain⟨k,hk,ht,rfl,rfl,HK,HB⟩:=hrel;clear HK5 HB5
   by_cases hlt:k<N
   ·have hkl:k<L.length:=by rw[HLN.out.1];exact hlt
    obtain⟨b',o',hA,-,cx0,cx1,cx2,cx3⟩:=ajk (HK.out.flat (Q:=fun _=>True) trivial) k hkl;injection hA with hA
    injection hA with hA1 hA2
    subst hA1 hA2;rw[Nat.zero_add]at cx0 cx1 cx2 cx3;have HSN:Hid ((L.take (k+1)).foldl yl c0=yl ((L.take k).foldl yl c0) L[k]):=hid (by rw[List.take_succ_eq_append_getElem hkl,List.foldl_append];rfl);have hul:=af9 (L.take k) HC0.out (fun p hp=>HPW.out p (List.mem_of_mem_take hp));have hpo:=HPW.out L[k] (List.getElem_mem hkl);generalize (L.take k).foldl yl c0=u at *;generalize L[k]=p at *;have HWD0:=fun W=>hid (a1b p hpo.1 W)
    have hws:=a6s p;obtain⟨wd,hwd⟩:∃wd,ard p=wd:=⟨_,rfl⟩;rw[hwd]at hws;have HEX:Hid (yl u p=if 0<p.mn then act (xf u (wd ++⟨#[32]⟩++p.nm ++⟨#[32]⟩).data.toList) (p.mn%256)else xf u (wd ++⟨#[32]⟩++p.nm ++⟨#[32]⟩).data.toList):=hid (by rw[← hwd];rfl);obtain⟨nm,sz,sg,mn⟩:=p;dsimp only at *;have HWD:∀W,Hid (Calls prog 115 #[.agg #[.string nm,.int .i64 sz,.bool sg,.int .i64 mn]] W fun e w'=>e=.returned (.string wd)∧Below W.1.size W w'):=fun W=>hid (by rw[← hwd];exact(HWD0 W).out)
    clear hwd HWD0
    have hwl:(wd ++⟨#[32]⟩++nm ++⟨#[32]⟩:ByteArray).size≤1000000:=by
     rw[ByteArray.size_append,ByteArray.size_append,ByteArray.size_append];show wd.size+1+nm.size+1≤_;have:=hpo.2.2;dsimp only at this;omega
    obtain⟨z,hz⟩:∃z,(wd ++⟨#[32]⟩++nm ++⟨#[32]⟩:ByteArray).size=z:=⟨_,rfl⟩;have HZ:=hid hz;have HMR0:=fun W (a:Nat) cc h=>hid (ag3 (Q:=fun b=>a≤b) (w:=W) u (some ⟨a,0,none⟩) (wd ++⟨#[32]⟩++nm ++⟨#[32]⟩).data.toList cc h hul (by rw[aj7];exact hwl))
    have hdl:=aax (wd ++⟨#[32]⟩++nm ++⟨#[32]⟩).data.toList hul;obtain⟨d,hd⟩:∃d,xf u (wd ++⟨#[32]⟩++nm ++⟨#[32]⟩).data.toList=d:=⟨_,rfl⟩;rw[hd]at HEX hdl
    have HMR:∀W (a:Nat) cc,qf (fun b=>a≤b) W (some ⟨a,0,none⟩) (bsV (wd ++⟨#[32]⟩++nm ++⟨#[32]⟩).data.toList)→Hid (Calls prog 113 #[.int .u16 u,.slice (some ⟨a,0,none⟩) z cc] W fun e w'=>e=.returned (.int .u16 (d:Int))∧Below W.1.size W w'):=fun W a cc h=>hid (by
     have q:=(HMR0 W a cc h).out;rw[aj7,hd,hz]at q;exact q)
    have hns:=hpo.2.2;dsimp only at hns;have k1:¬9223372036854775807<wd.size+1:=by omega
    have k2:¬9223372036854775807<wd.size+1+nm.size:=by omega
    have k3:¬9223372036854775807<wd.size+1+nm.size+1:=by omega
    clear hd HMR0 hwl hws hz hns;have hmn:mn≤64:=hpo.2.1;have i1:(k:Int)<N:=by omega
    have i2:(0:Int) ≤(k:Int):=Int.natCast_nonneg _;have HN1:Hid (Blk (wr.alloc (.cells #[.string nm,.int .i64 sz,.bool sg,.int .i64 mn] 261)) wr.1.size [.string nm,.int .i64 sz,.bool sg,.int .i64 mn]):=hid (Blk.newL (qg wr _ _) rfl);have HB1:=hid (qb HB.out (qa wr (.cells #[.string nm,.int .i64 sz,.bool sg,.int .i64 mn] 261)));have HK1:=hid (HK.out.on (qa wr (.cells #[.string nm,.int .i64 sz,.bool sg,.int .i64 mn] 261)));go_upto_region 8 with fail;clear cx0 cx1 cx2 cx3 HB HK;generalize wr.alloc (.cells #[.string nm,.int .i64 sz,.bool sg,.int .i64 mn] 261)=W1 at *;generalize wr.1.size=q at *
    try (apply wp_seq_k;intro K_ HK_)
    have hS0:Below W1.1.size W1 W1.drew:=(Below.refl _ _).drew;refine wp_region_held_drew (S:=fun w'=>Below W1.1.size W1 w') kr hS0 (fun hHeld0=>?_);refine tkA 0 25 rfl ?_
    try go_frame
    refine tkQ (i:=1) (oi:=⟨some 26,_,_,_,_,_⟩) (v:=_) rfl (yieldsIf_load_mid (by rfl) 261 _ rfl q 0 rfl [.string nm,.int .i64 (sz:Nat),.bool sg,.int .i64 (mn:Nat)] _ (fun w' hSw=>(HN1.out.on hSw).rg) underlying261 rfl kr) ?_
    try go_frame
    refine tkA 4 29 rfl ?_
    try go_frame
    refine tkQ (i:=5) (oi:=⟨some 30,_,_,_,_,_⟩) (v:=?_) rfl (Or.inl ⟨by rfl,?_⟩) ?_;rotate_left
    ·intro w' hSw;have x1:=(HN1.out.on hSw).cell 0 (v:=.string nm) rfl;go_simp
     try with_reducible rfl
    try go_frame
    refine rdB 2 27 rfl fun K hK=>?_
    go_step;refine(HWD _).out.mono ?_;rintro e w2 ⟨rfl,hb⟩;have HS2:Hid (Below W1.1.size W1 w2):=hid (hHeld0.trans (hb.mono hHeld0.size));clear hb
    try go_frame
    refine hK.out _ _ (HS2.out) (fun hHeld=>?_);clear hK K
    try go_frame
    refine tkA 3 28 rfl ?_
    try go_frame
    refine tkA 6 31 rfl ?_
    try go_frame
    refine tkA 7 32 rfl ?_
    try go_frame
    refine rdB 8 33 rfl fun K hK=>?_
    go_step;obtain⟨cc,wb,hcv,hfb,hbb⟩:=aml (wd ++⟨#[32]⟩++nm ++⟨#[32]⟩) z HZ.out w2;rw[hcv];have HS3:Hid (Below W1.1.size W1 wb):=hid (HS2.out.trans (hbb.mono HS2.out.size));have HFB:=hid hfb;clear hcv hfb hbb
    try go_frame
    refine hK.out _ _ (HS3.out) (fun hHeld=>?_);clear hK K
    try go_frame
    refine rdB 9 34 rfl fun K hK=>?_
    go_step;refine(HMR wb _ cc HFB.out).out.mono ?_;rintro e w4 ⟨rfl,hb⟩;have HS4:Hid (Below W1.1.size W1 w4):=hid (HS3.out.trans (hb.mono HS3.out.size));clear hb
    try go_frame
    refine hK.out _ _ (HS4.out) (fun hHeld=>?_);clear hK K
    try go_frame
    refine tkA 10 4 rfl ?_
    try go_frame
    refine wpAnyH_done kr ?_ _
    try go_frame
    have HN6:=hid (HN1.out.on HS4.out);have HB6:=hid (qb HB1.out HS4.out);have HK6:=hid (HK1.out.on HS4.out);clear hHeld hHeld0 hS0;have y3:=HN6.out.cell 3 (v:=.int .i64 mn) rfl
    by_cases hm0:mn=0
    ·have HE:Hid ((L.take (k+1)).foldl yl c0=d):=hid (by rw[HSN.out,HEX.out,if_neg om]);have j1:¬(0:Int)<(mn:Int):=by omega
     go_wp2_with fail
     go_roundg (N-(k+1))
     case measure=>omega
     case rel=>exact⟨k+1,by omega,by omega,by go_num,by rw[HE.out],HK6,HB6⟩
    ·have HE:Hid ((L.take (k+1)).foldl yl c0=act d mn):=hid (by rw[HSN.out,HEX.out,if_pos om,Nat.mod_eq_of_lt om]);have j1:(0:Int)<(mn:Int):=by omega
     have j2:IntKind.u8.wrap (mn:Int)=(mn:Int):=IntWalk.u8_in _ om;have j3:(mn:Int)%256=(mn:Int):=by omega
     have HCS:=fun W=>hid (amo d mn W hdl om)
     go_wp2_with fail;refine(HCS _).out.mono ?_;rintro e W7 ⟨rfl,rfl⟩;go_wp2_with fail
     go_roundg (N-(k+1))
     case measure=>omega
     case rel=>exact⟨k+1,by omega,by omega,by go_num,by rw[HE.out],HK6,HB6⟩
   ·obtain rfl:k=N:=by omega
    have hcl:=af9 L HC0.out HPW.out;rw[HLN.out.2];obtain⟨C,hC⟩:∃C,L.foldl yl c0=C:=⟨_,rfl⟩;rw[hC]at HR2 hcl;rw[hC];obtain⟨a,ha⟩:∃a,C%256=a:=⟨_,rfl⟩;obtain⟨b,hb⟩:∃b,C / 256=b:=⟨_,rfl⟩;rw[ha,hb]at HR2;have g1:(C:Int)%256=(a:Int):=by omega
    have g2:(C:Int) / 256=(b:Int):=by omega
    have g3:(b:Int)%256=(b:Int):=by omega
    have g4:bits BinOp.xor IntKind.u8 (a:Int) (b:Int)=(res:Int):=by rw[HR2.out];exact u8_xor_nat a b om om
    clear hC ha hb;go_wp2_with fail;go_ret;exact⟨rfl,HB.out⟩
theorem ba2 (l m:List Prt) (n:Nat):aaj (l++m) n=aaj l n++aaj m (n+k9 l):=by
 induction l generalizing n with
 | nil=>simp[aaj,k9]
 | cons p l ih=>simp only[List.cons_append,aaj,ih,List.append_assoc];congr 2;simp[k9];congr 1;omega
theorem atu (l:List Prt) (n:Nat):(aaj l n).length=k9 l:=by
 induction l generalizing n with
 | nil=>rfl
 | cons p l ih=>simp[aaj,ih,k9]
def ai0 (p:Prt) (n k:Nat):List Slt:=(List.range k).map fun j=>⟨p.sz,p.sg,n+j⟩
theorem a5x (p:Prt) (n k:Nat):ai0 p n (k+1)=ai0 p n k++[⟨p.sz,p.sg,n+k⟩]:=by simp[ai0,List.range_succ]
theorem a5y (l:List Prt) (p:Prt):aaj (l++[p]) 0=aaj l 0++ai0 p (k9 l) (aai p):=by
 rw[ba2];simp[aaj,ai0]
def ai7 (w:World) (b:Nat) (t:TypeId) (C:Array Value):Prop:=w.heap[b]?=some (.cells C t (0,0))
theorem ai7.new (w:World) (C:Array Value) (t:TypeId):ai7 (w.alloc (.cells C t)) w.1.size t C:=by
 show (w.heap.push _)[w.1.size]?=_;simp
theorem ai7.lt {w:World} {b:Nat} {t:TypeId} {C:Array Value} (h:ai7 w b t C):b<w.1.size:=(Array.getElem?_eq_some_iff.1 h).1
theorem ai7.on {w w':World} {b:Nat} {t:TypeId} {C:Array Value} (h:ai7 w b t C) (hb:Below w.1.size w w'):ai7 w' b t C:=(hb.block b h.lt).trans h
theorem ai7.cell {w:World} {b:Nat} {t:TypeId} {C:Array Value} (h:ai7 w b t C) (o:Nat) {v:Value} (hv:C[o]?=some v):w.cell? ⟨b,o,none⟩=some v:=by
 unfold ai7 at h;unfold World.cell?;simp only[h];exact hv
theorem a9u {P:Program} {B:Nat} {t ty e:TypeId} {i:TypeInfo} {z:Value} {size bytes:Nat} {v:Value} {n:Nat} {xs:List Value} {w:World} (h:w.ownsRow B e size v n xs) (hB:B≤w.1.size) (hi:P.info? e=some i∧i.zero=some z∧i.size=size∧i.bytes=bytes) (h1:P.underlying t=some (.slice e)) (h6:z.cells.size=size) (h7:0<size)
 {R:Nat→Prop} (X:Option Addr) (m c:Nat) (news:List Value) (hn:news.length=m*size) (hc:qf R w X news) (h1c:∀u∈news,u.oneCell'=true) (b1:n+m≤maxLen) (b2:(n+m)*bytes≤140737488355328) :
 ∃v' w',(Builtin.append_ #[t,t] ty #[v,.slice X m c]).run P w=.ok v' w'∧w'.ownsRow B e size v' (n+m) (xs++news)∧Below B w w'∧∀q t' C,ai7 w q t' C→t'≠e→ai7 w' q t' C:=by
 obtain⟨v',w',q1,q2,q3,-⟩:=jl (P:=P) w t ty e i z size bytes h1 hi.1 hi.2.1 hi.2.2.1 hi.2.2.2 h6 h7 B v n xs h X m c news hn hc h1c b1 b2 hB;obtain⟨A,cap,rfl,-,-⟩:=zj h;refine⟨v',w',q1,q2,(Below.refl B w).grown q3 hB (fun k hk=>?_),fun q t' C hq ht=>?_⟩
 ·rcases h.2 with⟨q,-⟩|⟨g,cap',cur,q,hb,-⟩
  ·injection q with q _ _;subst q;cases hk
  ·injection q with q _ _;subst q
   simp only[Value.ownBlock,Option.some.injEq]at hk;omega
 ·refine(q3.block q hq.lt (fun hk=>?_)).trans hq;rcases h.2 with⟨y,-⟩|⟨g,cap',cur,y,hb,hg,-⟩
  ·injection y with y _ _;subst y;cases hk
  ·injection y with y _ _;subst y
   simp only[Value.ownBlock,Option.some.injEq]at hk;subst hk;rw[hq]at hg;injection hg with hg
   injection hg with _ hg _
   exact ht hg
theorem a8n (l:List Prt) (k:Nat):k9 (l.take k)≤k9 l:=by
 have:k9 l=k9 (l.take k)+k9 (l.drop k):=by
  unfold k9;rw[← List.sum_append,← List.map_append,List.take_append_drop]
 omega
theorem a8m (l:List Prt) (p:Prt):k9 (l++[p])=k9 l+aai p:=by simp[k9]
theorem aqw {Q:Nat→Prop} {w:World} {A:Option Addr} {l:List Slt} (h:qf Q w A (zr l)) (k:Nat) (hk:k<l.length):∃b off,A=some ⟨b,off,none⟩∧Q b∧w.cell? ⟨b,off+k*3,none⟩=some (.int .i64 (l[k].sz:Int))∧w.cell? ⟨b,off+k*3+1,none⟩=some (.bool l[k].sg)∧w.cell? ⟨b,off+k*3+2,none⟩=some (.int .i64 (l[k].ix:Int)):=by
 have e:=fun j hj=>ahx yt 3 (fun _=>rfl) l k hk j hj
 obtain⟨b,off,hA,hb,h0⟩:=h _ _ (e 0 om);refine⟨b,off,hA,hb,h0,?_,?_⟩
 ·obtain⟨b',off',hA',-,h1⟩:=h _ _ (e 1 om);rw[hA]at hA';injection hA' with hA';injection hA' with q1 q2;subst q1 q2
  exact h1
 ·obtain⟨b',off',hA',-,h1⟩:=h _ _ (e 2 om);rw[hA]at hA';injection hA' with hA';injection hA' with q1 q2;subst q1 q2
  exact h1
theorem bfe (l:List Prt) (hp:∀p∈l,arj p) (n:Nat):∀x∈aaj l n,1≤x.sz∧x.sz≤8:=by
 induction l generalizing n with
 | nil=>intro x hx;simp[aaj]at hx
 | cons p l ih=>
  intro x hx;simp only[aaj,List.mem_append,List.mem_map]at hx;rcases hx with⟨j,-,rfl⟩|hx
  ·have:=(hp p (List.mem_cons_self ..)).1;dsimp only;omega
  ·exact ih (fun q hq=>hp q (List.mem_cons_of_mem _ hq)) _ x hx
theorem al6 (l:List Prt):(aeh l).length=k9 l:=by unfold aeh;rw[atv,atu]
theorem a1h (l:List Prt) (hp:∀p∈l,arj p):∀x∈aeh l,1≤x.sz∧x.sz≤8:=fun x hx=>bfe l hp 0 x ((agi _ _).mem_iff.1 hx)
def aua (l:List Prt) (w:World) (e:Ending) (w':World):Prop:=
 ∃g B d,e=.returned (.tuple #[.slice (some ⟨g,0,none⟩) (k9 l) (k9 l),.slice B (k9 l) d])∧Blk w' g (zr (aeh l))∧qf (fun b=>w.1.size≤b∧b<w'.1.size) w' B (aci (aca l))∧w.1.size≤g∧Below w.1.size w w'
theorem awl {Q:Nat→Prop} {w:World} (nm0:ByteArray) (A:Option Addr) (l:List Prt) (c:Nat) (h:qf Q w A (q7 l)) (hm:l.length≤1000) (hc:k9 l≤1000) (hp:∀p∈l,arj p) :
 Calls prog 90 #[.agg #[.string nm0,.slice A l.length c]] w (aua l w):=by
 have HI:=hid h.lt;have HP:=hid hp;obtain⟨i0,hi,hz0,hz1,hz2⟩:=ko a1f;have HIN:=hid (And.intro hi (And.intro hz0 (And.intro hz1 hz2)));clear hi hz0 hz1 hz2;obtain⟨i1,hi,hz0,hz1,hz2⟩:=ko ayy;have HIF:=hid (And.intro hi (And.intro hz0 (And.intro hz1 hz2)));clear hi hz0 hz1 hz2;have HC:=hid hc;have HE:Hid (l.take l.length=l):=hid (by rw[List.take_length]);obtain⟨N,hn⟩:∃N,l.length=N:=⟨_,rfl⟩;rw[hn]at hm HE ⊢;have HL:=hid hn;clear hn h hp hc;go_enter func90,ntmps90;go_upto_region 2 with fail;have HN:Hid (Blk (w.alloc (.cells #[.string nm0,.slice A N c] 200)) w.1.size [.string nm0,.slice A N c]):=hid (Blk.newL (qg w _ _) rfl);have HB:Hid (Below w.1.size w (w.alloc (.cells #[.string nm0,.slice A N c] 200))):=hid (qa _ _);generalize w.alloc (.cells #[.string nm0,.slice A N c] 200)=W1 at *;have n1:=HN.out.cell 1 (v:=.slice A N c) rfl;go_wp2_with fail;clear n1
 go_loopg [4,13] N (fun t s4 s13 wr=>∃k:Nat,k≤N∧N-k≤t∧s13=.int .i64 k∧Hid (abj w 208 3 s4 (k9 (l.take k)) (zr (aaj (l.take k) 0)) wr))
 case atStart=>exact⟨0,by omega,by omega,rfl,abj.nil _ _ _ HB.out⟩
 case round=>
  rename_i s4;obtain⟨k,hk,ht,rfl,HO⟩:=hrel;clear HB HN
  by_cases hlt:k<N
  ·have hkl:k<l.length:=by rw[HL.out];exact hlt
   obtain⟨b',o',rfl,hq,c0,c1,c2,c3⟩:=ajk HI.out k hkl;have hpo:=HP.out l[k] (List.getElem_mem hkl);have HSN:Hid (k9 (l.take (k+1))=k9 (l.take k)+aai l[k]∧aaj (l.take (k+1)) 0=aaj (l.take k) 0++ai0 l[k] (k9 (l.take k)) (aai l[k])):=hid (by rw[List.take_succ_eq_append_getElem hkl];exact⟨a8m _ _,a5y _ _⟩);have hkc:k9 (l.take k)+aai l[k]≤1000:=by rw[← HSN.out.1];exact Nat.le_trans (a8n l _) HC.out
   have HNB:=fun W=>hid (am2 l[k] W)
   have d0:=(HO.out.2.cell (p:=⟨b',o'+k*4,none⟩) hq.2).trans c0;have d1:=(HO.out.2.cell (p:=⟨b',o'+k*4+1,none⟩) hq.2).trans c1;have d2:=(HO.out.2.cell (p:=⟨b',o'+k*4+2,none⟩) hq.2).trans c2;have d3:=(HO.out.2.cell (p:=⟨b',o'+k*4+3,none⟩) hq.2).trans c3;clear c0 c1 c2 c3;have HSK:Hid (∀j,ai0 l[k] (k9 (l.take k)) (j+1)=ai0 l[k] (k9 (l.take k)) j++[⟨l[k].sz,l[k].sg,k9 (l.take k)+j⟩]):=hid (a5x l[k] (k9 (l.take k)));have HS0:Hid (ai0 l[k] (k9 (l.take k)) 0=[]):=hid rfl;generalize l[k]=p at *;generalize k9 (l.take k)=K at *;generalize aaj (l.take k) 0=S at *;obtain⟨nm,sz,sg,mn⟩:=p;generalize aai ⟨nm,sz,sg,mn⟩=r at *;generalize ai0 ⟨nm,sz,sg,mn⟩ K=sk at *;dsimp only at *;have i1:(k:Int)<N:=by omega
   have i2:(0:Int) ≤(k:Int):=Int.natCast_nonneg _;have HT:Hid (ai7 (wr.alloc (.cells #[.string nm,.int .i64 sz,.bool sg,.int .i64 mn] 261)) wr.1.size 261 #[.string nm,.int .i64 sz,.bool sg,.int .i64 mn]):=hid (ai7.new _ _ _);have HO1:=hid (HO.out.on (qa wr (.cells #[.string nm,.int .i64 sz,.bool sg,.int .i64 mn] 261)));go_upto_region 5 with fail;clear d0 d1 d2 d3 HO;generalize wr.alloc (.cells #[.string nm,.int .i64 sz,.bool sg,.int .i64 mn] 261)=W2 at *;generalize wr.1.size=q at *;have x0:=HT.out.cell 0 (v:=.string nm) rfl;have x1:=HT.out.cell 1 (v:=.int .i64 sz) rfl;have x2:=HT.out.cell 2 (v:=.bool sg) rfl;have x3:=HT.out.cell 3 (v:=.int .i64 mn) rfl;go_wp2_with fail;refine(HNB W2).out.mono ?_;rintro e W3 ⟨rfl,hb⟩;have HT2:=hid (HT.out.on hb);have HO2:=hid (HO1.out.on hb);clear hb x0 x1 x2 x3 HT HO1;go_wp2_with fail
   go_loopg [4,19] r (fun t2 s4 s19 wr=>∃j:Nat,j≤r∧r-j≤t2∧s19=.int .i64 j∧Hid (abj w 208 3 s4 (K+j) (zr (S++sk j)) wr)∧Hid (ai7 wr q 261 #[.string nm,.int .i64 sz,.bool sg,.int .i64 mn]))
   case atStart=>exact⟨0,by omega,by omega,rfl,by rw[HS0.out,List.append_nil];exact HO2.out,HT2.out⟩
   case round=>
    rename_i s4;obtain⟨j,hj,ht2,rfl,HO,HT⟩:=hrel;clear HO2 HT2;obtain⟨A1,c1,hs1,-,-⟩:=HO.out.flat;subst hs1
    by_cases hjr:j<r
    ·have x1:=HT.out.cell 1 (v:=.int .i64 sz) rfl;have x2:=HT.out.cell 2 (v:=.bool sg) rfl;have j1:(j:Int)<r:=by omega
     have hO3:=HO.out.on (qa wr (.cells #[.int .i64 sz,.bool sg,.int .i64 ((K+j:Nat):Int)] 208));obtain⟨v',w3,hrun,ho,hbl,hap⟩:=a9u (P:=prog) (t:=202) (ty:=202) hO3.1 hO3.2.size HIN.out underlying202 rfl dc (R:=fun _=>True) (some ⟨wr.1.size,0,none⟩) 1 1 [.int .i64 sz,.bool sg,.int .i64 ((K+j:Nat):Int)] rfl ((Blk.newL (qg wr _ _) rfl).flat trivial) (a1e ⟨sz,sg,K+j⟩) (by unfold maxLen;omega) om;have HRUN:=hid hrun
     have HO4:Hid (abj w 208 3 v' (K +(j+1)) (zr (S++sk (j+1))) w3):=hid (by
      rw[HSK.out,← List.append_assoc,ba3,← Nat.add_assoc];exact⟨ho,hO3.2.trans hbl⟩)
     have HT4:=hid (hap _ _ _ (HT.out.on (qa wr (.cells #[.int .i64 sz,.bool sg,.int .i64 ((K+j:Nat):Int)] 208))) dc);clear hO3 hrun ho hbl hap;go_wp2_with (at_builtin;refine zf rfl _ _ 202 rfl _ _ _ rfl rfl HRUN.out ?_)
     go_roundg (r-(j+1))
     case measure=>omega
     case rel=>exact⟨j+1,by omega,by omega,by go_num,HO4,HT4⟩
    ·obtain rfl:j=r:=by omega
     have HO5:Hid (abj w 208 3 (.slice A1 (K+j) c1) (k9 (l.take (k+1))) (zr (aaj (l.take (k+1)) 0)) wr):=hid (by rw[HSN.out.1,HSN.out.2];exact HO.out);go_wp2_with fail
     go_roundg (N-(k+1))
     case measure=>omega
     case rel=>exact⟨k+1,by omega,by omega,by go_num,HO5⟩
  ·obtain rfl:k=N:=by omega
   have HO2:=hid HO.out;rw[HE.out]at HO2;clear HO;have HSL:=hid (And.intro (al6 l) (a1h l HP.out));have hlp:=atu l 0;obtain⟨A1,c1,hs1,-,hf1⟩:=HO2.out.flat;subst hs1;have HST:=hid (awo A1 (aaj l 0) c1 hf1 (by rw[hlp];exact HC.out));rw[hlp]at HST;have HSE:Hid (ags gtS (aaj l 0)=aeh l∧aca l=(aeh l).map fun x=>af3 x.sz x.sg):=hid ⟨rfl,rfl⟩;rw[HSE.out.1]at HST;have HFS:=hid HSE.out.2;have HBW:=hid HO2.out.2;unfold aua at *;have HMC:=hid HC.out;clear hlp hf1 HO2 HSE;generalize aeh l=s at *;obtain⟨fs,hfs⟩:∃fs,aca l=fs:=⟨_,rfl⟩;rw[hfs]at HFS;have HF0:=hid hfs;clear hfs;obtain⟨M,hM⟩:∃M,k9 l=M:=⟨_,rfl⟩;simp only[hM]at *;clear hM;have hmc:M≤1000:=HMC.out;go_wp2_with fail;refine HST.out.mono ?_;rintro e W6 ⟨g,rfl,hk6,hg6,hb6⟩;have HK6:=hid hk6;have HG6:=hid (Nat.le_trans HBW.out.size hg6);have HB6:=hid (qb HBW.out hb6);clear hk6 hg6 hb6 HST HBW;go_wp2_with fail
   go_loopg [7,37] M (fun t s7 s37 wr=>∃k:Nat,k≤M∧M-k≤t∧s37=.int .i64 k∧Hid (abj W6 270 4 s7 k (aci ((s.take k).map fun x=>af3 x.sz x.sg)) wr))
   case atStart=>exact⟨0,by omega,by omega,rfl,abj.nil _ _ _ (Below.refl _ _)⟩
   case round=>
    rename_i s7;obtain⟨j,hj,ht2,rfl,HO⟩:=hrel;obtain⟨A2,c2,hs2,-,hfl⟩:=HO.out.flat;subst hs2
    by_cases hjm:j<M
    ·have hjl:j<s.length:=by rw[HSL.out.1];exact hjm
     have HKR:=HK6.out.on HO.out.2;obtain⟨b',o',hA,-,c0,c1',c2'⟩:=aqw (HKR.flat (Q:=fun _=>True) trivial) j hjl;injection hA with hA
     injection hA with hA1 hA2
     subst hA1 hA2;rw[Nat.zero_add]at c0 c1' c2';have HSN:Hid (((s.take (j+1)).map fun x=>af3 x.sz x.sg)=((s.take j).map fun x=>af3 x.sz x.sg)++[af3 s[j].sz s[j].sg]):=hid (by rw[List.take_succ_eq_append_getElem hjl,List.map_append];rfl);have hso:=HSL.out.2 s[j] (List.getElem_mem hjl);have HAN:=fun W=>hid (aqq s[j].sz s[j].sg W hso.1 hso.2)
     generalize s[j]=x at *;obtain⟨sz,sg,ix⟩:=x;dsimp only at *;unfold yf abr at HAN;generalize af3 sz sg=f at *;obtain⟨fz,fg,flo,fhi⟩:=f;dsimp only at *;have i1:(j:Int)<M:=by omega
     have i2:(0:Int) ≤(j:Int):=Int.natCast_nonneg _;have HN1:Hid (Blk (wr.alloc (.cells #[.int .i64 sz,.bool sg,.int .i64 ix] 208)) wr.1.size [.int .i64 sz,.bool sg,.int .i64 ix]):=hid (Blk.newL (qg wr _ _) rfl);have HO1:=hid (HO.out.on (qa wr (.cells #[.int .i64 sz,.bool sg,.int .i64 ix] 208)));go_upto_region 15 with fail;clear c0 c1' c2' HKR HO hfl;generalize wr.alloc (.cells #[.int .i64 sz,.bool sg,.int .i64 ix] 208)=W7 at *;generalize wr.1.size=q at *;have x0:=HN1.out.cell 0 (v:=.int .i64 sz) rfl;have x1:=HN1.out.cell 1 (v:=.bool sg) rfl;go_wp2_with fail;refine(HAN W7).out.mono ?_;rintro e W8 ⟨rfl,hb⟩;have hO3:=(HO1.out.on hb).on (qa W8 (.cells #[.int .i64 fz,.bool fg,.int .i64 flo,.int .i64 fhi] 270));obtain⟨v',w3,hrun,ho⟩:=abj.app (P:=prog) (t:=203) (ty:=203) hO3 HIF.out underlying203 rfl dc (R:=fun _=>True) (some ⟨W8.1.size,0,none⟩) 1 1 [.int .i64 fz,.bool fg,.int .i64 flo,.int .i64 fhi] rfl ((Blk.newL (qg W8 _ _) rfl).flat trivial) (as3 [⟨fz,fg,flo,fhi⟩]) (by have:=HMC.out;unfold maxLen;omega) (by have:=HMC.out;omega)
     have HRUN:=hid hrun;have HO4:Hid (abj W6 270 4 v' (j+1) (aci ((s.take (j+1)).map fun x=>af3 x.sz x.sg)) w3):=hid (by rw[HSN.out,as2];exact ho);clear hb hO3 hrun ho x0 x1;go_wp2_with (at_builtin;refine zf rfl _ _ 203 rfl _ _ _ rfl rfl HRUN.out ?_)
     go_roundg (M-(j+1))
     case measure=>omega
     case rel=>exact⟨j+1,by omega,by omega,by go_num,HO4⟩
    ·obtain rfl:j=M:=by omega
     have HEND:Hid (Blk wr g (zr s)∧qf (fun b=>w.1.size≤b∧b<wr.1.size) wr A2 (aci fs)∧w.1.size≤g∧Below w.1.size w wr):=hid (by
      refine⟨HK6.out.on HO.out.2,?_,HG6.out,qb HB6.out HO.out.2⟩;have e:s.take j=s:=by rw[← HSL.out.1,List.take_length]
      rw[HFS.out,← e];exact hfl.less fun b q=>⟨Nat.le_trans HB6.out.size q.1,q.2⟩)
     clear hfl HO;go_wp2_with fail
     go_ret2
     exact⟨g,A2,c2,rfl,by rw[HF0.out];exact HEND.out⟩
def bb5 (f:TFm):Prop:=f.1.size≤100∧f.2.length≤1000∧k9 f.2≤1000∧∀p∈f.2,arj p
def fmB (f:TFm):Bool:=decide (f.1.size≤100) && (decide (f.2.length≤1000) && (decide (k9 f.2≤1000) && f.2.all fun p=>(decide (p.sz=1) || (decide (p.sz=2) || (decide (p.sz=4) || decide (p.sz=8)))) && (decide (p.mn≤64) && decide (p.nm.size≤100))))
theorem apn {f:TFm} (h:fmB f=true):bb5 f:=by
 simp only[fmB,Bool.and_eq_true,Bool.or_eq_true,decide_eq_true_eq,List.all_eq_true]at h;exact⟨h.1,h.2.1,h.2.2.1,fun p hp=>h.2.2.2 p hp⟩
theorem bfi (i : Int) : fmB (agj i) = true := by unfold agj;repeat' split
                                                 all_goals decide +kernel
theorem bam (i : Int) : fmB (adl i) = true := by unfold adl;repeat' split
                                                 all_goals decide +kernel
theorem bcm (i : Int) : fmB (af4 i) = true := by unfold af4;repeat' split
                                                 all_goals decide +kernel
theorem bj8 (i : Int) : fmB (avl i) = true := by unfold avl;repeat' split
                                                 all_goals decide +kernel
theorem ag5 (i:Int):bb5 (xe i):=by
 unfold xe
 split
 ·exact apn (bfi i)
 split
 ·exact apn (bam i)
 split
 ·exact apn (bcm i)
 split
 ·exact apn (bj8 i)
 ·exact apn (by decide +kernel)
def bef (f:TFm) (b:List UInt8):Int×List Int:=
 if f.1=ByteArray.empty then(6,[])else
  if(xk (aca f.2) b).1=0 then(0,yp (aeh f.2) (xk (aca f.2) b).2 (List.replicate (k9 f.2) 0))else((xk (aca f.2) b).1,[])
theorem a7e (i:Nat) (b:List UInt8):aik i b=bef (xe i) b:=rfl
theorem amy:∀(s:List Slt) (v:List Int) (x:Slt) (y:Int) (out:List Int),s.length=v.length→yp (s++[x]) (v++[y]) out=(yp s v out).set x.ix y
 | [],[],x,y,out,_=>rfl
 | s::l,z::v,x,y,out,h=>by
  simp only[List.cons_append,yp];exact amy l v x y _ (by simpa using h)
 | [],_::_,_,_,_,h=>by cases h
 | _::_,[],_,_,_,h=>by cases h
theorem agf:∀(s:List Slt) (v:List Int) (out:List Int),(yp s v out).length=out.length
 | [],[],_=>rfl
 | [],_::_,_=>rfl
 | _::_,[],_=>rfl
 | s::l,z::v,out=>by
  simp only[yp];rw[agf l v,List.length_set]
theorem a9f (l:List Int) (k:Nat) (x:Int):qp (l.set k x)=(qp l).set k (.int .i64 x):=by
 unfold qp;rw[List.map_set]
theorem a1g:∀(l:List Prt) (n:Nat),∀x∈aaj l n,x.ix<n+k9 l
 | [],n,x,h=>by simp[aaj]at h
 | p::l,n,x,h=>by
  have e:k9 (p::l)=aai p+k9 l:=by simp[k9]
  simp only[aaj,List.mem_append,List.mem_map,List.mem_range]at h;rcases h with⟨j,hj,rfl⟩|h
  ·dsimp only;omega
  ·have:=a1g l _ x h;omega
theorem bff (l:List Prt):∀x∈aeh l,x.ix<k9 l:=fun x hx=>by
 have:=a1g l 0 x ((agi _ _).mem_iff.1 hx);omega
theorem a21 (n:Nat) (s:Bool) (h1:1≤n) (h8:n≤8):ys (af3 n s)=true:=by
 have:n=1∨n=2∨n=3∨n=4∨n=5∨n=6∨n=7∨n=8:=by omega
 cases s<;>rcases this with rfl|rfl|rfl|rfl|rfl|rfl|rfl|rfl<;>decide
theorem amp (l:List Prt) (hp:∀p∈l,arj p):(aca l).all ys=true:=by
 rw[List.all_eq_true];intro f hf;obtain⟨s,hs,rfl⟩:=List.mem_map.1 hf;have:=a1h l hp s hs;exact a21 _ _ this.1 this.2
theorem alp (l:List Prt):(aca l).length=k9 l:=by unfold aca;rw[List.length_map,al6]
theorem kz.no (E:Int) {w w':World} (hb:Below w.1.size w w'):kz (E,[]) w (.returned (.tuple #[.slice none 0 0,.int .i64 E])) w':=⟨none,0,rfl,qf.nil _ _ _,hb⟩
theorem kz.yes {n:Nat} {v:List Int} (hn:v.length=n) {g:Nat} {w w':World} (hk:Blk w' g (qp v)) (hg:w.1.size≤g) (hb:Below w.1.size w w'):kz (0,v) w (.returned (.tuple #[.slice (some ⟨g,0,none⟩) n n,.int .i64 0])) w':=⟨_,_,by rw[← hn],hk.flat ⟨hg,hk.lt⟩,hb⟩
theorem ahj {Q:Nat→Prop} {w:World} (i:Nat) (X:Option Addr) (d:Nat) (b:List UInt8) (hB:qf Q w X (bsV b)) (hl:b.length≤1000000) :
 Calls prog 68 #[.int .i64 i,.slice X b.length d] w (kz (aik i b) w):=by
 have H:=hid (ahi (i:Int) w);have hfo:=ag5 (i:Int);rw[a7e];have HBW:=fun W (hW:Below w.1.size w W)=>hB.lt.below hW (fun b q=>q.2)
 generalize xe (i:Int)=f at *;obtain⟨nm,l⟩:=f;obtain⟨-,hm,hc,hp⟩:=hfo;unfold xu at H;dsimp only at *;have HSL:∀W A c,qf (fun b=>w.1.size≤b∧b<W.1.size) W A (q7 l)→Hid (Calls prog 90 #[.agg #[.string nm,.slice A l.length c]] W (aua l W)):=fun W A c h=>hid (awl nm A l c h hm hc hp)
 have HSH:∀W B e,Below w.1.size w W→ajy W B (aca l)→Hid (Calls prog 91 #[.slice B (k9 l) e,.slice X b.length d] W (kz (xk (aca l) b) W)):=fun W B e hW h=>hid (by
  have:=am3 B X e d (aca l) b h (amp l hp) (by rw[alp];exact hc) (HBW W hW) hl
  rwa [alp]at this)
 have HOK:Hid ((xk (aca l) b).1=0 →(xk (aca l) b).2.length=k9 l):=hid (fun q=>by rw[al8 _ _ (akv q),alp]);have HSX:Hid ((aeh l).length=k9 l∧∀x∈aeh l,x.ix<k9 l):=hid ⟨al6 l,bff l⟩;obtain⟨res,hres⟩:∃res,bef (nm,l) b=res:=⟨_,rfl⟩;rw[hres];have HRES:=hid hres;have HC:=hid hc;generalize b.length=bl at *;clear hp hm hB HBW hres hc;go_enter func68,ntmps68;go_wp2_with fail;refine(H.out).mono ?_;rintro e w1 ⟨A,c,rfl,hf,hb⟩;have HF:=hid hf;have HB:=hid hb;clear hf hb H;have HN:Hid (Blk (w1.alloc (.cells #[.string nm,.slice A l.length c] 200)) w1.1.size [.string nm,.slice A l.length c]):=hid (Blk.newL (qg w1 _ _) rfl);have HB2:=hid (qb HB.out (qa w1 (.cells #[.string nm,.slice A l.length c] 200)));have HF2:=hid (abf HF.out (qa w1 (.cells #[.string nm,.slice A l.length c] 200)) (Nat.le_refl _));go_upto_region 2 with fail;clear HF HB;generalize w1.alloc (.cells #[.string nm,.slice A l.length c] 200)=W2 at *
 generalize w1.1.size=fb at *;have n0:=HN.out.cell 0 (v:=.string nm) rfl;have n1:=HN.out.cell 1 (v:=.slice A l.length c) rfl
 by_cases hn:nm=⟨#[]⟩
 ·have hr:res=(6,[]):=by rw[← HRES.out];unfold bef;exact if_pos hn
  subst hn;subst hr;go_wp2_with fail
  go_ret2
  exact kz.no 6 HB2.out
 have hn2:=ama hn;have HR2:Hid (res=if(xk (aca l) b).1=0 then(0,yp (aeh l) (xk (aca l) b).2 (List.replicate (k9 l) 0))else((xk (aca l) b).1,[])):=hid (by rw[← HRES.out];unfold bef;exact if_neg hn);clear hn HRES;have HS2:=HSL W2 A c HF2.out;unfold aua at HS2;generalize l.length=ln at *;generalize aeh l=s at *;generalize aca l=fs at *;generalize k9 l=M at *;go_wp2_with fail;refine HS2.out.mono ?_;rintro e W3 ⟨g,B,d3,rfl,hk,hfl,hg,hb⟩;have HG3:=hid (And.intro hk (Nat.le_trans HB2.out.size hg));have HB3:=hid (qb HB2.out hb);have HT3:=HSH W3 B d3 HB3.out (hfl.less fun b q=>q.2);unfold kz at HT3;generalize xk fs b=r at *;obtain⟨E,v⟩:=r;dsimp only at *;clear hk hfl hg hb n0 n1 hn2 HSL HSH HN HB2 HF2 HS2;go_wp2_with fail;refine HT3.out.mono ?_;rintro e W4 ⟨A4,c4,rfl,hf,hb⟩;have HF4:=hid hf;have HB4:=hid (qb HB3.out hb);have HG4:=hid (And.intro (HG3.out.1.on hb) HG3.out.2);clear hf hb HT3 HB3 HG3
 by_cases hE:E=0
 ·subst hE;have HVL:Hid (v.length=M):=hid (HOK.out rfl);have hr:res=(0,yp s v (List.replicate M 0)):=by rw[HR2.out];exact if_pos rfl
  have HRS:=hid hr;clear hr HR2 HOK;rw[HVL.out];obtain⟨i0,hi,hz0,hz1,hz2⟩:=ko a1d;have HI:=hid hi;have HZ:=hid (And.intro hz0 (And.intro hz1 hz2));clear hi hz0 hz1 hz2;go_wp2_with (refine aa9 rfl _ _ 49 2 rfl i0 _ underlying49 HI.out HZ.out.1 .i64 .i64 M rfl rfl (by rw[HZ.out.2.2];have:=HC.out;omega) (by have:=HC.out;omega) ?_;intro W5 hG;have HG:=hid hG;clear hG);have e0:(madeCells (Value.int .i64 0).cells (M*i0.size)).toList=qp (List.replicate M 0):=by rw[HZ.out.2.1];exact a69 M
  have HK5:Hid (Blk W5 W4.1.size (qp (yp (s.take 0) (v.take 0) (List.replicate M 0)))):=hid (by
   rw[List.take_zero,List.take_zero];exact Blk.newL HG.out e0)
  have HB5:Hid (Below w.1.size w W5):=hid (qb HB4.out HG.out.bel);have HG5:Hid (Blk W5 g (zr s)∧g<W4.1.size):=hid ⟨HG4.out.1.on HG.out.bel,HG4.out.1.lt⟩;have HF5:Hid (qf (fun b=>b<W4.1.size) W5 A4 (qp v)):=hid ((HF4.out.below HG.out.bel (fun b q=>q.2)).less fun b q=>q.2);have HS4:=hid HB4.out.size;clear HG HI HZ e0 HF4 HG4 HB4;generalize W4.1.size=go at *;go_wp2_with fail
  go_loopg [38] M (fun h s38 wr=>∃k:Nat,k≤M∧M-k≤h∧s38=.int .i64 k∧Hid (Blk wr go (qp (yp (s.take k) (v.take k) (List.replicate M 0))))∧Hid (Below go W5 wr)∧Hid (Below w.1.size w wr))
  case atStart=>exact⟨0,Nat.zero_le _,by omega,rfl,HK5.out,Below.refl _ _,HB5.out⟩
  case round=>
   obtain⟨k,hk,hg,rfl,HK,HW,HB⟩:=hrel
   by_cases hlt:k<M
   ·have hks:k<s.length:=by rw[HSX.out.1];exact hlt
    have hkv:k<v.length:=by rw[HVL.out];exact hlt
    have hix:=HSX.out.2 _ (List.getElem_mem hks)
    have HPN:Hid (yp (s.take (k+1)) (v.take (k+1)) (List.replicate M 0)=(yp (s.take k) (v.take k) (List.replicate M 0)).set s[k].ix v[k]):=hid (by
     rw[List.take_succ_eq_append_getElem hks,List.take_succ_eq_append_getElem hkv];exact amy _ _ _ _ _ (by rw[List.length_take,List.length_take];omega))
    have HPL:Hid ((yp (s.take k) (v.take k) (List.replicate M 0)).length=M):=hid (by rw[agf,List.length_replicate]);have hgk:Blk wr g (zr s):=HG5.out.1.below HW.out HG5.out.2;obtain⟨b',o',hA,-,c0,c1',c2'⟩:=aqw (hgk.flat (Q:=fun _=>True) trivial) k hks;injection hA with hA
    injection hA with hA1 hA2
    subst hA1 hA2;rw[Nat.zero_add]at c0 c1' c2';have hvk:(qp v)[k]?=some (.int .i64 v[k]):=by unfold qp;rw[List.getElem?_map,List.getElem?_eq_getElem hkv];rfl
    obtain⟨bv,ov,rfl,hbv,hcv⟩:=HF5.out k _ hvk;have hcv2:wr.cell? ⟨bv,ov+k,none⟩=some (.int .i64 v[k]):=(HW.out.cell (p:=⟨bv,ov+k,none⟩) hbv).trans hcv;generalize s[k]=x at *;generalize v[k]=y at *;generalize yp (s.take k) (v.take k) (List.replicate M 0)=P at *;obtain⟨sz,sg,ix⟩:=x;dsimp only at *;have hmc:=HC.out;have i1:(k:Int)<M:=by omega
    have i2:(0:Int) ≤(k:Int):=Int.natCast_nonneg _;have i3:(ix:Int)<M:=by omega
    have i4:(0:Int) ≤(ix:Int):=Int.natCast_nonneg _;have HN1:Hid (Blk (wr.alloc (.cells #[.int .i64 sz,.bool sg,.int .i64 ix] 208)) wr.1.size [.int .i64 sz,.bool sg,.int .i64 ix]):=hid (Blk.newL (qg wr _ _) rfl);have HK1:=hid (HK.out.on (qa wr (.cells #[.int .i64 sz,.bool sg,.int .i64 ix] 208)));have HW1:Hid (Below go W5 (wr.alloc (.cells #[.int .i64 sz,.bool sg,.int .i64 ix] 208))):=hid (HW.out.trans ((qa wr _).mono (Nat.le_of_lt HK.out.lt)));have HBB1:=hid (qb HB.out (qa wr (.cells #[.int .i64 sz,.bool sg,.int .i64 ix] 208)));have HQ:=hid HK.out.lt;have hcv3:(wr.alloc (.cells #[.int .i64 sz,.bool sg,.int .i64 ix] 208)).cell? ⟨bv,ov+k,none⟩=some (.int .i64 y):=((qa wr _).cell (p:=⟨bv,ov+k,none⟩) (abz hcv2)).trans hcv2;clear hvk hcv hgk hix hks hkv;go_upto_region 12 with fail;clear c0 c1' c2' HK HW HB hcv2;generalize wr.alloc (.cells #[.int .i64 sz,.bool sg,.int .i64 ix] 208)=W7 at *
    generalize wr.1.size=q at *;have x2:=HN1.out.cell 2 (v:=.int .i64 ix) rfl;have hpl:ix<(qp P).length:=by rw[jn,HPL.out];omega
    have hst:=HK1.out.set hpl (.int .i64 y);have o1:W7.cell? ⟨go,ix,none⟩=some ((qp P)[ix]):=HK1.out.cell ix (List.getElem?_eq_getElem hpl);have o2:=HK1.out.fz ix;have HEND:Hid (Blk (W7.setCell ⟨go,ix,none⟩ (.int .i64 y)) go (qp (P.set ix y))∧Below go W5 (W7.setCell ⟨go,ix,none⟩ (.int .i64 y))∧Below w.1.size w (W7.setCell ⟨go,ix,none⟩ (.int .i64 y))):=hid ⟨by rw[a9f];exact hst.1,HW1.out.trans (hst.2.below (Nat.le_refl _)),HBB1.out.trans (hst.2.below HS4.out)⟩;generalize (qp P)[ix]=old at *;clear hst hpl HK1 HW1 HBB1 HN1
    go_region
    go_wp2_with fail
    go_roundg (M-(k+1))
    case measure=>omega
    case rel=>exact⟨k+1,by omega,by omega,by go_num,by rw[HPN.out];exact HEND.out.1.drew,HEND.out.2.1.drew,HEND.out.2.2.drew⟩
   ·obtain rfl:k=M:=by omega
    have e1:s.take k=s:=by rw[← HSX.out.1,List.take_length]
    have e2:v.take k=v:=by rw[← HVL.out,List.take_length]
    have HEND:Hid (Blk wr go (qp (yp s v (List.replicate k 0)))∧Below w.1.size w wr∧w.1.size≤go):=hid ⟨by have:=HK.out;rwa [e1,e2]at this,HB.out,HS4.out⟩;have HPL:Hid ((yp s v (List.replicate k 0)).length=k):=hid (by rw[agf,List.length_replicate]);clear e1 e2 HK HW HB;go_wp2_with fail
    go_ret2
    rw[HRS.out];exact kz.yes HPL.out HEND.out.1 HEND.out.2.2 HEND.out.2.1
 ·have hr:res=(E,[]):=by rw[HR2.out];exact if_neg hE
  have hE2:(E != 0)=true:=by rw[bne_iff_ne];exact hE
  subst hr;clear hE HR2 HOK;go_wp2_with fail
  go_ret2
  exact kz.no E HB4.out
theorem biq {f:TFm} (h:bb5 f):SmP f.2:=fun p hp=>by
 have:=h.2.2.2 p hp;unfold arj at this;omega
theorem bj0 {f:TFm} (h:bb5 f):yi f.2≤1000000:=by
 have:=axe f.2 (biq h);have:=h.2.1;omega
def aqt (i:Nat):Nat:=if yi (xe i).2=0 then 0 else yi (xe i).2+8
theorem ab2 (i:Nat) (w:World):Calls prog 64 #[.int .i64 i] w fun e w'=>e=.returned (.int .i64 (aqt i:Int))∧Below w.1.size w w':=by
 have hfo:=ag5 (i:Int);have HW:=hid (awt (i:Int) w hfo.2.1 (biq hfo));have hle:=bj0 hfo;unfold aqt;generalize yi (xe (i:Int)).2=n at *;clear hfo
 by_cases h0:n=0
 ·subst h0;rw[if_pos rfl];go_enter func64,ntmps64;go_wp2_with fail;refine(HW.out).mono ?_;rintro e w1 ⟨rfl,hb⟩;have HB:=hid hb;clear hb;go_wp2_with fail;go_ret;exact⟨rfl,HB.out⟩
 ·rw[if_neg h0];have hn:(0:Int)<(n:Int):=by omega
  clear h0;go_enter func64,ntmps64;go_wp2_with fail;refine(HW.out).mono ?_;rintro e w1 ⟨rfl,hb⟩;have HB:=hid hb;clear hb;go_wp2_with fail;go_ret
  exact ⟨by have e:(6:Int) +(n:Int)+2=((n+8:Nat):Int):=by omega
            rw[e];rfl,HB.out⟩
def aq2 (i:Nat) (l:List UInt8):Nat:=act (xf 65535 l) (anf (xe i))
theorem a67 (f:TFm) (h:bb5 f):anf f<256:=by
 unfold anf
 split
 ·omega
 ·dsimp only;have h1:(afv f.2).foldl yl (xf 65535 (f.1 ++⟨#[32]⟩).data.toList)<65536:=af9 _ (aax _ dc) (fun p hp=>h.2.2.2 p ((agi gtP f.2).mem_iff.1 hp));exact Nat.xor_lt_two_pow (n:=8) om om
theorem bia (i:Nat) (l:List UInt8):aq2 i l<65536:=ajc (aax _ dc) (Nat.lt_trans (a67 _ (ag5 _)) dc)
def ahm (i:Nat) (l:List UInt8):List UInt8:=[UInt8.ofNat (aq2 i l%256),UInt8.ofNat (aq2 i l / 256)]
theorem ajt {Q:Nat→Prop} {w:World} (i:Nat) (A:Option Addr) (l:List UInt8) (c:Nat) (h:qf Q w A (bsV l)) (hm:l.length≤1000000) :
 Calls prog 67 #[.int .i64 i,.slice A l.length c] w fun e w'=>∃g,e=.returned (.slice (some ⟨g,0,none⟩) 2 2)∧Blk w' g (bsV (ahm i l))∧w.1.size≤g∧Below w.1.size w w':=by
 have hfo:=ag5 (i:Int);have HX:=fun W=>hid (awe (i:Int) W hfo.2.1 hfo.1 hfo.2.2.2)
 have HO:∀W g,W.cell? ⟨g,0,none⟩=some (.slice A l.length c)→Below w.1.size w W→Hid (Calls prog 87 #[.slice (some ⟨g,0,none⟩) 1 1] W fun e w'=>e=.returned (.int .u16 (xf 65535 l:Int))∧Below W.1.size W w'):=fun W g hg hW=>hid (a8q g A l c hg (h.lt.below hW (fun b q=>q.2)) hm)
 have hc:xf 65535 l<65536:=aax _ dc;have hx:=a67 _ hfo;have HS:=fun W=>hid (amo (xf 65535 l) (anf (xe (i:Int))) W hc hx)
 have hs:act (xf 65535 l) (anf (xe (i:Int)))<65536:=ajc hc om;unfold ahm aq2;generalize act (xf 65535 l) (anf (xe (i:Int)))=s at *;generalize anf (xe (i:Int))=x at *;generalize xf 65535 l=k at *
 have hs1:bsV [UInt8.ofNat (s%256),UInt8.ofNat (s / 256)]=[.int .u8 ((s:Int)%256),.int .u8 ((s:Int) / 256)]:=by
  unfold bsV bV;simp only[List.map_cons,List.map_nil,UInt8.toNat_ofNat'];rw[Nat.mod_eq_of_lt (show s%256<2^8 by omega),Nat.mod_eq_of_lt (show s / 256<2^8 by omega)];rfl
 rw[hs1];generalize l.length=n at *;have HSL:=hid hs;clear hfo h hm hs1 hc hx;have hs0:(s:Int)<65536:=by omega
 go_enter func67,ntmps67;go_wp2_with fail;have HG0:Hid (Blk (w.alloc (.cells #[.slice A n c] 22)) w.1.size [.slice A n c]):=hid (Blk.newL (qg w _ _) rfl);refine(HO _ w.1.size (HG0.out.cell 0 rfl) (qa _ _)).out.mono ?_;rintro e w1 ⟨rfl,hb⟩;have HB1:=hid (qb (qa _ _) hb);clear hb HG0 HO;go_wp2_with fail;refine(HX w1).out.mono ?_;rintro e w2 ⟨rfl,hb⟩;have HB2:=hid (qb HB1.out hb);clear hb HB1 HX;go_wp2_with (refine(HS _).out.mono ?_;rintro e w' ⟨rfl,rfl⟩);go_ret;exact⟨w2.1.size,rfl,Blk.newL (qg _ _ _) rfl,HB2.out.size,qb HB2.out (qa _ _)⟩
theorem aga {w:World} {a b off:Nat} (m n c:Nat) (h:Blk w a [.slice (some ⟨b,off,none⟩) m c]) (hn:n≤m) (hmc:m≤c) :
 Calls prog 65 #[.pointer (some ⟨a,0,none⟩),.int .i64 n] w fun e w'=>e=.returned (.slice (some ⟨b,off,none⟩) n n)∧Blk w' a [.slice (some ⟨b,if n=c then off else off+n,none⟩) (m-n) (c-n)]∧qn (fun k=>k≠a) w w'∧w'.1.size=w.1.size:=by
 have c0:=h.cell 0 (v:=.slice (some ⟨b,off,none⟩) m c) rfl;have z0:=h.fz 0;have i0:(0:Int) ≤(n:Int):=Int.natCast_nonneg _;have i1:(n:Int) ≤(m:Int):=by omega
 have i2:(m:Int) ≤(c:Int):=by omega
 have hst:∀v,v.oneCell'=true→qz w (w.setCell ⟨a,0,none⟩ v) a 0 [v]:=fun v _=>jq (h.there 0 1 (Nat.le_refl _))
 have HST:=hid hst;have HH:=hid h;clear h hst
 by_cases hc:n=c
 ·obtain rfl:m=n:=by omega
  subst hc;go_enter func65,ntmps65;go_wp2_with fail;go_ret;have hs:=HST.out (.slice (some ⟨b,off,none⟩) 0 0) rfl;exact⟨rfl,HH.out.all hs rfl,(qn.refl _ _).stored hs (fun q=>q rfl),hs.sz⟩
 ·have i4:(n:Int)<(c:Int):=by omega
  go_enter func65,ntmps65;go_wp2_with fail;go_ret;have hs:=HST.out (.slice (some ⟨b,off+n,none⟩) (m-n) (c-n)) rfl;exact⟨rfl,HH.out.all hs rfl,(qn.refl _ _).stored hs (fun q=>q rfl),hs.sz⟩
theorem ajr {Q R:Nat→Prop} {w:World} (A B:Option Addr) (c d:Nat) (x y:List UInt8) (hA:qf Q w A (bsV x)) (hB:qf R w B (bsV y)) (hx:x.length≤1000000) (hy:y.length≤1000000) :
 Calls prog 66 #[.slice A x.length c,.slice B y.length d] w fun e w'=>e=.returned (.bool (decide (x=y)))∧Below w.1.size w w':=by
 by_cases hnm:x.length=y.length
 ·have HA:=hid hA.lt;have HB:=hid hB.lt;have HPT:Hid (x=y→decide (x=y)=true):=hid fun h=>decide_eq_true h
  have HPF:Hid (x≠y→decide (x=y)=false):=hid fun h=>decide_eq_false h
  generalize decide (x=y)=R at *;rw[← hnm];have HXY:=hid hnm;generalize hn:x.length=n at *;have HX:=hid hn;have hnn:((n:Int) != (n:Int))=false:=by rw[bne_eq_false_iff_eq]
  clear hn hA hB hnm hy;go_enter func66,ntmps66;go_wp2_with fail
  go_loopg [13] n (fun g s13 wr=>∃k:Nat,k≤n∧n-k≤g∧s13=.int .i64 k∧Hid (Below w.1.size w wr)∧Hid (∀j,j<k→x[j]?=y[j]?))
  case atStart=>exact⟨0,Nat.zero_le _,by omega,rfl,Below.refl _ _,fun j hj=>absurd hj (Nat.not_lt_zero _)⟩
  case round=>
   obtain⟨k,hk,hg,rfl,HBW,HP⟩:=hrel
   by_cases hlt:k<n
   ·have hx1:k<x.length:=by rw[HX.out];exact hlt
    have hy1:k<y.length:=by rw[← HXY.out];exact hlt
    obtain⟨b1,o1,rfl,hq1,c1⟩:=HA.out k _ (yk hx1);obtain⟨b2,o2,rfl,hq2,c2⟩:=HB.out k _ (yk hy1);have d1:wr.cell? ⟨b1,o1+k,none⟩=some (.int .u8 (x[k].toNat:Int)):=(HBW.out.cell (p:=⟨b1,o1+k,none⟩) hq1.2).trans c1;have d2:wr.cell? ⟨b2,o2+k,none⟩=some (.int .u8 (y[k].toNat:Int)):=(HBW.out.cell (p:=⟨b2,o2+k,none⟩) hq2.2).trans c2;have i1:(0:Int) ≤(k:Int):=Int.natCast_nonneg _;have i2:(k:Int)<(n:Int):=by omega
    by_cases he:x[k]=y[k]
    ·have HP2:Hid (∀j,j<k+1→x[j]?=y[j]?):=hid (fun j hj=>by
      by_cases q:j<k
      ·exact HP.out j q
      ·obtain rfl:j=k:=by omega
       rw[List.getElem?_eq_getElem hx1,List.getElem?_eq_getElem hy1,he])
     have hxy:((x[k].toNat:Int) != (y[k].toNat:Int))=false:=by rw[bne_eq_false_iff_eq,he]
     clear he HP hq1 hq2 c1 c2;generalize (x[k].toNat:Int)=u at *;generalize (y[k].toNat:Int)=v at *;clear hx1 hy1;go_wp2_with fail
     go_quiet (fail)
     go_wp2_with fail
     go_roundg (n-(k+1))
     case measure=>omega
     case rel=>exact⟨k+1,by omega,by omega,by go_num,aab HBW.out _,HP2⟩
    ·have HPN:=hid (HPF.out (fun q=>he (by subst q;rfl)))
     have hxy:((x[k].toNat:Int) != (y[k].toNat:Int))=true:=by
      rw[bne_iff_ne];intro q;exact he (UInt8.toNat_inj.1 om)
     clear he HP hq1 hq2 c1 c2 HPF HPT;generalize (x[k].toNat:Int)=u at *;generalize (y[k].toNat:Int)=v at *;clear hx1 hy1;go_wp2_with fail
     go_quiet (fail)
     go_wp2_with fail;go_ret;rw[HPN.out];exact⟨rfl,aab HBW.out _⟩
   ·obtain rfl:k=n:=by omega
    have HPN:=hid (HPT.out (List.ext_getElem? fun j=>by
     by_cases q:j<k
     ·exact HP.out j q
     ·rw[List.getElem?_eq_none (by rw[HX.out];omega),List.getElem?_eq_none (by rw[← HXY.out];omega)]))
    clear HPT HPF;go_wp2_with fail;go_ret;rw[HPN.out];exact⟨rfl,HBW.out⟩
 ·have hne:((x.length:Int) != (y.length:Int))=true:=by rw[bne_iff_ne];omega
  have HPN:Hid (decide (x=y)=false):=hid (decide_eq_false fun e=>hnm (by rw[e]));clear hnm hA hB;generalize decide (x=y)=R at *;generalize x.length=n at *;generalize y.length=m at *;go_enter func66,ntmps66;go_wp2_with fail;go_ret;rw[HPN.out];exact⟨rfl,Below.refl _ _⟩
def bk5 (p:ag1) (vs:Value):List Value:=[.int .i64 p.sq,.int .i64 p.sy,.int .i64 p.cm,.int .i64 p.id,vs]
def ae0 (Q:Nat→Prop) (w:World) (L:List Value) (p:ag1):Prop:=∃vs,L=bk5 p vs∧aar 2 1 Q w vs p.V
theorem aar.one {t:TypeId} {size:Nat} {Q:Nat→Prop} {w:World} {v:Value} {X:List (List Lit)} (h:aar t size Q w v X):v.oneCell'=true:=by obtain⟨A,c,rfl,-⟩:=h;rfl
theorem ae0.len {Q:Nat→Prop} {w:World} {L:List Value} {p:ag1} (h:ae0 Q w L p):L.length=5:=by obtain⟨vs,rfl,-⟩:=h;rfl
theorem ae0.ones {Q:Nat→Prop} {w:World} {L:List Value} {p:ag1} (h:ae0 Q w L p):∀v∈L,v.oneCell'=true:=by
 obtain⟨vs,rfl,h⟩:=h;intro v hv;simp only[bk5,List.mem_cons,List.not_mem_nil,or_false]at hv;rcases hv with rfl|rfl|rfl|rfl|rfl<;>first|rfl|exact h.one
theorem ae0.keep {Q:Nat→Prop} {w w':World} {L:List Value} {p:ag1} (h:ae0 Q w L p) (hk:∀b,Q b→w'.heap[b]?=w.heap[b]?):ae0 Q w' L p:=by
 obtain⟨vs,rfl,h⟩:=h;exact⟨vs,rfl,h.keep hk⟩
theorem ae0.less {Q R:Nat→Prop} {w:World} {L:List Value} {p:ag1} (h:ae0 Q w L p) (hr:∀b,Q b→R b):ae0 R w L p:=by
 obtain⟨vs,rfl,h⟩:=h;exact⟨vs,rfl,h.less hr⟩
theorem ae0.zero (Q:Nat→Prop) (w:World):ae0 Q w ac4 yx:=⟨_,rfl,vg⟩
theorem ae0.toV {Q:Nat→Prop} {w:World} {L:List Value} {p:ag1} (h:ae0 Q w L p) (hq:∀b,Q b→b<w.1.size):a75 w L p:=by
 obtain⟨vs,rfl,h⟩:=h;exact⟨vs,rfl,h.toV hq⟩
def acj (x:Int×Nat×ag1) (w:World) (e:Ending) (w':World):Prop:=∃L,e=.returned (.tuple #[.agg L.toArray,.int .i64 x.2.1,.int .i64 x.1])∧ae0 (fun b=>w.1.size≤b∧b<w'.1.size) w' L x.2.2∧Below w.1.size w w'
theorem bhj {w1:World} {b:Nat} {x y z s t:Value} (hk:Blk w1 b [x,y,z,s,t]) (p q r u v:Value):(loadVar 62 ⟨b,0,none⟩).run prog (((((w1.setCell ⟨b,0,none⟩ p).setCell ⟨b,1,none⟩ q).setCell ⟨b,2,none⟩ r).setCell ⟨b,3,none⟩ u).setCell ⟨b,4,none⟩ v)=.ok (.agg #[p,q,r,u,v]) (((((w1.setCell ⟨b,0,none⟩ p).setCell ⟨b,1,none⟩ q).setCell ⟨b,2,none⟩ r).setCell ⟨b,3,none⟩ u).setCell ⟨b,4,none⟩ v) ∧
 qz w1 (((((w1.setCell ⟨b,0,none⟩ p).setCell ⟨b,1,none⟩ q).setCell ⟨b,2,none⟩ r).setCell ⟨b,3,none⟩ u).setCell ⟨b,4,none⟩ v) b 0 [p,q,r,u,v]:=by
 have hs:qz w1 (((((w1.setCell ⟨b,0,none⟩ p).setCell ⟨b,1,none⟩ q).setCell ⟨b,2,none⟩ r).setCell ⟨b,3,none⟩ u).setCell ⟨b,4,none⟩ v) b 0 [p,q,r,u,v]:=qm (cs:=[p,q,r,u,v]) (hk.there 0 5 (Nat.le_refl _));exact⟨run_loadVar_mid (P:=prog) _ b 0 62 [p,q,r,u,v] _ (hk.all hs rfl).rg underlying62 rfl kr,hs⟩
def pkA:Array Value:=#[.int .i64 0,.int .i64 0,.int .i64 0,.int .i64 0,.slice none 0 0]
theorem ahp {w w':World} (E:Int) (n:Nat) (hb:Below w.1.size w w'):acj (E,n,yx) w (.returned (.tuple #[.agg pkA,.int .i64 n,.int .i64 E])) w':=⟨ac4,rfl,ae0.zero _ _,hb⟩
theorem acy (w:World):(zeroValue 62).run prog w=.ok (.agg pkA) w:=by kernel_rfl
theorem aa2 (w:World):(Instr.build 62 #[]).run prog w=.ok (.agg pkA) w:=by kernel_rfl
theorem aeu:pkA.all (·.oneCell')=true:=by decide +kernel
theorem aev:(prog.info? 62).map (·.size)=some pkA.size:=by kernel_rfl
theorem adk {W:World} {b:Nat} {L:List Value} (h:Blk W b L) (hl:L.length=5):(loadVar 62 ⟨b,0,none⟩).run prog W=.ok (.agg L.toArray) W:=
 run_loadVar_mid (P:=prog) W b 0 62 L _ h.rg underlying62 sm (by rw[hl];kernel_rfl)
theorem a1w {w:World} (A:Option Addr) (c:Nat):Calls prog 46 #[.slice A 0 c] w (acj (2,0,yx) w):=by
 have HZ:=fun W=>hid (acy W)
 have HB0:=fun W=>hid (aa2 W)
 go_enter func46,ntmps46;go_upto_region 1 with(refine qc rfl 62 rfl pkA (HZ _).out ?_;intro W1 hW1;have HR1:=hid (Blk.newL (L:=pkA.toList) hW1 rfl);have HB1:=hid hW1.bel;clear hW1)
 go_wp2_with (first
  | refine zy rfl 62 rfl (HB0 _).out ?_
  | (refine qe rfl 62 _ _ rfl w.1.size 0 pkA rfl rfl (HR1.out.there 0 5 (Nat.le_refl _)) aev aeu ?_;intro W2 hs;have HR2:=hid (HR1.out.all hs rfl);have HB2:=hid (HB1.out.trans (hs.below (Nat.le_refl _)));clear hs))
 have HLD:=hid (adk HR2.out rfl);exact bodyPost_ret (v:=.tuple #[.agg pkA,.int .i64 0,.int .i64 2]) (by rw[zq rfl];simp[asAddr,Result.andThen];rw[HLD.out]) rfl (ahp 2 0 HB2.out)
def ByC (w:World) (b off i x:Nat):Prop:=∀W,Below w.1.size w W→W.cell? ⟨b,off+i,none⟩=some (.int .u8 (x:Int))
theorem ash {w:World} (b off n c x0:Nat) (h0:0<n) (hm:n≤1000000) (H0:Hid (ByC w b off 0 x0)) (hx:((x0:Int) != 254)=true):Calls prog 46 #[.slice (some ⟨b,off,none⟩) n c] w (acj (3,0,yx) w):=by
 have HZ:=fun W=>hid (acy W)
 have HB0:=fun W=>hid (aa2 W)
 have hn0:(0:Int)<(n:Int):=by omega
 have hn1:((n:Int)==0)=false:=by rw[beq_eq_false_iff_ne];omega
 go_enter func46,ntmps46;go_upto_region 1 with(refine qc rfl 62 rfl pkA (HZ _).out ?_;intro W1 hW1;have HR1:=hid (Blk.newL (L:=pkA.toList) hW1 rfl);have HB1:=hid hW1.bel;clear hW1)
 have d0:W1.cell? ⟨b,off,none⟩=some (.int .u8 (x0:Int)):=H0.out W1 HB1.out
 go_wp2_with (first
  | refine zy rfl 62 rfl (HB0 _).out ?_
  | (refine qe rfl 62 _ _ rfl w.1.size 0 pkA rfl rfl (HR1.out.there 0 5 (Nat.le_refl _)) aev aeu ?_;intro W2 hs;have HR2:=hid (HR1.out.all hs rfl);have HB2:=hid (HB1.out.trans (hs.below (Nat.le_refl _)));clear hs))
 have HLD:=hid (adk HR2.out rfl);exact bodyPost_ret (v:=.tuple #[.agg pkA,.int .i64 0,.int .i64 3]) (by rw[zq rfl];simp[asAddr,Result.andThen];rw[HLD.out]) rfl (ahp 3 0 HB2.out)
theorem asi {w:World} (b off n c:Nat) (h0:0<n) (h6:n<6) (H0:Hid (ByC w b off 0 254)):Calls prog 46 #[.slice (some ⟨b,off,none⟩) n c] w (acj (2,0,yx) w):=by
 have HZ:=fun W=>hid (acy W)
 have HB0:=fun W=>hid (aa2 W)
 have hn0:(0:Int)<(n:Int):=by omega
 have hn6:(n:Int)<6:=by omega
 have hn1:((n:Int)==0)=false:=by rw[beq_eq_false_iff_ne];omega
 go_enter func46,ntmps46;go_upto_region 1 with(refine qc rfl 62 rfl pkA (HZ _).out ?_;intro W1 hW1;have HR1:=hid (Blk.newL (L:=pkA.toList) hW1 rfl);have HB1:=hid hW1.bel;clear hW1)
 have d0:W1.cell? ⟨b,off,none⟩=some (.int .u8 254):=H0.out W1 HB1.out
 go_wp2_with (first
  | refine zy rfl 62 rfl (HB0 _).out ?_
  | (refine qe rfl 62 _ _ rfl w.1.size 0 pkA rfl rfl (HR1.out.there 0 5 (Nat.le_refl _)) aev aeu ?_;intro W2 hs;have HR2:=hid (HR1.out.all hs rfl);have HB2:=hid (HB1.out.trans (hs.below (Nat.le_refl _)));clear hs))
 have HLD:=hid (adk HR2.out rfl);exact bodyPost_ret (v:=.tuple #[.agg pkA,.int .i64 0,.int .i64 2]) (by rw[zq rfl];simp[asAddr,Result.andThen];rw[HLD.out]) rfl (ahp 2 0 HB2.out)
theorem aw5 {w:World} (b off n c x5:Nat) (h6:6≤n) (hm:n≤1000000) (h5:x5<256) (H0:Hid (ByC w b off 0 254)) (H5:Hid (ByC w b off 5 x5)) (hs:aqt x5=0):Calls prog 46 #[.slice (some ⟨b,off,none⟩) n c] w (acj (6,0,yx) w):=by
 have HZ:=fun W=>hid (acy W)
 have HB0:=fun W=>hid (aa2 W)
 have hn0:(0:Int)<(n:Int):=by omega
 have hn6:(6:Int) ≤(n:Int):=by omega
 have hn5:(5:Int)<(n:Int):=by omega
 have hn2:(1:Int)<(n:Int):=by omega
 have h50:(0:Int) ≤(x5:Int):=by omega
 have h51:(x5:Int)≤255:=by omega
 have hn1:((n:Int)==0)=false:=by rw[beq_eq_false_iff_ne];omega
 have HS:∀W,Hid (Calls prog 64 #[.int .i64 x5] W fun e w'=>e=.returned (.int .i64 0)∧Below W.1.size W w'):=fun W=>hid (by have:=ab2 x5 W;rwa [hs]at this)
 clear hs;go_enter func46,ntmps46;go_upto_region 1 with(refine qc rfl 62 rfl pkA (HZ _).out ?_;intro W1 hW1;have HR1:=hid (Blk.newL (L:=pkA.toList) hW1 rfl);have HB1:=hid hW1.bel;clear hW1)
 have d0:W1.cell? ⟨b,off,none⟩=some (.int .u8 254):=H0.out W1 HB1.out;have d5:W1.cell? ⟨b,off+5,none⟩=some (.int .u8 (x5:Int)):=H5.out W1 HB1.out;go_wp2_with fail;refine(HS W1).out.mono ?_;rintro e w2 ⟨rfl,hb⟩;have HR2:=hid (HR1.out.on hb);have HB2:=hid (qb HB1.out hb);clear hb HR1 HB1 d0 d5 HS
 go_wp2_with (first
  | refine zy rfl 62 rfl (HB0 _).out ?_
  | (refine qe rfl 62 _ _ rfl w.1.size 0 pkA rfl rfl (HR2.out.there 0 5 (Nat.le_refl _)) aev aeu ?_;intro W3 hs;have HR3:=hid (HR2.out.all hs rfl);have HB3:=hid (HB2.out.trans (hs.below (Nat.le_refl _)));clear hs))
 have HLD:=hid (adk HR3.out rfl);exact bodyPost_ret (v:=.tuple #[.agg pkA,.int .i64 0,.int .i64 6]) (by rw[zq rfl];simp[asAddr,Result.andThen];rw[HLD.out]) rfl (ahp 6 0 HB3.out)
theorem aw4 {w:World} (b off n c x5 x1 N:Nat) (h6:6≤n) (hm:n≤1000000) (h5:x5<256) (H0:Hid (ByC w b off 0 254)) (H5:Hid (ByC w b off 5 x5)) (H1:Hid (ByC w b off 1 x1)) (h1:x1<256) (hs:aqt x5=N) (hN:0<N) (hx:x1+8≠N):Calls prog 46 #[.slice (some ⟨b,off,none⟩) n c] w (acj (3,0,yx) w):=by
 have HZ:=fun W=>hid (acy W)
 have HB0:=fun W=>hid (aa2 W)
 have hn0:(0:Int)<(n:Int):=by omega
 have hn6:(6:Int) ≤(n:Int):=by omega
 have hn5:(5:Int)<(n:Int):=by omega
 have hn2:(1:Int)<(n:Int):=by omega
 have h50:(0:Int) ≤(x5:Int):=by omega
 have h51:(x5:Int)≤255:=by omega
 have hn1:((n:Int)==0)=false:=by rw[beq_eq_false_iff_ne];omega
 have h10:(0:Int) ≤(x1:Int):=by omega
 have h11:(x1:Int)≤255:=by omega
 have HS:∀W,Hid (Calls prog 64 #[.int .i64 x5] W fun e w'=>e=.returned (.int .i64 N)∧Below W.1.size W w'):=fun W=>hid (by have:=ab2 x5 W;rwa [hs]at this)
 have hN0:((N:Int)==0)=false:=by rw[beq_eq_false_iff_ne];omega
 clear hs;have hx1:((6:Int) +(x1:Int)+2 != (N:Int))=true:=by rw[bne_iff_ne];omega
 go_enter func46,ntmps46;go_upto_region 1 with(refine qc rfl 62 rfl pkA (HZ _).out ?_;intro W1 hW1;have HR1:=hid (Blk.newL (L:=pkA.toList) hW1 rfl);have HB1:=hid hW1.bel;clear hW1)
 have d0:W1.cell? ⟨b,off,none⟩=some (.int .u8 254):=H0.out W1 HB1.out;have d5:W1.cell? ⟨b,off+5,none⟩=some (.int .u8 (x5:Int)):=H5.out W1 HB1.out;go_wp2_with fail;refine(HS W1).out.mono ?_;rintro e w2 ⟨rfl,hb⟩;have HR2:=hid (HR1.out.on hb);have HB2:=hid (qb HB1.out hb);clear hb HR1 HB1 d0 d5 HS;have d1:w2.cell? ⟨b,off+1,none⟩=some (.int .u8 (x1:Int)):=H1.out w2 HB2.out
 go_wp2_with (first
  | refine zy rfl 62 rfl (HB0 _).out ?_
  | (refine qe rfl 62 _ _ rfl w.1.size 0 pkA rfl rfl (HR2.out.there 0 5 (Nat.le_refl _)) aev aeu ?_;intro W3 hs;have HR3:=hid (HR2.out.all hs rfl);have HB3:=hid (HB2.out.trans (hs.below (Nat.le_refl _)));clear hs))
 have HLD:=hid (adk HR3.out rfl);exact bodyPost_ret (v:=.tuple #[.agg pkA,.int .i64 0,.int .i64 3]) (by rw[zq rfl];simp[asAddr,Result.andThen];rw[HLD.out]) rfl (ahp 3 0 HB3.out)
theorem a1v {w:World} (b off n c x5 x1 N:Nat) (h6:6≤n) (hm:n≤1000000) (h5:x5<256) (H0:Hid (ByC w b off 0 254)) (H5:Hid (ByC w b off 5 x5)) (H1:Hid (ByC w b off 1 x1)) (h1:x1<256) (hs:aqt x5=N) (hN:0<N) (hx:x1+8=N) (hl:n<N):Calls prog 46 #[.slice (some ⟨b,off,none⟩) n c] w (acj (2,0,yx) w):=by
 have HZ:=fun W=>hid (acy W)
 have HB0:=fun W=>hid (aa2 W)
 have hn0:(0:Int)<(n:Int):=by omega
 have hn6:(6:Int) ≤(n:Int):=by omega
 have hn5:(5:Int)<(n:Int):=by omega
 have hn2:(1:Int)<(n:Int):=by omega
 have h50:(0:Int) ≤(x5:Int):=by omega
 have h51:(x5:Int)≤255:=by omega
 have hn1:((n:Int)==0)=false:=by rw[beq_eq_false_iff_ne];omega
 have h10:(0:Int) ≤(x1:Int):=by omega
 have h11:(x1:Int)≤255:=by omega
 have HS:∀W,Hid (Calls prog 64 #[.int .i64 x5] W fun e w'=>e=.returned (.int .i64 N)∧Below W.1.size W w'):=fun W=>hid (by have:=ab2 x5 W;rwa [hs]at this)
 have hN0:((N:Int)==0)=false:=by rw[beq_eq_false_iff_ne];omega
 clear hs;have hx1:((6:Int) +(x1:Int)+2 != (N:Int))=false:=by rw[bne_eq_false_iff_eq];omega
 have hl2:(n:Int)<(N:Int):=by omega
 clear hx;go_enter func46,ntmps46;go_upto_region 1 with(refine qc rfl 62 rfl pkA (HZ _).out ?_;intro W1 hW1;have HR1:=hid (Blk.newL (L:=pkA.toList) hW1 rfl);have HB1:=hid hW1.bel;clear hW1)
 have d0:W1.cell? ⟨b,off,none⟩=some (.int .u8 254):=H0.out W1 HB1.out;have d5:W1.cell? ⟨b,off+5,none⟩=some (.int .u8 (x5:Int)):=H5.out W1 HB1.out;go_wp2_with fail;refine(HS W1).out.mono ?_;rintro e w2 ⟨rfl,hb⟩;have HR2:=hid (HR1.out.on hb);have HB2:=hid (qb HB1.out hb);clear hb HR1 HB1 d0 d5 HS;have d1:w2.cell? ⟨b,off+1,none⟩=some (.int .u8 (x1:Int)):=H1.out w2 HB2.out
 go_wp2_with (first
  | refine zy rfl 62 rfl (HB0 _).out ?_
  | (refine qe rfl 62 _ _ rfl w.1.size 0 pkA rfl rfl (HR2.out.there 0 5 (Nat.le_refl _)) aev aeu ?_;intro W3 hs;have HR3:=hid (HR2.out.all hs rfl);have HB3:=hid (HB2.out.trans (hs.below (Nat.le_refl _)));clear hs))
 have HLD:=hid (adk HR3.out rfl);exact bodyPost_ret (v:=.tuple #[.agg pkA,.int .i64 0,.int .i64 2]) (by rw[zq rfl];simp[asAddr,Result.andThen];rw[HLD.out]) rfl (ahp 2 0 HB3.out)
theorem ab9 {Q:Nat→Prop} {w:World} {b off:Nat} {l:List UInt8} (h:qf Q w (some ⟨b,off,none⟩) (bsV l)) (k m:Nat):qf Q w (some ⟨b,off+k,none⟩) (bsV ((l.drop k).take m)):=by
 have:=(h.part k).first m
 rwa [afd,ab8]at this
theorem ads {w:World} {a b off:Nat} (m n c:Nat) (h:Blk w a [.slice (some ⟨b,off,none⟩) m c]) (hn:n≤m) (hmc:m≤c) (hlt:n<c) :
 Calls prog 65 #[.pointer (some ⟨a,0,none⟩),.int .i64 n] w fun e w'=>e=.returned (.slice (some ⟨b,off,none⟩) n n)∧Blk w' a [.slice (some ⟨b,off+n,none⟩) (m-n) (c-n)]∧qn (fun k=>k≠a) w w'∧w'.1.size=w.1.size:=by
 have:=aga m n c h hn hmc;rw[if_neg om]at this;exact this
theorem ba1 {Q:Nat→Prop} {w:World} {A:Option Addr} {c:Nat} (v:List Int) (hv:InI v) (hf:qf Q w A (qp v)) (hn:v.length≤1000000):aar 2 1 Q w (.slice A v.length c) (v.map fun x=>abn [x]):=by
 refine⟨A,c,by rw[List.length_map],fun k hk=>?_,by rw[List.length_map];unfold maxLen;omega⟩;have hk':k<v.length:=by simpa using hk
 obtain⟨b,off,hA,hb,h0⟩:=hf k (.int .i64 v[k]) (by unfold qp;rw[List.getElem?_map,List.getElem?_eq_getElem hk'];rfl);refine⟨b,off,[.int .i64 v[k]],hA,hb,fun j u hu=>?_,by rw[List.getElem_map];exact bj4 (hv _ (List.getElem_mem hk'))⟩;cases j with
 | zero=>injection hu with hu;subst hu;rw[Nat.mul_one,Nat.add_zero];exact h0
 | succ j=>simp at hu
theorem a1y {Q:Nat→Prop} {w:World} (b off n c x5 wd N:Nat) (l:List UInt8) (hA:qf Q w (some ⟨b,off,none⟩) (bsV l)) (hl:l.length=n) (hc:n≤c) (hm:n≤1000000) (hw:0<wd) (hw2:wd<256) (hN:wd+8=N) (hNn:N≤n) (h5:x5<256) (H0:Hid (ByC w b off 0 254)) (H1:Hid (ByC w b off 1 wd)) (H5:Hid (ByC w b off 5 x5)) (hs:aqt x5=N)
 (hne:(l.drop (wd+6)).take 2≠ahm x5 ((l.drop 1).take (wd+5))):Calls prog 46 #[.slice (some ⟨b,off,none⟩) n c] w (acj (4,0,yx) w):=by
 have HZ:=fun W=>hid (acy W)
 have HB0:=fun W=>hid (aa2 W)
 have hn0:(0:Int)<(n:Int):=by omega
 have hn6:(6:Int) ≤(n:Int):=by omega
 have hn5:(5:Int)<(n:Int):=by omega
 have hn2:(1:Int)<(n:Int):=by omega
 have h50:(0:Int) ≤(x5:Int):=by omega
 have h51:(x5:Int)≤255:=by omega
 have h10:(0:Int) ≤(wd:Int):=by omega
 have h11:(wd:Int)≤255:=by omega
 have hn1:((n:Int)==0)=false:=by rw[beq_eq_false_iff_ne];omega
 have HS:∀W,Hid (Calls prog 64 #[.int .i64 x5] W fun e w'=>e=.returned (.int .i64 N)∧Below W.1.size W w'):=fun W=>hid (by have:=ab2 x5 W;rwa [hs]at this)
 have hN0:((N:Int)==0)=false:=by rw[beq_eq_false_iff_ne];omega
 have hx1:((6:Int) +(wd:Int)+2 != (N:Int))=false:=by rw[bne_eq_false_iff_eq];omega
 have hl2:(N:Int) ≤(n:Int):=by omega
 have HL:=hid hl;have hN8:(N:Int)-6-2=(wd:Int):=by omega
 obtain⟨z,hz⟩:∃z,z=wd+6:=⟨_,rfl⟩;have hN9:(N:Int)-2=(z:Int):=by omega
 have hz1:(1:Int) ≤(z:Int):=by omega
 have hz2:(z:Int) ≤(n:Int):=by omega
 have HNW:=hid (And.intro hN (And.intro hz (And.intro hc hNn)));have HFA:∀W,Below w.1.size w W→Hid (qf (fun k=>Q k∧k<w.1.size) W (some ⟨b,off,none⟩) (bsV l)):=fun W hW=>hid (hA.lt.below hW (fun k q=>q.2))
 have HSUM:∀W,Below w.1.size w W→Hid (Calls prog 67 #[.int .i64 x5,.slice (some ⟨b,off+1,none⟩) (z-1) (c-1)] W fun e w'=>∃g,e=.returned (.slice (some ⟨g,0,none⟩) 2 2)∧Blk w' g (bsV (ahm x5 ((l.drop 1).take (wd+5))))∧W.1.size≤g∧Below W.1.size W w'):=fun W hW=>hid (by
  have e:((l.drop 1).take (wd+5)).length=z-1:=by rw[List.length_take,List.length_drop,hl];omega
  have:=ajt (w:=W) x5 (some ⟨b,off+1,none⟩) ((l.drop 1).take (wd+5)) (c-1) (ab9 (HFA W hW).out 1 (wd+5)) om
  rwa [e]at this)
 have HEQ:∀W g y,Below w.1.size w W→Blk W g (bsV y)→y.length=2→Hid (Calls prog 66 #[.slice (some ⟨b,off+6+wd,none⟩) 2 2,.slice (some ⟨g,0,none⟩) 2 2] W fun e w'=>e=.returned (.bool (decide ((l.drop (wd+6)).take 2=y)))∧Below W.1.size W w'):=fun W g y hW hg hy=>hid (by
  have e:((l.drop (wd+6)).take 2).length=2:=by rw[List.length_take,List.length_drop,hl];omega
  have:=ajr (w:=W) (some ⟨b,off +(wd+6),none⟩) (some ⟨g,0,none⟩) 2 2 ((l.drop (wd+6)).take 2) y (ab9 (HFA W hW).out (wd+6) 2) (hg.flat (Q:=fun _=>True) trivial) om om;rw[e,hy]at this
  rwa [show off+6+wd=off +(wd+6)from by omega])
 have _HTK:∀W,Below w.1.size w W→Hid (Calls prog 68 #[.int .i64 x5,.slice (some ⟨b,off+6,none⟩) wd wd] W (kz (aik x5 ((l.drop 6).take wd)) W)):=fun W hW=>hid (by
  have e:((l.drop 6).take wd).length=wd:=by rw[List.length_take,List.length_drop,hl];omega
  have:=ahj (w:=W) x5 (some ⟨b,off+6,none⟩) wd ((l.drop 6).take wd) (ab9 (HFA W hW).out 6 wd) om
  rwa [e]at this)
 have HSB:Hid ((ahm x5 ((l.drop 1).take (wd+5))).length=2):=hid rfl;have hcI:(n:Int) ≤(c:Int):=by omega
 generalize ahm x5 ((l.drop 1).take (wd+5))=sb at *;generalize (l.drop (wd+6)).take 2=ss at *;clear hs hl hN hz hA hc hNn HFA;go_enter func46,ntmps46;go_upto_region 1 with(refine qc rfl 62 rfl pkA (HZ _).out ?_;intro W1 hW1;have HR1:=hid (Blk.newL (L:=pkA.toList) hW1 rfl);have HB1:=hid hW1.bel;clear hW1)
 have d0:W1.cell? ⟨b,off,none⟩=some (.int .u8 254):=H0.out W1 HB1.out;have d5:W1.cell? ⟨b,off+5,none⟩=some (.int .u8 (x5:Int)):=H5.out W1 HB1.out;go_wp2_with fail;refine(HS W1).out.mono ?_;rintro e w2 ⟨rfl,hb⟩;have HR2:=hid (HR1.out.on hb);have HB2:=hid (qb HB1.out hb);clear hb HR1 HB1 d0 d5 HS;have d1:w2.cell? ⟨b,off+1,none⟩=some (.int .u8 (wd:Int)):=H1.out w2 HB2.out;go_upto_region 15 with fail;clear d1;go_upto_region 17 with fail;have HE3:Hid (Blk (w2.alloc (.cells #[.slice (some ⟨b,off,none⟩) n c] 156)) w2.1.size [.slice (some ⟨b,off,none⟩) n c]):=hid (Blk.newL (qg w2 _ _) rfl);have HR3:=hid (HR2.out.on (qa w2 (.cells #[.slice (some ⟨b,off,none⟩) n c] 156)));have HB3:=hid (qb HB2.out (qa w2 (.cells #[.slice (some ⟨b,off,none⟩) n c] 156)));have HAR:Hid (w.1.size<w2.1.size):=hid HR2.out.lt;generalize w2.alloc (.cells #[.slice (some ⟨b,off,none⟩) n c] 156)=W3 at *
 generalize w2.1.size=a at *;clear HR2 HB2;go_wp2_with fail;refine(ads n 6 c HE3.out om om om).mono ?_;rintro e w4 ⟨rfl,he,hk,-⟩;have HE4:=hid he;have HR4:=hid (HR3.out.kept (hk.block _ (Nat.ne_of_lt HAR.out)) hk.size);have HB4:=hid (HB3.out.trans (hk.below (B:=w.1.size) fun k q=>by have:=HAR.out;omega));clear he hk HE3 HR3 HB3;go_wp2_with fail;refine(ads (n-6) wd (c-6) HE4.out (by have:=HNW.out;omega) om (by have:=HNW.out;omega)).mono ?_;rintro e w5 ⟨rfl,he,hk,-⟩;have HE5:=hid he;have HR5:=hid (HR4.out.kept (hk.block _ (Nat.ne_of_lt HAR.out)) hk.size);have HB5:=hid (HB4.out.trans (hk.below (B:=w.1.size) fun k q=>by have:=HAR.out;omega));clear he hk HE4 HR4 HB4;go_wp2_with fail;refine(aga (n-6-wd) 2 (c-6-wd) HE5.out (by have:=HNW.out;omega) om).mono ?_;rintro e w6 ⟨rfl,-,hk,-⟩;have HR6:=hid (HR5.out.kept (hk.block _ (Nat.ne_of_lt HAR.out)) hk.size);have HB6:=hid (HB5.out.trans (hk.below (B:=w.1.size) fun k q=>by have:=HAR.out;omega))
 clear hk HE5 HR5 HB5;go_wp2_with fail;refine(HSUM w6 HB6.out).out.mono ?_;rintro e w7 ⟨g,rfl,hg,-,hb⟩;have HR7:=hid (HR6.out.on hb);have HB7:=hid (qb HB6.out hb);have HEQ7:=HEQ w7 g sb HB7.out hg HSB.out;clear hb hg HR6 HB6 HSUM HEQ;rw[decide_eq_false hne]at HEQ7;go_wp2_with fail;refine HEQ7.out.mono ?_;rintro e w8 ⟨rfl,hb⟩;have HR8:=hid (HR7.out.on hb);have HB8:=hid (qb HB7.out hb);clear hb HR7 HB7 HEQ7
 go_wp2_with (first
  | refine zy rfl 62 rfl (HB0 _).out ?_
  | (refine qe rfl 62 _ _ rfl w.1.size 0 pkA rfl rfl (HR8.out.there 0 5 (Nat.le_refl _)) aev aeu ?_;intro Wz hs;have HRz:=hid (HR8.out.all hs rfl);have HBz:=hid (HB8.out.trans (hs.below (Nat.le_refl _)));clear hs))
 have HLD:=hid (adk HRz.out rfl);exact bodyPost_ret (v:=.tuple #[.agg pkA,.int .i64 0,.int .i64 4]) (by rw[zq rfl];simp[asAddr,Result.andThen];rw[HLD.out]) rfl (ahp 4 0 HBz.out)
theorem a1x {Q:Nat→Prop} {w:World} (b off n c x5 wd N:Nat) (l:List UInt8) (hA:qf Q w (some ⟨b,off,none⟩) (bsV l)) (hl:l.length=n) (hc:n≤c) (hm:n≤1000000) (hw:0<wd) (hw2:wd<256) (hN:wd+8=N) (hNn:N≤n) (h5:x5<256) (H0:Hid (ByC w b off 0 254)) (H1:Hid (ByC w b off 1 wd)) (H5:Hid (ByC w b off 5 x5)) (hs:aqt x5=N)
 (hne:(l.drop (wd+6)).take 2=ahm x5 ((l.drop 1).take (wd+5))) (E:Int) (hE:(aik x5 ((l.drop 6).take wd)).1=E) (hE0:E≠0):Calls prog 46 #[.slice (some ⟨b,off,none⟩) n c] w (acj (E,N,yx) w):=by
 have HZ:=fun W=>hid (acy W)
 have HB0:=fun W=>hid (aa2 W)
 have hn0:(0:Int)<(n:Int):=by omega
 have hn6:(6:Int) ≤(n:Int):=by omega
 have hn5:(5:Int)<(n:Int):=by omega
 have hn2:(1:Int)<(n:Int):=by omega
 have h50:(0:Int) ≤(x5:Int):=by omega
 have h51:(x5:Int)≤255:=by omega
 have h10:(0:Int) ≤(wd:Int):=by omega
 have h11:(wd:Int)≤255:=by omega
 have hn1:((n:Int)==0)=false:=by rw[beq_eq_false_iff_ne];omega
 have HS:∀W,Hid (Calls prog 64 #[.int .i64 x5] W fun e w'=>e=.returned (.int .i64 N)∧Below W.1.size W w'):=fun W=>hid (by have:=ab2 x5 W;rwa [hs]at this)
 have hN0:((N:Int)==0)=false:=by rw[beq_eq_false_iff_ne];omega
 have hx1:((6:Int) +(wd:Int)+2 != (N:Int))=false:=by rw[bne_eq_false_iff_eq];omega
 have hl2:(N:Int) ≤(n:Int):=by omega
 have HL:=hid hl;have hN8:(N:Int)-6-2=(wd:Int):=by omega
 obtain⟨z,hz⟩:∃z,z=wd+6:=⟨_,rfl⟩;have hN9:(N:Int)-2=(z:Int):=by omega
 have hz1:(1:Int) ≤(z:Int):=by omega
 have hz2:(z:Int) ≤(n:Int):=by omega
 have HNW:=hid (And.intro hN (And.intro hz (And.intro hc hNn)));have HFA:∀W,Below w.1.size w W→Hid (qf (fun k=>Q k∧k<w.1.size) W (some ⟨b,off,none⟩) (bsV l)):=fun W hW=>hid (hA.lt.below hW (fun k q=>q.2))
 have HSUM:∀W,Below w.1.size w W→Hid (Calls prog 67 #[.int .i64 x5,.slice (some ⟨b,off+1,none⟩) (z-1) (c-1)] W fun e w'=>∃g,e=.returned (.slice (some ⟨g,0,none⟩) 2 2)∧Blk w' g (bsV (ahm x5 ((l.drop 1).take (wd+5))))∧W.1.size≤g∧Below W.1.size W w'):=fun W hW=>hid (by
  have e:((l.drop 1).take (wd+5)).length=z-1:=by rw[List.length_take,List.length_drop,hl];omega
  have:=ajt (w:=W) x5 (some ⟨b,off+1,none⟩) ((l.drop 1).take (wd+5)) (c-1) (ab9 (HFA W hW).out 1 (wd+5)) om
  rwa [e]at this)
 have HEQ:∀W g y,Below w.1.size w W→Blk W g (bsV y)→y.length=2→Hid (Calls prog 66 #[.slice (some ⟨b,off+6+wd,none⟩) 2 2,.slice (some ⟨g,0,none⟩) 2 2] W fun e w'=>e=.returned (.bool (decide ((l.drop (wd+6)).take 2=y)))∧Below W.1.size W w'):=fun W g y hW hg hy=>hid (by
  have e:((l.drop (wd+6)).take 2).length=2:=by rw[List.length_take,List.length_drop,hl];omega
  have:=ajr (w:=W) (some ⟨b,off +(wd+6),none⟩) (some ⟨g,0,none⟩) 2 2 ((l.drop (wd+6)).take 2) y (ab9 (HFA W hW).out (wd+6) 2) (hg.flat (Q:=fun _=>True) trivial) om om;rw[e,hy]at this
  rwa [show off+6+wd=off +(wd+6)from by omega])
 have HTK:∀W,Below w.1.size w W→Hid (Calls prog 68 #[.int .i64 x5,.slice (some ⟨b,off+6,none⟩) wd wd] W (kz (aik x5 ((l.drop 6).take wd)) W)):=fun W hW=>hid (by
  have e:((l.drop 6).take wd).length=wd:=by rw[List.length_take,List.length_drop,hl];omega
  have:=ahj (w:=W) x5 (some ⟨b,off+6,none⟩) wd ((l.drop 6).take wd) (ab9 (HFA W hW).out 6 wd) om
  rwa [e]at this)
 have HSB:Hid ((ahm x5 ((l.drop 1).take (wd+5))).length=2):=hid rfl;have hcI:(n:Int) ≤(c:Int):=by omega
 generalize ahm x5 ((l.drop 1).take (wd+5))=sb at *;generalize (l.drop (wd+6)).take 2=ss at *;have he2:(E != 0)=true:=by rw[bne_iff_ne];exact hE0
 unfold kz at HTK;rw[hE]at HTK;generalize (aik x5 ((l.drop 6).take wd)).2=v at *;clear hE hE0;clear hs hl hN hz hA hc hNn HFA;go_enter func46,ntmps46;go_upto_region 1 with(refine qc rfl 62 rfl pkA (HZ _).out ?_;intro W1 hW1;have HR1:=hid (Blk.newL (L:=pkA.toList) hW1 rfl);have HB1:=hid hW1.bel;clear hW1)
 have d0:W1.cell? ⟨b,off,none⟩=some (.int .u8 254):=H0.out W1 HB1.out;have d5:W1.cell? ⟨b,off+5,none⟩=some (.int .u8 (x5:Int)):=H5.out W1 HB1.out;go_wp2_with fail;refine(HS W1).out.mono ?_;rintro e w2 ⟨rfl,hb⟩;have HR2:=hid (HR1.out.on hb);have HB2:=hid (qb HB1.out hb);clear hb HR1 HB1 d0 d5 HS;have d1:w2.cell? ⟨b,off+1,none⟩=some (.int .u8 (wd:Int)):=H1.out w2 HB2.out;go_upto_region 15 with fail;clear d1;go_upto_region 17 with fail;have HE3:Hid (Blk (w2.alloc (.cells #[.slice (some ⟨b,off,none⟩) n c] 156)) w2.1.size [.slice (some ⟨b,off,none⟩) n c]):=hid (Blk.newL (qg w2 _ _) rfl);have HR3:=hid (HR2.out.on (qa w2 (.cells #[.slice (some ⟨b,off,none⟩) n c] 156)));have HB3:=hid (qb HB2.out (qa w2 (.cells #[.slice (some ⟨b,off,none⟩) n c] 156)));have HAR:Hid (w.1.size<w2.1.size):=hid HR2.out.lt;generalize w2.alloc (.cells #[.slice (some ⟨b,off,none⟩) n c] 156)=W3 at *
 generalize w2.1.size=a at *;clear HR2 HB2;go_wp2_with fail;refine(ads n 6 c HE3.out om om om).mono ?_;rintro e w4 ⟨rfl,he,hk,-⟩;have HE4:=hid he;have HR4:=hid (HR3.out.kept (hk.block _ (Nat.ne_of_lt HAR.out)) hk.size);have HB4:=hid (HB3.out.trans (hk.below (B:=w.1.size) fun k q=>by have:=HAR.out;omega));clear he hk HE3 HR3 HB3;go_wp2_with fail;refine(ads (n-6) wd (c-6) HE4.out (by have:=HNW.out;omega) om (by have:=HNW.out;omega)).mono ?_;rintro e w5 ⟨rfl,he,hk,-⟩;have HE5:=hid he;have HR5:=hid (HR4.out.kept (hk.block _ (Nat.ne_of_lt HAR.out)) hk.size);have HB5:=hid (HB4.out.trans (hk.below (B:=w.1.size) fun k q=>by have:=HAR.out;omega));clear he hk HE4 HR4 HB4;go_wp2_with fail;refine(aga (n-6-wd) 2 (c-6-wd) HE5.out (by have:=HNW.out;omega) om).mono ?_;rintro e w6 ⟨rfl,-,hk,-⟩;have HR6:=hid (HR5.out.kept (hk.block _ (Nat.ne_of_lt HAR.out)) hk.size);have HB6:=hid (HB5.out.trans (hk.below (B:=w.1.size) fun k q=>by have:=HAR.out;omega))
 clear hk HE5 HR5 HB5;go_wp2_with fail;refine(HSUM w6 HB6.out).out.mono ?_;rintro e w7 ⟨g,rfl,hg,-,hb⟩;have HR7:=hid (HR6.out.on hb);have HB7:=hid (qb HB6.out hb);have HEQ7:=HEQ w7 g sb HB7.out hg HSB.out;clear hb hg HR6 HB6 HSUM HEQ;rw[decide_eq_true hne]at HEQ7;go_wp2_with fail;refine HEQ7.out.mono ?_;rintro e w8 ⟨rfl,hb⟩;have HR8:=hid (HR7.out.on hb);have HB8:=hid (qb HB7.out hb);clear hb HR7 HB7 HEQ7;go_wp2_with fail;refine(HTK w8 HB8.out).out.mono ?_;rintro e w9 ⟨A9,c9,rfl,hf,hb⟩;have HF9:=hid hf;have HR9:=hid (HR8.out.on hb);have HB9:=hid (qb HB8.out hb);have HG9:=hid (And.intro HB8.out.size hb.size);have HRL:=hid HR8.out.lt;clear hf hb HR8 HB8 HTK
 go_wp2_with (first
  | refine zy rfl 62 rfl (HB0 _).out ?_
  | (refine qe rfl 62 _ _ rfl w.1.size 0 pkA rfl rfl (HR9.out.there 0 5 (Nat.le_refl _)) aev aeu ?_;intro Wz hs;have HRz:=hid (HR9.out.all hs rfl);have HBz:=hid (HB9.out.trans (hs.below (Nat.le_refl _)));clear hs))
 have HLD:=hid (adk HRz.out rfl);exact bodyPost_ret (v:=.tuple #[.agg pkA,.int .i64 N,.int .i64 E]) (by rw[zq rfl];simp[asAddr,Result.andThen];rw[HLD.out]) rfl (ahp E N HBz.out)
theorem a1z {Q:Nat→Prop} {w:World} (b off n c x5 wd N x2 x3 x4:Nat) (l:List UInt8) (hA:qf Q w (some ⟨b,off,none⟩) (bsV l)) (hl:l.length=n) (hc:n≤c) (hm:n≤1000000) (hw:0<wd) (hw2:wd<256) (hN:wd+8=N) (hNn:N≤n) (h5:x5<256) (H0:Hid (ByC w b off 0 254)) (H1:Hid (ByC w b off 1 wd)) (H5:Hid (ByC w b off 5 x5)) (hs:aqt x5=N)
 (hne:(l.drop (wd+6)).take 2=ahm x5 ((l.drop 1).take (wd+5))) (E:Int) (H2:Hid (ByC w b off 2 x2)) (H3:Hid (ByC w b off 3 x3)) (H4:Hid (ByC w b off 4 x4)) (hx:x2<256∧x3<256∧x4<256) (v:List Int) (hE:aik x5 ((l.drop 6).take wd)=(0,v)) (hv:InI v) (hvl:v.length≤1000000):Calls prog 46 #[.slice (some ⟨b,off,none⟩) n c] w (acj (0,N,⟨x2,x3,x4,x5,v.map fun x=>abn [x]⟩) w):=by
 have HZ:=fun W=>hid (acy W)
 have HB0:=fun W=>hid (aa2 W)
 have hn0:(0:Int)<(n:Int):=by omega
 have hn6:(6:Int) ≤(n:Int):=by omega
 have hn5:(5:Int)<(n:Int):=by omega
 have hn2:(1:Int)<(n:Int):=by omega
 have h50:(0:Int) ≤(x5:Int):=by omega
 have h51:(x5:Int)≤255:=by omega
 have h10:(0:Int) ≤(wd:Int):=by omega
 have h11:(wd:Int)≤255:=by omega
 have hn1:((n:Int)==0)=false:=by rw[beq_eq_false_iff_ne];omega
 have HS:∀W,Hid (Calls prog 64 #[.int .i64 x5] W fun e w'=>e=.returned (.int .i64 N)∧Below W.1.size W w'):=fun W=>hid (by have:=ab2 x5 W;rwa [hs]at this)
 have hN0:((N:Int)==0)=false:=by rw[beq_eq_false_iff_ne];omega
 have hx1:((6:Int) +(wd:Int)+2 != (N:Int))=false:=by rw[bne_eq_false_iff_eq];omega
 have hl2:(N:Int) ≤(n:Int):=by omega
 have HL:=hid hl;have hN8:(N:Int)-6-2=(wd:Int):=by omega
 obtain⟨z,hz⟩:∃z,z=wd+6:=⟨_,rfl⟩;have hN9:(N:Int)-2=(z:Int):=by omega
 have hz1:(1:Int) ≤(z:Int):=by omega
 have hz2:(z:Int) ≤(n:Int):=by omega
 have HNW:=hid (And.intro hN (And.intro hz (And.intro hc hNn)));have HFA:∀W,Below w.1.size w W→Hid (qf (fun k=>Q k∧k<w.1.size) W (some ⟨b,off,none⟩) (bsV l)):=fun W hW=>hid (hA.lt.below hW (fun k q=>q.2))
 have HSUM:∀W,Below w.1.size w W→Hid (Calls prog 67 #[.int .i64 x5,.slice (some ⟨b,off+1,none⟩) (z-1) (c-1)] W fun e w'=>∃g,e=.returned (.slice (some ⟨g,0,none⟩) 2 2)∧Blk w' g (bsV (ahm x5 ((l.drop 1).take (wd+5))))∧W.1.size≤g∧Below W.1.size W w'):=fun W hW=>hid (by
  have e:((l.drop 1).take (wd+5)).length=z-1:=by rw[List.length_take,List.length_drop,hl];omega
  have:=ajt (w:=W) x5 (some ⟨b,off+1,none⟩) ((l.drop 1).take (wd+5)) (c-1) (ab9 (HFA W hW).out 1 (wd+5)) om
  rwa [e]at this)
 have HEQ:∀W g y,Below w.1.size w W→Blk W g (bsV y)→y.length=2→Hid (Calls prog 66 #[.slice (some ⟨b,off+6+wd,none⟩) 2 2,.slice (some ⟨g,0,none⟩) 2 2] W fun e w'=>e=.returned (.bool (decide ((l.drop (wd+6)).take 2=y)))∧Below W.1.size W w'):=fun W g y hW hg hy=>hid (by
  have e:((l.drop (wd+6)).take 2).length=2:=by rw[List.length_take,List.length_drop,hl];omega
  have:=ajr (w:=W) (some ⟨b,off +(wd+6),none⟩) (some ⟨g,0,none⟩) 2 2 ((l.drop (wd+6)).take 2) y (ab9 (HFA W hW).out (wd+6) 2) (hg.flat (Q:=fun _=>True) trivial) om om;rw[e,hy]at this
  rwa [show off+6+wd=off +(wd+6)from by omega])
 have HTK:∀W,Below w.1.size w W→Hid (Calls prog 68 #[.int .i64 x5,.slice (some ⟨b,off+6,none⟩) wd wd] W (kz (aik x5 ((l.drop 6).take wd)) W)):=fun W hW=>hid (by
  have e:((l.drop 6).take wd).length=wd:=by rw[List.length_take,List.length_drop,hl];omega
  have:=ahj (w:=W) x5 (some ⟨b,off+6,none⟩) wd ((l.drop 6).take wd) (ab9 (HFA W hW).out 6 wd) om
  rwa [e]at this)
 have HSB:Hid ((ahm x5 ((l.drop 1).take (wd+5))).length=2):=hid rfl;have hcI:(n:Int) ≤(c:Int):=by omega
 generalize ahm x5 ((l.drop 1).take (wd+5))=sb at *;generalize (l.drop (wd+6)).take 2=ss at *;unfold kz at HTK;rw[hE]at HTK;dsimp only at HTK;clear hE;clear hs hl hN hz hA hc hNn HFA;go_enter func46,ntmps46;go_upto_region 1 with(refine qc rfl 62 rfl pkA (HZ _).out ?_;intro W1 hW1;have HR1:=hid (Blk.newL (L:=pkA.toList) hW1 rfl);have HB1:=hid hW1.bel;clear hW1)
 have d0:W1.cell? ⟨b,off,none⟩=some (.int .u8 254):=H0.out W1 HB1.out;have d5:W1.cell? ⟨b,off+5,none⟩=some (.int .u8 (x5:Int)):=H5.out W1 HB1.out;go_wp2_with fail;refine(HS W1).out.mono ?_;rintro e w2 ⟨rfl,hb⟩;have HR2:=hid (HR1.out.on hb);have HB2:=hid (qb HB1.out hb);clear hb HR1 HB1 d0 d5 HS;have d1:w2.cell? ⟨b,off+1,none⟩=some (.int .u8 (wd:Int)):=H1.out w2 HB2.out;go_upto_region 15 with fail;clear d1;go_upto_region 17 with fail;have HE3:Hid (Blk (w2.alloc (.cells #[.slice (some ⟨b,off,none⟩) n c] 156)) w2.1.size [.slice (some ⟨b,off,none⟩) n c]):=hid (Blk.newL (qg w2 _ _) rfl);have HR3:=hid (HR2.out.on (qa w2 (.cells #[.slice (some ⟨b,off,none⟩) n c] 156)));have HB3:=hid (qb HB2.out (qa w2 (.cells #[.slice (some ⟨b,off,none⟩) n c] 156)));have HAR:Hid (w.1.size<w2.1.size):=hid HR2.out.lt;generalize w2.alloc (.cells #[.slice (some ⟨b,off,none⟩) n c] 156)=W3 at *
 generalize w2.1.size=a at *;clear HR2 HB2;go_wp2_with fail;refine(ads n 6 c HE3.out om om om).mono ?_;rintro e w4 ⟨rfl,he,hk,-⟩;have HE4:=hid he;have HR4:=hid (HR3.out.kept (hk.block _ (Nat.ne_of_lt HAR.out)) hk.size);have HB4:=hid (HB3.out.trans (hk.below (B:=w.1.size) fun k q=>by have:=HAR.out;omega));clear he hk HE3 HR3 HB3;go_wp2_with fail;refine(ads (n-6) wd (c-6) HE4.out (by have:=HNW.out;omega) om (by have:=HNW.out;omega)).mono ?_;rintro e w5 ⟨rfl,he,hk,-⟩;have HE5:=hid he;have HR5:=hid (HR4.out.kept (hk.block _ (Nat.ne_of_lt HAR.out)) hk.size);have HB5:=hid (HB4.out.trans (hk.below (B:=w.1.size) fun k q=>by have:=HAR.out;omega));clear he hk HE4 HR4 HB4;go_wp2_with fail;refine(aga (n-6-wd) 2 (c-6-wd) HE5.out (by have:=HNW.out;omega) om).mono ?_;rintro e w6 ⟨rfl,-,hk,-⟩;have HR6:=hid (HR5.out.kept (hk.block _ (Nat.ne_of_lt HAR.out)) hk.size);have HB6:=hid (HB5.out.trans (hk.below (B:=w.1.size) fun k q=>by have:=HAR.out;omega))
 clear hk HE5 HR5 HB5;go_wp2_with fail;refine(HSUM w6 HB6.out).out.mono ?_;rintro e w7 ⟨g,rfl,hg,-,hb⟩;have HR7:=hid (HR6.out.on hb);have HB7:=hid (qb HB6.out hb);have HEQ7:=HEQ w7 g sb HB7.out hg HSB.out;clear hb hg HR6 HB6 HSUM HEQ;rw[decide_eq_true hne]at HEQ7;go_wp2_with fail;refine HEQ7.out.mono ?_;rintro e w8 ⟨rfl,hb⟩;have HR8:=hid (HR7.out.on hb);have HB8:=hid (qb HB7.out hb);clear hb HR7 HB7 HEQ7;go_wp2_with fail;refine(HTK w8 HB8.out).out.mono ?_;rintro e w9 ⟨A9,c9,rfl,hf,hb⟩;have HF9:=hid hf;have HR9:=hid (HR8.out.on hb);have HB9:=hid (qb HB8.out hb);have HG9:=hid (And.intro HB8.out.size hb.size);have HRL:=hid HR8.out.lt;clear hf hb HR8 HB8 HTK;have d2:w9.cell? ⟨b,off+2,none⟩=some (.int .u8 (x2:Int)):=H2.out w9 HB9.out;have d3:w9.cell? ⟨b,off+3,none⟩=some (.int .u8 (x3:Int)):=H3.out w9 HB9.out;have d4:w9.cell? ⟨b,off+4,none⟩=some (.int .u8 (x4:Int)):=H4.out w9 HB9.out
 have y2:(x2:Int)≤255:=by omega
 have y3:(x3:Int)≤255:=by omega
 have y4:(x4:Int)≤255:=by omega
 have y20:(0:Int) ≤(x2:Int):=by omega
 have y30:(0:Int) ≤(x3:Int):=by omega
 have y40:(0:Int) ≤(x4:Int):=by omega
 go_upto_region 23 with fail;clear HB0 HZ H0 H1 H5 H2 H3 H4 HSB;have r0:=HR9.out.cell 0 (v:=.int .i64 0) rfl;have r1:=HR9.out.cell 1 (v:=.int .i64 0) rfl;have r2:=HR9.out.cell 2 (v:=.int .i64 0) rfl;have r3:=HR9.out.cell 3 (v:=.int .i64 0) rfl;have r4:=HR9.out.cell 4 (v:=.slice none 0 0) rfl;have z0:=HR9.out.fz 0;have z1:=HR9.out.fz 1;have z2:=HR9.out.fz 2;have z3:=HR9.out.fz 3;have z4:=HR9.out.fz 4;have hs:=(bhj HR9.out (.int .i64 (x2:Int)) (.int .i64 (x3:Int)) (.int .i64 (x4:Int)) (.int .i64 (x5:Int)) (.slice A9 v.length c9)).2;have HKZ:=hid (HR9.out.all hs rfl).drew;have HSZ:=hid (And.intro hs.sz hs.far);have HBZ:=hid (HB9.out.trans (hs.below (Nat.le_refl _))).drew;have HVI:=hid hv;have HVL:=hid hvl;clear hs hv hvl
 go_region
 generalize (((((w9.setCell ⟨w.1.size,0,none⟩ (.int .i64 (x2:Int))).setCell ⟨w.1.size,1,none⟩ (.int .i64 (x3:Int))).setCell ⟨w.1.size,2,none⟩ (.int .i64 (x4:Int))).setCell ⟨w.1.size,3,none⟩ (.int .i64 (x5:Int))).setCell ⟨w.1.size,4,none⟩ (.slice A9 v.length c9))=WZ at *;clear r0 r1 r2 r3 r4 z0 z1 z2 z3 z4 d2 d3 d4;go_wp2_with fail;have HLD:=hid (adk HKZ.out rfl);refine bodyPost_ret (v:=.tuple #[.agg (bk5 ⟨x2,x3,x4,x5,v.map fun x=>abn [x]⟩ (.slice A9 v.length c9)).toArray,.int .i64 N,.int .i64 0]) (by rw[zq rfl];simp[asAddr,Result.andThen];rw[HLD.out];rfl) rfl ⟨_,rfl,⟨_,rfl,?_⟩,HBZ.out⟩;refine ba1 v HVI.out ((HF9.out.keep fun k q=>HSZ.out.2 k (by have:=HG9.out;have:=HAR.out;have:=q.1;have:=HRL.out;omega)).less fun k q=>⟨by have:=HG9.out;have:=HRL.out;omega,by rw[show WZ.drew.1.size=WZ.1.size from rfl,HSZ.out.1];exact q.2⟩) HVL.out
theorem ap5:∀(s:List Slt) (v out:List Int),InI v→InI out→InI (yp s v out)
 | [],[],out,_,h=>h
 | [],_::_,out,_,h=>h
 | _::_,[],out,_,h=>h
 | x::s,y::v,out,hv,h=>by
  simp only[yp];refine ap5 s v _ (fun n hn=>hv n (List.mem_cons_of_mem _ hn)) fun n hn=>?_
  rcases List.mem_or_eq_of_mem_set hn with q|q
  ·exact h n q
  ·rw[q];exact hv y (List.mem_cons_self ..)
theorem bhi (i:Nat) (b:List UInt8) (h:(aik i b).1=0):InI (aik i b).2 ∧(aik i b).2.length≤1000000:=by
 have hfo:=ag5 (i:Int);rw[a7e]at h ⊢;generalize xe (i:Int)=f at *;unfold bef at h ⊢
 split at h
 ·cases h
 ·rename_i hn;rw[if_neg hn]
  split at h
  ·rename_i h0;rw[if_pos h0];refine⟨ap5 _ _ _ (ahl (amp f.2 hfo.2.2.2) h0) (ahu _),?_⟩;rw[agf,List.length_replicate];have:=hfo.2.2.1;omega
  ·rename_i h0;exact absurd h h0
theorem bk6 (l:List UInt8) (k:Nat) (h:k+2≤l.length):(l.drop k).take 2=[zx l k,zx l (k+1)]:=by
 rw[List.drop_eq_getElem_cons om,List.drop_eq_getElem_cons om];show [l[k],l[k+1]]=_;unfold zx;rw[List.getD_eq_getElem?_getD,List.getD_eq_getElem?_getD,List.getElem?_eq_getElem om,List.getElem?_eq_getElem om];rfl
theorem bib (i:Nat) (x y:UInt8) (m:List UInt8):[x,y]=ahm i m↔x.toNat=aq2 i m%256∧y.toNat=aq2 i m / 256:=by
 have hs:=bia i m;unfold ahm;generalize aq2 i m=s at *;rw[List.cons.injEq,List.cons.injEq,← UInt8.toNat_inj,← UInt8.toNat_inj,UInt8.toNat_ofNat',UInt8.toNat_ofNat',Nat.mod_eq_of_lt (show s%256<2^8 by omega),Nat.mod_eq_of_lt (show s / 256<2^8 by omega)];simp
theorem ald {Q:Nat→Prop} {w:World} {b off:Nat} {l:List UInt8} (h:qf Q w (some ⟨b,off,none⟩) (bsV l)) (i:Nat) (hi:i<l.length):Hid (ByC w b off i (zx l i).toNat):=hid fun W hW=>by
 obtain⟨b',off',q,-,hc⟩:=h.lt i _ (yk hi);injection q with q;injection q with q1 q2;subst q1 q2
 have e:zx l i=l[i]:=by unfold zx;rw[List.getD_eq_getElem?_getD,List.getElem?_eq_getElem hi];rfl
 rw[e];exact(hW.cell (p:=⟨b,off+i,none⟩) (abz hc)).trans hc
theorem a1u {Q:Nat→Prop} {w:World} (A:Option Addr) (c:Nat) (l:List UInt8) (h:qf Q w A (bsV l)) (hm:l.length≤1000000) (hc:l.length≤c):Calls prog 46 #[.slice A l.length c] w (acj (abv l) w):=by
 by_cases h0:l.length=0
 ·rw[show abv l=(2,0,yx)from by unfold abv;rw[if_pos h0],h0];exact a1w A c
 obtain⟨b,off,rfl,-,-⟩:=h 0 _ (yk (show 0<l.length by omega));have B0:=ald h 0 om
 by_cases h1:zx l 0≠254
 ·rw[show abv l=(3,0,yx)from by unfold abv;rw[if_neg h0,if_pos h1]];refine ash b off _ c _ om hm B0 ?_;rw[bne_iff_ne];intro q;apply h1;apply UInt8.toNat_inj.1;show (zx l 0).toNat=254;omega
 have e0:zx l 0=254:=Classical.not_not.1 h1;rw[e0]at B0;have B0:Hid (ByC w b off 0 254):=B0
 by_cases h6:l.length<6
 ·rw[show abv l=(2,0,yx)from by unfold abv;rw[if_neg h0,if_neg h1,if_pos h6]];exact asi b off _ c om h6 B0
 have B5:=ald h 5 om;have B1:=ald h 1 om;have l5:=(zx l 5).toNat_lt;have l1:=(zx l 1).toNat_lt
 by_cases hw:yi (xe ((zx l 5).toNat:Int)).2=0
 ·rw[show abv l=(6,0,yx)from by unfold abv;rw[if_neg h0,if_neg h1,if_neg h6];exact if_pos hw];exact aw5 b off _ c _ om hm om B0 B5 (by unfold aqt;rw[if_pos hw])
 have hsz:aqt (zx l 5).toNat=yi (xe ((zx l 5).toNat:Int)).2+8:=by unfold aqt;rw[if_neg hw]
 by_cases hf:(zx l 1).toNat≠yi (xe ((zx l 5).toNat:Int)).2
 ·rw[show abv l=(3,0,yx)from by unfold abv;rw[if_neg h0,if_neg h1,if_neg h6];exact(if_neg hw).trans (if_pos hf)];exact aw4 b off _ c _ _ _ om hm om B0 B5 B1 om hsz om om
 have hf':(zx l 1).toNat=yi (xe ((zx l 5).toNat:Int)).2:=Classical.not_not.1 hf
 by_cases hn:l.length<yi (xe ((zx l 5).toNat:Int)).2+8
 ·rw[show abv l=(2,0,yx)from by unfold abv;rw[if_neg h0,if_neg h1,if_neg h6];exact(if_neg hw).trans ((if_neg hf).trans (if_pos hn))];exact a1v b off _ c _ _ _ om hm om B0 B5 B1 om hsz om om hn
 have e : abv l=if(zx l (yi (xe ((zx l 5).toNat:Int)).2+6)).toNat=aq2 (zx l 5).toNat ((l.drop 1).take (yi (xe ((zx l 5).toNat:Int)).2+5))%256 ∧(zx l (yi (xe ((zx l 5).toNat:Int)).2+7)).toNat=aq2 (zx l 5).toNat ((l.drop 1).take (yi (xe ((zx l 5).toNat:Int)).2+5)) / 256 then
       (if(aik (zx l 5).toNat ((l.drop 6).take (yi (xe ((zx l 5).toNat:Int)).2))).1=0 then(0,yi (xe ((zx l 5).toNat:Int)).2+8,⟨(zx l 2).toNat,(zx l 3).toNat,(zx l 4).toNat,(zx l 5).toNat,(aik (zx l 5).toNat ((l.drop 6).take (yi (xe ((zx l 5).toNat:Int)).2))).2.map fun x=>abn [x]⟩)else((aik (zx l 5).toNat ((l.drop 6).take (yi (xe ((zx l 5).toNat:Int)).2))).1,yi (xe ((zx l 5).toNat:Int)).2+8,yx))else(4,0,yx):=by
  unfold abv;rw[if_neg h0,if_neg h1,if_neg h6];exact(if_neg hw).trans ((if_neg hf).trans (if_neg hn))
 rw[e];clear e;have H2:=ald h 2 om;have H3:=ald h 3 om;have H4:=ald h 4 om;have l2:=(zx l 2).toNat_lt;have l3:=(zx l 3).toNat_lt;have l4:=(zx l 4).toNat_lt;rw[hf']at B1 l1;have ht:=bk6 l (yi (xe ((zx l 5).toNat:Int)).2+6) om;have hi:=bib (zx l 5).toNat (zx l (yi (xe ((zx l 5).toNat:Int)).2+6)) (zx l (yi (xe ((zx l 5).toNat:Int)).2+7)) ((l.drop 1).take (yi (xe ((zx l 5).toNat:Int)).2+5));have hok:=bhi (zx l 5).toNat ((l.drop 6).take (yi (xe ((zx l 5).toNat:Int)).2));generalize (zx l 5).toNat=x5 at *;generalize yi (xe (x5:Int)).2=wd at *
 by_cases hs:(zx l (wd+6)).toNat=aq2 x5 ((l.drop 1).take (wd+5))%256 ∧(zx l (wd+7)).toNat=aq2 x5 ((l.drop 1).take (wd+5)) / 256
 ·rw[if_pos hs];have hq:(l.drop (wd+6)).take 2=ahm x5 ((l.drop 1).take (wd+5)):=by rw[ht];exact hi.2 hs
  by_cases hE:(aik x5 ((l.drop 6).take wd)).1=0
  ·rw[if_pos hE];obtain⟨k1,k2⟩:=hok hE;exact a1z b off _ c x5 wd _ _ _ _ l h rfl hc hm om om rfl om om B0 B1 B5 hsz hq 0 H2 H3 H4 ⟨by omega,by omega,by omega⟩ _ (by rw[← hE]) k1 k2
  ·rw[if_neg hE];exact a1x b off _ c x5 wd _ l h rfl hc hm om om rfl om om B0 B1 B5 hsz hq _ rfl hE
 ·rw[if_neg hs];exact a1y b off _ c x5 wd _ l h rfl hc hm om om rfl om om B0 B1 B5 hsz (fun q=>hs (hi.1 (by rw[← ht];exact q)))
