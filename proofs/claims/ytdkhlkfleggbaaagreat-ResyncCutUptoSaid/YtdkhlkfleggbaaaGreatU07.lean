/- Parts. -/
import Derived.Test.YtdkhlkfleggbaaaGreatU06
import Derived.Test.YtdkhlkfleggbaaaGreatU05
import Derived.BigRegion
namespace Go.Proofs.YtdkhlkfleggbaaaGreat
set_option maxHeartbeats 4000000
set_option maxRecDepth 8000
open Lib (hid)
open Tryz
set_option linter.unusedVariables false
open Go.RowKit
def ae0 (c:Nat):Nat:=(c / 2) ^^^ (if c%2=1 then 33800 else 0)
def ay3:Nat→Nat→Nat
 | 0,c=>c
 | k+1,c=>ae0 (ay3 k c)
def act (c b:Nat):Nat:=ay3 8 (c ^^^ b)
def acd:List Nat:=[0,4225,8450,12675,16900,21125,25350,29575,33800,38025,42250,46475,50700,54925,59150,63375]
def aa8 (c:Nat):Nat:=(c / 16) ^^^ acd.getD (c%16) 0
def akq (c:Nat) (x:UInt8):Nat:=aa8 (aa8 (c ^^^ x.toNat))
def xf (c:Nat) (l:List UInt8):Nat:=l.foldl akq c
theorem afs {a b:Nat} (ha:a<65536) (hb:b<65536):a ^^^ b<65536:=Nat.xor_lt_two_pow (n:=16) ha hb
theorem a9j {c:Nat} (h:c<65536):ae0 c<65536:=by
 unfold ae0;refine afs om ?_
 split<;>omega
theorem au6 {c:Nat} (h:c<65536):∀k,ay3 k c<65536
 | 0=>h
 | k+1=>a9j (au6 h k)
theorem ati (i:Nat):acd.getD i 0<65536:=by
 rcases b01 i 16 with h|h
 ·have:∀j:Fin 16,acd.getD j 0<65536:=by decide
  exact this ⟨i,h⟩
 ·rw[l9,t9 (by simpa [acd]using h)];decide
theorem ajt {c:Nat} (h:c<65536):aa8 c<65536:=afs om (ati _)
theorem a32 {c:Nat} (h:c<65536) (x:UInt8):akq c x<65536:=ajt (ajt (afs h (by have:=x.toNat_lt;omega)))
theorem aa0:∀(l:List UInt8) {c:Nat},c<65536→xf c l<65536
 | [],c,h=>h
 | x::l,c,h=>aa0 l (a32 h x)
theorem aju {c b:Nat} (hc:c<65536) (hb:b<65536):act c b<65536:=au6 (afs hc hb) 8
theorem au5 (c:Nat) (l:List UInt8) (x:UInt8):xf c (l++[x])=akq (xf c l) x:=by simp[xf]
theorem amz (c b:Nat) (w:World) (hc:c<65536) (hb:b<256):Calls prog 86 #[.int .u16 c,.int .u8 b] w fun e w'=>e=.returned (.int .u16 (act c b:Int))∧w=w':=by
 have f1:bits BinOp.xor IntKind.u16 (c:Int) (b:Int)=((c ^^^ b:Nat):Int):=b40 c b hc om;have hx:=afs hc (show b<65536 by omega);have f2:IntKind.u16.wrap (b:Int)=(b:Int):=IntWalk.u16_in _ om;unfold act;generalize c ^^^ b=d at *;go_enter func86,ntmps86;go_wp2_with fail
 go_loopg [0,9] 8 (fun g s0 s9 wr=>∃k:Nat,k≤8∧8-k≤g∧s9=.int .i64 k∧s0=.int .u16 (ay3 k d:Int)∧wr=w)
 case atStart=>exact⟨0,b0c _,by omega,rfl,rfl,rfl⟩
 case round=>
  obtain⟨k,hk,hg,rfl,rfl,rfl⟩:=hrel
  by_cases hlt:k<8
  ·have hl:=au6 hx k;have HE:=hid (show ay3 (k+1) d=ae0 (ay3 k d)from rfl);generalize ay3 k d=e at *;have i1:(k:Int)<8:=by omega
   obtain⟨h,hh⟩:∃h,e / 2=h:=⟨_,rfl⟩;have f3:(e:Int) / 2=(h:Int):=by omega
   by_cases ho:e%2=1
   ·have f4:bits BinOp.and IntKind.u16 (e:Int) 1=1:=by
     have:=u16_and_nat e 1 om dc;rw[show ((1:Nat):Int)=1 from rfl,nat_mask1]at this;rw[this];omega
    have f5:bits BinOp.and IntKind.u16 (IntKind.u16.wrap (-1)) 33800=33800:=by decide
    have f6:bits BinOp.xor IntKind.u16 (h:Int) 33800=(ae0 e:Int):=by
     have:=b40 h 33800 om dc;rw[show ((33800:Nat):Int)=33800 from rfl]at this;rw[this];unfold ae0;rw[if_pos ho,hh]
    clear hh ho;generalize ae0 e=e' at *;go_wp2_with fail
    go_roundg (8-(k+1))
    case measure=>omega
    case rel=>exact⟨k+1,by omega,by omega,by go_num,by rw[HE.out],rfl⟩
   ·have f4:bits BinOp.and IntKind.u16 (e:Int) 1=0:=by
     have:=u16_and_nat e 1 om dc;rw[show ((1:Nat):Int)=1 from rfl,nat_mask1]at this;rw[this];omega
    have f5:bits BinOp.and IntKind.u16 0 33800=0:=by decide
    have f6:bits BinOp.xor IntKind.u16 (h:Int) 0=(ae0 e:Int):=by
     have:=b40 h 0 om dc;rw[show ((0:Nat):Int)=0 from rfl]at this;rw[this];unfold ae0;rw[if_neg ho,hh]
    clear hh ho;generalize ae0 e=e' at *;go_wp2_with fail
    go_roundg (8-(k+1))
    case measure=>omega
    case rel=>exact⟨k+1,by omega,by omega,by go_num,by rw[HE.out],rfl⟩
  ·obtain rfl:k=8:=by omega
   obtain⟨e,he⟩:∃e,ay3 8 d=e:=⟨_,rfl⟩;have HE:=hid he;rw[he];clear he;go_wp2_with fail;go_ret;exact⟨by rw[HE.out];rfl,rfl⟩
theorem ay2 (c:Nat) (w:World) (hc:c<65536):Calls prog 183 #[.int .u16 c] w fun e w'=>e=.returned (.int .u16 (aa8 c:Int))∧Below w.1.size w w':=by
 obtain⟨h,hh⟩:∃h,c / 16=h:=⟨_,rfl⟩;have f3:(c:Int) / 16=(h:Int):=by omega
 obtain⟨i,hi⟩:∃i,c%16=i:=⟨_,rfl⟩
 have f4:bits BinOp.and IntKind.u16 (c:Int) 15=(i:Int):=by
  have:=u16_and_nat c 15 hc dc;rw[show ((15:Nat):Int)=15 from rfl,nat_mask4]at this;rw[this,hi]
 have f5:bits BinOp.xor IntKind.u16 (h:Int) ((acd.getD i 0:Nat):Int)=(aa8 c:Int):=by
  rw[b40 h _ om (ati _)];unfold aa8;rw[hh,hi]
 have HK:Hid (Blk (w.alloc (.cells (acd.map fun n:Nat=>Value.int .u16 (n:Int)).toArray 350)) w.1.size (acd.map fun n:Nat=>Value.int .u16 (n:Int))):=hid (Blk.newL (qg w _ _) rfl)
 have c0:(w.alloc (.cells (acd.map fun n:Nat=>Value.int .u16 (n:Int)).toArray 350)).cell? ⟨w.1.size,i,none⟩=some (.int .u16 ((acd.getD i 0:Nat):Int)):=HK.out.cell i (by
  rw[b0m,c8 (show i<acd.length by simp[acd];omega),l9,c8 (show i<acd.length by simp[acd];omega)];rfl)
 have g1:(i:Int)<16:=by omega
 have g2:(0:Int) ≤(i:Int):=n8 _;generalize aa8 c=r at *;generalize acd.getD i 0=y at *;change (w.alloc (.cells #[.int .u16 0,.int .u16 4225,.int .u16 8450,.int .u16 12675,.int .u16 16900,.int .u16 21125,.int .u16 25350,.int .u16 29575,.int .u16 33800,.int .u16 38025,.int .u16 42250,.int .u16 46475,.int .u16 50700,.int .u16 54925,.int .u16 59150,.int .u16 63375] 350)).cell? ⟨w.1.size,i,none⟩=some (.int .u16 (y:Int))at c0;clear HK hh hi;go_enter func183,ntmps183;go_upto_region 2 with fail;have HB:Hid (Below w.1.size w (w.alloc (.cells #[.int .u16 0,.int .u16 4225,.int .u16 8450,.int .u16 12675,.int .u16 16900,.int .u16 21125,.int .u16 25350,.int .u16 29575,.int .u16 33800,.int .u16 38025,.int .u16 42250,.int .u16 46475,.int .u16 50700,.int .u16 54925,.int .u16 59150,.int .u16 63375] 350))):=hid (qa _ _);generalize w.alloc (.cells #[.int .u16 0,.int .u16 4225,.int .u16 8450,.int .u16 12675,.int .u16 16900,.int .u16 21125,.int .u16 25350,.int .u16 29575,.int .u16 33800,.int .u16 38025,.int .u16 42250,.int .u16 46475,.int .u16 50700,.int .u16 54925,.int .u16 59150,.int .u16 63375] 350)=W1 at *
 go_wp2_with fail;go_ret;exact⟨rfl,HB.out⟩
theorem ahc {Q:Nat→Prop} {w:World} (s:Nat) (A:Option Addr) (l:List UInt8) (c:Nat) (h:qf Q w A (bsV l)) (hs:s<65536) (hm:l.length≤1000000) :
 Calls prog 113 #[.int .u16 s,.slice A l.length c] w fun e w'=>e=.returned (.int .u16 (xf s l:Int))∧Below w.1.size w w':=by
 replace h:=h.lt;have HI:=hid h;have HE:Hid (xf s (l.take l.length)=xf s l):=hid (by rw[b0o]);generalize hL:l.length=n at *;have HL:=hid hL;have HS:=hid hs;clear hL h hs;go_enter func113,ntmps113;go_wp2_with fail
 go_loopg [0,9] n (fun g s0 s9 wr=>∃k:Nat,k≤n∧n-k≤g∧s9=.int .i64 k∧s0=.int .u16 (xf s (l.take k):Int)∧Hid (Below w.1.size w wr))
 case atStart=>exact⟨0,b0c _,by omega,rfl,rfl,n6 _ _⟩
 case round=>
  obtain⟨k,hk,hg,rfl,rfl,HB⟩:=hrel
  by_cases hlt:k<n
  ·have hkl:k<l.length:=by rw[HL.out];exact hlt
   obtain⟨b',o',rfl,hq,hc⟩:=HI.out k (bV (l[k]'hkl)) (vz hkl);have HSN:Hid (xf s (l.take (k+1))=akq (xf s (l.take k)) l[k]):=hid (by rw[o5 hkl,au5]);have hml:=aa0 (l.take k) HS.out;generalize xf s (l.take k)=m at *;have hc':wr.cell? ⟨b',o'+k,none⟩=some (bV l[k]):=(HB.out.cell (p:=⟨b',o'+k,none⟩) hq.2).trans hc;unfold bV at hc';clear hc;generalize l[k]=x at *;have hx:=x.toNat_lt;have f1:bits BinOp.xor IntKind.u16 (m:Int) (x.toNat:Int)=((m ^^^ x.toNat:Nat):Int):=b40 m _ hml om;have f2:IntKind.u16.wrap (x.toNat:Int)=(x.toNat:Int):=IntWalk.u16_in _ om;have hd:=afs hml (show x.toNat<65536 by omega);have HF:=fun e W (q:e<65536)=>hid (ay2 e W q)
   have HY:=hid (show akq m x=aa8 (aa8 (m ^^^ x.toNat))from rfl);generalize m ^^^ x.toNat=d at *;have i1:(k:Int)<n:=by omega
   have i2:(0:Int) ≤(k:Int):=n8 _;go_wp2_with fail;refine((HF _ _ hd).out).mono ?_;rintro e w1 ⟨rfl,hb⟩;have HB1:=hid (qb HB.out hb);clear hb hc';go_wp2_with fail;refine((HF _ _ (ajt hd)).out).mono ?_;rintro e w2 ⟨rfl,hb⟩;have HB2:Hid (Below w.1.size w w2):=hid (qb HB1.out hb);clear hb;have e1:xf s (l.take (k+1))=aa8 (aa8 d):=HSN.out.trans HY.out;have HE1:=hid e1;clear e1;generalize aa8 (aa8 d)=r at *;go_wp2_with fail
   go_roundg (n-(k+1))
   case measure=>omega
   case rel=>exact⟨k+1,by omega,by omega,by go_num,by rw[HE1.out],HB2⟩
  ·obtain rfl:k=n:=by omega
   have HE2:=HE.out;generalize xf s (l.take k)=m at *;go_wp2_with fail;go_ret;exact⟨by rw[← HE2];rfl,HB.out⟩
theorem a9k {Q:Nat→Prop} {w:World} (g:Nat) (A:Option Addr) (l:List UInt8) (c:Nat) (hg:w.cell? ⟨g,0,none⟩=some (.slice A l.length c)) (h:qf Q w A (bsV l)) (hm:l.length≤1000000) :
 Calls prog 87 #[.slice (some ⟨g,0,none⟩) 1 1] w fun e w'=>e=.returned (.int .u16 (xf 65535 l:Int))∧Below w.1.size w w':=by
 have HM:=hid (ahc (w:=w) 65535 A l c h dc hm);generalize xf 65535 l=r at *;generalize l.length=n at *;clear h;go_enter func87,ntmps87;go_wp2_with fail
 go_loopg [3,8] 1 (fun t s3 s8 wr=>(s8=.int .i64 0∧s3=.int .u16 65535∧wr=w∧1≤t) ∨(s8=.int .i64 1∧s3=.int .u16 (r:Int)∧Hid (Below w.1.size w wr)))
 case atStart=>exact .inl ⟨rfl,rfl,rfl,by omega⟩
 case round=>
  rcases hrel with⟨rfl,rfl,rfl,ht⟩|⟨rfl,rfl,HB⟩
  ·go_wp2_with fail;refine(HM.out).mono ?_;rintro e w1 ⟨rfl,hb⟩;have HB1:=hid hb;clear hb;go_wp2_with fail
   go_roundg 0
   case measure=>omega
   case rel=>exact .inr ⟨rfl,rfl,HB1⟩
  ·go_wp2_with fail;go_ret;exact⟨rfl,HB.out⟩
def arq (p:Prt):ByteArray:=
 let s:ByteArray:=match p.sz with
  | 1=>⟨#[105,110,116,56,95,116]⟩
  | 2=>⟨#[105,110,116,49,54,95,116]⟩
  | 4=>⟨#[105,110,116,51,50,95,116]⟩
  | 8=>⟨#[105,110,116,54,52,95,116]⟩
  | _=>ByteArray.empty
 if p.sg then s else⟨#[117]⟩++s
def yn (c:Nat) (p:Prt):Nat:=
 let d:=xf c (arq p ++⟨#[32]⟩++p.nm ++⟨#[32]⟩).data.toList
 if 0<p.mn then act d (p.mn%256)else d
def ant (f:TFm):Nat:=
 if f.1=ByteArray.empty then 0 else
  let c:=(afq f.2).foldl yn (xf 65535 (f.1 ++⟨#[32]⟩).data.toList)
  Nat.xor (c%256) (c / 256)
def aaa:aha:=⟨0,0,0,0,[]⟩
def aiz (i:Nat) (b:List UInt8):Int×List Int:=
 let f:=xe i
 if f.1=ByteArray.empty then(6,[])else
  let r:=xk (acc f.2) b
  if r.1=0 then(0,yr (aeg f.2) r.2 (List.replicate (kz f.2) 0))else(r.1,[])
def ab1 (b:List UInt8):Int×Nat×aha:=
 if b.length=0 then(2,0,aaa)else if zx b 0≠254 then(3,0,aaa)else if b.length<6 then(2,0,aaa)else
  let i:=(zx b 5).toNat;let w:=ym (xe i).2
  if w=0 then(6,0,aaa)else if(zx b 1).toNat≠w then(3,0,aaa)else if b.length<w+8 then(2,0,aaa)else
   let s:=act (xf 65535 ((b.drop 1).take (w+5))) (ant (xe i))
   if(zx b (w+6)).toNat=s%256 ∧(zx b (w+7)).toNat=s / 256 then
    let r:=aiz i ((b.drop 6).take w)
    if r.1=0 then(0,w+8,⟨(zx b 2).toNat,(zx b 3).toNat,(zx b 4).toNat,i,r.2.map fun x=>abt [x]⟩)else(r.1,w+8,aaa)
   else(4,0,aaa)
theorem a1s (p:Prt) (hz:p.sz=1∨p.sz=2∨p.sz=4∨p.sz=8) (w:World):Calls prog 115 #[.agg #[.string p.nm,.int .i64 p.sz,.bool p.sg,.int .i64 p.mn]] w fun e w'=>e=.returned (.string (arq p))∧Below w.1.size w w':=by
 obtain⟨nm,sz,sg,mn⟩:=p;dsimp only at *;rcases hz with rfl|rfl|rfl|rfl<;>cases sg<;>unfold arq<;>dsimp only
 all_goals
  go_enter func115,ntmps115;go_wp2_with fail;go_ret;exact⟨rfl,qb (qa _ _) (qa _ _)⟩
theorem a1r {Q:Nat→Prop} {w:World} (A:Option Addr) (l:List Prt) (c:Nat) (h:qf Q w A (q7 l)) (hm:l.length≤1000) :
 Calls prog 114 #[.slice A l.length c] w fun e w'=>∃g,e=.returned (.slice (some ⟨g,0,none⟩) l.length l.length)∧Blk w' g (q7 (afq l))∧w.1.size≤g∧Below w.1.size w w':=by
 have H:=hid (aw2 A l c h hm);have HE:Hid (agy gtP l=afq l):=hid rfl;rw[HE.out]at H;generalize afq l=s at *;generalize l.length=n at *;clear h;go_enter func114,ntmps114;go_wp2_with fail;refine(H.out).mono ?_;rintro e w1 ⟨g,rfl,hk,hg,hb⟩;have HK:=hid (o4 hk (o4 hg hb));clear hk hg hb;go_wp2_with fail;go_ret;exact⟨g,rfl,HK.out⟩
theorem a3y (s:ByteArray) (w:World):∃c W,(convert 9 22 (.string s)).run prog w=.ok (.slice (some ⟨w.1.size,0,none⟩) s.size c) W∧qf (fun b=>w.1.size≤b) W (some ⟨w.1.size,0,none⟩) (bsV s.data.toList)∧Below w.1.size w W:=by
 refine⟨_,_,run_bytes_of_string (P:=prog) w 9 22 5 s underlying9 underlying22 underlying5,fun j u hu=>?_,?_⟩
 ·have hj:j<s.data.size:=by
   have:=(b1q.1 hu).1
   simpa [bsV]using this
  have hu2:u=bV s.data[j]:=by
   have:=vz (l:=s.data.toList) (k:=j) (by simpa using hj);rw[this]at hu
   simpa using hu.symm
  refine⟨w.1.size,0,rfl,a8 _,?_⟩;rw[hu2,b0e];have hb:=bytesRow_at s (grownCap w s.size 0 5) j hj;have hlt:j<(bytesRow s (grownCap w s.size 0 5)).size:=(o9.1 hb).1
  have hh:∀X:Obj,(w.drew.alloc X).heap[w.1.size]?=some X:=fun X=>by
   show (w.heap.push X)[w.1.size]?=_;simp
  unfold World.cell?;rw[hh];exact hb
 ·exact(n6 w.1.size w).drew.trans (qa w.drew (.cells (bytesRow s (grownCap w s.size 0 5)) 5 _))
theorem amv (s:ByteArray) (z:Nat) (hz:s.size=z) (w:World):∃c W,(convert 9 22 (.string s)).run prog w=.ok (.slice (some ⟨w.1.size,0,none⟩) z c) W∧qf (fun b=>w.1.size≤b) W (some ⟨w.1.size,0,none⟩) (bsV s.data.toList)∧Below w.1.size w W:=hz▸a3y s w
def arv (p:Prt):Prop:=(p.sz=1∨p.sz=2∨p.sz=4∨p.sz=8)∧p.mn≤64∧p.nm.size≤100
theorem a38 {c:Nat} (h:c<65536) {p:Prt} (hp:arv p):yn c p<65536:=by
 unfold yn;dsimp only;have:=aa0 (arq p ++⟨#[32]⟩++p.nm ++⟨#[32]⟩).data.toList h
 split
 ·exact aju this om
 ·exact this
theorem af7:∀(l:List Prt) {c:Nat},c<65536 →(∀p∈l,arv p)→l.foldl yn c<65536
 | [],c,h,_=>h
 | p::l,c,h,hp=>af7 l (a38 h (hp p (b1s ..))) (fun q hq=>hp q (b1w _ hq))
theorem a7i (p:Prt):(arq p).size≤9:=by
 have h:∀s:ByteArray,s.size≤8 →((⟨#[117]⟩:ByteArray)++s).size≤9:=fun s hs=>by rw[b23];show 1+s.size≤9;omega
 have h2:∀n:Nat,(match n with|1=>(⟨#[105,110,116,56,95,116]⟩:ByteArray)|2=>⟨#[105,110,116,49,54,95,116]⟩|4=>⟨#[105,110,116,51,50,95,116]⟩|8=>⟨#[105,110,116,54,52,95,116]⟩|_=>ByteArray.empty).size≤8:=fun n=>by split<;>decide
 unfold arq;dsimp only
 split
 ·exact o8 (h2 _) dc
 ·exact h _ (h2 _)
theorem ako (s:ByteArray):s.data.toList.length=s.size:=by simp
theorem awu (i:Int) (w:World) (hm:(xe i).2.length≤1000) (hnm:(xe i).1.size≤100) (hp:∀p∈(xe i).2,arv p):Calls prog 88 #[.int .i64 i] w fun e w'=>e=.returned (.int .u8 (ant (xe i):Int))∧Below w.1.size w w':=by
 have H:=hid (aht i w);generalize xe i=f at *;obtain⟨n,l⟩:=f;unfold xy at H;dsimp only at *;have HP:=hid hp
 have HLN:Hid ((afq l).length=l.length ∧(afq l).take l.length=afq l):=hid (by
  have:(afq l).length=l.length:=at9 _ l;exact⟨this,by rw[← this,b0o]⟩)
 have HPW:Hid (∀p∈afq l,arv p):=hid (fun p q=>hp p ((agj gtP l).mem_iff.1 q));clear hp;obtain⟨res,hres⟩:∃res,ant (n,l)=res:=⟨_,rfl⟩;rw[hres];have HRES:=hid hres;clear hres;go_enter func88,ntmps88;go_wp2_with fail;refine(H.out).mono ?_;rintro e w1 ⟨A,c,rfl,hf,hb⟩;have HF:=hid hf;have HB:=hid hb;clear hf hb H;have HN:Hid (Blk (w1.alloc (.cells #[.string n,.slice A l.length c] 200)) w1.1.size [.string n,.slice A l.length c]):=hid (Blk.newL (qg w1 _ _) rfl);have HB2:=hid (qb HB.out (qa w1 (.cells #[.string n,.slice A l.length c] 200)));have HF2:=hid (abj HF.out (qa w1 (.cells #[.string n,.slice A l.length c] 200)) (a8 _));go_upto_region 2 with fail;clear HF HB;generalize w1.alloc (.cells #[.string n,.slice A l.length c] 200)=W2 at *;generalize w1.1.size=fb at *;have n0:=HN.out.cell 0 (v:=.string n) rfl
 by_cases hn:n=⟨#[]⟩
 ·have hr:res=0:=by rw[← HRES.out];unfold ant;exact if_pos hn
  subst hn;subst hr;go_wp2_with fail;go_ret;exact⟨rfl,HB2.out⟩
 ·have hn2:=amk hn;have HR2:Hid (res=Nat.xor (((afq l).foldl yn (xf 65535 (n ++⟨#[32]⟩).data.toList))%256) (((afq l).foldl yn (xf 65535 (n ++⟨#[32]⟩).data.toList)) / 256)):=hid (by rw[← HRES.out];unfold ant;exact if_neg hn);clear hn HRES;go_wp2_with fail;have hsz:(n ++⟨#[32]⟩:ByteArray).size≤1000000:=by rw[b23];show n.size+1≤_;omega
  obtain⟨z,hz⟩:∃z,(n ++⟨#[32]⟩:ByteArray).size=z:=⟨_,rfl⟩;obtain⟨cc,W3,hcv,hfb,hbb⟩:=amv (n ++⟨#[32]⟩) z hz W2;rw[hcv];have HM:=hid (ahc (w:=W3) 65535 _ (n ++⟨#[32]⟩).data.toList cc hfb dc (by rw[ako];exact hsz));have HC0:Hid (xf 65535 (n ++⟨#[32]⟩).data.toList<65536):=hid (aa0 _ dc);rw[ako,hz]at HM;have HN3:=hid (HN.out.on hbb);have HB3:=hid (qb HB2.out hbb);have HF3:=hid (abj HF2.out hbb (a8 _));clear hcv hfb hbb hsz HN HB2 HF2 n0 hz;generalize xf 65535 (n ++⟨#[32]⟩).data.toList=c0 at *;have HM2:Hid (Calls prog 113 #[.int .u16 65535,.slice (some ⟨W2.1.size,0,none⟩) z cc] W3 fun e w'=>e=.returned (.int .u16 (c0:Int))∧Below W3.1.size W3 w'):=HM;clear HM;go_wp2_with fail;refine HM2.out.mono ?_;rintro e W4 ⟨rfl,hb⟩;have HN4:=hid (HN3.out.on hb);have HB4:=hid (qb HB3.out hb);have HF4:=hid (abj HF3.out hb (a8 _));clear hb HM2 HN3 HB3 HF3
  have n1:=HN4.out.cell 1 (v:=.slice A l.length c) rfl;have HW:=hid (a1r A l c HF4.out hm);obtain⟨N,hN⟩:∃N,l.length=N:=⟨_,rfl⟩;rw[hN]at HW n1 hm;rw[hN]at HLN;clear hN;obtain⟨L,hL⟩:∃L,afq l=L:=⟨_,rfl⟩;rw[hL]at HW HLN HPW HR2;clear hL;go_wp2_with fail;refine HW.out.mono ?_;rintro e W5 ⟨g,rfl,hk,hg,hb⟩;have HK5:=hid hk;have HB5:=hid (qb HB4.out hb);clear hk hb hg n1 HW HN4 HB4 HF4;go_wp2_with fail
  go_loopg [4,21] N (fun t s4 s21 wr=>∃k:Nat,k≤N∧N-k≤t∧s21=.int .i64 k∧s4=.int .u16 (((L.take k).foldl yn c0:Nat):Int)∧Hid (Blk wr g (q7 L))∧Hid (Below w.1.size w wr))
  case atStart=>exact⟨0,by omega,by omega,rfl,rfl,HK5.out,HB5.out⟩
  case round=>
   obtain⟨k,hk,ht,rfl,rfl,HK,HB⟩:=hrel;clear HK5 HB5
   by_cases hlt:k<N
   ·have hkl:k<L.length:=by rw[HLN.out.1];exact hlt
    obtain⟨b',o',hA,-,cx0,cx1,cx2,cx3⟩:=aj0 (HK.out.flat (Q:=fun _=>True) trivial) k hkl;injection hA with hA
    injection hA with hA1 hA2
    subst hA1 hA2;rw[b0e]at cx0 cx1 cx2 cx3;have HSN:Hid ((L.take (k+1)).foldl yn c0=yn ((L.take k).foldl yn c0) L[k]):=hid (by rw[o5 hkl,b4w];rfl);have hul:=af7 (L.take k) HC0.out (fun p hp=>HPW.out p (b25 hp));have hpo:=HPW.out L[k] (b1c hkl);generalize (L.take k).foldl yn c0=u at *;generalize L[k]=p at *;have HWD0:=fun W=>hid (a1s p hpo.1 W)
    have hws:=a7i p;obtain⟨wd,hwd⟩:∃wd,arq p=wd:=⟨_,rfl⟩;rw[hwd]at hws;have HEX:Hid (yn u p=if 0<p.mn then act (xf u (wd ++⟨#[32]⟩++p.nm ++⟨#[32]⟩).data.toList) (p.mn%256)else xf u (wd ++⟨#[32]⟩++p.nm ++⟨#[32]⟩).data.toList):=hid (by rw[← hwd];rfl);obtain⟨nm,sz,sg,mn⟩:=p;dsimp only at *;have HWD:∀W,Hid (Calls prog 115 #[.agg #[.string nm,.int .i64 sz,.bool sg,.int .i64 mn]] W fun e w'=>e=.returned (.string wd)∧Below W.1.size W w'):=fun W=>hid (by rw[← hwd];exact(HWD0 W).out)
    clear hwd HWD0
    have hwl:(wd ++⟨#[32]⟩++nm ++⟨#[32]⟩:ByteArray).size≤1000000:=by
     rw[b23,b23,b23];show wd.size+1+nm.size+1≤_;have:=hpo.2.2;dsimp only at this;omega
    obtain⟨z,hz⟩:∃z,(wd ++⟨#[32]⟩++nm ++⟨#[32]⟩:ByteArray).size=z:=⟨_,rfl⟩;have HZ:=hid hz;have HMR0:=fun W (a:Nat) cc h=>hid (ahc (Q:=fun b=>a≤b) (w:=W) u (some ⟨a,0,none⟩) (wd ++⟨#[32]⟩++nm ++⟨#[32]⟩).data.toList cc h hul (by rw[ako];exact hwl))
    have hdl:=aa0 (wd ++⟨#[32]⟩++nm ++⟨#[32]⟩).data.toList hul;obtain⟨d,hd⟩:∃d,xf u (wd ++⟨#[32]⟩++nm ++⟨#[32]⟩).data.toList=d:=⟨_,rfl⟩;rw[hd]at HEX hdl
    have HMR:∀W (a:Nat) cc,qf (fun b=>a≤b) W (some ⟨a,0,none⟩) (bsV (wd ++⟨#[32]⟩++nm ++⟨#[32]⟩).data.toList)→Hid (Calls prog 113 #[.int .u16 u,.slice (some ⟨a,0,none⟩) z cc] W fun e w'=>e=.returned (.int .u16 (d:Int))∧Below W.1.size W w'):=fun W a cc h=>hid (by
     have q:=(HMR0 W a cc h).out;rw[ako,hd,hz]at q;exact q)
    have hns:=hpo.2.2;dsimp only at hns;have k1:¬9223372036854775807<wd.size+1:=by omega
    have k2:¬9223372036854775807<wd.size+1+nm.size:=by omega
    have k3:¬9223372036854775807<wd.size+1+nm.size+1:=by omega
    clear hd HMR0 hwl hws hz hns;have hmn:mn≤64:=hpo.2.1;have i1:(k:Int)<N:=by omega
    have i2:(0:Int) ≤(k:Int):=n8 _;have HN1:Hid (Blk (wr.alloc (.cells #[.string nm,.int .i64 sz,.bool sg,.int .i64 mn] 261)) wr.1.size [.string nm,.int .i64 sz,.bool sg,.int .i64 mn]):=hid (Blk.newL (qg wr _ _) rfl);have HB1:=hid (qb HB.out (qa wr (.cells #[.string nm,.int .i64 sz,.bool sg,.int .i64 mn] 261)));have HK1:=hid (HK.out.on (qa wr (.cells #[.string nm,.int .i64 sz,.bool sg,.int .i64 mn] 261)));go_upto_region 8 with fail;clear cx0 cx1 cx2 cx3 HB HK;generalize wr.alloc (.cells #[.string nm,.int .i64 sz,.bool sg,.int .i64 mn] 261)=W1 at *;generalize wr.1.size=q at *
    try (apply b1e;intro K_ HK_)
    have hS0:Below W1.1.size W1 W1.drew:=(n6 _ _).drew;refine o7 (S:=fun w'=>Below W1.1.size W1 w') kr hS0 (fun hHeld0=>?_);refine tkA 0 25 rfl ?_;go_frame;refine tkQ (i:=1) (oi:=⟨some 26,_,_,_,_,_⟩) (v:=_) rfl (n9 (by rfl) 261 _ rfl q 0 rfl [.string nm,.int .i64 (sz:Nat),.bool sg,.int .i64 (mn:Nat)] _ (fun w' hSw=>(HN1.out.on hSw).rg) underlying261 rfl kr) ?_;go_frame;refine tkA 4 29 rfl ?_;go_frame;refine tkQ (i:=5) (oi:=⟨some 30,_,_,_,_,_⟩) (v:=?_) rfl (Or.inl ⟨by rfl,?_⟩) ?_;rotate_left
    ·intro w' hSw;have x1:=(HN1.out.on hSw).cell 0 (v:=.string nm) rfl;go_simp
     try with_reducible rfl
    try go_frame
    refine rdB 2 27 rfl fun K hK=>?_
    go_step;refine(HWD _).out.mono ?_;rintro e w2 ⟨rfl,hb⟩;have HS2:Hid (Below W1.1.size W1 w2):=hid (hHeld0.trans (hb.mono hHeld0.size));clear hb
    try go_frame
    refine hK.out _ _ (HS2.out) (fun hHeld=>?_);clear hK K
    try go_frame
    refine tkA 3 28 rfl ?_;go_frame;refine tkA 6 31 rfl ?_;go_frame;refine tkA 7 32 rfl ?_;go_frame;refine rdB 8 33 rfl fun K hK=>?_
    go_step;obtain⟨cc,wb,hcv,hfb,hbb⟩:=amv (wd ++⟨#[32]⟩++nm ++⟨#[32]⟩) z HZ.out w2;rw[hcv];have HS3:Hid (Below W1.1.size W1 wb):=hid (HS2.out.trans (hbb.mono HS2.out.size));have HFB:=hid hfb;clear hcv hfb hbb
    try go_frame
    refine hK.out _ _ (HS3.out) (fun hHeld=>?_);clear hK K
    try go_frame
    refine rdB 9 34 rfl fun K hK=>?_
    go_step;refine(HMR wb _ cc HFB.out).out.mono ?_;rintro e w4 ⟨rfl,hb⟩;have HS4:Hid (Below W1.1.size W1 w4):=hid (HS3.out.trans (hb.mono HS3.out.size));clear hb
    try go_frame
    refine hK.out _ _ (HS4.out) (fun hHeld=>?_);clear hK K
    try go_frame
    refine tkA 10 4 rfl ?_;go_frame;refine b0j kr ?_ _
    try go_frame
    have HN6:=hid (HN1.out.on HS4.out);have HB6:=hid (qb HB1.out HS4.out);have HK6:=hid (HK1.out.on HS4.out);clear hHeld hHeld0 hS0;have y3:=HN6.out.cell 3 (v:=.int .i64 mn) rfl
    by_cases hm0:mn=0
    ·have HE:Hid ((L.take (k+1)).foldl yn c0=d):=hid (by rw[HSN.out,HEX.out,if_neg om]);have j1:¬(0:Int)<(mn:Int):=by omega
     go_wp2_with fail
     go_roundg (N-(k+1))
     case measure=>omega
     case rel=>exact⟨k+1,by omega,by omega,by go_num,by rw[HE.out],HK6,HB6⟩
    ·have HE:Hid ((L.take (k+1)).foldl yn c0=act d mn):=hid (by rw[HSN.out,HEX.out,if_pos om,b2x om]);have j1:(0:Int)<(mn:Int):=by omega
     have j2:IntKind.u8.wrap (mn:Int)=(mn:Int):=IntWalk.u8_in _ om;have j3:(mn:Int)%256=(mn:Int):=by omega
     have HCS:=fun W=>hid (amz d mn W hdl om)
     go_wp2_with fail;refine(HCS _).out.mono ?_;rintro e W7 ⟨rfl,rfl⟩;go_wp2_with fail
     go_roundg (N-(k+1))
     case measure=>omega
     case rel=>exact⟨k+1,by omega,by omega,by go_num,by rw[HE.out],HK6,HB6⟩
   ·obtain rfl:k=N:=by omega
    have hcl:=af7 L HC0.out HPW.out;rw[HLN.out.2];obtain⟨C,hC⟩:∃C,L.foldl yn c0=C:=⟨_,rfl⟩;rw[hC]at HR2 hcl;rw[hC];obtain⟨a,ha⟩:∃a,C%256=a:=⟨_,rfl⟩;obtain⟨b,hb⟩:∃b,C / 256=b:=⟨_,rfl⟩;rw[ha,hb]at HR2;have g1:(C:Int)%256=(a:Int):=by omega
    have g2:(C:Int) / 256=(b:Int):=by omega
    have g3:(b:Int)%256=(b:Int):=by omega
    have g4:bits BinOp.xor IntKind.u8 (a:Int) (b:Int)=(res:Int):=by rw[HR2.out];exact u8_xor_nat a b om om
    clear hC ha hb;go_wp2_with fail;go_ret;exact⟨rfl,HB.out⟩
theorem bbv (l m:List Prt) (n:Nat):aal (l++m) n=aal l n++aal m (n+kz l):=by
 induction l generalizing n with
 | nil=>simp[aal,kz]
 | cons p l ih=>simp only[b02,aal,ih,b0l];congr 2;simp[kz];congr 1;omega
theorem at8 (l:List Prt) (n:Nat):(aal l n).length=kz l:=by
 induction l generalizing n with
 | nil=>rfl
 | cons p l ih=>simp[aal,ih,kz]
def ajh (p:Prt) (n k:Nat):List Slt:=(List.range k).map fun j=>⟨p.sz,p.sg,n+j⟩
theorem a6n (p:Prt) (n k:Nat):ajh p n (k+1)=ajh p n k++[⟨p.sz,p.sg,n+k⟩]:=by simp[ajh,List.range_succ]
theorem a6o (l:List Prt) (p:Prt):aal (l++[p]) 0=aal l 0++ajh p (kz l) (aak p):=by
 rw[bbv];simp[aal,ajh]
def ajo (w:World) (b:Nat) (t:TypeId) (C:Array Value):Prop:=w.heap[b]?=some (.cells C t (0,0))
theorem ajo.new (w:World) (C:Array Value) (t:TypeId):ajo (w.alloc (.cells C t)) w.1.size t C:=by
 show (w.heap.push _)[w.1.size]?=_;simp
theorem ajo.lt {w:World} {b:Nat} {t:TypeId} {C:Array Value} (h:ajo w b t C):b<w.1.size:=(o9.1 h).1
theorem ajo.on {w w':World} {b:Nat} {t:TypeId} {C:Array Value} (h:ajo w b t C) (hb:Below w.1.size w w'):ajo w' b t C:=(hb.block b h.lt).trans h
theorem ajo.cell {w:World} {b:Nat} {t:TypeId} {C:Array Value} (h:ajo w b t C) (o:Nat) {v:Value} (hv:C[o]?=some v):w.cell? ⟨b,o,none⟩=some v:=by
 unfold ajo at h;unfold World.cell?;simp only[h];exact hv
theorem bak {P:Program} {B:Nat} {t ty e:TypeId} {i:TypeInfo} {z:Value} {size bytes:Nat} {v:Value} {n:Nat} {xs:List Value} {w:World} (h:w.ownsRow B e size v n xs) (hB:B≤w.1.size) (hi:P.info? e=some i∧i.zero=some z∧i.size=size∧i.bytes=bytes) (h1:P.underlying t=some (.slice e)) (h6:z.cells.size=size) (h7:0<size)
 {R:Nat→Prop} (X:Option Addr) (m c:Nat) (news:List Value) (hn:news.length=m*size) (hc:qf R w X news) (h1c:∀u∈news,u.oneCell'=true) (b1:n+m≤maxLen) (b2:(n+m)*bytes≤140737488355328) :
 ∃v' w',(Builtin.append_ #[t,t] ty #[v,.slice X m c]).run P w=.ok v' w'∧w'.ownsRow B e size v' (n+m) (xs++news)∧Below B w w'∧∀q t' C,ajo w q t' C→t'≠e→ajo w' q t' C:=by
 obtain⟨v',w',q1,q2,q3,-⟩:=kq (P:=P) w t ty e i z size bytes h1 hi.1 hi.2.1 hi.2.2.1 hi.2.2.2 h6 h7 B v n xs h X m c news hn hc h1c b1 b2 hB;obtain⟨A,cap,rfl,-,-⟩:=xx h;refine⟨v',w',q1,q2,(n6 B w).grown q3 hB (fun k hk=>?_),fun q t' C hq ht=>?_⟩
 ·rcases h.2 with⟨q,-⟩|⟨g,cap',cur,q,hb,-⟩
  ·injection q with q _ _;subst q;cases hk
  ·injection q with q _ _;subst q
   simp only[Value.ownBlock,b2e]at hk;omega
 ·refine(q3.block q hq.lt (fun hk=>?_)).trans hq;rcases h.2 with⟨y,-⟩|⟨g,cap',cur,y,hb,hg,-⟩
  ·injection y with y _ _;subst y;cases hk
  ·injection y with y _ _;subst y
   simp only[Value.ownBlock,b2e]at hk;subst hk;rw[hq]at hg;injection hg with hg
   injection hg with _ hg _
   exact ht hg
theorem a9h (l:List Prt) (k:Nat):kz (l.take k)≤kz l:=by
 have:kz l=kz (l.take k)+kz (l.drop k):=by
  unfold kz;rw[← b3j,← b1y,b0p]
 omega
theorem a9g (l:List Prt) (p:Prt):kz (l++[p])=kz l+aak p:=by simp[kz]
theorem aq8 {Q:Nat→Prop} {w:World} {A:Option Addr} {l:List Slt} (h:qf Q w A (zr l)) (k:Nat) (hk:k<l.length):∃b off,A=some ⟨b,off,none⟩∧Q b∧w.cell? ⟨b,off+k*3,none⟩=some (.int .i64 (l[k].sz:Int))∧w.cell? ⟨b,off+k*3+1,none⟩=some (.bool l[k].sg)∧w.cell? ⟨b,off+k*3+2,none⟩=some (.int .i64 (l[k].ix:Int)):=by
 have e:=fun j hj=>aib yv 3 (fun _=>rfl) l k hk j hj
 obtain⟨b,off,hA,hb,h0⟩:=h _ _ (e 0 om);refine⟨b,off,hA,hb,h0,?_,?_⟩
 ·obtain⟨b',off',hA',-,h1⟩:=h _ _ (e 1 om);rw[hA]at hA';injection hA' with hA';injection hA' with q1 q2;subst q1 q2
  exact h1
 ·obtain⟨b',off',hA',-,h1⟩:=h _ _ (e 2 om);rw[hA]at hA';injection hA' with hA';injection hA' with q1 q2;subst q1 q2
  exact h1
theorem bf9 (l:List Prt) (hp:∀p∈l,arv p) (n:Nat):∀x∈aal l n,1≤x.sz∧x.sz≤8:=by
 induction l generalizing n with
 | nil=>intro x hx;simp[aal]at hx
 | cons p l ih=>
  intro x hx;simp only[aal,b1u,b2c]at hx;rcases hx with⟨j,-,rfl⟩|hx
  ·have:=(hp p (b1s ..)).1;dsimp only;omega
  ·exact ih (fun q hq=>hp q (b1w _ hq)) _ x hx
theorem amh (l:List Prt):(aeg l).length=kz l:=by unfold aeg;rw[at9,at8]
theorem a1y (l:List Prt) (hp:∀p∈l,arv p):∀x∈aeg l,1≤x.sz∧x.sz≤8:=fun x hx=>bf9 l hp 0 x ((agj _ _).mem_iff.1 hx)
def auq (l:List Prt) (w:World) (e:Ending) (w':World):Prop:=
 ∃g B d,e=.returned (.tuple #[.slice (some ⟨g,0,none⟩) (kz l) (kz l),.slice B (kz l) d])∧Blk w' g (zr (aeg l))∧qf (fun b=>w.1.size≤b∧b<w'.1.size) w' B (acl (acc l))∧w.1.size≤g∧Below w.1.size w w'
theorem aw1 {Q:Nat→Prop} {w:World} (nm0:ByteArray) (A:Option Addr) (l:List Prt) (c:Nat) (h:qf Q w A (q7 l)) (hm:l.length≤1000) (hc:kz l≤1000) (hp:∀p∈l,arv p) :
 Calls prog 90 #[.agg #[.string nm0,.slice A l.length c]] w (auq l w):=by
 have HI:=hid h.lt;have HP:=hid hp;obtain⟨i0,hi,hz0,hz1,hz2⟩:=kj a1w;have HIN:=hid (o4 hi (o4 hz0 (o4 hz1 hz2)));clear hi hz0 hz1 hz2;obtain⟨i1,hi,hz0,hz1,hz2⟩:=kj azh;have HIF:=hid (o4 hi (o4 hz0 (o4 hz1 hz2)));clear hi hz0 hz1 hz2;have HC:=hid hc;have HE:Hid (l.take l.length=l):=hid (by rw[b0o]);obtain⟨N,hn⟩:∃N,l.length=N:=⟨_,rfl⟩;rw[hn]at hm HE ⊢;have HL:=hid hn;clear hn h hp hc;go_enter func90,ntmps90;go_upto_region 2 with fail;have HN:Hid (Blk (w.alloc (.cells #[.string nm0,.slice A N c] 200)) w.1.size [.string nm0,.slice A N c]):=hid (Blk.newL (qg w _ _) rfl);have HB:Hid (Below w.1.size w (w.alloc (.cells #[.string nm0,.slice A N c] 200))):=hid (qa _ _);generalize w.alloc (.cells #[.string nm0,.slice A N c] 200)=W1 at *;have n1:=HN.out.cell 1 (v:=.slice A N c) rfl;go_wp2_with fail;clear n1
 go_loopg [4,13] N (fun t s4 s13 wr=>∃k:Nat,k≤N∧N-k≤t∧s13=.int .i64 k∧Hid (aax w 208 3 s4 (kz (l.take k)) (zr (aal (l.take k) 0)) wr))
 case atStart=>exact⟨0,by omega,by omega,rfl,aax.nil _ _ _ HB.out⟩
 case round=>
  rename_i s4;obtain⟨k,hk,ht,rfl,HO⟩:=hrel;clear HB HN
  by_cases hlt:k<N
  ·have hkl:k<l.length:=by rw[HL.out];exact hlt
   obtain⟨b',o',rfl,hq,c0,c1,c2,c3⟩:=aj0 HI.out k hkl;have hpo:=HP.out l[k] (b1c hkl);have HSN:Hid (kz (l.take (k+1))=kz (l.take k)+aak l[k]∧aal (l.take (k+1)) 0=aal (l.take k) 0++ajh l[k] (kz (l.take k)) (aak l[k])):=hid (by rw[o5 hkl];exact⟨a9g _ _,a6o _ _⟩);have hkc:kz (l.take k)+aak l[k]≤1000:=by rw[← HSN.out.1];exact o8 (a9h l _) HC.out
   have HNB:=fun W=>hid (anf l[k] W)
   have d0:=(HO.out.2.cell (p:=⟨b',o'+k*4,none⟩) hq.2).trans c0;have d1:=(HO.out.2.cell (p:=⟨b',o'+k*4+1,none⟩) hq.2).trans c1;have d2:=(HO.out.2.cell (p:=⟨b',o'+k*4+2,none⟩) hq.2).trans c2;have d3:=(HO.out.2.cell (p:=⟨b',o'+k*4+3,none⟩) hq.2).trans c3;clear c0 c1 c2 c3;have HSK:Hid (∀j,ajh l[k] (kz (l.take k)) (j+1)=ajh l[k] (kz (l.take k)) j++[⟨l[k].sz,l[k].sg,kz (l.take k)+j⟩]):=hid (a6n l[k] (kz (l.take k)));have HS0:Hid (ajh l[k] (kz (l.take k)) 0=[]):=hid rfl;generalize l[k]=p at *;generalize kz (l.take k)=K at *;generalize aal (l.take k) 0=S at *;obtain⟨nm,sz,sg,mn⟩:=p;generalize aak ⟨nm,sz,sg,mn⟩=r at *;generalize ajh ⟨nm,sz,sg,mn⟩ K=sk at *;dsimp only at *;have i1:(k:Int)<N:=by omega
   have i2:(0:Int) ≤(k:Int):=n8 _;have HT:Hid (ajo (wr.alloc (.cells #[.string nm,.int .i64 sz,.bool sg,.int .i64 mn] 261)) wr.1.size 261 #[.string nm,.int .i64 sz,.bool sg,.int .i64 mn]):=hid (ajo.new _ _ _);have HO1:=hid (HO.out.on (qa wr (.cells #[.string nm,.int .i64 sz,.bool sg,.int .i64 mn] 261)));go_upto_region 5 with fail;clear d0 d1 d2 d3 HO;generalize wr.alloc (.cells #[.string nm,.int .i64 sz,.bool sg,.int .i64 mn] 261)=W2 at *;generalize wr.1.size=q at *;have x0:=HT.out.cell 0 (v:=.string nm) rfl;have x1:=HT.out.cell 1 (v:=.int .i64 sz) rfl;have x2:=HT.out.cell 2 (v:=.bool sg) rfl;have x3:=HT.out.cell 3 (v:=.int .i64 mn) rfl;go_wp2_with fail;refine(HNB W2).out.mono ?_;rintro e W3 ⟨rfl,hb⟩;have HT2:=hid (HT.out.on hb);have HO2:=hid (HO1.out.on hb);clear hb x0 x1 x2 x3 HT HO1;go_wp2_with fail
   go_loopg [4,19] r (fun t2 s4 s19 wr=>∃j:Nat,j≤r∧r-j≤t2∧s19=.int .i64 j∧Hid (aax w 208 3 s4 (K+j) (zr (S++sk j)) wr)∧Hid (ajo wr q 261 #[.string nm,.int .i64 sz,.bool sg,.int .i64 mn]))
   case atStart=>exact⟨0,by omega,by omega,rfl,by rw[HS0.out,b0k];exact HO2.out,HT2.out⟩
   case round=>
    rename_i s4;obtain⟨j,hj,ht2,rfl,HO,HT⟩:=hrel;clear HO2 HT2;obtain⟨A1,c1,hs1,-,-⟩:=HO.out.flat;subst hs1
    by_cases hjr:j<r
    ·have x1:=HT.out.cell 1 (v:=.int .i64 sz) rfl;have x2:=HT.out.cell 2 (v:=.bool sg) rfl;have j1:(j:Int)<r:=by omega
     have hO3:=HO.out.on (qa wr (.cells #[.int .i64 sz,.bool sg,.int .i64 ((K+j:Nat):Int)] 208));obtain⟨v',w3,hrun,ho,hbl,hap⟩:=bak (P:=prog) (t:=202) (ty:=202) hO3.1 hO3.2.size HIN.out underlying202 rfl dc (R:=fun _=>True) (some ⟨wr.1.size,0,none⟩) 1 1 [.int .i64 sz,.bool sg,.int .i64 ((K+j:Nat):Int)] rfl ((Blk.newL (qg wr _ _) rfl).flat trivial) (a1v ⟨sz,sg,K+j⟩) (by unfold maxLen;omega) om;have HRUN:=hid hrun
     have HO4:Hid (aax w 208 3 v' (K +(j+1)) (zr (S++sk (j+1))) w3):=hid (by
      rw[HSK.out,← b0l,bbw,← b20];exact⟨ho,hO3.2.trans hbl⟩)
     have HT4:=hid (hap _ _ _ (HT.out.on (qa wr (.cells #[.int .i64 sz,.bool sg,.int .i64 ((K+j:Nat):Int)] 208))) dc);clear hO3 hrun ho hbl hap;go_wp2_with (at_builtin;refine qw rfl _ _ 202 rfl _ _ _ rfl rfl HRUN.out ?_)
     go_roundg (r-(j+1))
     case measure=>omega
     case rel=>exact⟨j+1,by omega,by omega,by go_num,HO4,HT4⟩
    ·obtain rfl:j=r:=by omega
     have HO5:Hid (aax w 208 3 (.slice A1 (K+j) c1) (kz (l.take (k+1))) (zr (aal (l.take (k+1)) 0)) wr):=hid (by rw[HSN.out.1,HSN.out.2];exact HO.out);go_wp2_with fail
     go_roundg (N-(k+1))
     case measure=>omega
     case rel=>exact⟨k+1,by omega,by omega,by go_num,HO5⟩
  ·obtain rfl:k=N:=by omega
   have HO2:=hid HO.out;rw[HE.out]at HO2;clear HO;have HSL:=hid (o4 (amh l) (a1y l HP.out));have hlp:=at8 l 0;obtain⟨A1,c1,hs1,-,hf1⟩:=HO2.out.flat;subst hs1;have HST:=hid (aw4 A1 (aal l 0) c1 hf1 (by rw[hlp];exact HC.out));rw[hlp]at HST;have HSE:Hid (agy gtS (aal l 0)=aeg l∧acc l=(aeg l).map fun x=>afy x.sz x.sg):=hid ⟨rfl,rfl⟩;rw[HSE.out.1]at HST;have HFS:=hid HSE.out.2;have HBW:=hid HO2.out.2;unfold auq at *;have HMC:=hid HC.out;clear hlp hf1 HO2 HSE;generalize aeg l=s at *;obtain⟨fs,hfs⟩:∃fs,acc l=fs:=⟨_,rfl⟩;rw[hfs]at HFS;have HF0:=hid hfs;clear hfs;obtain⟨M,hM⟩:∃M,kz l=M:=⟨_,rfl⟩;simp only[hM]at *;clear hM;have hmc:M≤1000:=HMC.out;go_wp2_with fail;refine HST.out.mono ?_;rintro e W6 ⟨g,rfl,hk6,hg6,hb6⟩;have HK6:=hid hk6;have HG6:=hid (o8 HBW.out.size hg6);have HB6:=hid (qb HBW.out hb6);clear hk6 hg6 hb6 HST HBW;go_wp2_with fail
   go_loopg [7,37] M (fun t s7 s37 wr=>∃k:Nat,k≤M∧M-k≤t∧s37=.int .i64 k∧Hid (aax W6 270 4 s7 k (acl ((s.take k).map fun x=>afy x.sz x.sg)) wr))
   case atStart=>exact⟨0,by omega,by omega,rfl,aax.nil _ _ _ (n6 _ _)⟩
   case round=>
    rename_i s7;obtain⟨j,hj,ht2,rfl,HO⟩:=hrel;obtain⟨A2,c2,hs2,-,hfl⟩:=HO.out.flat;subst hs2
    by_cases hjm:j<M
    ·have hjl:j<s.length:=by rw[HSL.out.1];exact hjm
     have HKR:=HK6.out.on HO.out.2;obtain⟨b',o',hA,-,c0,c1',c2'⟩:=aq8 (HKR.flat (Q:=fun _=>True) trivial) j hjl;injection hA with hA
     injection hA with hA1 hA2
     subst hA1 hA2;rw[b0e]at c0 c1' c2';have HSN:Hid (((s.take (j+1)).map fun x=>afy x.sz x.sg)=((s.take j).map fun x=>afy x.sz x.sg)++[afy s[j].sz s[j].sg]):=hid (by rw[o5 hjl,b1y];rfl);have hso:=HSL.out.2 s[j] (b1c hjl);have HAN:=fun W=>hid (aq2 s[j].sz s[j].sg W hso.1 hso.2)
     generalize s[j]=x at *;obtain⟨sz,sg,ix⟩:=x;dsimp only at *;unfold yj aby at HAN;generalize afy sz sg=f at *;obtain⟨fz,fg,flo,fhi⟩:=f;dsimp only at *;have i1:(j:Int)<M:=by omega
     have i2:(0:Int) ≤(j:Int):=n8 _;have HN1:Hid (Blk (wr.alloc (.cells #[.int .i64 sz,.bool sg,.int .i64 ix] 208)) wr.1.size [.int .i64 sz,.bool sg,.int .i64 ix]):=hid (Blk.newL (qg wr _ _) rfl);have HO1:=hid (HO.out.on (qa wr (.cells #[.int .i64 sz,.bool sg,.int .i64 ix] 208)));go_upto_region 15 with fail;clear c0 c1' c2' HKR HO hfl;generalize wr.alloc (.cells #[.int .i64 sz,.bool sg,.int .i64 ix] 208)=W7 at *;generalize wr.1.size=q at *;have x0:=HN1.out.cell 0 (v:=.int .i64 sz) rfl;have x1:=HN1.out.cell 1 (v:=.bool sg) rfl;go_wp2_with fail;refine(HAN W7).out.mono ?_;rintro e W8 ⟨rfl,hb⟩;have hO3:=(HO1.out.on hb).on (qa W8 (.cells #[.int .i64 fz,.bool fg,.int .i64 flo,.int .i64 fhi] 270));obtain⟨v',w3,hrun,ho⟩:=aax.app (P:=prog) (t:=203) (ty:=203) hO3 HIF.out underlying203 rfl dc (R:=fun _=>True) (some ⟨W8.1.size,0,none⟩) 1 1 [.int .i64 fz,.bool fg,.int .i64 flo,.int .i64 fhi] rfl ((Blk.newL (qg W8 _ _) rfl).flat trivial) (ath [⟨fz,fg,flo,fhi⟩]) (by have:=HMC.out;unfold maxLen;omega) (by have:=HMC.out;omega)
     have HRUN:=hid hrun;have HO4:Hid (aax W6 270 4 v' (j+1) (acl ((s.take (j+1)).map fun x=>afy x.sz x.sg)) w3):=hid (by rw[HSN.out,atg];exact ho);clear hb hO3 hrun ho x0 x1;go_wp2_with (at_builtin;refine qw rfl _ _ 203 rfl _ _ _ rfl rfl HRUN.out ?_)
     go_roundg (M-(j+1))
     case measure=>omega
     case rel=>exact⟨j+1,by omega,by omega,by go_num,HO4⟩
    ·obtain rfl:j=M:=by omega
     have HEND:Hid (Blk wr g (zr s)∧qf (fun b=>w.1.size≤b∧b<wr.1.size) wr A2 (acl fs)∧w.1.size≤g∧Below w.1.size w wr):=hid (by
      refine⟨HK6.out.on HO.out.2,?_,HG6.out,qb HB6.out HO.out.2⟩;have e:s.take j=s:=by rw[← HSL.out.1,b0o]
      rw[HFS.out,← e];exact hfl.less fun b q=>⟨o8 HB6.out.size q.1,q.2⟩)
     clear hfl HO;go_wp2_with fail
     go_ret2
     exact⟨g,A2,c2,rfl,by rw[HF0.out];exact HEND.out⟩
def bcy (f:TFm):Prop:=f.1.size≤100∧f.2.length≤1000∧kz f.2≤1000∧∀p∈f.2,arv p
def fmB (f:TFm):Bool:=decide (f.1.size≤100) && (decide (f.2.length≤1000) && (decide (kz f.2≤1000) && f.2.all fun p=>(decide (p.sz=1) || (decide (p.sz=2) || (decide (p.sz=4) || decide (p.sz=8)))) && (decide (p.mn≤64) && decide (p.nm.size≤100))))
theorem apy {f:TFm} (h:fmB f=true):bcy f:=by
 simp only[fmB,b0d,b4h,b1b,b11]at h;exact⟨h.1,h.2.1,h.2.2.1,fun p hp=>h.2.2.2 p hp⟩
theorem bgb (i : Int) : fmB (agn i) = true := by unfold agn;repeat' split
                                                 all_goals decide +kernel
theorem bbf (i : Int) : fmB (adj i) = true := by unfold adj;repeat' split
                                                 all_goals decide +kernel
theorem bde (i : Int) : fmB (afz i) = true := by unfold afz;repeat' split
                                                 all_goals decide +kernel
theorem bld (i : Int) : fmB (av0 i) = true := by unfold av0;repeat' split
                                                 all_goals decide +kernel
theorem ahf (i:Int):bcy (xe i):=by
 unfold xe
 split
 ·exact apy (bgb i)
 split
 ·exact apy (bbf i)
 split
 ·exact apy (bde i)
 split
 ·exact apy (bld i)
 ·exact apy (by decide +kernel)
def be6 (f:TFm) (b:List UInt8):Int×List Int:=
 if f.1=ByteArray.empty then(6,[])else
  if(xk (acc f.2) b).1=0 then(0,yr (aeg f.2) (xk (acc f.2) b).2 (List.replicate (kz f.2) 0))else((xk (acc f.2) b).1,[])
theorem a76 (i:Nat) (b:List UInt8):aiz i b=be6 (xe i) b:=rfl
theorem am9:∀(s:List Slt) (v:List Int) (x:Slt) (y:Int) (out:List Int),s.length=v.length→yr (s++[x]) (v++[y]) out=(yr s v out).set x.ix y
 | [],[],x,y,out,_=>rfl
 | s::l,z::v,x,y,out,h=>by
  simp only[b02,yr];exact am9 l v x y _ (by simpa using h)
 | [],_::_,_,_,_,h=>by cases h
 | _::_,[],_,_,_,h=>by cases h
theorem age:∀(s:List Slt) (v:List Int) (out:List Int),(yr s v out).length=out.length
 | [],[],_=>rfl
 | [],_::_,_=>rfl
 | _::_,[],_=>rfl
 | s::l,z::v,out=>by
  simp only[yr];rw[age l v,b3u]
theorem a95 (l:List Int) (k:Nat) (x:Int):qr (l.set k x)=(qr l).set k (.int .i64 x):=by
 unfold qr;rw[List.map_set]
theorem a1x:∀(l:List Prt) (n:Nat),∀x∈aal l n,x.ix<n+kz l
 | [],n,x,h=>by simp[aal]at h
 | p::l,n,x,h=>by
  have e:kz (p::l)=aak p+kz l:=by simp[kz]
  simp only[aal,b1u,b2c,List.mem_range]at h;rcases h with⟨j,hj,rfl⟩|h
  ·dsimp only;omega
  ·have:=a1x l _ x h;omega
theorem bga (l:List Prt):∀x∈aeg l,x.ix<kz l:=fun x hx=>by
 have:=a1x l 0 x ((agj _ _).mem_iff.1 hx);omega
theorem a3n (n:Nat) (s:Bool) (h1:1≤n) (h8:n≤8):yu (afy n s)=true:=by
 have:n=1∨n=2∨n=3∨n=4∨n=5∨n=6∨n=7∨n=8:=by omega
 cases s<;>rcases this with rfl|rfl|rfl|rfl|rfl|rfl|rfl|rfl<;>decide
theorem am0 (l:List Prt) (hp:∀p∈l,arv p):(acc l).all yu=true:=by
 rw[b11];intro f hf;obtain⟨s,hs,rfl⟩:=b2c.1 hf;have:=a1y l hp s hs;exact a3n _ _ this.1 this.2
theorem al0 (l:List Prt):(acc l).length=kz l:=by unfold acc;rw[b0s,amh]
theorem ky.no (E:Int) {w w':World} (hb:Below w.1.size w w'):ky (E,[]) w (.returned (.tuple #[.slice none 0 0,.int .i64 E])) w':=⟨none,0,rfl,qf.nil _ _ _,hb⟩
theorem ky.yes {n:Nat} {v:List Int} (hn:v.length=n) {g:Nat} {w w':World} (hk:Blk w' g (qr v)) (hg:w.1.size≤g) (hb:Below w.1.size w w'):ky (0,v) w (.returned (.tuple #[.slice (some ⟨g,0,none⟩) n n,.int .i64 0])) w':=⟨_,_,by rw[← hn],hk.flat ⟨hg,hk.lt⟩,hb⟩
theorem ahu {Q:Nat→Prop} {w:World} (i:Nat) (X:Option Addr) (d:Nat) (b:List UInt8) (hB:qf Q w X (bsV b)) (hl:b.length≤1000000) :
 Calls prog 68 #[.int .i64 i,.slice X b.length d] w (ky (aiz i b) w):=by
 have H:=hid (aht (i:Int) w);have hfo:=ahf (i:Int);rw[a76];have HBW:=fun W (hW:Below w.1.size w W)=>hB.lt.below hW (fun b q=>q.2)
 generalize xe (i:Int)=f at *;obtain⟨nm,l⟩:=f;obtain⟨-,hm,hc,hp⟩:=hfo;unfold xy at H;dsimp only at *;have HSL:∀W A c,qf (fun b=>w.1.size≤b∧b<W.1.size) W A (q7 l)→Hid (Calls prog 90 #[.agg #[.string nm,.slice A l.length c]] W (auq l W)):=fun W A c h=>hid (aw1 nm A l c h hm hc hp)
 have HSH:∀W B e,Below w.1.size w W→ake W B (acc l)→Hid (Calls prog 91 #[.slice B (kz l) e,.slice X b.length d] W (ky (xk (acc l) b) W)):=fun W B e hW h=>hid (by
  have:=ang B X e d (acc l) b h (am0 l hp) (by rw[al0];exact hc) (HBW W hW) hl
  rwa [al0]at this)
 have HOK:Hid ((xk (acc l) b).1=0 →(xk (acc l) b).2.length=kz l):=hid (fun q=>by rw[ami _ _ (ald q),al0]);have HSX:Hid ((aeg l).length=kz l∧∀x∈aeg l,x.ix<kz l):=hid ⟨amh l,bga l⟩;obtain⟨res,hres⟩:∃res,be6 (nm,l) b=res:=⟨_,rfl⟩;rw[hres];have HRES:=hid hres;have HC:=hid hc;generalize b.length=bl at *;clear hp hm hB HBW hres hc;go_enter func68,ntmps68;go_wp2_with fail;refine(H.out).mono ?_;rintro e w1 ⟨A,c,rfl,hf,hb⟩;have HF:=hid hf;have HB:=hid hb;clear hf hb H;have HN:Hid (Blk (w1.alloc (.cells #[.string nm,.slice A l.length c] 200)) w1.1.size [.string nm,.slice A l.length c]):=hid (Blk.newL (qg w1 _ _) rfl);have HB2:=hid (qb HB.out (qa w1 (.cells #[.string nm,.slice A l.length c] 200)));have HF2:=hid (abj HF.out (qa w1 (.cells #[.string nm,.slice A l.length c] 200)) (a8 _));go_upto_region 2 with fail;clear HF HB;generalize w1.alloc (.cells #[.string nm,.slice A l.length c] 200)=W2 at *
 generalize w1.1.size=fb at *;have n0:=HN.out.cell 0 (v:=.string nm) rfl;have n1:=HN.out.cell 1 (v:=.slice A l.length c) rfl
 by_cases hn:nm=⟨#[]⟩
 ·have hr:res=(6,[]):=by rw[← HRES.out];unfold be6;exact if_pos hn
  subst hn;subst hr;go_wp2_with fail
  go_ret2
  exact ky.no 6 HB2.out
 have hn2:=amk hn;have HR2:Hid (res=if(xk (acc l) b).1=0 then(0,yr (aeg l) (xk (acc l) b).2 (List.replicate (kz l) 0))else((xk (acc l) b).1,[])):=hid (by rw[← HRES.out];unfold be6;exact if_neg hn);clear hn HRES;have HS2:=HSL W2 A c HF2.out;unfold auq at HS2;generalize l.length=ln at *;generalize aeg l=s at *;generalize acc l=fs at *;generalize kz l=M at *;go_wp2_with fail;refine HS2.out.mono ?_;rintro e W3 ⟨g,B,d3,rfl,hk,hfl,hg,hb⟩;have HG3:=hid (o4 hk (o8 HB2.out.size hg));have HB3:=hid (qb HB2.out hb);have HT3:=HSH W3 B d3 HB3.out (hfl.less fun b q=>q.2);unfold ky at HT3;generalize xk fs b=r at *;obtain⟨E,v⟩:=r;dsimp only at *;clear hk hfl hg hb n0 n1 hn2 HSL HSH HN HB2 HF2 HS2;go_wp2_with fail;refine HT3.out.mono ?_;rintro e W4 ⟨A4,c4,rfl,hf,hb⟩;have HF4:=hid hf;have HB4:=hid (qb HB3.out hb);have HG4:=hid (o4 (HG3.out.1.on hb) HG3.out.2);clear hf hb HT3 HB3 HG3
 by_cases hE:E=0
 ·subst hE;have HVL:Hid (v.length=M):=hid (HOK.out rfl);have hr:res=(0,yr s v (List.replicate M 0)):=by rw[HR2.out];exact if_pos rfl
  have HRS:=hid hr;clear hr HR2 HOK;rw[HVL.out];obtain⟨i0,hi,hz0,hz1,hz2⟩:=kj a1u;have HI:=hid hi;have HZ:=hid (o4 hz0 (o4 hz1 hz2));clear hi hz0 hz1 hz2;go_wp2_with (refine yz rfl _ _ 49 2 rfl i0 _ underlying49 HI.out HZ.out.1 .i64 .i64 M rfl rfl (by rw[HZ.out.2.2];have:=HC.out;omega) (by have:=HC.out;omega) ?_;intro W5 hG;have HG:=hid hG;clear hG);have e0:(madeCells (Value.int .i64 0).cells (M*i0.size)).toList=qr (List.replicate M 0):=by rw[HZ.out.2.1];exact a70 M
  have HK5:Hid (Blk W5 W4.1.size (qr (yr (s.take 0) (v.take 0) (List.replicate M 0)))):=hid (by
   rw[b10,b10];exact Blk.newL HG.out e0)
  have HB5:Hid (Below w.1.size w W5):=hid (qb HB4.out HG.out.bel);have HG5:Hid (Blk W5 g (zr s)∧g<W4.1.size):=hid ⟨HG4.out.1.on HG.out.bel,HG4.out.1.lt⟩;have HF5:Hid (qf (fun b=>b<W4.1.size) W5 A4 (qr v)):=hid ((HF4.out.below HG.out.bel (fun b q=>q.2)).less fun b q=>q.2);have HS4:=hid HB4.out.size;clear HG HI HZ e0 HF4 HG4 HB4;generalize W4.1.size=go at *;go_wp2_with fail
  go_loopg [38] M (fun h s38 wr=>∃k:Nat,k≤M∧M-k≤h∧s38=.int .i64 k∧Hid (Blk wr go (qr (yr (s.take k) (v.take k) (List.replicate M 0))))∧Hid (Below go W5 wr)∧Hid (Below w.1.size w wr))
  case atStart=>exact⟨0,b0c _,by omega,rfl,HK5.out,n6 _ _,HB5.out⟩
  case round=>
   obtain⟨k,hk,hg,rfl,HK,HW,HB⟩:=hrel
   by_cases hlt:k<M
   ·have hks:k<s.length:=by rw[HSX.out.1];exact hlt
    have hkv:k<v.length:=by rw[HVL.out];exact hlt
    have hix:=HSX.out.2 _ (b1c hks)
    have HPN:Hid (yr (s.take (k+1)) (v.take (k+1)) (List.replicate M 0)=(yr (s.take k) (v.take k) (List.replicate M 0)).set s[k].ix v[k]):=hid (by
     rw[o5 hks,o5 hkv];exact am9 _ _ _ _ _ (by rw[l7,l7];omega))
    have HPL:Hid ((yr (s.take k) (v.take k) (List.replicate M 0)).length=M):=hid (by rw[age,b1h]);have hgk:Blk wr g (zr s):=HG5.out.1.below HW.out HG5.out.2;obtain⟨b',o',hA,-,c0,c1',c2'⟩:=aq8 (hgk.flat (Q:=fun _=>True) trivial) k hks;injection hA with hA
    injection hA with hA1 hA2
    subst hA1 hA2;rw[b0e]at c0 c1' c2';have hvk:(qr v)[k]?=some (.int .i64 v[k]):=by unfold qr;rw[b0m,c8 hkv];rfl
    obtain⟨bv,ov,rfl,hbv,hcv⟩:=HF5.out k _ hvk;have hcv2:wr.cell? ⟨bv,ov+k,none⟩=some (.int .i64 v[k]):=(HW.out.cell (p:=⟨bv,ov+k,none⟩) hbv).trans hcv;generalize s[k]=x at *;generalize v[k]=y at *;generalize yr (s.take k) (v.take k) (List.replicate M 0)=P at *;obtain⟨sz,sg,ix⟩:=x;dsimp only at *;have hmc:=HC.out;have i1:(k:Int)<M:=by omega
    have i2:(0:Int) ≤(k:Int):=n8 _;have i3:(ix:Int)<M:=by omega
    have i4:(0:Int) ≤(ix:Int):=n8 _;have HN1:Hid (Blk (wr.alloc (.cells #[.int .i64 sz,.bool sg,.int .i64 ix] 208)) wr.1.size [.int .i64 sz,.bool sg,.int .i64 ix]):=hid (Blk.newL (qg wr _ _) rfl);have HK1:=hid (HK.out.on (qa wr (.cells #[.int .i64 sz,.bool sg,.int .i64 ix] 208)));have HW1:Hid (Below go W5 (wr.alloc (.cells #[.int .i64 sz,.bool sg,.int .i64 ix] 208))):=hid (HW.out.trans ((qa wr _).mono (b14 HK.out.lt)));have HBB1:=hid (qb HB.out (qa wr (.cells #[.int .i64 sz,.bool sg,.int .i64 ix] 208)));have HQ:=hid HK.out.lt;have hcv3:(wr.alloc (.cells #[.int .i64 sz,.bool sg,.int .i64 ix] 208)).cell? ⟨bv,ov+k,none⟩=some (.int .i64 y):=((qa wr _).cell (p:=⟨bv,ov+k,none⟩) (aa3 hcv2)).trans hcv2;clear hvk hcv hgk hix hks hkv;go_upto_region 12 with fail;clear c0 c1' c2' HK HW HB hcv2;generalize wr.alloc (.cells #[.int .i64 sz,.bool sg,.int .i64 ix] 208)=W7 at *
    generalize wr.1.size=q at *;have x2:=HN1.out.cell 2 (v:=.int .i64 ix) rfl;have hpl:ix<(qr P).length:=by rw[jm,HPL.out];omega
    have hst:=HK1.out.set hpl (.int .i64 y);have o1:W7.cell? ⟨go,ix,none⟩=some ((qr P)[ix]):=HK1.out.cell ix (c8 hpl);have o2:=HK1.out.fz ix;have HEND:Hid (Blk (W7.setCell ⟨go,ix,none⟩ (.int .i64 y)) go (qr (P.set ix y))∧Below go W5 (W7.setCell ⟨go,ix,none⟩ (.int .i64 y))∧Below w.1.size w (W7.setCell ⟨go,ix,none⟩ (.int .i64 y))):=hid ⟨by rw[a95];exact hst.1,HW1.out.trans (hst.2.below (a8 _)),HBB1.out.trans (hst.2.below HS4.out)⟩;generalize (qr P)[ix]=old at *;clear hst hpl HK1 HW1 HBB1 HN1
    go_region
    go_wp2_with fail
    go_roundg (M-(k+1))
    case measure=>omega
    case rel=>exact⟨k+1,by omega,by omega,by go_num,by rw[HPN.out];exact HEND.out.1.drew,HEND.out.2.1.drew,HEND.out.2.2.drew⟩
   ·obtain rfl:k=M:=by omega
    have e1:s.take k=s:=by rw[← HSX.out.1,b0o]
    have e2:v.take k=v:=by rw[← HVL.out,b0o]
    have HEND:Hid (Blk wr go (qr (yr s v (List.replicate k 0)))∧Below w.1.size w wr∧w.1.size≤go):=hid ⟨by have:=HK.out;rwa [e1,e2]at this,HB.out,HS4.out⟩;have HPL:Hid ((yr s v (List.replicate k 0)).length=k):=hid (by rw[age,b1h]);clear e1 e2 HK HW HB;go_wp2_with fail
    go_ret2
    rw[HRS.out];exact ky.yes HPL.out HEND.out.1 HEND.out.2.2 HEND.out.2.1
 ·have hr:res=(E,[]):=by rw[HR2.out];exact if_neg hE
  have hE2:(E != 0)=true:=by rw[b0g];exact hE
  subst hr;clear hE HR2 HOK;go_wp2_with fail
  go_ret2
  exact ky.no E HB4.out
theorem bjr {f:TFm} (h:bcy f):SmP f.2:=fun p hp=>by
 have:=h.2.2.2 p hp;unfold arv at this;omega
theorem bk4 {f:TFm} (h:bcy f):ym f.2≤1000000:=by
 have:=axx f.2 (bjr h);have:=h.2.1;omega
def aq5 (i:Nat):Nat:=if ym (xe i).2=0 then 0 else ym (xe i).2+8
theorem ab6 (i:Nat) (w:World):Calls prog 64 #[.int .i64 i] w fun e w'=>e=.returned (.int .i64 (aq5 i:Int))∧Below w.1.size w w':=by
 have hfo:=ahf (i:Int);have HW:=hid (aw9 (i:Int) w hfo.2.1 (bjr hfo));have hle:=bk4 hfo;unfold aq5;generalize ym (xe (i:Int)).2=n at *;clear hfo
 by_cases h0:n=0
 ·subst h0;rw[if_pos rfl];go_enter func64,ntmps64;go_wp2_with fail;refine(HW.out).mono ?_;rintro e w1 ⟨rfl,hb⟩;have HB:=hid hb;clear hb;go_wp2_with fail;go_ret;exact⟨rfl,HB.out⟩
 ·rw[if_neg h0];have hn:(0:Int)<(n:Int):=by omega
  clear h0;go_enter func64,ntmps64;go_wp2_with fail;refine(HW.out).mono ?_;rintro e w1 ⟨rfl,hb⟩;have HB:=hid hb;clear hb;go_wp2_with fail;go_ret
  exact ⟨by have e:(6:Int) +(n:Int)+2=((n+8:Nat):Int):=by omega
            rw[e];rfl,HB.out⟩
def are (i:Nat) (l:List UInt8):Nat:=act (xf 65535 l) (ant (xe i))
theorem a7x (f:TFm) (h:bcy f):ant f<256:=by
 unfold ant
 split
 ·omega
 ·dsimp only;have h1:(afq f.2).foldl yn (xf 65535 (f.1 ++⟨#[32]⟩).data.toList)<65536:=af7 _ (aa0 _ dc) (fun p hp=>h.2.2.2 p ((agj gtP f.2).mem_iff.1 hp));exact Nat.xor_lt_two_pow (n:=8) om om
theorem bi9 (i:Nat) (l:List UInt8):are i l<65536:=aju (aa0 _ dc) (b05 (a7x _ (ahf _)) dc)
def ahy (i:Nat) (l:List UInt8):List UInt8:=[UInt8.ofNat (are i l%256),UInt8.ofNat (are i l / 256)]
theorem aj9 {Q:Nat→Prop} {w:World} (i:Nat) (A:Option Addr) (l:List UInt8) (c:Nat) (h:qf Q w A (bsV l)) (hm:l.length≤1000000) :
 Calls prog 67 #[.int .i64 i,.slice A l.length c] w fun e w'=>∃g,e=.returned (.slice (some ⟨g,0,none⟩) 2 2)∧Blk w' g (bsV (ahy i l))∧w.1.size≤g∧Below w.1.size w w':=by
 have hfo:=ahf (i:Int);have HX:=fun W=>hid (awu (i:Int) W hfo.2.1 hfo.1 hfo.2.2.2)
 have HO:∀W g,W.cell? ⟨g,0,none⟩=some (.slice A l.length c)→Below w.1.size w W→Hid (Calls prog 87 #[.slice (some ⟨g,0,none⟩) 1 1] W fun e w'=>e=.returned (.int .u16 (xf 65535 l:Int))∧Below W.1.size W w'):=fun W g hg hW=>hid (a9k g A l c hg (h.lt.below hW (fun b q=>q.2)) hm)
 have hc:xf 65535 l<65536:=aa0 _ dc;have hx:=a7x _ hfo;have HS:=fun W=>hid (amz (xf 65535 l) (ant (xe (i:Int))) W hc hx)
 have hs:act (xf 65535 l) (ant (xe (i:Int)))<65536:=aju hc om;unfold ahy are;generalize act (xf 65535 l) (ant (xe (i:Int)))=s at *;generalize ant (xe (i:Int))=x at *;generalize xf 65535 l=k at *
 have hs1:bsV [UInt8.ofNat (s%256),UInt8.ofNat (s / 256)]=[.int .u8 ((s:Int)%256),.int .u8 ((s:Int) / 256)]:=by
  unfold bsV bV;simp only[b2l,b44,b3x];rw[b2x (show s%256<2^8 by omega),b2x (show s / 256<2^8 by omega)];rfl
 rw[hs1];generalize l.length=n at *;have HSL:=hid hs;clear hfo h hm hs1 hc hx;have hs0:(s:Int)<65536:=by omega
 go_enter func67,ntmps67;go_wp2_with fail;have HG0:Hid (Blk (w.alloc (.cells #[.slice A n c] 22)) w.1.size [.slice A n c]):=hid (Blk.newL (qg w _ _) rfl);refine(HO _ w.1.size (HG0.out.cell 0 rfl) (qa _ _)).out.mono ?_;rintro e w1 ⟨rfl,hb⟩;have HB1:=hid (qb (qa _ _) hb);clear hb HG0 HO;go_wp2_with fail;refine(HX w1).out.mono ?_;rintro e w2 ⟨rfl,hb⟩;have HB2:=hid (qb HB1.out hb);clear hb HB1 HX;go_wp2_with (refine(HS _).out.mono ?_;rintro e w' ⟨rfl,rfl⟩);go_ret;exact⟨w2.1.size,rfl,Blk.newL (qg _ _ _) rfl,HB2.out.size,qb HB2.out (qa _ _)⟩
theorem af8 {w:World} {a b off:Nat} (m n c:Nat) (h:Blk w a [.slice (some ⟨b,off,none⟩) m c]) (hn:n≤m) (hmc:m≤c) :
 Calls prog 65 #[.pointer (some ⟨a,0,none⟩),.int .i64 n] w fun e w'=>e=.returned (.slice (some ⟨b,off,none⟩) n n)∧Blk w' a [.slice (some ⟨b,if n=c then off else off+n,none⟩) (m-n) (c-n)]∧qj (fun k=>k≠a) w w'∧w'.1.size=w.1.size:=by
 have c0:=h.cell 0 (v:=.slice (some ⟨b,off,none⟩) m c) rfl;have z0:=h.fz 0;have i0:(0:Int) ≤(n:Int):=n8 _;have i1:(n:Int) ≤(m:Int):=by omega
 have i2:(m:Int) ≤(c:Int):=by omega
 have hst:∀v,v.oneCell'=true→qp w (w.setCell ⟨a,0,none⟩ v) a 0 [v]:=fun v _=>ze (h.there 0 1 (a8 _))
 have HST:=hid hst;have HH:=hid h;clear h hst
 by_cases hc:n=c
 ·obtain rfl:m=n:=by omega
  subst hc;go_enter func65,ntmps65;go_wp2_with fail;go_ret;have hs:=HST.out (.slice (some ⟨b,off,none⟩) 0 0) rfl;exact⟨rfl,HH.out.all hs rfl,(qj.refl _ _).stored hs (fun q=>q rfl),hs.sz⟩
 ·have i4:(n:Int)<(c:Int):=by omega
  go_enter func65,ntmps65;go_wp2_with fail;go_ret;have hs:=HST.out (.slice (some ⟨b,off+n,none⟩) (m-n) (c-n)) rfl;exact⟨rfl,HH.out.all hs rfl,(qj.refl _ _).stored hs (fun q=>q rfl),hs.sz⟩
theorem aj7 {Q R:Nat→Prop} {w:World} (A B:Option Addr) (c d:Nat) (x y:List UInt8) (hA:qf Q w A (bsV x)) (hB:qf R w B (bsV y)) (hx:x.length≤1000000) (hy:y.length≤1000000) :
 Calls prog 66 #[.slice A x.length c,.slice B y.length d] w fun e w'=>e=.returned (.bool (decide (x=y)))∧Below w.1.size w w':=by
 by_cases hnm:x.length=y.length
 ·have HA:=hid hA.lt;have HB:=hid hB.lt;have HPT:Hid (x=y→decide (x=y)=true):=hid fun h=>p9 h
  have HPF:Hid (x≠y→decide (x=y)=false):=hid fun h=>o3 h
  generalize decide (x=y)=R at *;rw[← hnm];have HXY:=hid hnm;generalize hn:x.length=n at *;have HX:=hid hn;have hnn:((n:Int) != (n:Int))=false:=by rw[t7]
  clear hn hA hB hnm hy;go_enter func66,ntmps66;go_wp2_with fail
  go_loopg [13] n (fun g s13 wr=>∃k:Nat,k≤n∧n-k≤g∧s13=.int .i64 k∧Hid (Below w.1.size w wr)∧Hid (∀j,j<k→x[j]?=y[j]?))
  case atStart=>exact⟨0,b0c _,by omega,rfl,n6 _ _,fun j hj=>absurd hj (b0v _)⟩
  case round=>
   obtain⟨k,hk,hg,rfl,HBW,HP⟩:=hrel
   by_cases hlt:k<n
   ·have hx1:k<x.length:=by rw[HX.out];exact hlt
    have hy1:k<y.length:=by rw[← HXY.out];exact hlt
    obtain⟨b1,o1,rfl,hq1,c1⟩:=HA.out k _ (vz hx1);obtain⟨b2,o2,rfl,hq2,c2⟩:=HB.out k _ (vz hy1);have d1:wr.cell? ⟨b1,o1+k,none⟩=some (.int .u8 (x[k].toNat:Int)):=(HBW.out.cell (p:=⟨b1,o1+k,none⟩) hq1.2).trans c1;have d2:wr.cell? ⟨b2,o2+k,none⟩=some (.int .u8 (y[k].toNat:Int)):=(HBW.out.cell (p:=⟨b2,o2+k,none⟩) hq2.2).trans c2;have i1:(0:Int) ≤(k:Int):=n8 _;have i2:(k:Int)<(n:Int):=by omega
    by_cases he:x[k]=y[k]
    ·have HP2:Hid (∀j,j<k+1→x[j]?=y[j]?):=hid (fun j hj=>by
      by_cases q:j<k
      ·exact HP.out j q
      ·obtain rfl:j=k:=by omega
       rw[c8 hx1,c8 hy1,he])
     have hxy:((x[k].toNat:Int) != (y[k].toNat:Int))=false:=by rw[t7,he]
     clear he HP hq1 hq2 c1 c2;generalize (x[k].toNat:Int)=u at *;generalize (y[k].toNat:Int)=v at *;clear hx1 hy1;go_wp2_with fail
     go_quiet (fail)
     go_wp2_with fail
     go_roundg (n-(k+1))
     case measure=>omega
     case rel=>exact⟨k+1,by omega,by omega,by go_num,aad HBW.out _,HP2⟩
    ·have HPN:=hid (HPF.out (fun q=>he (by subst q;rfl)))
     have hxy:((x[k].toNat:Int) != (y[k].toNat:Int))=true:=by
      rw[b0g];intro q;exact he (b1p.1 om)
     clear he HP hq1 hq2 c1 c2 HPF HPT;generalize (x[k].toNat:Int)=u at *;generalize (y[k].toNat:Int)=v at *;clear hx1 hy1;go_wp2_with fail
     go_quiet (fail)
     go_wp2_with fail;go_ret;rw[HPN.out];exact⟨rfl,aad HBW.out _⟩
   ·obtain rfl:k=n:=by omega
    have HPN:=hid (HPT.out (b2r fun j=>by
     by_cases q:j<k
     ·exact HP.out j q
     ·rw[t9 (by rw[HX.out];omega),t9 (by rw[← HXY.out];omega)]))
    clear HPT HPF;go_wp2_with fail;go_ret;rw[HPN.out];exact⟨rfl,HBW.out⟩
 ·have hne:((x.length:Int) != (y.length:Int))=true:=by rw[b0g];omega
  have HPN:Hid (decide (x=y)=false):=hid (o3 fun e=>hnm (by rw[e]));clear hnm hA hB;generalize decide (x=y)=R at *;generalize x.length=n at *;generalize y.length=m at *;go_enter func66,ntmps66;go_wp2_with fail;go_ret;rw[HPN.out];exact⟨rfl,n6 _ _⟩
def bma (p:aha) (vs:Value):List Value:=[.int .i64 p.sq,.int .i64 p.sy,.int .i64 p.cm,.int .i64 p.id,vs]
def aey (Q:Nat→Prop) (w:World) (L:List Value) (p:aha):Prop:=∃vs,L=bma p vs∧aas 2 1 Q w vs p.V
theorem aas.one {t:TypeId} {size:Nat} {Q:Nat→Prop} {w:World} {v:Value} {X:List (List Lit)} (h:aas t size Q w v X):v.oneCell'=true:=by obtain⟨A,c,rfl,-⟩:=h;rfl
theorem aey.len {Q:Nat→Prop} {w:World} {L:List Value} {p:aha} (h:aey Q w L p):L.length=5:=by obtain⟨vs,rfl,-⟩:=h;rfl
theorem aey.ones {Q:Nat→Prop} {w:World} {L:List Value} {p:aha} (h:aey Q w L p):∀v∈L,v.oneCell'=true:=by
 obtain⟨vs,rfl,h⟩:=h;intro v hv;simp only[bma,b0z,b2d,b4o]at hv;rcases hv with rfl|rfl|rfl|rfl|rfl<;>first|rfl|exact h.one
theorem aey.keep {Q:Nat→Prop} {w w':World} {L:List Value} {p:aha} (h:aey Q w L p) (hk:∀b,Q b→w'.heap[b]?=w.heap[b]?):aey Q w' L p:=by
 obtain⟨vs,rfl,h⟩:=h;exact⟨vs,rfl,h.keep hk⟩
theorem aey.less {Q R:Nat→Prop} {w:World} {L:List Value} {p:aha} (h:aey Q w L p) (hr:∀b,Q b→R b):aey R w L p:=by
 obtain⟨vs,rfl,h⟩:=h;exact⟨vs,rfl,h.less hr⟩
theorem aey.zero (Q:Nat→Prop) (w:World):aey Q w ac4 aaa:=⟨_,rfl,vg⟩
theorem aey.toV {Q:Nat→Prop} {w:World} {L:List Value} {p:aha} (h:aey Q w L p) (hq:∀b,Q b→b<w.1.size):a8u w L p:=by
 obtain⟨vs,rfl,h⟩:=h;exact⟨vs,rfl,h.toV hq⟩
def acn (x:Int×Nat×aha) (w:World) (e:Ending) (w':World):Prop:=∃L,e=.returned (.tuple #[.agg L.toArray,.int .i64 x.2.1,.int .i64 x.1])∧aey (fun b=>w.1.size≤b∧b<w'.1.size) w' L x.2.2∧Below w.1.size w w'
theorem bih {w1:World} {b:Nat} {x y z s t:Value} (hk:Blk w1 b [x,y,z,s,t]) (p q r u v:Value):(loadVar 62 ⟨b,0,none⟩).run prog (((((w1.setCell ⟨b,0,none⟩ p).setCell ⟨b,1,none⟩ q).setCell ⟨b,2,none⟩ r).setCell ⟨b,3,none⟩ u).setCell ⟨b,4,none⟩ v)=.ok (.agg #[p,q,r,u,v]) (((((w1.setCell ⟨b,0,none⟩ p).setCell ⟨b,1,none⟩ q).setCell ⟨b,2,none⟩ r).setCell ⟨b,3,none⟩ u).setCell ⟨b,4,none⟩ v) ∧
 qp w1 (((((w1.setCell ⟨b,0,none⟩ p).setCell ⟨b,1,none⟩ q).setCell ⟨b,2,none⟩ r).setCell ⟨b,3,none⟩ u).setCell ⟨b,4,none⟩ v) b 0 [p,q,r,u,v]:=by
 have hs:qp w1 (((((w1.setCell ⟨b,0,none⟩ p).setCell ⟨b,1,none⟩ q).setCell ⟨b,2,none⟩ r).setCell ⟨b,3,none⟩ u).setCell ⟨b,4,none⟩ v) b 0 [p,q,r,u,v]:=qo (cs:=[p,q,r,u,v]) (hk.there 0 5 (a8 _));exact⟨t6 (P:=prog) _ b 0 62 [p,q,r,u,v] _ (hk.all hs rfl).rg underlying62 rfl kr,hs⟩
def pkA:Array Value:=#[.int .i64 0,.int .i64 0,.int .i64 0,.int .i64 0,.slice none 0 0]
theorem ah1 {w w':World} (E:Int) (n:Nat) (hb:Below w.1.size w w'):acn (E,n,aaa) w (.returned (.tuple #[.agg pkA,.int .i64 n,.int .i64 E])) w':=⟨ac4,rfl,aey.zero _ _,hb⟩
theorem ac0 (w:World):(zeroValue 62).run prog w=.ok (.agg pkA) w:=by kernel_rfl
theorem aa7 (w:World):(Instr.build 62 #[]).run prog w=.ok (.agg pkA) w:=by kernel_rfl
theorem aes:pkA.all (·.oneCell')=true:=by decide +kernel
theorem aet:(prog.info? 62).map (·.size)=some pkA.size:=by kernel_rfl
theorem adi {W:World} {b:Nat} {L:List Value} (h:Blk W b L) (hl:L.length=5):(loadVar 62 ⟨b,0,none⟩).run prog W=.ok (.agg L.toArray) W:=
 t6 (P:=prog) W b 0 62 L _ h.rg underlying62 sm (by rw[hl];kernel_rfl)
theorem a2d {w:World} (A:Option Addr) (c:Nat):Calls prog 46 #[.slice A 0 c] w (acn (2,0,aaa) w):=by
 have HZ:=fun W=>hid (ac0 W)
 have HB0:=fun W=>hid (aa7 W)
 go_enter func46,ntmps46;go_upto_region 1 with(refine qc rfl 62 rfl pkA (HZ _).out ?_;intro W1 hW1;have HR1:=hid (Blk.newL (L:=pkA.toList) hW1 rfl);have HB1:=hid hW1.bel;clear hW1)
 go_wp2_with (first
  | refine zo rfl 62 rfl (HB0 _).out ?_
  | (refine qe rfl 62 _ _ rfl w.1.size 0 pkA rfl rfl (HR1.out.there 0 5 (a8 _)) aet aes ?_;intro W2 hs;have HR2:=hid (HR1.out.all hs rfl);have HB2:=hid (HB1.out.trans (hs.below (a8 _)));clear hs))
 have HLD:=hid (adi HR2.out rfl);exact b9 (v:=.tuple #[.agg pkA,.int .i64 0,.int .i64 2]) (by rw[zl rfl];simp[asAddr,Result.andThen];rw[HLD.out]) rfl (ah1 2 0 HB2.out)
def ByC (w:World) (b off i x:Nat):Prop:=∀W,Below w.1.size w W→W.cell? ⟨b,off+i,none⟩=some (.int .u8 (x:Int))
theorem ass {w:World} (b off n c x0:Nat) (h0:0<n) (hm:n≤1000000) (H0:Hid (ByC w b off 0 x0)) (hx:((x0:Int) != 254)=true):Calls prog 46 #[.slice (some ⟨b,off,none⟩) n c] w (acn (3,0,aaa) w):=by
 have HZ:=fun W=>hid (ac0 W)
 have HB0:=fun W=>hid (aa7 W)
 have hn0:(0:Int)<(n:Int):=by omega
 have hn1:((n:Int)==0)=false:=by rw[l6];omega
 go_enter func46,ntmps46;go_upto_region 1 with(refine qc rfl 62 rfl pkA (HZ _).out ?_;intro W1 hW1;have HR1:=hid (Blk.newL (L:=pkA.toList) hW1 rfl);have HB1:=hid hW1.bel;clear hW1)
 have d0:W1.cell? ⟨b,off,none⟩=some (.int .u8 (x0:Int)):=H0.out W1 HB1.out
 go_wp2_with (first
  | refine zo rfl 62 rfl (HB0 _).out ?_
  | (refine qe rfl 62 _ _ rfl w.1.size 0 pkA rfl rfl (HR1.out.there 0 5 (a8 _)) aet aes ?_;intro W2 hs;have HR2:=hid (HR1.out.all hs rfl);have HB2:=hid (HB1.out.trans (hs.below (a8 _)));clear hs))
 have HLD:=hid (adi HR2.out rfl);exact b9 (v:=.tuple #[.agg pkA,.int .i64 0,.int .i64 3]) (by rw[zl rfl];simp[asAddr,Result.andThen];rw[HLD.out]) rfl (ah1 3 0 HB2.out)
theorem ast {w:World} (b off n c:Nat) (h0:0<n) (h6:n<6) (H0:Hid (ByC w b off 0 254)):Calls prog 46 #[.slice (some ⟨b,off,none⟩) n c] w (acn (2,0,aaa) w):=by
 have HZ:=fun W=>hid (ac0 W)
 have HB0:=fun W=>hid (aa7 W)
 have hn0:(0:Int)<(n:Int):=by omega
 have hn6:(n:Int)<6:=by omega
 have hn1:((n:Int)==0)=false:=by rw[l6];omega
 go_enter func46,ntmps46;go_upto_region 1 with(refine qc rfl 62 rfl pkA (HZ _).out ?_;intro W1 hW1;have HR1:=hid (Blk.newL (L:=pkA.toList) hW1 rfl);have HB1:=hid hW1.bel;clear hW1)
 have d0:W1.cell? ⟨b,off,none⟩=some (.int .u8 254):=H0.out W1 HB1.out
 go_wp2_with (first
  | refine zo rfl 62 rfl (HB0 _).out ?_
  | (refine qe rfl 62 _ _ rfl w.1.size 0 pkA rfl rfl (HR1.out.there 0 5 (a8 _)) aet aes ?_;intro W2 hs;have HR2:=hid (HR1.out.all hs rfl);have HB2:=hid (HB1.out.trans (hs.below (a8 _)));clear hs))
 have HLD:=hid (adi HR2.out rfl);exact b9 (v:=.tuple #[.agg pkA,.int .i64 0,.int .i64 2]) (by rw[zl rfl];simp[asAddr,Result.andThen];rw[HLD.out]) rfl (ah1 2 0 HB2.out)
theorem axl {w:World} (b off n c x5:Nat) (h6:6≤n) (hm:n≤1000000) (h5:x5<256) (H0:Hid (ByC w b off 0 254)) (H5:Hid (ByC w b off 5 x5)) (hs:aq5 x5=0):Calls prog 46 #[.slice (some ⟨b,off,none⟩) n c] w (acn (6,0,aaa) w):=by
 have HZ:=fun W=>hid (ac0 W)
 have HB0:=fun W=>hid (aa7 W)
 have hn0:(0:Int)<(n:Int):=by omega
 have hn6:(6:Int) ≤(n:Int):=by omega
 have hn5:(5:Int)<(n:Int):=by omega
 have hn2:(1:Int)<(n:Int):=by omega
 have h50:(0:Int) ≤(x5:Int):=by omega
 have h51:(x5:Int)≤255:=by omega
 have hn1:((n:Int)==0)=false:=by rw[l6];omega
 have HS:∀W,Hid (Calls prog 64 #[.int .i64 x5] W fun e w'=>e=.returned (.int .i64 0)∧Below W.1.size W w'):=fun W=>hid (by have:=ab6 x5 W;rwa [hs]at this)
 clear hs;go_enter func46,ntmps46;go_upto_region 1 with(refine qc rfl 62 rfl pkA (HZ _).out ?_;intro W1 hW1;have HR1:=hid (Blk.newL (L:=pkA.toList) hW1 rfl);have HB1:=hid hW1.bel;clear hW1)
 have d0:W1.cell? ⟨b,off,none⟩=some (.int .u8 254):=H0.out W1 HB1.out;have d5:W1.cell? ⟨b,off+5,none⟩=some (.int .u8 (x5:Int)):=H5.out W1 HB1.out;go_wp2_with fail;refine(HS W1).out.mono ?_;rintro e w2 ⟨rfl,hb⟩;have HR2:=hid (HR1.out.on hb);have HB2:=hid (qb HB1.out hb);clear hb HR1 HB1 d0 d5 HS
 go_wp2_with (first
  | refine zo rfl 62 rfl (HB0 _).out ?_
  | (refine qe rfl 62 _ _ rfl w.1.size 0 pkA rfl rfl (HR2.out.there 0 5 (a8 _)) aet aes ?_;intro W3 hs;have HR3:=hid (HR2.out.all hs rfl);have HB3:=hid (HB2.out.trans (hs.below (a8 _)));clear hs))
 have HLD:=hid (adi HR3.out rfl);exact b9 (v:=.tuple #[.agg pkA,.int .i64 0,.int .i64 6]) (by rw[zl rfl];simp[asAddr,Result.andThen];rw[HLD.out]) rfl (ah1 6 0 HB3.out)
theorem axk {w:World} (b off n c x5 x1 N:Nat) (h6:6≤n) (hm:n≤1000000) (h5:x5<256) (H0:Hid (ByC w b off 0 254)) (H5:Hid (ByC w b off 5 x5)) (H1:Hid (ByC w b off 1 x1)) (h1:x1<256) (hs:aq5 x5=N) (hN:0<N) (hx:x1+8≠N):Calls prog 46 #[.slice (some ⟨b,off,none⟩) n c] w (acn (3,0,aaa) w):=by
 have HZ:=fun W=>hid (ac0 W)
 have HB0:=fun W=>hid (aa7 W)
 have hn0:(0:Int)<(n:Int):=by omega
 have hn6:(6:Int) ≤(n:Int):=by omega
 have hn5:(5:Int)<(n:Int):=by omega
 have hn2:(1:Int)<(n:Int):=by omega
 have h50:(0:Int) ≤(x5:Int):=by omega
 have h51:(x5:Int)≤255:=by omega
 have hn1:((n:Int)==0)=false:=by rw[l6];omega
 have h10:(0:Int) ≤(x1:Int):=by omega
 have h11:(x1:Int)≤255:=by omega
 have HS:∀W,Hid (Calls prog 64 #[.int .i64 x5] W fun e w'=>e=.returned (.int .i64 N)∧Below W.1.size W w'):=fun W=>hid (by have:=ab6 x5 W;rwa [hs]at this)
 have hN0:((N:Int)==0)=false:=by rw[l6];omega
 clear hs;have hx1:((6:Int) +(x1:Int)+2 != (N:Int))=true:=by rw[b0g];omega
 go_enter func46,ntmps46;go_upto_region 1 with(refine qc rfl 62 rfl pkA (HZ _).out ?_;intro W1 hW1;have HR1:=hid (Blk.newL (L:=pkA.toList) hW1 rfl);have HB1:=hid hW1.bel;clear hW1)
 have d0:W1.cell? ⟨b,off,none⟩=some (.int .u8 254):=H0.out W1 HB1.out;have d5:W1.cell? ⟨b,off+5,none⟩=some (.int .u8 (x5:Int)):=H5.out W1 HB1.out;go_wp2_with fail;refine(HS W1).out.mono ?_;rintro e w2 ⟨rfl,hb⟩;have HR2:=hid (HR1.out.on hb);have HB2:=hid (qb HB1.out hb);clear hb HR1 HB1 d0 d5 HS;have d1:w2.cell? ⟨b,off+1,none⟩=some (.int .u8 (x1:Int)):=H1.out w2 HB2.out
 go_wp2_with (first
  | refine zo rfl 62 rfl (HB0 _).out ?_
  | (refine qe rfl 62 _ _ rfl w.1.size 0 pkA rfl rfl (HR2.out.there 0 5 (a8 _)) aet aes ?_;intro W3 hs;have HR3:=hid (HR2.out.all hs rfl);have HB3:=hid (HB2.out.trans (hs.below (a8 _)));clear hs))
 have HLD:=hid (adi HR3.out rfl);exact b9 (v:=.tuple #[.agg pkA,.int .i64 0,.int .i64 3]) (by rw[zl rfl];simp[asAddr,Result.andThen];rw[HLD.out]) rfl (ah1 3 0 HB3.out)
theorem a2c {w:World} (b off n c x5 x1 N:Nat) (h6:6≤n) (hm:n≤1000000) (h5:x5<256) (H0:Hid (ByC w b off 0 254)) (H5:Hid (ByC w b off 5 x5)) (H1:Hid (ByC w b off 1 x1)) (h1:x1<256) (hs:aq5 x5=N) (hN:0<N) (hx:x1+8=N) (hl:n<N):Calls prog 46 #[.slice (some ⟨b,off,none⟩) n c] w (acn (2,0,aaa) w):=by
 have HZ:=fun W=>hid (ac0 W)
 have HB0:=fun W=>hid (aa7 W)
 have hn0:(0:Int)<(n:Int):=by omega
 have hn6:(6:Int) ≤(n:Int):=by omega
 have hn5:(5:Int)<(n:Int):=by omega
 have hn2:(1:Int)<(n:Int):=by omega
 have h50:(0:Int) ≤(x5:Int):=by omega
 have h51:(x5:Int)≤255:=by omega
 have hn1:((n:Int)==0)=false:=by rw[l6];omega
 have h10:(0:Int) ≤(x1:Int):=by omega
 have h11:(x1:Int)≤255:=by omega
 have HS:∀W,Hid (Calls prog 64 #[.int .i64 x5] W fun e w'=>e=.returned (.int .i64 N)∧Below W.1.size W w'):=fun W=>hid (by have:=ab6 x5 W;rwa [hs]at this)
 have hN0:((N:Int)==0)=false:=by rw[l6];omega
 clear hs;have hx1:((6:Int) +(x1:Int)+2 != (N:Int))=false:=by rw[t7];omega
 have hl2:(n:Int)<(N:Int):=by omega
 clear hx;go_enter func46,ntmps46;go_upto_region 1 with(refine qc rfl 62 rfl pkA (HZ _).out ?_;intro W1 hW1;have HR1:=hid (Blk.newL (L:=pkA.toList) hW1 rfl);have HB1:=hid hW1.bel;clear hW1)
 have d0:W1.cell? ⟨b,off,none⟩=some (.int .u8 254):=H0.out W1 HB1.out;have d5:W1.cell? ⟨b,off+5,none⟩=some (.int .u8 (x5:Int)):=H5.out W1 HB1.out;go_wp2_with fail;refine(HS W1).out.mono ?_;rintro e w2 ⟨rfl,hb⟩;have HR2:=hid (HR1.out.on hb);have HB2:=hid (qb HB1.out hb);clear hb HR1 HB1 d0 d5 HS;have d1:w2.cell? ⟨b,off+1,none⟩=some (.int .u8 (x1:Int)):=H1.out w2 HB2.out
 go_wp2_with (first
  | refine zo rfl 62 rfl (HB0 _).out ?_
  | (refine qe rfl 62 _ _ rfl w.1.size 0 pkA rfl rfl (HR2.out.there 0 5 (a8 _)) aet aes ?_;intro W3 hs;have HR3:=hid (HR2.out.all hs rfl);have HB3:=hid (HB2.out.trans (hs.below (a8 _)));clear hs))
 have HLD:=hid (adi HR3.out rfl);exact b9 (v:=.tuple #[.agg pkA,.int .i64 0,.int .i64 2]) (by rw[zl rfl];simp[asAddr,Result.andThen];rw[HLD.out]) rfl (ah1 2 0 HB3.out)
theorem acb {Q:Nat→Prop} {w:World} {b off:Nat} {l:List UInt8} (h:qf Q w (some ⟨b,off,none⟩) (bsV l)) (k m:Nat):qf Q w (some ⟨b,off+k,none⟩) (bsV ((l.drop k).take m)):=by
 have:=(h.part k).first m
 rwa [abp,v6]at this
theorem adp {w:World} {a b off:Nat} (m n c:Nat) (h:Blk w a [.slice (some ⟨b,off,none⟩) m c]) (hn:n≤m) (hmc:m≤c) (hlt:n<c) :
 Calls prog 65 #[.pointer (some ⟨a,0,none⟩),.int .i64 n] w fun e w'=>e=.returned (.slice (some ⟨b,off,none⟩) n n)∧Blk w' a [.slice (some ⟨b,off+n,none⟩) (m-n) (c-n)]∧qj (fun k=>k≠a) w w'∧w'.1.size=w.1.size:=by
 have:=af8 m n c h hn hmc;rw[if_neg om]at this;exact this
theorem bbu {Q:Nat→Prop} {w:World} {A:Option Addr} {c:Nat} (v:List Int) (hv:InI v) (hf:qf Q w A (qr v)) (hn:v.length≤1000000):aas 2 1 Q w (.slice A v.length c) (v.map fun x=>abt [x]):=by
 refine⟨A,c,by rw[b0s],fun k hk=>?_,by rw[b0s];unfold maxLen;omega⟩;have hk':k<v.length:=by simpa using hk
 obtain⟨b,off,hA,hb,h0⟩:=hf k (.int .i64 v[k]) (by unfold qr;rw[b0m,c8 hk'];rfl);refine⟨b,off,[.int .i64 v[k]],hA,hb,fun j u hu=>?_,by rw[b3d];exact bk8 (hv _ (b1c hk'))⟩;cases j with
 | zero=>injection hu with hu;subst hu;rw[b4d,b21];exact h0
 | succ j=>simp at hu
theorem a2f {Q:Nat→Prop} {w:World} (b off n c x5 wd N:Nat) (l:List UInt8) (hA:qf Q w (some ⟨b,off,none⟩) (bsV l)) (hl:l.length=n) (hc:n≤c) (hm:n≤1000000) (hw:0<wd) (hw2:wd<256) (hN:wd+8=N) (hNn:N≤n) (h5:x5<256) (H0:Hid (ByC w b off 0 254)) (H1:Hid (ByC w b off 1 wd)) (H5:Hid (ByC w b off 5 x5)) (hs:aq5 x5=N)
 (hne:(l.drop (wd+6)).take 2≠ahy x5 ((l.drop 1).take (wd+5))):Calls prog 46 #[.slice (some ⟨b,off,none⟩) n c] w (acn (4,0,aaa) w):=by
 have HZ:=fun W=>hid (ac0 W)
 have HB0:=fun W=>hid (aa7 W)
 have hn0:(0:Int)<(n:Int):=by omega
 have hn6:(6:Int) ≤(n:Int):=by omega
 have hn5:(5:Int)<(n:Int):=by omega
 have hn2:(1:Int)<(n:Int):=by omega
 have h50:(0:Int) ≤(x5:Int):=by omega
 have h51:(x5:Int)≤255:=by omega
 have h10:(0:Int) ≤(wd:Int):=by omega
 have h11:(wd:Int)≤255:=by omega
 have hn1:((n:Int)==0)=false:=by rw[l6];omega
 have HS:∀W,Hid (Calls prog 64 #[.int .i64 x5] W fun e w'=>e=.returned (.int .i64 N)∧Below W.1.size W w'):=fun W=>hid (by have:=ab6 x5 W;rwa [hs]at this)
 have hN0:((N:Int)==0)=false:=by rw[l6];omega
 have hx1:((6:Int) +(wd:Int)+2 != (N:Int))=false:=by rw[t7];omega
 have hl2:(N:Int) ≤(n:Int):=by omega
 have HL:=hid hl;have hN8:(N:Int)-6-2=(wd:Int):=by omega
 obtain⟨z,hz⟩:∃z,z=wd+6:=⟨_,rfl⟩;have hN9:(N:Int)-2=(z:Int):=by omega
 have hz1:(1:Int) ≤(z:Int):=by omega
 have hz2:(z:Int) ≤(n:Int):=by omega
 have HNW:=hid (o4 hN (o4 hz (o4 hc hNn)));have HFA:∀W,Below w.1.size w W→Hid (qf (fun k=>Q k∧k<w.1.size) W (some ⟨b,off,none⟩) (bsV l)):=fun W hW=>hid (hA.lt.below hW (fun k q=>q.2))
 have HSUM:∀W,Below w.1.size w W→Hid (Calls prog 67 #[.int .i64 x5,.slice (some ⟨b,off+1,none⟩) (z-1) (c-1)] W fun e w'=>∃g,e=.returned (.slice (some ⟨g,0,none⟩) 2 2)∧Blk w' g (bsV (ahy x5 ((l.drop 1).take (wd+5))))∧W.1.size≤g∧Below W.1.size W w'):=fun W hW=>hid (by
  have e:((l.drop 1).take (wd+5)).length=z-1:=by rw[l7,l8,hl];omega
  have:=aj9 (w:=W) x5 (some ⟨b,off+1,none⟩) ((l.drop 1).take (wd+5)) (c-1) (acb (HFA W hW).out 1 (wd+5)) om
  rwa [e]at this)
 have HEQ:∀W g y,Below w.1.size w W→Blk W g (bsV y)→y.length=2→Hid (Calls prog 66 #[.slice (some ⟨b,off+6+wd,none⟩) 2 2,.slice (some ⟨g,0,none⟩) 2 2] W fun e w'=>e=.returned (.bool (decide ((l.drop (wd+6)).take 2=y)))∧Below W.1.size W w'):=fun W g y hW hg hy=>hid (by
  have e:((l.drop (wd+6)).take 2).length=2:=by rw[l7,l8,hl];omega
  have:=aj7 (w:=W) (some ⟨b,off +(wd+6),none⟩) (some ⟨g,0,none⟩) 2 2 ((l.drop (wd+6)).take 2) y (acb (HFA W hW).out (wd+6) 2) (hg.flat (Q:=fun _=>True) trivial) om om;rw[e,hy]at this
  rwa [show off+6+wd=off +(wd+6)from by omega])
 have _HTK:∀W,Below w.1.size w W→Hid (Calls prog 68 #[.int .i64 x5,.slice (some ⟨b,off+6,none⟩) wd wd] W (ky (aiz x5 ((l.drop 6).take wd)) W)):=fun W hW=>hid (by
  have e:((l.drop 6).take wd).length=wd:=by rw[l7,l8,hl];omega
  have:=ahu (w:=W) x5 (some ⟨b,off+6,none⟩) wd ((l.drop 6).take wd) (acb (HFA W hW).out 6 wd) om
  rwa [e]at this)
 have HSB:Hid ((ahy x5 ((l.drop 1).take (wd+5))).length=2):=hid rfl;have hcI:(n:Int) ≤(c:Int):=by omega
 generalize ahy x5 ((l.drop 1).take (wd+5))=sb at *;generalize (l.drop (wd+6)).take 2=ss at *;clear hs hl hN hz hA hc hNn HFA;go_enter func46,ntmps46;go_upto_region 1 with(refine qc rfl 62 rfl pkA (HZ _).out ?_;intro W1 hW1;have HR1:=hid (Blk.newL (L:=pkA.toList) hW1 rfl);have HB1:=hid hW1.bel;clear hW1)
 have d0:W1.cell? ⟨b,off,none⟩=some (.int .u8 254):=H0.out W1 HB1.out;have d5:W1.cell? ⟨b,off+5,none⟩=some (.int .u8 (x5:Int)):=H5.out W1 HB1.out;go_wp2_with fail;refine(HS W1).out.mono ?_;rintro e w2 ⟨rfl,hb⟩;have HR2:=hid (HR1.out.on hb);have HB2:=hid (qb HB1.out hb);clear hb HR1 HB1 d0 d5 HS;have d1:w2.cell? ⟨b,off+1,none⟩=some (.int .u8 (wd:Int)):=H1.out w2 HB2.out;go_upto_region 15 with fail;clear d1;go_upto_region 17 with fail;have HE3:Hid (Blk (w2.alloc (.cells #[.slice (some ⟨b,off,none⟩) n c] 156)) w2.1.size [.slice (some ⟨b,off,none⟩) n c]):=hid (Blk.newL (qg w2 _ _) rfl);have HR3:=hid (HR2.out.on (qa w2 (.cells #[.slice (some ⟨b,off,none⟩) n c] 156)));have HB3:=hid (qb HB2.out (qa w2 (.cells #[.slice (some ⟨b,off,none⟩) n c] 156)));have HAR:Hid (w.1.size<w2.1.size):=hid HR2.out.lt;generalize w2.alloc (.cells #[.slice (some ⟨b,off,none⟩) n c] 156)=W3 at *
 generalize w2.1.size=a at *;clear HR2 HB2;go_wp2_with fail;refine(adp n 6 c HE3.out om om om).mono ?_;rintro e w4 ⟨rfl,he,hk,-⟩;have HE4:=hid he;have HR4:=hid (HR3.out.kept (hk.block _ (b0y HAR.out)) hk.size);have HB4:=hid (HB3.out.trans (hk.below (B:=w.1.size) fun k q=>by have:=HAR.out;omega));clear he hk HE3 HR3 HB3;go_wp2_with fail;refine(adp (n-6) wd (c-6) HE4.out (by have:=HNW.out;omega) om (by have:=HNW.out;omega)).mono ?_;rintro e w5 ⟨rfl,he,hk,-⟩;have HE5:=hid he;have HR5:=hid (HR4.out.kept (hk.block _ (b0y HAR.out)) hk.size);have HB5:=hid (HB4.out.trans (hk.below (B:=w.1.size) fun k q=>by have:=HAR.out;omega));clear he hk HE4 HR4 HB4;go_wp2_with fail;refine(af8 (n-6-wd) 2 (c-6-wd) HE5.out (by have:=HNW.out;omega) om).mono ?_;rintro e w6 ⟨rfl,-,hk,-⟩;have HR6:=hid (HR5.out.kept (hk.block _ (b0y HAR.out)) hk.size);have HB6:=hid (HB5.out.trans (hk.below (B:=w.1.size) fun k q=>by have:=HAR.out;omega))
 clear hk HE5 HR5 HB5;go_wp2_with fail;refine(HSUM w6 HB6.out).out.mono ?_;rintro e w7 ⟨g,rfl,hg,-,hb⟩;have HR7:=hid (HR6.out.on hb);have HB7:=hid (qb HB6.out hb);have HEQ7:=HEQ w7 g sb HB7.out hg HSB.out;clear hb hg HR6 HB6 HSUM HEQ;rw[o3 hne]at HEQ7;go_wp2_with fail;refine HEQ7.out.mono ?_;rintro e w8 ⟨rfl,hb⟩;have HR8:=hid (HR7.out.on hb);have HB8:=hid (qb HB7.out hb);clear hb HR7 HB7 HEQ7
 go_wp2_with (first
  | refine zo rfl 62 rfl (HB0 _).out ?_
  | (refine qe rfl 62 _ _ rfl w.1.size 0 pkA rfl rfl (HR8.out.there 0 5 (a8 _)) aet aes ?_;intro Wz hs;have HRz:=hid (HR8.out.all hs rfl);have HBz:=hid (HB8.out.trans (hs.below (a8 _)));clear hs))
 have HLD:=hid (adi HRz.out rfl);exact b9 (v:=.tuple #[.agg pkA,.int .i64 0,.int .i64 4]) (by rw[zl rfl];simp[asAddr,Result.andThen];rw[HLD.out]) rfl (ah1 4 0 HBz.out)
theorem a2e {Q:Nat→Prop} {w:World} (b off n c x5 wd N:Nat) (l:List UInt8) (hA:qf Q w (some ⟨b,off,none⟩) (bsV l)) (hl:l.length=n) (hc:n≤c) (hm:n≤1000000) (hw:0<wd) (hw2:wd<256) (hN:wd+8=N) (hNn:N≤n) (h5:x5<256) (H0:Hid (ByC w b off 0 254)) (H1:Hid (ByC w b off 1 wd)) (H5:Hid (ByC w b off 5 x5)) (hs:aq5 x5=N)
 (hne:(l.drop (wd+6)).take 2=ahy x5 ((l.drop 1).take (wd+5))) (E:Int) (hE:(aiz x5 ((l.drop 6).take wd)).1=E) (hE0:E≠0):Calls prog 46 #[.slice (some ⟨b,off,none⟩) n c] w (acn (E,N,aaa) w):=by
 have HZ:=fun W=>hid (ac0 W)
 have HB0:=fun W=>hid (aa7 W)
 have hn0:(0:Int)<(n:Int):=by omega
 have hn6:(6:Int) ≤(n:Int):=by omega
 have hn5:(5:Int)<(n:Int):=by omega
 have hn2:(1:Int)<(n:Int):=by omega
 have h50:(0:Int) ≤(x5:Int):=by omega
 have h51:(x5:Int)≤255:=by omega
 have h10:(0:Int) ≤(wd:Int):=by omega
 have h11:(wd:Int)≤255:=by omega
 have hn1:((n:Int)==0)=false:=by rw[l6];omega
 have HS:∀W,Hid (Calls prog 64 #[.int .i64 x5] W fun e w'=>e=.returned (.int .i64 N)∧Below W.1.size W w'):=fun W=>hid (by have:=ab6 x5 W;rwa [hs]at this)
 have hN0:((N:Int)==0)=false:=by rw[l6];omega
 have hx1:((6:Int) +(wd:Int)+2 != (N:Int))=false:=by rw[t7];omega
 have hl2:(N:Int) ≤(n:Int):=by omega
 have HL:=hid hl;have hN8:(N:Int)-6-2=(wd:Int):=by omega
 obtain⟨z,hz⟩:∃z,z=wd+6:=⟨_,rfl⟩;have hN9:(N:Int)-2=(z:Int):=by omega
 have hz1:(1:Int) ≤(z:Int):=by omega
 have hz2:(z:Int) ≤(n:Int):=by omega
 have HNW:=hid (o4 hN (o4 hz (o4 hc hNn)));have HFA:∀W,Below w.1.size w W→Hid (qf (fun k=>Q k∧k<w.1.size) W (some ⟨b,off,none⟩) (bsV l)):=fun W hW=>hid (hA.lt.below hW (fun k q=>q.2))
 have HSUM:∀W,Below w.1.size w W→Hid (Calls prog 67 #[.int .i64 x5,.slice (some ⟨b,off+1,none⟩) (z-1) (c-1)] W fun e w'=>∃g,e=.returned (.slice (some ⟨g,0,none⟩) 2 2)∧Blk w' g (bsV (ahy x5 ((l.drop 1).take (wd+5))))∧W.1.size≤g∧Below W.1.size W w'):=fun W hW=>hid (by
  have e:((l.drop 1).take (wd+5)).length=z-1:=by rw[l7,l8,hl];omega
  have:=aj9 (w:=W) x5 (some ⟨b,off+1,none⟩) ((l.drop 1).take (wd+5)) (c-1) (acb (HFA W hW).out 1 (wd+5)) om
  rwa [e]at this)
 have HEQ:∀W g y,Below w.1.size w W→Blk W g (bsV y)→y.length=2→Hid (Calls prog 66 #[.slice (some ⟨b,off+6+wd,none⟩) 2 2,.slice (some ⟨g,0,none⟩) 2 2] W fun e w'=>e=.returned (.bool (decide ((l.drop (wd+6)).take 2=y)))∧Below W.1.size W w'):=fun W g y hW hg hy=>hid (by
  have e:((l.drop (wd+6)).take 2).length=2:=by rw[l7,l8,hl];omega
  have:=aj7 (w:=W) (some ⟨b,off +(wd+6),none⟩) (some ⟨g,0,none⟩) 2 2 ((l.drop (wd+6)).take 2) y (acb (HFA W hW).out (wd+6) 2) (hg.flat (Q:=fun _=>True) trivial) om om;rw[e,hy]at this
  rwa [show off+6+wd=off +(wd+6)from by omega])
 have HTK:∀W,Below w.1.size w W→Hid (Calls prog 68 #[.int .i64 x5,.slice (some ⟨b,off+6,none⟩) wd wd] W (ky (aiz x5 ((l.drop 6).take wd)) W)):=fun W hW=>hid (by
  have e:((l.drop 6).take wd).length=wd:=by rw[l7,l8,hl];omega
  have:=ahu (w:=W) x5 (some ⟨b,off+6,none⟩) wd ((l.drop 6).take wd) (acb (HFA W hW).out 6 wd) om
  rwa [e]at this)
 have HSB:Hid ((ahy x5 ((l.drop 1).take (wd+5))).length=2):=hid rfl;have hcI:(n:Int) ≤(c:Int):=by omega
 generalize ahy x5 ((l.drop 1).take (wd+5))=sb at *;generalize (l.drop (wd+6)).take 2=ss at *;have he2:(E != 0)=true:=by rw[b0g];exact hE0
 unfold ky at HTK;rw[hE]at HTK;generalize (aiz x5 ((l.drop 6).take wd)).2=v at *;clear hE hE0;clear hs hl hN hz hA hc hNn HFA;go_enter func46,ntmps46;go_upto_region 1 with(refine qc rfl 62 rfl pkA (HZ _).out ?_;intro W1 hW1;have HR1:=hid (Blk.newL (L:=pkA.toList) hW1 rfl);have HB1:=hid hW1.bel;clear hW1)
 have d0:W1.cell? ⟨b,off,none⟩=some (.int .u8 254):=H0.out W1 HB1.out;have d5:W1.cell? ⟨b,off+5,none⟩=some (.int .u8 (x5:Int)):=H5.out W1 HB1.out;go_wp2_with fail;refine(HS W1).out.mono ?_;rintro e w2 ⟨rfl,hb⟩;have HR2:=hid (HR1.out.on hb);have HB2:=hid (qb HB1.out hb);clear hb HR1 HB1 d0 d5 HS;have d1:w2.cell? ⟨b,off+1,none⟩=some (.int .u8 (wd:Int)):=H1.out w2 HB2.out;go_upto_region 15 with fail;clear d1;go_upto_region 17 with fail;have HE3:Hid (Blk (w2.alloc (.cells #[.slice (some ⟨b,off,none⟩) n c] 156)) w2.1.size [.slice (some ⟨b,off,none⟩) n c]):=hid (Blk.newL (qg w2 _ _) rfl);have HR3:=hid (HR2.out.on (qa w2 (.cells #[.slice (some ⟨b,off,none⟩) n c] 156)));have HB3:=hid (qb HB2.out (qa w2 (.cells #[.slice (some ⟨b,off,none⟩) n c] 156)));have HAR:Hid (w.1.size<w2.1.size):=hid HR2.out.lt;generalize w2.alloc (.cells #[.slice (some ⟨b,off,none⟩) n c] 156)=W3 at *
 generalize w2.1.size=a at *;clear HR2 HB2;go_wp2_with fail;refine(adp n 6 c HE3.out om om om).mono ?_;rintro e w4 ⟨rfl,he,hk,-⟩;have HE4:=hid he;have HR4:=hid (HR3.out.kept (hk.block _ (b0y HAR.out)) hk.size);have HB4:=hid (HB3.out.trans (hk.below (B:=w.1.size) fun k q=>by have:=HAR.out;omega));clear he hk HE3 HR3 HB3;go_wp2_with fail;refine(adp (n-6) wd (c-6) HE4.out (by have:=HNW.out;omega) om (by have:=HNW.out;omega)).mono ?_;rintro e w5 ⟨rfl,he,hk,-⟩;have HE5:=hid he;have HR5:=hid (HR4.out.kept (hk.block _ (b0y HAR.out)) hk.size);have HB5:=hid (HB4.out.trans (hk.below (B:=w.1.size) fun k q=>by have:=HAR.out;omega));clear he hk HE4 HR4 HB4;go_wp2_with fail;refine(af8 (n-6-wd) 2 (c-6-wd) HE5.out (by have:=HNW.out;omega) om).mono ?_;rintro e w6 ⟨rfl,-,hk,-⟩;have HR6:=hid (HR5.out.kept (hk.block _ (b0y HAR.out)) hk.size);have HB6:=hid (HB5.out.trans (hk.below (B:=w.1.size) fun k q=>by have:=HAR.out;omega))
 clear hk HE5 HR5 HB5;go_wp2_with fail;refine(HSUM w6 HB6.out).out.mono ?_;rintro e w7 ⟨g,rfl,hg,-,hb⟩;have HR7:=hid (HR6.out.on hb);have HB7:=hid (qb HB6.out hb);have HEQ7:=HEQ w7 g sb HB7.out hg HSB.out;clear hb hg HR6 HB6 HSUM HEQ;rw[p9 hne]at HEQ7;go_wp2_with fail;refine HEQ7.out.mono ?_;rintro e w8 ⟨rfl,hb⟩;have HR8:=hid (HR7.out.on hb);have HB8:=hid (qb HB7.out hb);clear hb HR7 HB7 HEQ7;go_wp2_with fail;refine(HTK w8 HB8.out).out.mono ?_;rintro e w9 ⟨A9,c9,rfl,hf,hb⟩;have HF9:=hid hf;have HR9:=hid (HR8.out.on hb);have HB9:=hid (qb HB8.out hb);have HG9:=hid (o4 HB8.out.size hb.size);have HRL:=hid HR8.out.lt;clear hf hb HR8 HB8 HTK
 go_wp2_with (first
  | refine zo rfl 62 rfl (HB0 _).out ?_
  | (refine qe rfl 62 _ _ rfl w.1.size 0 pkA rfl rfl (HR9.out.there 0 5 (a8 _)) aet aes ?_;intro Wz hs;have HRz:=hid (HR9.out.all hs rfl);have HBz:=hid (HB9.out.trans (hs.below (a8 _)));clear hs))
 have HLD:=hid (adi HRz.out rfl);exact b9 (v:=.tuple #[.agg pkA,.int .i64 N,.int .i64 E]) (by rw[zl rfl];simp[asAddr,Result.andThen];rw[HLD.out]) rfl (ah1 E N HBz.out)
theorem a2g {Q:Nat→Prop} {w:World} (b off n c x5 wd N x2 x3 x4:Nat) (l:List UInt8) (hA:qf Q w (some ⟨b,off,none⟩) (bsV l)) (hl:l.length=n) (hc:n≤c) (hm:n≤1000000) (hw:0<wd) (hw2:wd<256) (hN:wd+8=N) (hNn:N≤n) (h5:x5<256) (H0:Hid (ByC w b off 0 254)) (H1:Hid (ByC w b off 1 wd)) (H5:Hid (ByC w b off 5 x5)) (hs:aq5 x5=N)
 (hne:(l.drop (wd+6)).take 2=ahy x5 ((l.drop 1).take (wd+5))) (E:Int) (H2:Hid (ByC w b off 2 x2)) (H3:Hid (ByC w b off 3 x3)) (H4:Hid (ByC w b off 4 x4)) (hx:x2<256∧x3<256∧x4<256) (v:List Int) (hE:aiz x5 ((l.drop 6).take wd)=(0,v)) (hv:InI v) (hvl:v.length≤1000000):Calls prog 46 #[.slice (some ⟨b,off,none⟩) n c] w (acn (0,N,⟨x2,x3,x4,x5,v.map fun x=>abt [x]⟩) w):=by
 have HZ:=fun W=>hid (ac0 W)
 have HB0:=fun W=>hid (aa7 W)
 have hn0:(0:Int)<(n:Int):=by omega
 have hn6:(6:Int) ≤(n:Int):=by omega
 have hn5:(5:Int)<(n:Int):=by omega
 have hn2:(1:Int)<(n:Int):=by omega
 have h50:(0:Int) ≤(x5:Int):=by omega
 have h51:(x5:Int)≤255:=by omega
 have h10:(0:Int) ≤(wd:Int):=by omega
 have h11:(wd:Int)≤255:=by omega
 have hn1:((n:Int)==0)=false:=by rw[l6];omega
 have HS:∀W,Hid (Calls prog 64 #[.int .i64 x5] W fun e w'=>e=.returned (.int .i64 N)∧Below W.1.size W w'):=fun W=>hid (by have:=ab6 x5 W;rwa [hs]at this)
 have hN0:((N:Int)==0)=false:=by rw[l6];omega
 have hx1:((6:Int) +(wd:Int)+2 != (N:Int))=false:=by rw[t7];omega
 have hl2:(N:Int) ≤(n:Int):=by omega
 have HL:=hid hl;have hN8:(N:Int)-6-2=(wd:Int):=by omega
 obtain⟨z,hz⟩:∃z,z=wd+6:=⟨_,rfl⟩;have hN9:(N:Int)-2=(z:Int):=by omega
 have hz1:(1:Int) ≤(z:Int):=by omega
 have hz2:(z:Int) ≤(n:Int):=by omega
 have HNW:=hid (o4 hN (o4 hz (o4 hc hNn)));have HFA:∀W,Below w.1.size w W→Hid (qf (fun k=>Q k∧k<w.1.size) W (some ⟨b,off,none⟩) (bsV l)):=fun W hW=>hid (hA.lt.below hW (fun k q=>q.2))
 have HSUM:∀W,Below w.1.size w W→Hid (Calls prog 67 #[.int .i64 x5,.slice (some ⟨b,off+1,none⟩) (z-1) (c-1)] W fun e w'=>∃g,e=.returned (.slice (some ⟨g,0,none⟩) 2 2)∧Blk w' g (bsV (ahy x5 ((l.drop 1).take (wd+5))))∧W.1.size≤g∧Below W.1.size W w'):=fun W hW=>hid (by
  have e:((l.drop 1).take (wd+5)).length=z-1:=by rw[l7,l8,hl];omega
  have:=aj9 (w:=W) x5 (some ⟨b,off+1,none⟩) ((l.drop 1).take (wd+5)) (c-1) (acb (HFA W hW).out 1 (wd+5)) om
  rwa [e]at this)
 have HEQ:∀W g y,Below w.1.size w W→Blk W g (bsV y)→y.length=2→Hid (Calls prog 66 #[.slice (some ⟨b,off+6+wd,none⟩) 2 2,.slice (some ⟨g,0,none⟩) 2 2] W fun e w'=>e=.returned (.bool (decide ((l.drop (wd+6)).take 2=y)))∧Below W.1.size W w'):=fun W g y hW hg hy=>hid (by
  have e:((l.drop (wd+6)).take 2).length=2:=by rw[l7,l8,hl];omega
  have:=aj7 (w:=W) (some ⟨b,off +(wd+6),none⟩) (some ⟨g,0,none⟩) 2 2 ((l.drop (wd+6)).take 2) y (acb (HFA W hW).out (wd+6) 2) (hg.flat (Q:=fun _=>True) trivial) om om;rw[e,hy]at this
  rwa [show off+6+wd=off +(wd+6)from by omega])
 have HTK:∀W,Below w.1.size w W→Hid (Calls prog 68 #[.int .i64 x5,.slice (some ⟨b,off+6,none⟩) wd wd] W (ky (aiz x5 ((l.drop 6).take wd)) W)):=fun W hW=>hid (by
  have e:((l.drop 6).take wd).length=wd:=by rw[l7,l8,hl];omega
  have:=ahu (w:=W) x5 (some ⟨b,off+6,none⟩) wd ((l.drop 6).take wd) (acb (HFA W hW).out 6 wd) om
  rwa [e]at this)
 have HSB:Hid ((ahy x5 ((l.drop 1).take (wd+5))).length=2):=hid rfl;have hcI:(n:Int) ≤(c:Int):=by omega
 generalize ahy x5 ((l.drop 1).take (wd+5))=sb at *;generalize (l.drop (wd+6)).take 2=ss at *;unfold ky at HTK;rw[hE]at HTK;dsimp only at HTK;clear hE;clear hs hl hN hz hA hc hNn HFA;go_enter func46,ntmps46;go_upto_region 1 with(refine qc rfl 62 rfl pkA (HZ _).out ?_;intro W1 hW1;have HR1:=hid (Blk.newL (L:=pkA.toList) hW1 rfl);have HB1:=hid hW1.bel;clear hW1)
 have d0:W1.cell? ⟨b,off,none⟩=some (.int .u8 254):=H0.out W1 HB1.out;have d5:W1.cell? ⟨b,off+5,none⟩=some (.int .u8 (x5:Int)):=H5.out W1 HB1.out;go_wp2_with fail;refine(HS W1).out.mono ?_;rintro e w2 ⟨rfl,hb⟩;have HR2:=hid (HR1.out.on hb);have HB2:=hid (qb HB1.out hb);clear hb HR1 HB1 d0 d5 HS;have d1:w2.cell? ⟨b,off+1,none⟩=some (.int .u8 (wd:Int)):=H1.out w2 HB2.out;go_upto_region 15 with fail;clear d1;go_upto_region 17 with fail;have HE3:Hid (Blk (w2.alloc (.cells #[.slice (some ⟨b,off,none⟩) n c] 156)) w2.1.size [.slice (some ⟨b,off,none⟩) n c]):=hid (Blk.newL (qg w2 _ _) rfl);have HR3:=hid (HR2.out.on (qa w2 (.cells #[.slice (some ⟨b,off,none⟩) n c] 156)));have HB3:=hid (qb HB2.out (qa w2 (.cells #[.slice (some ⟨b,off,none⟩) n c] 156)));have HAR:Hid (w.1.size<w2.1.size):=hid HR2.out.lt;generalize w2.alloc (.cells #[.slice (some ⟨b,off,none⟩) n c] 156)=W3 at *
 generalize w2.1.size=a at *;clear HR2 HB2;go_wp2_with fail;refine(adp n 6 c HE3.out om om om).mono ?_;rintro e w4 ⟨rfl,he,hk,-⟩;have HE4:=hid he;have HR4:=hid (HR3.out.kept (hk.block _ (b0y HAR.out)) hk.size);have HB4:=hid (HB3.out.trans (hk.below (B:=w.1.size) fun k q=>by have:=HAR.out;omega));clear he hk HE3 HR3 HB3;go_wp2_with fail;refine(adp (n-6) wd (c-6) HE4.out (by have:=HNW.out;omega) om (by have:=HNW.out;omega)).mono ?_;rintro e w5 ⟨rfl,he,hk,-⟩;have HE5:=hid he;have HR5:=hid (HR4.out.kept (hk.block _ (b0y HAR.out)) hk.size);have HB5:=hid (HB4.out.trans (hk.below (B:=w.1.size) fun k q=>by have:=HAR.out;omega));clear he hk HE4 HR4 HB4;go_wp2_with fail;refine(af8 (n-6-wd) 2 (c-6-wd) HE5.out (by have:=HNW.out;omega) om).mono ?_;rintro e w6 ⟨rfl,-,hk,-⟩;have HR6:=hid (HR5.out.kept (hk.block _ (b0y HAR.out)) hk.size);have HB6:=hid (HB5.out.trans (hk.below (B:=w.1.size) fun k q=>by have:=HAR.out;omega))
 clear hk HE5 HR5 HB5;go_wp2_with fail;refine(HSUM w6 HB6.out).out.mono ?_;rintro e w7 ⟨g,rfl,hg,-,hb⟩;have HR7:=hid (HR6.out.on hb);have HB7:=hid (qb HB6.out hb);have HEQ7:=HEQ w7 g sb HB7.out hg HSB.out;clear hb hg HR6 HB6 HSUM HEQ;rw[p9 hne]at HEQ7;go_wp2_with fail;refine HEQ7.out.mono ?_;rintro e w8 ⟨rfl,hb⟩;have HR8:=hid (HR7.out.on hb);have HB8:=hid (qb HB7.out hb);clear hb HR7 HB7 HEQ7;go_wp2_with fail;refine(HTK w8 HB8.out).out.mono ?_;rintro e w9 ⟨A9,c9,rfl,hf,hb⟩;have HF9:=hid hf;have HR9:=hid (HR8.out.on hb);have HB9:=hid (qb HB8.out hb);have HG9:=hid (o4 HB8.out.size hb.size);have HRL:=hid HR8.out.lt;clear hf hb HR8 HB8 HTK;have d2:w9.cell? ⟨b,off+2,none⟩=some (.int .u8 (x2:Int)):=H2.out w9 HB9.out;have d3:w9.cell? ⟨b,off+3,none⟩=some (.int .u8 (x3:Int)):=H3.out w9 HB9.out;have d4:w9.cell? ⟨b,off+4,none⟩=some (.int .u8 (x4:Int)):=H4.out w9 HB9.out
 have y2:(x2:Int)≤255:=by omega
 have y3:(x3:Int)≤255:=by omega
 have y4:(x4:Int)≤255:=by omega
 have y20:(0:Int) ≤(x2:Int):=by omega
 have y30:(0:Int) ≤(x3:Int):=by omega
 have y40:(0:Int) ≤(x4:Int):=by omega
 go_upto_region 23 with fail;clear HB0 HZ H0 H1 H5 H2 H3 H4 HSB;have r0:=HR9.out.cell 0 (v:=.int .i64 0) rfl;have r1:=HR9.out.cell 1 (v:=.int .i64 0) rfl;have r2:=HR9.out.cell 2 (v:=.int .i64 0) rfl;have r3:=HR9.out.cell 3 (v:=.int .i64 0) rfl;have r4:=HR9.out.cell 4 (v:=.slice none 0 0) rfl;have z0:=HR9.out.fz 0;have z1:=HR9.out.fz 1;have z2:=HR9.out.fz 2;have z3:=HR9.out.fz 3;have z4:=HR9.out.fz 4;have hs:=(bih HR9.out (.int .i64 (x2:Int)) (.int .i64 (x3:Int)) (.int .i64 (x4:Int)) (.int .i64 (x5:Int)) (.slice A9 v.length c9)).2;have HKZ:=hid (HR9.out.all hs rfl).drew;have HSZ:=hid (o4 hs.sz hs.far);have HBZ:=hid (HB9.out.trans (hs.below (a8 _))).drew;have HVI:=hid hv;have HVL:=hid hvl;clear hs hv hvl
 go_region
 generalize (((((w9.setCell ⟨w.1.size,0,none⟩ (.int .i64 (x2:Int))).setCell ⟨w.1.size,1,none⟩ (.int .i64 (x3:Int))).setCell ⟨w.1.size,2,none⟩ (.int .i64 (x4:Int))).setCell ⟨w.1.size,3,none⟩ (.int .i64 (x5:Int))).setCell ⟨w.1.size,4,none⟩ (.slice A9 v.length c9))=WZ at *;clear r0 r1 r2 r3 r4 z0 z1 z2 z3 z4 d2 d3 d4;go_wp2_with fail;have HLD:=hid (adi HKZ.out rfl);refine b9 (v:=.tuple #[.agg (bma ⟨x2,x3,x4,x5,v.map fun x=>abt [x]⟩ (.slice A9 v.length c9)).toArray,.int .i64 N,.int .i64 0]) (by rw[zl rfl];simp[asAddr,Result.andThen];rw[HLD.out];rfl) rfl ⟨_,rfl,⟨_,rfl,?_⟩,HBZ.out⟩;refine bbu v HVI.out ((HF9.out.keep fun k q=>HSZ.out.2 k (by have:=HG9.out;have:=HAR.out;have:=q.1;have:=HRL.out;omega)).less fun k q=>⟨by have:=HG9.out;have:=HRL.out;omega,by rw[show WZ.drew.1.size=WZ.1.size from rfl,HSZ.out.1];exact q.2⟩) HVL.out
theorem aqg:∀(s:List Slt) (v out:List Int),InI v→InI out→InI (yr s v out)
 | [],[],out,_,h=>h
 | [],_::_,out,_,h=>h
 | _::_,[],out,_,h=>h
 | x::s,y::v,out,hv,h=>by
  simp only[yr];refine aqg s v _ (fun n hn=>hv n (b1w _ hn)) fun n hn=>?_
  rcases List.mem_or_eq_of_mem_set hn with q|q
  ·exact h n q
  ·rw[q];exact hv y (b1s ..)
theorem big (i:Nat) (b:List UInt8) (h:(aiz i b).1=0):InI (aiz i b).2 ∧(aiz i b).2.length≤1000000:=by
 have hfo:=ahf (i:Int);rw[a76]at h ⊢;generalize xe (i:Int)=f at *;unfold be6 at h ⊢
 split at h
 ·cases h
 ·rename_i hn;rw[if_neg hn]
  split at h
  ·rename_i h0;rw[if_pos h0];refine⟨aqg _ _ _ (ahw (am0 f.2 hfo.2.2.2) h0) (ah9 _),?_⟩;rw[age,b1h];have:=hfo.2.2.1;omega
  ·rename_i h0;exact absurd h h0
theorem bmb (l:List UInt8) (k:Nat) (h:k+2≤l.length):(l.drop k).take 2=[zx l k,zx l (k+1)]:=by
 rw[b0n om,b0n om];show [l[k],l[k+1]]=_;unfold zx;rw[l9,l9,c8 om,c8 om];rfl
theorem bja (i:Nat) (x y:UInt8) (m:List UInt8):[x,y]=ahy i m↔x.toNat=are i m%256∧y.toNat=are i m / 256:=by
 have hs:=bi9 i m;unfold ahy;generalize are i m=s at *;rw[b48,b48,← b1p,← b1p,b3x,b3x,b2x (show s%256<2^8 by omega),b2x (show s / 256<2^8 by omega)];simp
theorem alr {Q:Nat→Prop} {w:World} {b off:Nat} {l:List UInt8} (h:qf Q w (some ⟨b,off,none⟩) (bsV l)) (i:Nat) (hi:i<l.length):Hid (ByC w b off i (zx l i).toNat):=hid fun W hW=>by
 obtain⟨b',off',q,-,hc⟩:=h.lt i _ (vz hi);injection q with q;injection q with q1 q2;subst q1 q2
 have e:zx l i=l[i]:=by unfold zx;rw[l9,c8 hi];rfl
 rw[e];exact(hW.cell (p:=⟨b,off+i,none⟩) (aa3 hc)).trans hc
theorem a2b {Q:Nat→Prop} {w:World} (A:Option Addr) (c:Nat) (l:List UInt8) (h:qf Q w A (bsV l)) (hm:l.length≤1000000) (hc:l.length≤c):Calls prog 46 #[.slice A l.length c] w (acn (ab1 l) w):=by
 by_cases h0:l.length=0
 ·rw[show ab1 l=(2,0,aaa)from by unfold ab1;rw[if_pos h0],h0];exact a2d A c
 obtain⟨b,off,rfl,-,-⟩:=h 0 _ (vz (show 0<l.length by omega));have B0:=alr h 0 om
 by_cases h1:zx l 0≠254
 ·rw[show ab1 l=(3,0,aaa)from by unfold ab1;rw[if_neg h0,if_pos h1]];refine ass b off _ c _ om hm B0 ?_;rw[b0g];intro q;apply h1;apply b1p.1;show (zx l 0).toNat=254;omega
 have e0:zx l 0=254:=b2s.1 h1;rw[e0]at B0;have B0:Hid (ByC w b off 0 254):=B0
 by_cases h6:l.length<6
 ·rw[show ab1 l=(2,0,aaa)from by unfold ab1;rw[if_neg h0,if_neg h1,if_pos h6]];exact ast b off _ c om h6 B0
 have B5:=alr h 5 om;have B1:=alr h 1 om;have l5:=(zx l 5).toNat_lt;have l1:=(zx l 1).toNat_lt
 by_cases hw:ym (xe ((zx l 5).toNat:Int)).2=0
 ·rw[show ab1 l=(6,0,aaa)from by unfold ab1;rw[if_neg h0,if_neg h1,if_neg h6];exact if_pos hw];exact axl b off _ c _ om hm om B0 B5 (by unfold aq5;rw[if_pos hw])
 have hsz:aq5 (zx l 5).toNat=ym (xe ((zx l 5).toNat:Int)).2+8:=by unfold aq5;rw[if_neg hw]
 by_cases hf:(zx l 1).toNat≠ym (xe ((zx l 5).toNat:Int)).2
 ·rw[show ab1 l=(3,0,aaa)from by unfold ab1;rw[if_neg h0,if_neg h1,if_neg h6];exact(if_neg hw).trans (if_pos hf)];exact axk b off _ c _ _ _ om hm om B0 B5 B1 om hsz om om
 have hf':(zx l 1).toNat=ym (xe ((zx l 5).toNat:Int)).2:=b2s.1 hf
 by_cases hn:l.length<ym (xe ((zx l 5).toNat:Int)).2+8
 ·rw[show ab1 l=(2,0,aaa)from by unfold ab1;rw[if_neg h0,if_neg h1,if_neg h6];exact(if_neg hw).trans ((if_neg hf).trans (if_pos hn))];exact a2c b off _ c _ _ _ om hm om B0 B5 B1 om hsz om om hn
 have e : ab1 l=if(zx l (ym (xe ((zx l 5).toNat:Int)).2+6)).toNat=are (zx l 5).toNat ((l.drop 1).take (ym (xe ((zx l 5).toNat:Int)).2+5))%256 ∧(zx l (ym (xe ((zx l 5).toNat:Int)).2+7)).toNat=are (zx l 5).toNat ((l.drop 1).take (ym (xe ((zx l 5).toNat:Int)).2+5)) / 256 then
       (if(aiz (zx l 5).toNat ((l.drop 6).take (ym (xe ((zx l 5).toNat:Int)).2))).1=0 then(0,ym (xe ((zx l 5).toNat:Int)).2+8,⟨(zx l 2).toNat,(zx l 3).toNat,(zx l 4).toNat,(zx l 5).toNat,(aiz (zx l 5).toNat ((l.drop 6).take (ym (xe ((zx l 5).toNat:Int)).2))).2.map fun x=>abt [x]⟩)else((aiz (zx l 5).toNat ((l.drop 6).take (ym (xe ((zx l 5).toNat:Int)).2))).1,ym (xe ((zx l 5).toNat:Int)).2+8,aaa))else(4,0,aaa):=by
  unfold ab1;rw[if_neg h0,if_neg h1,if_neg h6];exact(if_neg hw).trans ((if_neg hf).trans (if_neg hn))
 rw[e];clear e;have H2:=alr h 2 om;have H3:=alr h 3 om;have H4:=alr h 4 om;have l2:=(zx l 2).toNat_lt;have l3:=(zx l 3).toNat_lt;have l4:=(zx l 4).toNat_lt;rw[hf']at B1 l1;have ht:=bmb l (ym (xe ((zx l 5).toNat:Int)).2+6) om;have hi:=bja (zx l 5).toNat (zx l (ym (xe ((zx l 5).toNat:Int)).2+6)) (zx l (ym (xe ((zx l 5).toNat:Int)).2+7)) ((l.drop 1).take (ym (xe ((zx l 5).toNat:Int)).2+5));have hok:=big (zx l 5).toNat ((l.drop 6).take (ym (xe ((zx l 5).toNat:Int)).2));generalize (zx l 5).toNat=x5 at *;generalize ym (xe (x5:Int)).2=wd at *
 by_cases hs:(zx l (wd+6)).toNat=are x5 ((l.drop 1).take (wd+5))%256 ∧(zx l (wd+7)).toNat=are x5 ((l.drop 1).take (wd+5)) / 256
 ·rw[if_pos hs];have hq:(l.drop (wd+6)).take 2=ahy x5 ((l.drop 1).take (wd+5)):=by rw[ht];exact hi.2 hs
  by_cases hE:(aiz x5 ((l.drop 6).take wd)).1=0
  ·rw[if_pos hE];obtain⟨k1,k2⟩:=hok hE;exact a2g b off _ c x5 wd _ _ _ _ l h rfl hc hm om om rfl om om B0 B1 B5 hsz hq 0 H2 H3 H4 ⟨by omega,by omega,by omega⟩ _ (by rw[← hE]) k1 k2
  ·rw[if_neg hE];exact a2e b off _ c x5 wd _ l h rfl hc hm om om rfl om om B0 B1 B5 hsz hq _ rfl hE
 ·rw[if_neg hs];exact a2f b off _ c x5 wd _ l h rfl hc hm om om rfl om om B0 B1 B5 hsz (fun q=>hs (hi.1 (by rw[← ht];exact q)))
