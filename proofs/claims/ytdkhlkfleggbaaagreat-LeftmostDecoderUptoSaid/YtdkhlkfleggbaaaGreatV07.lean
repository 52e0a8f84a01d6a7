/- Parts. -/
import Derived.Test.YtdkhlkfleggbaaaGreatV06
import Derived.Test.YtdkhlkfleggbaaaGreatV05
import Derived.BigRegion
namespace Go.Proofs.YtdkhlkfleggbaaaGreat
set_option maxHeartbeats 4000000
set_option maxRecDepth 8000
open Tryz
set_option linter.unusedVariables false
open Go.RowKit
def ae7 (c:Nat):Nat:=(c / 2) ^^^ (if c%2=1 then 33800 else 0)
def azs:Nat->Nat->Nat
 | 0,c=>c
 | k+1,c=>ae7 (azs k c)
def acx (c b:Nat):Nat:=azs 8 (c ^^^ b)
def aci:List Nat:=[0,4225,8450,12675,16900,21125,25350,29575,33800,38025,42250,46475,50700,54925,59150,63375]
def abd (c:Nat):Nat:=(c / 16) ^^^ aci.getD (c%16) 0
def akw (c:Nat) (x:UInt8):Nat:=abd (abd (c ^^^ x.toNat))
def xg (c:Nat) (l:List UInt8):Nat:=l.foldl akw c
theorem af4 {a b:Nat} (ha:a<65536) (hb:b<65536):a ^^^ b<65536:=Nat.xor_lt_two_pow (n:=16) ha hb
theorem bao {c:Nat} (h:c<65536):ae7 c<65536:=by
 unfold ae7;refine af4 om ?_
 split<;>omega
theorem avt {c:Nat} (h:c<65536):∀k,azs k c<65536
 | 0=>h
 | k+1=>bao (avt h k)
theorem atz (i:Nat):aci.getD i 0<65536:=by
 rcases b08 i 16 with h|h
 ·have:∀j:Fin 16,aci.getD j 0<65536:=by decide
  exact this ⟨i,h⟩
 ·rw[l9,b0c (by simpa [aci]using h)];decide
theorem aj0 {c:Nat} (h:c<65536):abd c<65536:=af4 om (atz _)
theorem a4z {c:Nat} (h:c<65536) (x:UInt8):akw c x<65536:=aj0 (aj0 (af4 h (by have:=x.toNat_lt;omega)))
theorem aa3:∀(l:List UInt8) {c:Nat},c<65536->xg c l<65536
 | [],c,h=>h
 | x::l,c,h=>aa3 l (a4z h x)
theorem aj1 {c b:Nat} (hc:c<65536) (hb:b<65536):acx c b<65536:=avt (af4 hc hb) 8
theorem avs (c:Nat) (l:List UInt8) (x:UInt8):xg c (l++[x])=akw (xg c l) x:=by simp[xg]
theorem ang (c b:Nat) (w:World) (hc:c<65536) (hb:b<256):Calls prog 86 #[.int .u16 c,.int .u8 b] w λe w'=>e=.returned (.int .u16 (acx c b:Int))/\w=w':=by
 have f1:bits BinOp.xor IntKind.u16 (c:Int) (b:Int)=((c ^^^ b:Nat):Int):=b48 c b hc om;have hx:=af4 hc (show b<65536 by omega);have f2:IntKind.u16.wrap (b:Int)=(b:Int):=IntWalk.u16_in _ om;unfold acx;generalize c ^^^ b=d at *;go_enter func86,ntmps86;go_wp2_with fail
 go_loopg [0,9] 8 (λg s0 s9 wr=>∃k:Nat,k<=8/\8-k<=g/\s9=.int .i64 k/\s0=.int .u16 (azs k d:Int)/\wr=w)
 case atStart=>exact⟨0,b0d _,by omega,rfl,rfl,rfl⟩
 case round=>
  obtain⟨k,hk,hg,rfl,rfl,rfl⟩:=hrel
  by_cases hlt:k<8
  ·have hl:=avt hx k;have HE:=q_ (show azs (k+1) d=ae7 (azs k d)from rfl);generalize azs k d=e at *;have i1:(k:Int)<8:=by omega
   obtain⟨h,hh⟩:∃h,e / 2=h:=⟨_,rfl⟩;have f3:(e:Int) / 2=(h:Int):=by omega
   by_cases ho:e%2=1
   ·have f4:bits BinOp.and IntKind.u16 (e:Int) 1=1:=by
     have:=u16_and_nat e 1 om dc;rw[show ((1:Nat):Int)=1 from rfl,nat_mask1]at this;rw[this];omega
    have f5:bits BinOp.and IntKind.u16 (IntKind.u16.wrap (-1)) 33800=33800:=by decide
    have f6:bits BinOp.xor IntKind.u16 (h:Int) 33800=(ae7 e:Int):=by
     have:=b48 h 33800 om dc;rw[show ((33800:Nat):Int)=33800 from rfl]at this;rw[this];unfold ae7;rw[if_pos ho,hh]
    clear hh ho;generalize ae7 e=e' at *;go_wp2_with fail
    go_roundg (8-(k+1))
    case measure=>omega
    case rel=>exact⟨k+1,by omega,by omega,by go_num,by rw[HE.o],rfl⟩
   ·have f4:bits BinOp.and IntKind.u16 (e:Int) 1=0:=by
     have:=u16_and_nat e 1 om dc;rw[show ((1:Nat):Int)=1 from rfl,nat_mask1]at this;rw[this];omega
    have f5:bits BinOp.and IntKind.u16 0 33800=0:=by decide
    have f6:bits BinOp.xor IntKind.u16 (h:Int) 0=(ae7 e:Int):=by
     have:=b48 h 0 om dc;rw[show ((0:Nat):Int)=0 from rfl]at this;rw[this];unfold ae7;rw[if_neg ho,hh]
    clear hh ho;generalize ae7 e=e' at *;go_wp2_with fail
    go_roundg (8-(k+1))
    case measure=>omega
    case rel=>exact⟨k+1,by omega,by omega,by go_num,by rw[HE.o],rfl⟩
  ·obtain rfl:k=8:=by omega
   obtain⟨e,he⟩:∃e,azs 8 d=e:=⟨_,rfl⟩;have HE:=q_ he;rw[he];clear he;go_wp2_with fail;go_ret;exact⟨by rw[HE.o];rfl,rfl⟩
theorem azr (c:Nat) (w:World) (hc:c<65536):Calls prog 183 #[.int .u16 c] w λe w'=>e=.returned (.int .u16 (abd c:Int))/\Below w.1.size w w':=by
 obtain⟨h,hh⟩:∃h,c / 16=h:=⟨_,rfl⟩;have f3:(c:Int) / 16=(h:Int):=by omega
 obtain⟨i,hi⟩:∃i,c%16=i:=⟨_,rfl⟩
 have f4:bits BinOp.and IntKind.u16 (c:Int) 15=(i:Int):=by
  have:=u16_and_nat c 15 hc dc;rw[show ((15:Nat):Int)=15 from rfl,nat_mask4]at this;rw[this,hi]
 have f5:bits BinOp.xor IntKind.u16 (h:Int) ((aci.getD i 0:Nat):Int)=(abd c:Int):=by
  rw[b48 h _ om (atz _)];unfold abd;rw[hh,hi]
 have HK:Q_ (Blk (w.alloc (.cells (aci.map λn:Nat=>Value.int .u16 (n:Int)).toArray 350)) w.1.size (aci.map λn:Nat=>Value.int .u16 (n:Int))):=q_ (Blk.newL (qg w _ _) rfl)
 have c0:(w.alloc (.cells (aci.map λn:Nat=>Value.int .u16 (n:Int)).toArray 350)).cell? ⟨w.1.size,i,none⟩=some (.int .u16 ((aci.getD i 0:Nat):Int)):=HK.o.cell i (by
  rw[b0l,d7 (show i<aci.length by simp[aci];omega),l9,d7 (show i<aci.length by simp[aci];omega)];rfl)
 have g1:(i:Int)<16:=by omega
 have g2:(0:Int) <=(i:Int):=o5 _;generalize abd c=r at *;generalize aci.getD i 0=y at *;change (w.alloc (.cells #[.int .u16 0,.int .u16 4225,.int .u16 8450,.int .u16 12675,.int .u16 16900,.int .u16 21125,.int .u16 25350,.int .u16 29575,.int .u16 33800,.int .u16 38025,.int .u16 42250,.int .u16 46475,.int .u16 50700,.int .u16 54925,.int .u16 59150,.int .u16 63375] 350)).cell? ⟨w.1.size,i,none⟩=some (.int .u16 (y:Int))at c0;clear HK hh hi;go_enter func183,ntmps183;go_upto_region 2 with fail;have HB:Q_ (Below w.1.size w (w.alloc (.cells #[.int .u16 0,.int .u16 4225,.int .u16 8450,.int .u16 12675,.int .u16 16900,.int .u16 21125,.int .u16 25350,.int .u16 29575,.int .u16 33800,.int .u16 38025,.int .u16 42250,.int .u16 46475,.int .u16 50700,.int .u16 54925,.int .u16 59150,.int .u16 63375] 350))):=q_ (qa _ _);generalize w.alloc (.cells #[.int .u16 0,.int .u16 4225,.int .u16 8450,.int .u16 12675,.int .u16 16900,.int .u16 21125,.int .u16 25350,.int .u16 29575,.int .u16 33800,.int .u16 38025,.int .u16 42250,.int .u16 46475,.int .u16 50700,.int .u16 54925,.int .u16 59150,.int .u16 63375] 350)=W1 at *
 go_wp2_with fail;go_ret;exact⟨rfl,HB.o⟩
theorem ahk {Q:Nat->Prop} {w:World} (s:Nat) (A:Option Addr) (l:List UInt8) (c:Nat) (h:qf Q w A (bsV l)) (hs:s<65536) (hm:l.length<=1100000) :
 Calls prog 113 #[.int .u16 s,.slice A l.length c] w λe w'=>e=.returned (.int .u16 (xg s l:Int))/\Below w.1.size w w':=by
 replace h:=h.lt;have HI:=q_ h;have HE:Q_ (xg s (l.take l.length)=xg s l):=q_ (by rw[b0v]);generalize hL:l.length=n at *;have HL:=q_ hL;have HS:=q_ hs;clear hL h hs;go_enter func113,ntmps113;go_wp2_with fail
 go_loopg [0,9] n (λg s0 s9 wr=>∃k:Nat,k<=n/\n-k<=g/\s9=.int .i64 k/\s0=.int .u16 (xg s (l.take k):Int)/\Q_ (Below w.1.size w wr))
 case atStart=>exact⟨0,b0d _,by omega,rfl,rfl,n9 _ _⟩
 case round=>
  obtain⟨k,hk,hg,rfl,rfl,HB⟩:=hrel
  by_cases hlt:k<n
  ·have hkl:k<l.length:=by rw[HL.o];exact hlt
   obtain⟨b',o',rfl,hq,hc⟩:=HI.o k (bV (l[k]'hkl)) (v9 hkl);have HSN:Q_ (xg s (l.take (k+1))=akw (xg s (l.take k)) l[k]):=q_ (by rw[o9 hkl,avs]);have hml:=aa3 (l.take k) HS.o;generalize xg s (l.take k)=m at *;have hc':wr.cell? ⟨b',o'+k,none⟩=some (bV l[k]):=(HB.o.cell (p:=⟨b',o'+k,none⟩) hq.2).trans hc;unfold bV at hc';clear hc;generalize l[k]=x at *;have hx:=x.toNat_lt;have f1:bits BinOp.xor IntKind.u16 (m:Int) (x.toNat:Int)=((m ^^^ x.toNat:Nat):Int):=b48 m _ hml om;have f2:IntKind.u16.wrap (x.toNat:Int)=(x.toNat:Int):=IntWalk.u16_in _ om;have hd:=af4 hml (show x.toNat<65536 by omega);have HF:=λe W (q:e<65536)=>q_ (azr e W q)
   have HY:=q_ (show akw m x=abd (abd (m ^^^ x.toNat))from rfl);generalize m ^^^ x.toNat=d at *;have i1:(k:Int)<n:=by omega
   have i2:(0:Int) <=(k:Int):=o5 _;go_wp2_with fail;refine((HF _ _ hd).o).mono ?_;rintro e w1 ⟨rfl,hb⟩;have HB1:=q_ (qb HB.o hb);clear hb hc';go_wp2_with fail;refine((HF _ _ (aj0 hd)).o).mono ?_;rintro e w2 ⟨rfl,hb⟩;have HB2:Q_ (Below w.1.size w w2):=q_ (qb HB1.o hb);clear hb;have e1:xg s (l.take (k+1))=abd (abd d):=HSN.o.trans HY.o;have HE1:=q_ e1;clear e1;generalize abd (abd d)=r at *;go_wp2_with fail
   go_roundg (n-(k+1))
   case measure=>omega
   case rel=>exact⟨k+1,by omega,by omega,by go_num,by rw[HE1.o],HB2⟩
  ·obtain rfl:k=n:=by omega
   have HE2:=HE.o;generalize xg s (l.take k)=m at *;go_wp2_with fail;go_ret;exact⟨by rw[<- HE2];rfl,HB.o⟩
theorem bap {Q:Nat->Prop} {w:World} (g:Nat) (A:Option Addr) (l:List UInt8) (c:Nat) (hg:w.cell? ⟨g,0,none⟩=some (.slice A l.length c)) (h:qf Q w A (bsV l)) (hm:l.length<=1100000) :
 Calls prog 87 #[.slice (some ⟨g,0,none⟩) 1 1] w λe w'=>e=.returned (.int .u16 (xg 65535 l:Int))/\Below w.1.size w w':=by
 have HM:=q_ (ahk (w:=w) 65535 A l c h dc hm);generalize xg 65535 l=r at *;generalize l.length=n at *;clear h;go_enter func87,ntmps87;go_wp2_with fail
 go_loopg [3,8] 1 (λt s3 s8 wr=>(s8=.int .i64 0/\s3=.int .u16 65535/\wr=w/\1<=t) \/(s8=.int .i64 1/\s3=.int .u16 (r:Int)/\Q_ (Below w.1.size w wr)))
 case atStart=>exact .inl ⟨rfl,rfl,rfl,by omega⟩
 case round=>
  rcases hrel with⟨rfl,rfl,rfl,ht⟩|⟨rfl,rfl,HB⟩
  ·go_wp2_with fail;refine(HM.o).mono ?_;rintro e w1 ⟨rfl,hb⟩;have HB1:=q_ hb;clear hb;go_wp2_with fail
   go_roundg 0
   case measure=>omega
   case rel=>exact .inr ⟨rfl,rfl,HB1⟩
  ·go_wp2_with fail;go_ret;exact⟨rfl,HB.o⟩
def ar2 (p:Prt):ByteArray:=
 let s:ByteArray:=match p.sz with
  | 1=>⟨#[105,110,116,56,95,116]⟩
  | 2=>⟨#[105,110,116,49,54,95,116]⟩
  | 4=>⟨#[105,110,116,51,50,95,116]⟩
  | 8=>⟨#[105,110,116,54,52,95,116]⟩
  | _=>ByteArray.empty
 if p.sg then s else⟨#[117]⟩++s
def yq (c:Nat) (p:Prt):Nat:=
 let d:=xg c (ar2 p ++⟨#[32]⟩++p.nm ++⟨#[32]⟩).data.toList
 if 0<p.mn then acx d (p.mn%256)else d
def aoa (f:TFm):Nat:=
 if f.1=ByteArray.empty then 0 else
  let c:=(af1 f.2).foldl yq (xg 65535 (f.1 ++⟨#[32]⟩).data.toList)
  Nat.xor (c%256) (c / 256)
def aaf:ahh:=⟨0,0,0,0,[]⟩
def ai7 (i:Nat) (b:List UInt8):Int×List Int:=
 let f:=xe i
 if f.1=ByteArray.empty then(6,[])else
  let r:=xl (ach f.2) b
  if r.1=0 then(0,yw (aem f.2) r.2 (List.replicate (vf f.2) 0))else(r.1,[])
def ab3 (b:List UInt8):Int×Nat×ahh:=
 if b.length=0 then(2,0,aaf)else if zy b 0≠254 then(3,0,aaf)else if b.length<6 then(2,0,aaf)else
  let i:=(zy b 5).toNat;let w:=yn (xe i).2
  if w=0 then(6,0,aaf)else if(zy b 1).toNat≠w then(3,0,aaf)else if b.length<w+8 then(2,0,aaf)else
   let s:=acx (xg 65535 ((b.drop 1).take (w+5))) (aoa (xe i))
   if(zy b (w+6)).toNat=s%256 /\(zy b (w+7)).toNat=s / 256 then
    let r:=ai7 i ((b.drop 6).take w)
    if r.1=0 then(0,w+8,⟨(zy b 2).toNat,(zy b 3).toNat,(zy b 4).toNat,i,r.2.map λx=>abw [x]⟩)else(r.1,w+8,aaf)
   else(4,0,aaf)
theorem a2q (p:Prt) (hz:p.sz=1\/p.sz=2\/p.sz=4\/p.sz=8) (w:World):Calls prog 115 #[.agg #[.string p.nm,.int .i64 p.sz,.bool p.sg,.int .i64 p.mn]] w λe w'=>e=.returned (.string (ar2 p))/\Below w.1.size w w':=by
 obtain⟨nm,sz,sg,mn⟩:=p;dsimp only at *;rcases hz with rfl|rfl|rfl|rfl<;>cases sg<;>unfold ar2<;>dsimp only
 all_goals
  go_enter func115,ntmps115;go_wp2_with fail;go_ret;exact⟨rfl,qb (qa _ _) (qa _ _)⟩
theorem a2p {Q:Nat->Prop} {w:World} (A:Option Addr) (l:List Prt) (c:Nat) (h:qf Q w A (q8 l)) (hm:l.length<=1000) :
 Calls prog 114 #[.slice A l.length c] w λe w'=>∃g,e=.returned (.slice (some ⟨g,0,none⟩) l.length l.length)/\Blk w' g (q8 (af1 l))/\w.1.size<=g/\Below w.1.size w w':=by
 have H:=q_ (axq A l c h hm);have HE:Q_ (ag6 gtP l=af1 l):=q_ rfl;rw[HE.o]at H;generalize af1 l=s at *;generalize l.length=n at *;clear h;go_enter func114,ntmps114;go_wp2_with fail;refine(H.o).mono ?_;rintro e w1 ⟨g,rfl,hk,hg,hb⟩;have HK:=q_ (o3 hk (o3 hg hb));clear hk hg hb;go_wp2_with fail;go_ret;exact⟨g,rfl,HK.o⟩
theorem a4u (s:ByteArray) (w:World):∃c W,(convert 9 22 (.string s)).run prog w=.ok (.slice (some ⟨w.1.size,0,none⟩) s.size c) W/\qf (λb=>w.1.size<=b) W (some ⟨w.1.size,0,none⟩) (bsV s.data.toList)/\Below w.1.size w W:=by
 refine⟨_,_,run_bytes_of_string (P:=prog) w 9 22 5 s underlying9 underlying22 underlying5,λj u hu=>?_,?_⟩
 ·have hj:j<s.data.size:=by
   have:=(b11.1 hu).1
   simpa [bsV]using this
  have hu2:u=bV s.data[j]:=by
   have:=v9 (l:=s.data.toList) (k:=j) (by simpa using hj);rw[this]at hu
   simpa using hu.symm
  refine⟨w.1.size,0,rfl,a8 _,?_⟩;rw[hu2,b0j];have hb:=bytesRow_at s (grownCap w s.size 0 5) j hj;have hlt:j<(bytesRow s (grownCap w s.size 0 5)).size:=(o8.1 hb).1
  have hh:∀X:Obj,(w.drew.alloc X).heap[w.1.size]?=some X:=λX=>by
   show (w.heap.push X)[w.1.size]?=_;simp
  unfold World.cell?;rw[hh];exact hb
 ·exact(n9 w.1.size w).drew.trans (qa w.drew (.cells (bytesRow s (grownCap w s.size 0 5)) 5 _))
theorem anb (s:ByteArray) (z:Nat) (hz:s.size=z) (w:World):∃c W,(convert 9 22 (.string s)).run prog w=.ok (.slice (some ⟨w.1.size,0,none⟩) z c) W/\qf (λb=>w.1.size<=b) W (some ⟨w.1.size,0,none⟩) (bsV s.data.toList)/\Below w.1.size w W:=hz▸a4u s w
def ar6 (p:Prt):Prop:=(p.sz=1\/p.sz=2\/p.sz=4\/p.sz=8)/\p.mn<=64/\p.nm.size<=100
theorem a45 {c:Nat} (h:c<65536) {p:Prt} (hp:ar6 p):yq c p<65536:=by
 unfold yq;dsimp only;have:=aa3 (ar2 p ++⟨#[32]⟩++p.nm ++⟨#[32]⟩).data.toList h
 split
 ·exact aj1 this om
 ·exact this
theorem agj:∀(l:List Prt) {c:Nat},c<65536 ->(∀p∈l,ar6 p)->l.foldl yq c<65536
 | [],c,h,_=>h
 | p::l,c,h,hp=>agj l (a45 h (hp p (b1x ..))) (λq hq=>hp q (b13 _ hq))
theorem a8p (p:Prt):(ar2 p).size<=9:=by
 have h:∀s:ByteArray,s.size<=8 ->((⟨#[117]⟩:ByteArray)++s).size<=9:=λs hs=>by rw[b3e];show 1+s.size<=9;omega
 have h2:∀n:Nat,(match n with|1=>(⟨#[105,110,116,56,95,116]⟩:ByteArray)|2=>⟨#[105,110,116,49,54,95,116]⟩|4=>⟨#[105,110,116,51,50,95,116]⟩|8=>⟨#[105,110,116,54,52,95,116]⟩|_=>ByteArray.empty).size<=8:=λn=>by split<;>decide
 unfold ar2;dsimp only
 split
 ·exact p9 (h2 _) dc
 ·exact h _ (h2 _)
theorem akv (s:ByteArray):s.data.toList.length=s.size:=by simp
theorem axi (i:Int) (w:World) (hm:(xe i).2.length<=1000) (hnm:(xe i).1.size<=100) (hp:∀p∈(xe i).2,ar6 p):Calls prog 88 #[.int .i64 i] w λe w'=>e=.returned (.int .u8 (aoa (xe i):Int))/\Below w.1.size w w':=by
 have H:=q_ (ahz i w);generalize xe i=f at *;obtain⟨n,l⟩:=f;unfold xy at H;dsimp only at *;have HP:=q_ hp
 have HLN:Q_ ((af1 l).length=l.length /\(af1 l).take l.length=af1 l):=q_ (by
  have:(af1 l).length=l.length:=auu _ l;exact⟨this,by rw[<- this,b0v]⟩)
 have HPW:Q_ (∀p∈af1 l,ar6 p):=q_ (λp q=>hp p ((ags gtP l).mem_iff.1 q));clear hp;obtain⟨res,hres⟩:∃res,aoa (n,l)=res:=⟨_,rfl⟩;rw[hres];have HRES:=q_ hres;clear hres;go_enter func88,ntmps88;go_wp2_with fail;refine(H.o).mono ?_;rintro e w1 ⟨A,c,rfl,hf,hb⟩;have HF:=q_ hf;have HB:=q_ hb;clear hf hb H;have HN:Q_ (Blk (w1.alloc (.cells #[.string n,.slice A l.length c] 200)) w1.1.size [.string n,.slice A l.length c]):=q_ (Blk.newL (qg w1 _ _) rfl);have HB2:=q_ (qb HB.o (qa w1 (.cells #[.string n,.slice A l.length c] 200)));have HF2:=q_ (abn HF.o (qa w1 (.cells #[.string n,.slice A l.length c] 200)) (a8 _));go_upto_region 2 with fail;clear HF HB;generalize w1.alloc (.cells #[.string n,.slice A l.length c] 200)=W2 at *;generalize w1.1.size=fb at *;have n0:=HN.o.cell 0 (v:=.string n) rfl
 by_cases hn:n=⟨#[]⟩
 ·have hr:res=0:=by rw[<- HRES.o];unfold aoa;exact if_pos hn
  subst hn;subst hr;go_wp2_with fail;go_ret;exact⟨rfl,HB2.o⟩
 ·have hn2:=am2 hn;have HR2:Q_ (res=Nat.xor (((af1 l).foldl yq (xg 65535 (n ++⟨#[32]⟩).data.toList))%256) (((af1 l).foldl yq (xg 65535 (n ++⟨#[32]⟩).data.toList)) / 256)):=q_ (by rw[<- HRES.o];unfold aoa;exact if_neg hn);clear hn HRES;go_wp2_with fail;have hsz:(n ++⟨#[32]⟩:ByteArray).size<=1100000:=by rw[b3e];show n.size+1<=_;omega
  obtain⟨z,hz⟩:∃z,(n ++⟨#[32]⟩:ByteArray).size=z:=⟨_,rfl⟩;obtain⟨cc,W3,hcv,hfb,hbb⟩:=anb (n ++⟨#[32]⟩) z hz W2;rw[hcv];have HM:=q_ (ahk (w:=W3) 65535 _ (n ++⟨#[32]⟩).data.toList cc hfb dc (by rw[akv];exact hsz));have HC0:Q_ (xg 65535 (n ++⟨#[32]⟩).data.toList<65536):=q_ (aa3 _ dc);rw[akv,hz]at HM;have HN3:=q_ (HN.o.on hbb);have HB3:=q_ (qb HB2.o hbb);have HF3:=q_ (abn HF2.o hbb (a8 _));clear hcv hfb hbb hsz HN HB2 HF2 n0 hz;generalize xg 65535 (n ++⟨#[32]⟩).data.toList=c0 at *;have HM2:Q_ (Calls prog 113 #[.int .u16 65535,.slice (some ⟨W2.1.size,0,none⟩) z cc] W3 λe w'=>e=.returned (.int .u16 (c0:Int))/\Below W3.1.size W3 w'):=HM;clear HM;go_wp2_with fail;refine HM2.o.mono ?_;rintro e W4 ⟨rfl,hb⟩;have HN4:=q_ (HN3.o.on hb);have HB4:=q_ (qb HB3.o hb);have HF4:=q_ (abn HF3.o hb (a8 _));clear hb HM2 HN3 HB3 HF3
  have n1:=HN4.o.cell 1 (v:=.slice A l.length c) rfl;have HW:=q_ (a2p A l c HF4.o hm);obtain⟨N,hN⟩:∃N,l.length=N:=⟨_,rfl⟩;rw[hN]at HW n1 hm;rw[hN]at HLN;clear hN;obtain⟨L,hL⟩:∃L,af1 l=L:=⟨_,rfl⟩;rw[hL]at HW HLN HPW HR2;clear hL;go_wp2_with fail;refine HW.o.mono ?_;rintro e W5 ⟨g,rfl,hk,hg,hb⟩;have HK5:=q_ hk;have HB5:=q_ (qb HB4.o hb);clear hk hb hg n1 HW HN4 HB4 HF4;go_wp2_with fail
  go_loopg [4,21] N (λt s4 s21 wr=>∃k:Nat,k<=N/\N-k<=t/\s21=.int .i64 k/\s4=.int .u16 (((L.take k).foldl yq c0:Nat):Int)/\Q_ (Blk wr g (q8 L))/\Q_ (Below w.1.size w wr))
  case atStart=>exact⟨0,by omega,by omega,rfl,rfl,HK5.o,HB5.o⟩
  case round=>
   obtain⟨k,hk,ht,rfl,rfl,HK,HB⟩:=hrel;clear HK5 HB5
   by_cases hlt:k<N
   ·have hkl:k<L.length:=by rw[HLN.o.1];exact hlt
    obtain⟨b',o',hA,-,cx0,cx1,cx2,cx3⟩:=aj7 (HK.o.flat (Q:=λ_=>True) trivial) k hkl;injection hA with hA
    injection hA with hA1 hA2
    subst hA1 hA2;rw[b0j]at cx0 cx1 cx2 cx3;have HSN:Q_ ((L.take (k+1)).foldl yq c0=yq ((L.take k).foldl yq c0) L[k]):=q_ (by rw[o9 hkl,b3v];rfl);have hul:=agj (L.take k) HC0.o (λp hp=>HPW.o p (b3g hp));have hpo:=HPW.o L[k] (b1j hkl);generalize (L.take k).foldl yq c0=u at *;generalize L[k]=p at *;have HWD0:=λW=>q_ (a2q p hpo.1 W)
    have hws:=a8p p;obtain⟨wd,hwd⟩:∃wd,ar2 p=wd:=⟨_,rfl⟩;rw[hwd]at hws;have HEX:Q_ (yq u p=if 0<p.mn then acx (xg u (wd ++⟨#[32]⟩++p.nm ++⟨#[32]⟩).data.toList) (p.mn%256)else xg u (wd ++⟨#[32]⟩++p.nm ++⟨#[32]⟩).data.toList):=q_ (by rw[<- hwd];rfl);obtain⟨nm,sz,sg,mn⟩:=p;dsimp only at *;have HWD:∀W,Q_ (Calls prog 115 #[.agg #[.string nm,.int .i64 sz,.bool sg,.int .i64 mn]] W λe w'=>e=.returned (.string wd)/\Below W.1.size W w'):=λW=>q_ (by rw[<- hwd];exact(HWD0 W).o)
    clear hwd HWD0
    have hwl:(wd ++⟨#[32]⟩++nm ++⟨#[32]⟩:ByteArray).size<=1100000:=by
     rw[b3e,b3e,b3e];show wd.size+1+nm.size+1<=_;have:=hpo.2.2;dsimp only at this;omega
    obtain⟨z,hz⟩:∃z,(wd ++⟨#[32]⟩++nm ++⟨#[32]⟩:ByteArray).size=z:=⟨_,rfl⟩;have HZ:=q_ hz;have HMR0:=λW (a:Nat) cc h=>q_ (ahk (Q:=λb=>a<=b) (w:=W) u (some ⟨a,0,none⟩) (wd ++⟨#[32]⟩++nm ++⟨#[32]⟩).data.toList cc h hul (by rw[akv];exact hwl))
    have hdl:=aa3 (wd ++⟨#[32]⟩++nm ++⟨#[32]⟩).data.toList hul;obtain⟨d,hd⟩:∃d,xg u (wd ++⟨#[32]⟩++nm ++⟨#[32]⟩).data.toList=d:=⟨_,rfl⟩;rw[hd]at HEX hdl
    have HMR:∀W (a:Nat) cc,qf (λb=>a<=b) W (some ⟨a,0,none⟩) (bsV (wd ++⟨#[32]⟩++nm ++⟨#[32]⟩).data.toList)->Q_ (Calls prog 113 #[.int .u16 u,.slice (some ⟨a,0,none⟩) z cc] W λe w'=>e=.returned (.int .u16 (d:Int))/\Below W.1.size W w'):=λW a cc h=>q_ (by
     have q:=(HMR0 W a cc h).o;rw[akv,hd,hz]at q;exact q)
    have hns:=hpo.2.2;dsimp only at hns;have k1:¬9223372036854775807<wd.size+1:=by omega
    have k2:¬9223372036854775807<wd.size+1+nm.size:=by omega
    have k3:¬9223372036854775807<wd.size+1+nm.size+1:=by omega
    clear hd HMR0 hwl hws hz hns;have hmn:mn<=64:=hpo.2.1;have i1:(k:Int)<N:=by omega
    have i2:(0:Int) <=(k:Int):=o5 _;have HN1:Q_ (Blk (wr.alloc (.cells #[.string nm,.int .i64 sz,.bool sg,.int .i64 mn] 261)) wr.1.size [.string nm,.int .i64 sz,.bool sg,.int .i64 mn]):=q_ (Blk.newL (qg wr _ _) rfl);have HB1:=q_ (qb HB.o (qa wr (.cells #[.string nm,.int .i64 sz,.bool sg,.int .i64 mn] 261)));have HK1:=q_ (HK.o.on (qa wr (.cells #[.string nm,.int .i64 sz,.bool sg,.int .i64 mn] 261)));go_upto_region 8 with fail;clear cx0 cx1 cx2 cx3 HB HK;generalize wr.alloc (.cells #[.string nm,.int .i64 sz,.bool sg,.int .i64 mn] 261)=W1 at *;generalize wr.1.size=q at *
    try (apply b1q;intro K_ HK_)
    have hS0:Below W1.1.size W1 W1.drew:=(n9 _ _).drew;refine t6 (S:=λw'=>Below W1.1.size W1 w') kr hS0 (λhHeld0=>?_);refine tkA 0 25 rfl ?_;go_frame;refine tkQ (i:=1) (oi:=⟨some 26,_,_,_,_,_⟩) (v:=_) rfl (o4 (by rfl) 261 _ rfl q 0 rfl [.string nm,.int .i64 (sz:Nat),.bool sg,.int .i64 (mn:Nat)] _ (λw' hSw=>(HN1.o.on hSw).rg) underlying261 rfl kr) ?_;go_frame;refine tkA 4 29 rfl ?_;go_frame;refine tkQ (i:=5) (oi:=⟨some 30,_,_,_,_,_⟩) (v:=?_) rfl (Or.inl ⟨by rfl,?_⟩) ?_;rotate_left
    ·intro w' hSw;have x1:=(HN1.o.on hSw).cell 0 (v:=.string nm) rfl;go_simp
     try with_reducible rfl
    try go_frame
    refine rdB 2 27 rfl λK hK=>?_
    go_step;refine(HWD _).o.mono ?_;rintro e w2 ⟨rfl,hb⟩;have HS2:Q_ (Below W1.1.size W1 w2):=q_ (hHeld0.trans (hb.mono hHeld0.size));clear hb
    try go_frame
    refine hK.out _ _ (HS2.o) (λhHeld=>?_);clear hK K
    try go_frame
    refine tkA 3 28 rfl ?_;go_frame;refine tkA 6 31 rfl ?_;go_frame;refine tkA 7 32 rfl ?_;go_frame;refine rdB 8 33 rfl λK hK=>?_
    go_step;obtain⟨cc,wb,hcv,hfb,hbb⟩:=anb (wd ++⟨#[32]⟩++nm ++⟨#[32]⟩) z HZ.o w2;rw[hcv];have HS3:Q_ (Below W1.1.size W1 wb):=q_ (HS2.o.trans (hbb.mono HS2.o.size));have HFB:=q_ hfb;clear hcv hfb hbb
    try go_frame
    refine hK.out _ _ (HS3.o) (λhHeld=>?_);clear hK K
    try go_frame
    refine rdB 9 34 rfl λK hK=>?_
    go_step;refine(HMR wb _ cc HFB.o).o.mono ?_;rintro e w4 ⟨rfl,hb⟩;have HS4:Q_ (Below W1.1.size W1 w4):=q_ (HS3.o.trans (hb.mono HS3.o.size));clear hb
    try go_frame
    refine hK.out _ _ (HS4.o) (λhHeld=>?_);clear hK K
    try go_frame
    refine tkA 10 4 rfl ?_;go_frame;refine b0m kr ?_ _
    try go_frame
    have HN6:=q_ (HN1.o.on HS4.o);have HB6:=q_ (qb HB1.o HS4.o);have HK6:=q_ (HK1.o.on HS4.o);clear hHeld hHeld0 hS0;have y3:=HN6.o.cell 3 (v:=.int .i64 mn) rfl
    by_cases hm0:mn=0
    ·have HE:Q_ ((L.take (k+1)).foldl yq c0=d):=q_ (by rw[HSN.o,HEX.o,if_neg om]);have j1:¬(0:Int)<(mn:Int):=by omega
     go_wp2_with fail
     go_roundg (N-(k+1))
     case measure=>omega
     case rel=>exact⟨k+1,by omega,by omega,by go_num,by rw[HE.o],HK6,HB6⟩
    ·have HE:Q_ ((L.take (k+1)).foldl yq c0=acx d mn):=q_ (by rw[HSN.o,HEX.o,if_pos om,b29 om]);have j1:(0:Int)<(mn:Int):=by omega
     have j2:IntKind.u8.wrap (mn:Int)=(mn:Int):=IntWalk.u8_in _ om;have j3:(mn:Int)%256=(mn:Int):=by omega
     have HCS:=λW=>q_ (ang d mn W hdl om)
     go_wp2_with fail;refine(HCS _).o.mono ?_;rintro e W7 ⟨rfl,rfl⟩;go_wp2_with fail
     go_roundg (N-(k+1))
     case measure=>omega
     case rel=>exact⟨k+1,by omega,by omega,by go_num,by rw[HE.o],HK6,HB6⟩
   ·obtain rfl:k=N:=by omega
    have hcl:=agj L HC0.o HPW.o;rw[HLN.o.2];obtain⟨C,hC⟩:∃C,L.foldl yq c0=C:=⟨_,rfl⟩;rw[hC]at HR2 hcl;rw[hC];obtain⟨a,ha⟩:∃a,C%256=a:=⟨_,rfl⟩;obtain⟨b,hb⟩:∃b,C / 256=b:=⟨_,rfl⟩;rw[ha,hb]at HR2;have g1:(C:Int)%256=(a:Int):=by omega
    have g2:(C:Int) / 256=(b:Int):=by omega
    have g3:(b:Int)%256=(b:Int):=by omega
    have g4:bits BinOp.xor IntKind.u8 (a:Int) (b:Int)=(res:Int):=by rw[HR2.o];exact u8_xor_nat a b om om
    clear hC ha hb;go_wp2_with fail;go_ret;exact⟨rfl,HB.o⟩
theorem bc2 (l m:List Prt) (n:Nat):aap (l++m) n=aap l n++aap m (n+vf l):=by
 induction l generalizing n with
 | nil=>simp[aap,vf]
 | cons p l ih=>simp only[b0u,aap,ih,b0s];congr 2;simp[vf];congr 1;omega
theorem aut (l:List Prt) (n:Nat):(aap l n).length=vf l:=by
 induction l generalizing n with
 | nil=>rfl
 | cons p l ih=>simp[aap,ih,vf]
def ajn (p:Prt) (n k:Nat):List Slt:=(List.range k).map λj=>⟨p.sz,p.sg,n+j⟩
theorem a7s (p:Prt) (n k:Nat):ajn p n (k+1)=ajn p n k++[⟨p.sz,p.sg,n+k⟩]:=by simp[ajn,List.range_succ]
theorem a7t (l:List Prt) (p:Prt):aap (l++[p]) 0=aap l 0++ajn p (vf l) (aao p):=by
 rw[bc2];simp[aap,ajn]
def aju (w:World) (b:Nat) (t:TypeId) (C:Array Value):Prop:=w.heap[b]?=some (.cells C t (0,0))
theorem aju.new (w:World) (C:Array Value) (t:TypeId):aju (w.alloc (.cells C t)) w.1.size t C:=by
 show (w.heap.push _)[w.1.size]?=_;simp
theorem aju.lt {w:World} {b:Nat} {t:TypeId} {C:Array Value} (h:aju w b t C):b<w.1.size:=(o8.1 h).1
theorem aju.on {w w':World} {b:Nat} {t:TypeId} {C:Array Value} (h:aju w b t C) (hb:Below w.1.size w w'):aju w' b t C:=(hb.block b h.lt).trans h
theorem aju.cell {w:World} {b:Nat} {t:TypeId} {C:Array Value} (h:aju w b t C) (o:Nat) {v:Value} (hv:C[o]?=some v):w.cell? ⟨b,o,none⟩=some v:=by
 unfold aju at h;unfold World.cell?;simp only[h];exact hv
theorem bbu {P:Program} {B:Nat} {t ty e:TypeId} {i:TypeInfo} {z:Value} {size bytes:Nat} {v:Value} {n:Nat} {xs:List Value} {w:World} (h:w.ownsRow B e size v n xs) (hB:B<=w.1.size) (hi:P.info? e=some i/\i.zero=some z/\i.size=size/\i.bytes=bytes) (h1:P.underlying t=some (.slice e)) (h6:z.cells.size=size) (h7:0<size)
 {R:Nat->Prop} (X:Option Addr) (m c:Nat) (news:List Value) (hn:news.length=m*size) (hc:qf R w X news) (h1c:∀u∈news,u.oneCell'=true) (b1:n+m<=maxLen) (b2:(n+m)*bytes<=140737488355328) :
 ∃v' w',(Builtin.append_ #[t,t] ty #[v,.slice X m c]).run P w=.ok v' w'/\w'.ownsRow B e size v' (n+m) (xs++news)/\Below B w w'/\∀q t' C,aju w q t' C->t'≠e->aju w' q t' C:=by
 obtain⟨v',w',q1,q2,q3,-⟩:=j6 (P:=P) w t ty e i z size bytes h1 hi.1 hi.2.1 hi.2.2.1 hi.2.2.2 h6 h7 B v n xs h X m c news hn hc h1c b1 b2 hB;obtain⟨A,cap,rfl,-,-⟩:=zt h;refine⟨v',w',q1,q2,(n9 B w).grown q3 hB (λk hk=>?_),λq t' C hq ht=>?_⟩
 ·rcases h.2 with⟨q,-⟩|⟨g,cap',cur,q,hb,-⟩
  ·injection q with q _ _;subst q;cases hk
  ·injection q with q _ _;subst q
   simp only[Value.ownBlock,b2e]at hk;omega
 ·refine(q3.block q hq.lt (λhk=>?_)).trans hq;rcases h.2 with⟨y,-⟩|⟨g,cap',cur,y,hb,hg,-⟩
  ·injection y with y _ _;subst y;cases hk
  ·injection y with y _ _;subst y
   simp only[Value.ownBlock,b2e]at hk;subst hk;rw[hq]at hg;injection hg with hg
   injection hg with _ hg _
   exact ht hg
theorem ban (l:List Prt) (k:Nat):vf (l.take k)<=vf l:=by
 have:vf l=vf (l.take k)+vf (l.drop k):=by
  unfold vf;rw[<- b3s,<- b17,b0t]
 omega
theorem bam (l:List Prt) (p:Prt):vf (l++[p])=vf l+aao p:=by simp[vf]
theorem arl {Q:Nat->Prop} {w:World} {A:Option Addr} {l:List Slt} (h:qf Q w A (zr l)) (k:Nat) (hk:k<l.length):∃b off,A=some ⟨b,off,none⟩/\Q b/\w.cell? ⟨b,off+k*3,none⟩=some (.int .i64 (l[k].sz:Int))/\w.cell? ⟨b,off+k*3+1,none⟩=some (.bool l[k].sg)/\w.cell? ⟨b,off+k*3+2,none⟩=some (.int .i64 (l[k].ix:Int)):=by
 have e:=λj hj=>aij aab 3 (λ_=>rfl) l k hk j hj
 obtain⟨b,off,hA,hb,h0⟩:=h _ _ (e 0 om);refine⟨b,off,hA,hb,h0,?_,?_⟩
 ·obtain⟨b',off',hA',-,h1⟩:=h _ _ (e 1 om);rw[hA]at hA';injection hA' with hA';injection hA' with q1 q2;subst q1 q2
  exact h1
 ·obtain⟨b',off',hA',-,h1⟩:=h _ _ (e 2 om);rw[hA]at hA';injection hA' with hA';injection hA' with q1 q2;subst q1 q2
  exact h1
theorem bhf (l:List Prt) (hp:∀p∈l,ar6 p) (n:Nat):∀x∈aap l n,1<=x.sz/\x.sz<=8:=by
 induction l generalizing n with
 | nil=>intro x hx;simp[aap]at hx
 | cons p l ih=>
  intro x hx;simp only[aap,b1z,b2f]at hx;rcases hx with⟨j,-,rfl⟩|hx
  ·have:=(hp p (b1x ..)).1;dsimp only;omega
  ·exact ih (λq hq=>hp q (b13 _ hq)) _ x hx
theorem amy (l:List Prt):(aem l).length=vf l:=by unfold aem;rw[auu,aut]
theorem a2w (l:List Prt) (hp:∀p∈l,ar6 p):∀x∈aem l,1<=x.sz/\x.sz<=8:=λx hx=>bhf l hp 0 x ((ags _ _).mem_iff.1 hx)
def avc (l:List Prt) (w:World) (e:Ending) (w':World):Prop:=
 ∃g B d,e=.returned (.tuple #[.slice (some ⟨g,0,none⟩) (vf l) (vf l),.slice B (vf l) d])/\Blk w' g (zr (aem l))/\qf (λb=>w.1.size<=b/\b<w'.1.size) w' B (acp (ach l))/\w.1.size<=g/\Below w.1.size w w'
theorem axp {Q:Nat->Prop} {w:World} (nm0:ByteArray) (A:Option Addr) (l:List Prt) (c:Nat) (h:qf Q w A (q8 l)) (hm:l.length<=1000) (hc:vf l<=1000) (hp:∀p∈l,ar6 p) :
 Calls prog 90 #[.agg #[.string nm0,.slice A l.length c]] w (avc l w):=by
 have HI:=q_ h.lt;have HP:=q_ hp;obtain⟨i0,hi,hz0,hz1,hz2⟩:=kq a2u;have HIN:=q_ (o3 hi (o3 hz0 (o3 hz1 hz2)));clear hi hz0 hz1 hz2;obtain⟨i1,hi,hz0,hz1,hz2⟩:=kq az7;have HIF:=q_ (o3 hi (o3 hz0 (o3 hz1 hz2)));clear hi hz0 hz1 hz2;have HC:=q_ hc;have HE:Q_ (l.take l.length=l):=q_ (by rw[b0v]);obtain⟨N,hn⟩:∃N,l.length=N:=⟨_,rfl⟩;rw[hn]at hm HE ⊢;have HL:=q_ hn;clear hn h hp hc;go_enter func90,ntmps90;go_upto_region 2 with fail;have HN:Q_ (Blk (w.alloc (.cells #[.string nm0,.slice A N c] 200)) w.1.size [.string nm0,.slice A N c]):=q_ (Blk.newL (qg w _ _) rfl);have HB:Q_ (Below w.1.size w (w.alloc (.cells #[.string nm0,.slice A N c] 200))):=q_ (qa _ _);generalize w.alloc (.cells #[.string nm0,.slice A N c] 200)=W1 at *;have n1:=HN.o.cell 1 (v:=.slice A N c) rfl;go_wp2_with fail;clear n1
 go_loopg [4,13] N (λt s4 s13 wr=>∃k:Nat,k<=N/\N-k<=t/\s13=.int .i64 k/\Q_ (aa0 w 208 3 s4 (vf (l.take k)) (zr (aap (l.take k) 0)) wr))
 case atStart=>exact⟨0,by omega,by omega,rfl,aa0.nil _ _ _ HB.o⟩
 case round=>
  rename_i s4;obtain⟨k,hk,ht,rfl,HO⟩:=hrel;clear HB HN
  by_cases hlt:k<N
  ·have hkl:k<l.length:=by rw[HL.o];exact hlt
   obtain⟨b',o',rfl,hq,c0,c1,c2,c3⟩:=aj7 HI.o k hkl;have hpo:=HP.o l[k] (b1j hkl);have HSN:Q_ (vf (l.take (k+1))=vf (l.take k)+aao l[k]/\aap (l.take (k+1)) 0=aap (l.take k) 0++ajn l[k] (vf (l.take k)) (aao l[k])):=q_ (by rw[o9 hkl];exact⟨bam _ _,a7t _ _⟩);have hkc:vf (l.take k)+aao l[k]<=1000:=by rw[<- HSN.o.1];exact p9 (ban l _) HC.o
   have HNB:=λW=>q_ (anu l[k] W)
   have d0:=(HO.o.2.cell (p:=⟨b',o'+k*4,none⟩) hq.2).trans c0;have d1:=(HO.o.2.cell (p:=⟨b',o'+k*4+1,none⟩) hq.2).trans c1;have d2:=(HO.o.2.cell (p:=⟨b',o'+k*4+2,none⟩) hq.2).trans c2;have d3:=(HO.o.2.cell (p:=⟨b',o'+k*4+3,none⟩) hq.2).trans c3;clear c0 c1 c2 c3;have HSK:Q_ (∀j,ajn l[k] (vf (l.take k)) (j+1)=ajn l[k] (vf (l.take k)) j++[⟨l[k].sz,l[k].sg,vf (l.take k)+j⟩]):=q_ (a7s l[k] (vf (l.take k)));have HS0:Q_ (ajn l[k] (vf (l.take k)) 0=[]):=q_ rfl;generalize l[k]=p at *;generalize vf (l.take k)=K at *;generalize aap (l.take k) 0=S at *;obtain⟨nm,sz,sg,mn⟩:=p;generalize aao ⟨nm,sz,sg,mn⟩=r at *;generalize ajn ⟨nm,sz,sg,mn⟩ K=sk at *;dsimp only at *;have i1:(k:Int)<N:=by omega
   have i2:(0:Int) <=(k:Int):=o5 _;have HT:Q_ (aju (wr.alloc (.cells #[.string nm,.int .i64 sz,.bool sg,.int .i64 mn] 261)) wr.1.size 261 #[.string nm,.int .i64 sz,.bool sg,.int .i64 mn]):=q_ (aju.new _ _ _);have HO1:=q_ (HO.o.on (qa wr (.cells #[.string nm,.int .i64 sz,.bool sg,.int .i64 mn] 261)));go_upto_region 5 with fail;clear d0 d1 d2 d3 HO;generalize wr.alloc (.cells #[.string nm,.int .i64 sz,.bool sg,.int .i64 mn] 261)=W2 at *;generalize wr.1.size=q at *;have x0:=HT.o.cell 0 (v:=.string nm) rfl;have x1:=HT.o.cell 1 (v:=.int .i64 sz) rfl;have x2:=HT.o.cell 2 (v:=.bool sg) rfl;have x3:=HT.o.cell 3 (v:=.int .i64 mn) rfl;go_wp2_with fail;refine(HNB W2).o.mono ?_;rintro e W3 ⟨rfl,hb⟩;have HT2:=q_ (HT.o.on hb);have HO2:=q_ (HO1.o.on hb);clear hb x0 x1 x2 x3 HT HO1;go_wp2_with fail
   go_loopg [4,19] r (λt2 s4 s19 wr=>∃j:Nat,j<=r/\r-j<=t2/\s19=.int .i64 j/\Q_ (aa0 w 208 3 s4 (K+j) (zr (S++sk j)) wr)/\Q_ (aju wr q 261 #[.string nm,.int .i64 sz,.bool sg,.int .i64 mn]))
   case atStart=>exact⟨0,by omega,by omega,rfl,by rw[HS0.o,b0p];exact HO2.o,HT2.o⟩
   case round=>
    rename_i s4;obtain⟨j,hj,ht2,rfl,HO,HT⟩:=hrel;clear HO2 HT2;obtain⟨A1,c1,hs1,-,-⟩:=HO.o.flat;subst hs1
    by_cases hjr:j<r
    ·have x1:=HT.o.cell 1 (v:=.int .i64 sz) rfl;have x2:=HT.o.cell 2 (v:=.bool sg) rfl;have j1:(j:Int)<r:=by omega
     have hO3:=HO.o.on (qa wr (.cells #[.int .i64 sz,.bool sg,.int .i64 ((K+j:Nat):Int)] 208));obtain⟨v',w3,hrun,ho,hbl,hap⟩:=bbu (P:=prog) (t:=202) (ty:=202) hO3.1 hO3.2.size HIN.o underlying202 rfl dc (R:=λ_=>True) (some ⟨wr.1.size,0,none⟩) 1 1 [.int .i64 sz,.bool sg,.int .i64 ((K+j:Nat):Int)] rfl ((Blk.newL (qg wr _ _) rfl).flat trivial) (a2t ⟨sz,sg,K+j⟩) (by unfold maxLen;omega) om;have HRUN:=q_ hrun
     have HO4:Q_ (aa0 w 208 3 v' (K +(j+1)) (zr (S++sk (j+1))) w3):=q_ (by
      rw[HSK.o,<- b0s,bc3,<- b3c];exact⟨ho,hO3.2.trans hbl⟩)
     have HT4:=q_ (hap _ _ _ (HT.o.on (qa wr (.cells #[.int .i64 sz,.bool sg,.int .i64 ((K+j:Nat):Int)] 208))) dc);clear hO3 hrun ho hbl hap;go_wp2_with (at_builtin;refine q9 rfl _ _ 202 rfl _ _ _ rfl rfl HRUN.o ?_)
     go_roundg (r-(j+1))
     case measure=>omega
     case rel=>exact⟨j+1,by omega,by omega,by go_num,HO4,HT4⟩
    ·obtain rfl:j=r:=by omega
     have HO5:Q_ (aa0 w 208 3 (.slice A1 (K+j) c1) (vf (l.take (k+1))) (zr (aap (l.take (k+1)) 0)) wr):=q_ (by rw[HSN.o.1,HSN.o.2];exact HO.o);go_wp2_with fail
     go_roundg (N-(k+1))
     case measure=>omega
     case rel=>exact⟨k+1,by omega,by omega,by go_num,HO5⟩
  ·obtain rfl:k=N:=by omega
   have HO2:=q_ HO.o;rw[HE.o]at HO2;clear HO;have HSL:=q_ (o3 (amy l) (a2w l HP.o));have hlp:=aut l 0;obtain⟨A1,c1,hs1,-,hf1⟩:=HO2.o.flat;subst hs1;have HST:=q_ (axs A1 (aap l 0) c1 hf1 (by rw[hlp];exact HC.o));rw[hlp]at HST;have HSE:Q_ (ag6 gtS (aap l 0)=aem l/\ach l=(aem l).map λx=>af9 x.sz x.sg):=q_ ⟨rfl,rfl⟩;rw[HSE.o.1]at HST;have HFS:=q_ HSE.o.2;have HBW:=q_ HO2.o.2;unfold avc at *;have HMC:=q_ HC.o;clear hlp hf1 HO2 HSE;generalize aem l=s at *;obtain⟨fs,hfs⟩:∃fs,ach l=fs:=⟨_,rfl⟩;rw[hfs]at HFS;have HF0:=q_ hfs;clear hfs;obtain⟨M,hM⟩:∃M,vf l=M:=⟨_,rfl⟩;simp only[hM]at *;clear hM;have hmc:M<=1000:=HMC.o;go_wp2_with fail;refine HST.o.mono ?_;rintro e W6 ⟨g,rfl,hk6,hg6,hb6⟩;have HK6:=q_ hk6;have HG6:=q_ (p9 HBW.o.size hg6);have HB6:=q_ (qb HBW.o hb6);clear hk6 hg6 hb6 HST HBW;go_wp2_with fail
   go_loopg [7,37] M (λt s7 s37 wr=>∃k:Nat,k<=M/\M-k<=t/\s37=.int .i64 k/\Q_ (aa0 W6 270 4 s7 k (acp ((s.take k).map λx=>af9 x.sz x.sg)) wr))
   case atStart=>exact⟨0,by omega,by omega,rfl,aa0.nil _ _ _ (n9 _ _)⟩
   case round=>
    rename_i s7;obtain⟨j,hj,ht2,rfl,HO⟩:=hrel;obtain⟨A2,c2,hs2,-,hfl⟩:=HO.o.flat;subst hs2
    by_cases hjm:j<M
    ·have hjl:j<s.length:=by rw[HSL.o.1];exact hjm
     have HKR:=HK6.o.on HO.o.2;obtain⟨b',o',hA,-,c0,c1',c2'⟩:=arl (HKR.flat (Q:=λ_=>True) trivial) j hjl;injection hA with hA
     injection hA with hA1 hA2
     subst hA1 hA2;rw[b0j]at c0 c1' c2';have HSN:Q_ (((s.take (j+1)).map λx=>af9 x.sz x.sg)=((s.take j).map λx=>af9 x.sz x.sg)++[af9 s[j].sz s[j].sg]):=q_ (by rw[o9 hjl,b17];rfl);have hso:=HSL.o.2 s[j] (b1j hjl);have HAN:=λW=>q_ (arf s[j].sz s[j].sg W hso.1 hso.2)
     generalize s[j]=x at *;obtain⟨sz,sg,ix⟩:=x;dsimp only at *;unfold yl ab0 at HAN;generalize af9 sz sg=f at *;obtain⟨fz,fg,flo,fhi⟩:=f;dsimp only at *;have i1:(j:Int)<M:=by omega
     have i2:(0:Int) <=(j:Int):=o5 _;have HN1:Q_ (Blk (wr.alloc (.cells #[.int .i64 sz,.bool sg,.int .i64 ix] 208)) wr.1.size [.int .i64 sz,.bool sg,.int .i64 ix]):=q_ (Blk.newL (qg wr _ _) rfl);have HO1:=q_ (HO.o.on (qa wr (.cells #[.int .i64 sz,.bool sg,.int .i64 ix] 208)));go_upto_region 15 with fail;clear c0 c1' c2' HKR HO hfl;generalize wr.alloc (.cells #[.int .i64 sz,.bool sg,.int .i64 ix] 208)=W7 at *;generalize wr.1.size=q at *;have x0:=HN1.o.cell 0 (v:=.int .i64 sz) rfl;have x1:=HN1.o.cell 1 (v:=.bool sg) rfl;go_wp2_with fail;refine(HAN W7).o.mono ?_;rintro e W8 ⟨rfl,hb⟩;have hO3:=(HO1.o.on hb).on (qa W8 (.cells #[.int .i64 fz,.bool fg,.int .i64 flo,.int .i64 fhi] 270));obtain⟨v',w3,hrun,ho⟩:=aa0.app (P:=prog) (t:=203) (ty:=203) hO3 HIF.o underlying203 rfl dc (R:=λ_=>True) (some ⟨W8.1.size,0,none⟩) 1 1 [.int .i64 fz,.bool fg,.int .i64 flo,.int .i64 fhi] rfl ((Blk.newL (qg W8 _ _) rfl).flat trivial) (aty [⟨fz,fg,flo,fhi⟩]) (by have:=HMC.o;unfold maxLen;omega) (by have:=HMC.o;omega)
     have HRUN:=q_ hrun;have HO4:Q_ (aa0 W6 270 4 v' (j+1) (acp ((s.take (j+1)).map λx=>af9 x.sz x.sg)) w3):=q_ (by rw[HSN.o,atx];exact ho);clear hb hO3 hrun ho x0 x1;go_wp2_with (at_builtin;refine q9 rfl _ _ 203 rfl _ _ _ rfl rfl HRUN.o ?_)
     go_roundg (M-(j+1))
     case measure=>omega
     case rel=>exact⟨j+1,by omega,by omega,by go_num,HO4⟩
    ·obtain rfl:j=M:=by omega
     have HEND:Q_ (Blk wr g (zr s)/\qf (λb=>w.1.size<=b/\b<wr.1.size) wr A2 (acp fs)/\w.1.size<=g/\Below w.1.size w wr):=q_ (by
      refine⟨HK6.o.on HO.o.2,?_,HG6.o,qb HB6.o HO.o.2⟩;have e:s.take j=s:=by rw[<- HSL.o.1,b0v]
      rw[HFS.o,<- e];exact hfl.less λb q=>⟨p9 HB6.o.size q.1,q.2⟩)
     clear hfl HO;go_wp2_with fail
     go_ret2
     exact⟨g,A2,c2,rfl,by rw[HF0.o];exact HEND.o⟩
def bd6 (f:TFm):Prop:=f.1.size<=100/\f.2.length<=1000/\vf f.2<=1000/\∀p∈f.2,ar6 p
def fmB (f:TFm):Bool:=decide (f.1.size<=100) && (decide (f.2.length<=1000) && (decide (vf f.2<=1000) && f.2.all λp=>(decide (p.sz=1) || (decide (p.sz=2) || (decide (p.sz=4) || decide (p.sz=8)))) && (decide (p.mn<=64) && decide (p.nm.size<=100))))
theorem aqe {f:TFm} (h:fmB f=true):bd6 f:=by
 simp only[fmB,b0g,b4n,b1l,b2c]at h;exact⟨h.1,h.2.1,h.2.2.1,λp hp=>h.2.2.2 p hp⟩
theorem bhj (i : Int) : fmB (agv i) = true := by unfold agv;repeat' split
                                                 all_goals decide +kernel
theorem bcm (i : Int) : fmB (ado i) = true := by unfold ado;repeat' split
                                                 all_goals decide +kernel
theorem bep (i : Int) : fmB (aga i) = true := by unfold aga;repeat' split
                                                 all_goals decide +kernel
theorem bmp (i : Int) : fmB (awp i) = true := by unfold awp;repeat' split
                                                 all_goals decide +kernel
theorem ahn (i:Int):bd6 (xe i):=by
 unfold xe
 split
 ·exact aqe (bhj i)
 split
 ·exact aqe (bcm i)
 split
 ·exact aqe (bep i)
 split
 ·exact aqe (bmp i)
 ·exact aqe (by decide +kernel)
def bgg (f:TFm) (b:List UInt8):Int×List Int:=
 if f.1=ByteArray.empty then(6,[])else
  if(xl (ach f.2) b).1=0 then(0,yw (aem f.2) (xl (ach f.2) b).2 (List.replicate (vf f.2) 0))else((xl (ach f.2) b).1,[])
theorem a9c (i:Nat) (b:List UInt8):ai7 i b=bgg (xe i) b:=rfl
theorem anq:∀(s:List Slt) (v:List Int) (x:Slt) (y:Int) (out:List Int),s.length=v.length->yw (s++[x]) (v++[y]) out=(yw s v out).set x.ix y
 | [],[],x,y,out,_=>rfl
 | s::l,z::v,x,y,out,h=>by
  simp only[b0u,yw];exact anq l v x y _ (by simpa using h)
 | [],_::_,_,_,_,h=>by cases h
 | _::_,[],_,_,_,h=>by cases h
theorem agq:∀(s:List Slt) (v:List Int) (out:List Int),(yw s v out).length=out.length
 | [],[],_=>rfl
 | [],_::_,_=>rfl
 | _::_,[],_=>rfl
 | s::l,z::v,out=>by
  simp only[yw];rw[agq l v,b3t]
theorem bbf (l:List Int) (k:Nat) (x:Int):qt (l.set k x)=(qt l).set k (.int .i64 x):=by
 unfold qt;rw[List.map_set]
theorem a2v:∀(l:List Prt) (n:Nat),∀x∈aap l n,x.ix<n+vf l
 | [],n,x,h=>by simp[aap]at h
 | p::l,n,x,h=>by
  have e:vf (p::l)=aao p+vf l:=by simp[vf]
  simp only[aap,b1z,b2f,List.mem_range]at h;rcases h with⟨j,hj,rfl⟩|h
  ·dsimp only;omega
  ·have:=a2v l _ x h;omega
theorem bhg (l:List Prt):∀x∈aem l,x.ix<vf l:=λx hx=>by
 have:=a2v l 0 x ((ags _ _).mem_iff.1 hx);omega
theorem a4j (n:Nat) (s:Bool) (h1:1<=n) (h8:n<=8):aaa (af9 n s)=true:=by
 have:n=1\/n=2\/n=3\/n=4\/n=5\/n=6\/n=7\/n=8:=by omega
 cases s<;>rcases this with rfl|rfl|rfl|rfl|rfl|rfl|rfl|rfl<;>decide
theorem anh (l:List Prt) (hp:∀p∈l,ar6 p):(ach l).all aaa=true:=by
 rw[b2c];intro f hf;obtain⟨s,hs,rfl⟩:=b2f.1 hf;have:=a2w l hp s hs;exact a4j _ _ this.1 this.2
theorem amh (l:List Prt):(ach l).length=vf l:=by unfold ach;rw[b0o,amy]
theorem vc.no (E:Int) {w w':World} (hb:Below w.1.size w w'):vc (E,[]) w (.returned (.tuple #[.slice none 0 0,.int .i64 E])) w':=⟨none,0,rfl,qf.nil _ _ _,hb⟩
theorem vc.yes {n:Nat} {v:List Int} (hn:v.length=n) {g:Nat} {w w':World} (hk:Blk w' g (qt v)) (hg:w.1.size<=g) (hb:Below w.1.size w w'):vc (0,v) w (.returned (.tuple #[.slice (some ⟨g,0,none⟩) n n,.int .i64 0])) w':=⟨_,_,by rw[<- hn],hk.flat ⟨hg,hk.lt⟩,hb⟩
theorem ah0 {Q:Nat->Prop} {w:World} (i:Nat) (X:Option Addr) (d:Nat) (b:List UInt8) (hB:qf Q w X (bsV b)) (hl:b.length<=1100000) :
 Calls prog 68 #[.int .i64 i,.slice X b.length d] w (vc (ai7 i b) w):=by
 have H:=q_ (ahz (i:Int) w);have hfo:=ahn (i:Int);rw[a9c];have HBW:=λW (hW:Below w.1.size w W)=>hB.lt.below hW (λb q=>q.2)
 generalize xe (i:Int)=f at *;obtain⟨nm,l⟩:=f;obtain⟨-,hm,hc,hp⟩:=hfo;unfold xy at H;dsimp only at *;have HSL:∀W A c,qf (λb=>w.1.size<=b/\b<W.1.size) W A (q8 l)->Q_ (Calls prog 90 #[.agg #[.string nm,.slice A l.length c]] W (avc l W)):=λW A c h=>q_ (axp nm A l c h hm hc hp)
 have HSH:∀W B e,Below w.1.size w W->akm W B (ach l)->Q_ (Calls prog 91 #[.slice B (vf l) e,.slice X b.length d] W (vc (xl (ach l) b) W)):=λW B e hW h=>q_ (by
  have:=anv B X e d (ach l) b h (anh l hp) (by rw[amh];exact hc) (HBW W hW) hl
  rwa [amh]at this)
 have HOK:Q_ ((xl (ach l) b).1=0 ->(xl (ach l) b).2.length=vf l):=q_ (λq=>by rw[am0 _ _ (alj q),amh]);have HSX:Q_ ((aem l).length=vf l/\∀x∈aem l,x.ix<vf l):=q_ ⟨amy l,bhg l⟩;obtain⟨res,hres⟩:∃res,bgg (nm,l) b=res:=⟨_,rfl⟩;rw[hres];have HRES:=q_ hres;have HC:=q_ hc;generalize b.length=bl at *;clear hp hm hB HBW hres hc;go_enter func68,ntmps68;go_wp2_with fail;refine(H.o).mono ?_;rintro e w1 ⟨A,c,rfl,hf,hb⟩;have HF:=q_ hf;have HB:=q_ hb;clear hf hb H;have HN:Q_ (Blk (w1.alloc (.cells #[.string nm,.slice A l.length c] 200)) w1.1.size [.string nm,.slice A l.length c]):=q_ (Blk.newL (qg w1 _ _) rfl);have HB2:=q_ (qb HB.o (qa w1 (.cells #[.string nm,.slice A l.length c] 200)));have HF2:=q_ (abn HF.o (qa w1 (.cells #[.string nm,.slice A l.length c] 200)) (a8 _));go_upto_region 2 with fail;clear HF HB;generalize w1.alloc (.cells #[.string nm,.slice A l.length c] 200)=W2 at *
 generalize w1.1.size=fb at *;have n0:=HN.o.cell 0 (v:=.string nm) rfl;have n1:=HN.o.cell 1 (v:=.slice A l.length c) rfl
 by_cases hn:nm=⟨#[]⟩
 ·have hr:res=(6,[]):=by rw[<- HRES.o];unfold bgg;exact if_pos hn
  subst hn;subst hr;go_wp2_with fail
  go_ret2
  exact vc.no 6 HB2.o
 have hn2:=am2 hn;have HR2:Q_ (res=if(xl (ach l) b).1=0 then(0,yw (aem l) (xl (ach l) b).2 (List.replicate (vf l) 0))else((xl (ach l) b).1,[])):=q_ (by rw[<- HRES.o];unfold bgg;exact if_neg hn);clear hn HRES;have HS2:=HSL W2 A c HF2.o;unfold avc at HS2;generalize l.length=ln at *;generalize aem l=s at *;generalize ach l=fs at *;generalize vf l=M at *;go_wp2_with fail;refine HS2.o.mono ?_;rintro e W3 ⟨g,B,d3,rfl,hk,hfl,hg,hb⟩;have HG3:=q_ (o3 hk (p9 HB2.o.size hg));have HB3:=q_ (qb HB2.o hb);have HT3:=HSH W3 B d3 HB3.o (hfl.less λb q=>q.2);unfold vc at HT3;generalize xl fs b=r at *;obtain⟨E,v⟩:=r;dsimp only at *;clear hk hfl hg hb n0 n1 hn2 HSL HSH HN HB2 HF2 HS2;go_wp2_with fail;refine HT3.o.mono ?_;rintro e W4 ⟨A4,c4,rfl,hf,hb⟩;have HF4:=q_ hf;have HB4:=q_ (qb HB3.o hb);have HG4:=q_ (o3 (HG3.o.1.on hb) HG3.o.2);clear hf hb HT3 HB3 HG3
 by_cases hE:E=0
 ·subst hE;have HVL:Q_ (v.length=M):=q_ (HOK.o rfl);have hr:res=(0,yw s v (List.replicate M 0)):=by rw[HR2.o];exact if_pos rfl
  have HRS:=q_ hr;clear hr HR2 HOK;rw[HVL.o];obtain⟨i0,hi,hz0,hz1,hz2⟩:=kq a2s;have HI:=q_ hi;have HZ:=q_ (o3 hz0 (o3 hz1 hz2));clear hi hz0 hz1 hz2;go_wp2_with (refine aae rfl _ _ 49 2 rfl i0 _ underlying49 HI.o HZ.o.1 .i64 .i64 M rfl rfl (by rw[HZ.o.2.2];have:=HC.o;omega) (by have:=HC.o;omega) ?_;intro W5 hG;have HG:=q_ hG;clear hG);have e0:(madeCells (Value.int .i64 0).cells (M*i0.size)).toList=qt (List.replicate M 0):=by rw[HZ.o.2.1];exact a87 M
  have HK5:Q_ (Blk W5 W4.1.size (qt (yw (s.take 0) (v.take 0) (List.replicate M 0)))):=q_ (by
   rw[b2b,b2b];exact Blk.newL HG.o e0)
  have HB5:Q_ (Below w.1.size w W5):=q_ (qb HB4.o HG.o.bel);have HG5:Q_ (Blk W5 g (zr s)/\g<W4.1.size):=q_ ⟨HG4.o.1.on HG.o.bel,HG4.o.1.lt⟩;have HF5:Q_ (qf (λb=>b<W4.1.size) W5 A4 (qt v)):=q_ ((HF4.o.below HG.o.bel (λb q=>q.2)).less λb q=>q.2);have HS4:=q_ HB4.o.size;clear HG HI HZ e0 HF4 HG4 HB4;generalize W4.1.size=go at *;go_wp2_with fail
  go_loopg [38] M (λh s38 wr=>∃k:Nat,k<=M/\M-k<=h/\s38=.int .i64 k/\Q_ (Blk wr go (qt (yw (s.take k) (v.take k) (List.replicate M 0))))/\Q_ (Below go W5 wr)/\Q_ (Below w.1.size w wr))
  case atStart=>exact⟨0,b0d _,by omega,rfl,HK5.o,n9 _ _,HB5.o⟩
  case round=>
   obtain⟨k,hk,hg,rfl,HK,HW,HB⟩:=hrel
   by_cases hlt:k<M
   ·have hks:k<s.length:=by rw[HSX.o.1];exact hlt
    have hkv:k<v.length:=by rw[HVL.o];exact hlt
    have hix:=HSX.o.2 _ (b1j hks)
    have HPN:Q_ (yw (s.take (k+1)) (v.take (k+1)) (List.replicate M 0)=(yw (s.take k) (v.take k) (List.replicate M 0)).set s[k].ix v[k]):=q_ (by
     rw[o9 hks,o9 hkv];exact anq _ _ _ _ _ (by rw[l8,l8];omega))
    have HPL:Q_ ((yw (s.take k) (v.take k) (List.replicate M 0)).length=M):=q_ (by rw[agq,b1r]);have hgk:Blk wr g (zr s):=HG5.o.1.below HW.o HG5.o.2;obtain⟨b',o',hA,-,c0,c1',c2'⟩:=arl (hgk.flat (Q:=λ_=>True) trivial) k hks;injection hA with hA
    injection hA with hA1 hA2
    subst hA1 hA2;rw[b0j]at c0 c1' c2';have hvk:(qt v)[k]?=some (.int .i64 v[k]):=by unfold qt;rw[b0l,d7 hkv];rfl
    obtain⟨bv,ov,rfl,hbv,hcv⟩:=HF5.o k _ hvk;have hcv2:wr.cell? ⟨bv,ov+k,none⟩=some (.int .i64 v[k]):=(HW.o.cell (p:=⟨bv,ov+k,none⟩) hbv).trans hcv;generalize s[k]=x at *;generalize v[k]=y at *;generalize yw (s.take k) (v.take k) (List.replicate M 0)=P at *;obtain⟨sz,sg,ix⟩:=x;dsimp only at *;have hmc:=HC.o;have i1:(k:Int)<M:=by omega
    have i2:(0:Int) <=(k:Int):=o5 _;have i3:(ix:Int)<M:=by omega
    have i4:(0:Int) <=(ix:Int):=o5 _;have HN1:Q_ (Blk (wr.alloc (.cells #[.int .i64 sz,.bool sg,.int .i64 ix] 208)) wr.1.size [.int .i64 sz,.bool sg,.int .i64 ix]):=q_ (Blk.newL (qg wr _ _) rfl);have HK1:=q_ (HK.o.on (qa wr (.cells #[.int .i64 sz,.bool sg,.int .i64 ix] 208)));have HW1:Q_ (Below go W5 (wr.alloc (.cells #[.int .i64 sz,.bool sg,.int .i64 ix] 208))):=q_ (HW.o.trans ((qa wr _).mono (b2h HK.o.lt)));have HBB1:=q_ (qb HB.o (qa wr (.cells #[.int .i64 sz,.bool sg,.int .i64 ix] 208)));have HQ:=q_ HK.o.lt;have hcv3:(wr.alloc (.cells #[.int .i64 sz,.bool sg,.int .i64 ix] 208)).cell? ⟨bv,ov+k,none⟩=some (.int .i64 y):=((qa wr _).cell (p:=⟨bv,ov+k,none⟩) (ab6 hcv2)).trans hcv2;clear hvk hcv hgk hix hks hkv;go_upto_region 12 with fail;clear c0 c1' c2' HK HW HB hcv2;generalize wr.alloc (.cells #[.int .i64 sz,.bool sg,.int .i64 ix] 208)=W7 at *
    generalize wr.1.size=q at *;have x2:=HN1.o.cell 2 (v:=.int .i64 ix) rfl;have hpl:ix<(qt P).length:=by rw[jn,HPL.o];omega
    have hst:=HK1.o.set hpl (.int .i64 y);have o1:W7.cell? ⟨go,ix,none⟩=some ((qt P)[ix]):=HK1.o.cell ix (d7 hpl);have o2:=HK1.o.fz ix;have HEND:Q_ (Blk (W7.setCell ⟨go,ix,none⟩ (.int .i64 y)) go (qt (P.set ix y))/\Below go W5 (W7.setCell ⟨go,ix,none⟩ (.int .i64 y))/\Below w.1.size w (W7.setCell ⟨go,ix,none⟩ (.int .i64 y))):=q_ ⟨by rw[bbf];exact hst.1,HW1.o.trans (hst.2.below (a8 _)),HBB1.o.trans (hst.2.below HS4.o)⟩;generalize (qt P)[ix]=old at *;clear hst hpl HK1 HW1 HBB1 HN1
    go_region
    go_wp2_with fail
    go_roundg (M-(k+1))
    case measure=>omega
    case rel=>exact⟨k+1,by omega,by omega,by go_num,by rw[HPN.o];exact HEND.o.1.drew,HEND.o.2.1.drew,HEND.o.2.2.drew⟩
   ·obtain rfl:k=M:=by omega
    have e1:s.take k=s:=by rw[<- HSX.o.1,b0v]
    have e2:v.take k=v:=by rw[<- HVL.o,b0v]
    have HEND:Q_ (Blk wr go (qt (yw s v (List.replicate k 0)))/\Below w.1.size w wr/\w.1.size<=go):=q_ ⟨by have:=HK.o;rwa [e1,e2]at this,HB.o,HS4.o⟩;have HPL:Q_ ((yw s v (List.replicate k 0)).length=k):=q_ (by rw[agq,b1r]);clear e1 e2 HK HW HB;go_wp2_with fail
    go_ret2
    rw[HRS.o];exact vc.yes HPL.o HEND.o.1 HEND.o.2.2 HEND.o.2.1
 ·have hr:res=(E,[]):=by rw[HR2.o];exact if_neg hE
  have hE2:(E != 0)=true:=by rw[b0r];exact hE
  subst hr;clear hE HR2 HOK;go_wp2_with fail
  go_ret2
  exact vc.no E HB4.o
theorem bk1 {f:TFm} (h:bd6 f):SmP f.2:=λp hp=>by
 have:=h.2.2.2 p hp;unfold ar6 at this;omega
theorem bmg {f:TFm} (h:bd6 f):yn f.2<=1100000:=by
 have:=ayj f.2 (bk1 h);have:=h.2.1;omega
def ari (i:Nat):Nat:=if yn (xe i).2=0 then 0 else yn (xe i).2+8
theorem ab9 (i:Nat) (w:World):Calls prog 64 #[.int .i64 i] w λe w'=>e=.returned (.int .i64 (ari i:Int))/\Below w.1.size w w':=by
 have hfo:=ahn (i:Int);have HW:=q_ (axx (i:Int) w hfo.2.1 (bk1 hfo));have hle:=bmg hfo;unfold ari;generalize yn (xe (i:Int)).2=n at *;clear hfo
 by_cases h0:n=0
 ·subst h0;rw[if_pos rfl];go_enter func64,ntmps64;go_wp2_with fail;refine(HW.o).mono ?_;rintro e w1 ⟨rfl,hb⟩;have HB:=q_ hb;clear hb;go_wp2_with fail;go_ret;exact⟨rfl,HB.o⟩
 ·rw[if_neg h0];have hn:(0:Int)<(n:Int):=by omega
  clear h0;go_enter func64,ntmps64;go_wp2_with fail;refine(HW.o).mono ?_;rintro e w1 ⟨rfl,hb⟩;have HB:=q_ hb;clear hb;go_wp2_with fail;go_ret
  exact ⟨by have e:(6:Int) +(n:Int)+2=((n+8:Nat):Int):=by omega
            rw[e];rfl,HB.o⟩
def ars (i:Nat) (l:List UInt8):Nat:=acx (xg 65535 l) (aoa (xe i))
theorem a84 (f:TFm) (h:bd6 f):aoa f<256:=by
 unfold aoa
 split
 ·omega
 ·dsimp only;have h1:(af1 f.2).foldl yq (xg 65535 (f.1 ++⟨#[32]⟩).data.toList)<65536:=agj _ (aa3 _ dc) (λp hp=>h.2.2.2 p ((ags gtP f.2).mem_iff.1 hp));exact Nat.xor_lt_two_pow (n:=8) om om
theorem bkj (i:Nat) (l:List UInt8):ars i l<65536:=aj1 (aa3 _ dc) (b1b (a84 _ (ahn _)) dc)
def ah4 (i:Nat) (l:List UInt8):List UInt8:=[UInt8.ofNat (ars i l%256),UInt8.ofNat (ars i l / 256)]
theorem akg {Q:Nat->Prop} {w:World} (i:Nat) (A:Option Addr) (l:List UInt8) (c:Nat) (h:qf Q w A (bsV l)) (hm:l.length<=1100000) :
 Calls prog 67 #[.int .i64 i,.slice A l.length c] w λe w'=>∃g,e=.returned (.slice (some ⟨g,0,none⟩) 2 2)/\Blk w' g (bsV (ah4 i l))/\w.1.size<=g/\Below w.1.size w w':=by
 have hfo:=ahn (i:Int);have HX:=λW=>q_ (axi (i:Int) W hfo.2.1 hfo.1 hfo.2.2.2)
 have HO:∀W g,W.cell? ⟨g,0,none⟩=some (.slice A l.length c)->Below w.1.size w W->Q_ (Calls prog 87 #[.slice (some ⟨g,0,none⟩) 1 1] W λe w'=>e=.returned (.int .u16 (xg 65535 l:Int))/\Below W.1.size W w'):=λW g hg hW=>q_ (bap g A l c hg (h.lt.below hW (λb q=>q.2)) hm)
 have hc:xg 65535 l<65536:=aa3 _ dc;have hx:=a84 _ hfo;have HS:=λW=>q_ (ang (xg 65535 l) (aoa (xe (i:Int))) W hc hx)
 have hs:acx (xg 65535 l) (aoa (xe (i:Int)))<65536:=aj1 hc om;unfold ah4 ars;generalize acx (xg 65535 l) (aoa (xe (i:Int)))=s at *;generalize aoa (xe (i:Int))=x at *;generalize xg 65535 l=k at *
 have hs1:bsV [UInt8.ofNat (s%256),UInt8.ofNat (s / 256)]=[.int .u8 ((s:Int)%256),.int .u8 ((s:Int) / 256)]:=by
  unfold bsV bV;simp only[b2y,b5c,b34];rw[b29 (show s%256<2^8 by omega),b29 (show s / 256<2^8 by omega)];rfl
 rw[hs1];generalize l.length=n at *;have HSL:=q_ hs;clear hfo h hm hs1 hc hx;have hs0:(s:Int)<65536:=by omega
 go_enter func67,ntmps67;go_wp2_with fail;have HG0:Q_ (Blk (w.alloc (.cells #[.slice A n c] 22)) w.1.size [.slice A n c]):=q_ (Blk.newL (qg w _ _) rfl);refine(HO _ w.1.size (HG0.o.cell 0 rfl) (qa _ _)).o.mono ?_;rintro e w1 ⟨rfl,hb⟩;have HB1:=q_ (qb (qa _ _) hb);clear hb HG0 HO;go_wp2_with fail;refine(HX w1).o.mono ?_;rintro e w2 ⟨rfl,hb⟩;have HB2:=q_ (qb HB1.o hb);clear hb HB1 HX;go_wp2_with (refine(HS _).o.mono ?_;rintro e w' ⟨rfl,rfl⟩);go_ret;exact⟨w2.1.size,rfl,Blk.newL (qg _ _ _) rfl,HB2.o.size,qb HB2.o (qa _ _)⟩
theorem agk {w:World} {a b off:Nat} (m n c:Nat) (h:Blk w a [.slice (some ⟨b,off,none⟩) m c]) (hn:n<=m) (hmc:m<=c) :
 Calls prog 65 #[.pointer (some ⟨a,0,none⟩),.int .i64 n] w λe w'=>e=.returned (.slice (some ⟨b,off,none⟩) n n)/\Blk w' a [.slice (some ⟨b,if n=c then off else off+n,none⟩) (m-n) (c-n)]/\qi (λk=>k≠a) w w'/\w'.1.size=w.1.size:=by
 have c0:=h.cell 0 (v:=.slice (some ⟨b,off,none⟩) m c) rfl;have z0:=h.fz 0;have i0:(0:Int) <=(n:Int):=o5 _;have i1:(n:Int) <=(m:Int):=by omega
 have i2:(m:Int) <=(c:Int):=by omega
 have hst:∀v,v.oneCell'=true->qq w (w.setCell ⟨a,0,none⟩ v) a 0 [v]:=λv _=>zm (h.there 0 1 (a8 _))
 have HST:=q_ hst;have HH:=q_ h;clear h hst
 by_cases hc:n=c
 ·obtain rfl:m=n:=by omega
  subst hc;go_enter func65,ntmps65;go_wp2_with fail;go_ret;have hs:=HST.o (.slice (some ⟨b,off,none⟩) 0 0) rfl;exact⟨rfl,HH.o.all hs rfl,(qi.refl _ _).stored hs (λq=>q rfl),hs.sz⟩
 ·have i4:(n:Int)<(c:Int):=by omega
  go_enter func65,ntmps65;go_wp2_with fail;go_ret;have hs:=HST.o (.slice (some ⟨b,off+n,none⟩) (m-n) (c-n)) rfl;exact⟨rfl,HH.o.all hs rfl,(qi.refl _ _).stored hs (λq=>q rfl),hs.sz⟩
theorem ake {Q R:Nat->Prop} {w:World} (A B:Option Addr) (c d:Nat) (x y:List UInt8) (hA:qf Q w A (bsV x)) (hB:qf R w B (bsV y)) (hx:x.length<=1100000) (hy:y.length<=1100000) :
 Calls prog 66 #[.slice A x.length c,.slice B y.length d] w λe w'=>e=.returned (.bool (decide (x=y)))/\Below w.1.size w w':=by
 by_cases hnm:x.length=y.length
 ·have HA:=q_ hA.lt;have HB:=q_ hB.lt;have HPT:Q_ (x=y->decide (x=y)=true):=q_ λh=>t8 h
  have HPF:Q_ (x≠y->decide (x=y)=false):=q_ λh=>o7 h
  generalize decide (x=y)=R at *;rw[<- hnm];have HXY:=q_ hnm;generalize hn:x.length=n at *;have HX:=q_ hn;have hnn:((n:Int) != (n:Int))=false:=by rw[b0b]
  clear hn hA hB hnm hy;go_enter func66,ntmps66;go_wp2_with fail
  go_loopg [13] n (λg s13 wr=>∃k:Nat,k<=n/\n-k<=g/\s13=.int .i64 k/\Q_ (Below w.1.size w wr)/\Q_ (∀j,j<k->x[j]?=y[j]?))
  case atStart=>exact⟨0,b0d _,by omega,rfl,n9 _ _,λj hj=>absurd hj (b04 _)⟩
  case round=>
   obtain⟨k,hk,hg,rfl,HBW,HP⟩:=hrel
   by_cases hlt:k<n
   ·have hx1:k<x.length:=by rw[HX.o];exact hlt
    have hy1:k<y.length:=by rw[<- HXY.o];exact hlt
    obtain⟨b1,o1,rfl,hq1,c1⟩:=HA.o k _ (v9 hx1);obtain⟨b2,o2,rfl,hq2,c2⟩:=HB.o k _ (v9 hy1);have d1:wr.cell? ⟨b1,o1+k,none⟩=some (.int .u8 (x[k].toNat:Int)):=(HBW.o.cell (p:=⟨b1,o1+k,none⟩) hq1.2).trans c1;have d2:wr.cell? ⟨b2,o2+k,none⟩=some (.int .u8 (y[k].toNat:Int)):=(HBW.o.cell (p:=⟨b2,o2+k,none⟩) hq2.2).trans c2;have i1:(0:Int) <=(k:Int):=o5 _;have i2:(k:Int)<(n:Int):=by omega
    by_cases he:x[k]=y[k]
    ·have HP2:Q_ (∀j,j<k+1->x[j]?=y[j]?):=q_ (λj hj=>by
      by_cases q:j<k
      ·exact HP.o j q
      ·obtain rfl:j=k:=by omega
       rw[d7 hx1,d7 hy1,he])
     have hxy:((x[k].toNat:Int) != (y[k].toNat:Int))=false:=by rw[b0b,he]
     clear he HP hq1 hq2 c1 c2;generalize (x[k].toNat:Int)=u at *;generalize (y[k].toNat:Int)=v at *;clear hx1 hy1;go_wp2_with fail
     go_quiet (fail)
     go_wp2_with fail
     go_roundg (n-(k+1))
     case measure=>omega
     case rel=>exact⟨k+1,by omega,by omega,by go_num,aai HBW.o _,HP2⟩
    ·have HPN:=q_ (HPF.o (λq=>he (by subst q;rfl)))
     have hxy:((x[k].toNat:Int) != (y[k].toNat:Int))=true:=by
      rw[b0r];intro q;exact he (b1y.1 om)
     clear he HP hq1 hq2 c1 c2 HPF HPT;generalize (x[k].toNat:Int)=u at *;generalize (y[k].toNat:Int)=v at *;clear hx1 hy1;go_wp2_with fail
     go_quiet (fail)
     go_wp2_with fail;go_ret;rw[HPN.o];exact⟨rfl,aai HBW.o _⟩
   ·obtain rfl:k=n:=by omega
    have HPN:=q_ (HPT.o (b24 λj=>by
     by_cases q:j<k
     ·exact HP.o j q
     ·rw[b0c (by rw[HX.o];omega),b0c (by rw[<- HXY.o];omega)]))
    clear HPT HPF;go_wp2_with fail;go_ret;rw[HPN.o];exact⟨rfl,HBW.o⟩
 ·have hne:((x.length:Int) != (y.length:Int))=true:=by rw[b0r];omega
  have HPN:Q_ (decide (x=y)=false):=q_ (o7 λe=>hnm (by rw[e]));clear hnm hA hB;generalize decide (x=y)=R at *;generalize x.length=n at *;generalize y.length=m at *;go_enter func66,ntmps66;go_wp2_with fail;go_ret;rw[HPN.o];exact⟨rfl,n9 _ _⟩
def bnl (p:ahh) (vs:Value):List Value:=[.int .i64 p.sq,.int .i64 p.sy,.int .i64 p.cm,.int .i64 p.id,vs]
def ae6 (Q:Nat->Prop) (w:World) (L:List Value) (p:ahh):Prop:=∃vs,L=bnl p vs/\aaw 2 1 Q w vs p.V
theorem aaw.one {t:TypeId} {size:Nat} {Q:Nat->Prop} {w:World} {v:Value} {X:List (List Lit)} (h:aaw t size Q w v X):v.oneCell'=true:=by obtain⟨A,c,rfl,-⟩:=h;rfl
theorem ae6.len {Q:Nat->Prop} {w:World} {L:List Value} {p:ahh} (h:ae6 Q w L p):L.length=5:=by obtain⟨vs,rfl,-⟩:=h;rfl
theorem ae6.ones {Q:Nat->Prop} {w:World} {L:List Value} {p:ahh} (h:ae6 Q w L p):∀v∈L,v.oneCell'=true:=by
 obtain⟨vs,rfl,h⟩:=h;intro v hv;simp only[bnl,b03,b2o,b4u]at hv;rcases hv with rfl|rfl|rfl|rfl|rfl<;>first|rfl|exact h.one
theorem ae6.keep {Q:Nat->Prop} {w w':World} {L:List Value} {p:ahh} (h:ae6 Q w L p) (hk:∀b,Q b->w'.heap[b]?=w.heap[b]?):ae6 Q w' L p:=by
 obtain⟨vs,rfl,h⟩:=h;exact⟨vs,rfl,h.keep hk⟩
theorem ae6.less {Q R:Nat->Prop} {w:World} {L:List Value} {p:ahh} (h:ae6 Q w L p) (hr:∀b,Q b->R b):ae6 R w L p:=by
 obtain⟨vs,rfl,h⟩:=h;exact⟨vs,rfl,h.less hr⟩
theorem ae6.zero (Q:Nat->Prop) (w:World):ae6 Q w ac8 aaf:=⟨_,rfl,vj⟩
theorem ae6.toV {Q:Nat->Prop} {w:World} {L:List Value} {p:ahh} (h:ae6 Q w L p) (hq:∀b,Q b->b<w.1.size):a92 w L p:=by
 obtain⟨vs,rfl,h⟩:=h;exact⟨vs,rfl,h.toV hq⟩
def acq (x:Int×Nat×ahh) (w:World) (e:Ending) (w':World):Prop:=∃L,e=.returned (.tuple #[.agg L.toArray,.int .i64 x.2.1,.int .i64 x.1])/\ae6 (λb=>w.1.size<=b/\b<w'.1.size) w' L x.2.2/\Below w.1.size w w'
theorem bjs {w1:World} {b:Nat} {x y z s t:Value} (hk:Blk w1 b [x,y,z,s,t]) (p q r u v:Value):(loadVar 62 ⟨b,0,none⟩).run prog (((((w1.setCell ⟨b,0,none⟩ p).setCell ⟨b,1,none⟩ q).setCell ⟨b,2,none⟩ r).setCell ⟨b,3,none⟩ u).setCell ⟨b,4,none⟩ v)=.ok (.agg #[p,q,r,u,v]) (((((w1.setCell ⟨b,0,none⟩ p).setCell ⟨b,1,none⟩ q).setCell ⟨b,2,none⟩ r).setCell ⟨b,3,none⟩ u).setCell ⟨b,4,none⟩ v) /\
 qq w1 (((((w1.setCell ⟨b,0,none⟩ p).setCell ⟨b,1,none⟩ q).setCell ⟨b,2,none⟩ r).setCell ⟨b,3,none⟩ u).setCell ⟨b,4,none⟩ v) b 0 [p,q,r,u,v]:=by
 have hs:qq w1 (((((w1.setCell ⟨b,0,none⟩ p).setCell ⟨b,1,none⟩ q).setCell ⟨b,2,none⟩ r).setCell ⟨b,3,none⟩ u).setCell ⟨b,4,none⟩ v) b 0 [p,q,r,u,v]:=qo (cs:=[p,q,r,u,v]) (hk.there 0 5 (a8 _));exact⟨t9 (P:=prog) _ b 0 62 [p,q,r,u,v] _ (hk.all hs rfl).rg underlying62 rfl kr,hs⟩
def pkA:Array Value:=#[.int .i64 0,.int .i64 0,.int .i64 0,.int .i64 0,.slice none 0 0]
theorem ah7 {w w':World} (E:Int) (n:Nat) (hb:Below w.1.size w w'):acq (E,n,aaf) w (.returned (.tuple #[.agg pkA,.int .i64 n,.int .i64 E])) w':=⟨ac8,rfl,ae6.zero _ _,hb⟩
theorem ac2 (w:World):(zeroValue 62).run prog w=.ok (.agg pkA) w:=by kernel_rfl
theorem abb (w:World):(Instr.build 62 #[]).run prog w=.ok (.agg pkA) w:=by kernel_rfl
theorem aez:pkA.all (·.oneCell')=true:=by decide +kernel
theorem ae0:(prog.info? 62).map (·.size)=some pkA.size:=by kernel_rfl
theorem adm {W:World} {b:Nat} {L:List Value} (h:Blk W b L) (hl:L.length=5):(loadVar 62 ⟨b,0,none⟩).run prog W=.ok (.agg L.toArray) W:=
 t9 (P:=prog) W b 0 62 L _ h.rg underlying62 sm (by rw[hl];kernel_rfl)
theorem a3b {w:World} (A:Option Addr) (c:Nat):Calls prog 46 #[.slice A 0 c] w (acq (2,0,aaf) w):=by
 have HZ:=λW=>q_ (ac2 W)
 have HB0:=λW=>q_ (abb W)
 go_enter func46,ntmps46;go_upto_region 1 with(refine qc rfl 62 rfl pkA (HZ _).o ?_;intro W1 hW1;have HR1:=q_ (Blk.newL (L:=pkA.toList) hW1 rfl);have HB1:=q_ hW1.bel;clear hW1)
 go_wp2_with (first
  | refine zo rfl 62 rfl (HB0 _).o ?_
  | (refine qe rfl 62 _ _ rfl w.1.size 0 pkA rfl rfl (HR1.o.there 0 5 (a8 _)) ae0 aez ?_;intro W2 hs;have HR2:=q_ (HR1.o.all hs rfl);have HB2:=q_ (HB1.o.trans (hs.below (a8 _)));clear hs))
 have HLD:=q_ (adm HR2.o rfl);exact b9 (v:=.tuple #[.agg pkA,.int .i64 0,.int .i64 2]) (by rw[zq rfl];simp[asAddr,Result.andThen];rw[HLD.o]) rfl (ah7 2 0 HB2.o)
def ByC (w:World) (b off i x:Nat):Prop:=∀W,Below w.1.size w W->W.cell? ⟨b,off+i,none⟩=some (.int .u8 (x:Int))
theorem as7 {w:World} (b off n c x0:Nat) (h0:0<n) (hm:n<=1100000) (H0:Q_ (ByC w b off 0 x0)) (hx:((x0:Int) != 254)=true):Calls prog 46 #[.slice (some ⟨b,off,none⟩) n c] w (acq (3,0,aaf) w):=by
 have HZ:=λW=>q_ (ac2 W)
 have HB0:=λW=>q_ (abb W)
 have hn0:(0:Int)<(n:Int):=by omega
 have hn1:((n:Int)==0)=false:=by rw[l7];omega
 go_enter func46,ntmps46;go_upto_region 1 with(refine qc rfl 62 rfl pkA (HZ _).o ?_;intro W1 hW1;have HR1:=q_ (Blk.newL (L:=pkA.toList) hW1 rfl);have HB1:=q_ hW1.bel;clear hW1)
 have d0:W1.cell? ⟨b,off,none⟩=some (.int .u8 (x0:Int)):=H0.o W1 HB1.o
 go_wp2_with (first
  | refine zo rfl 62 rfl (HB0 _).o ?_
  | (refine qe rfl 62 _ _ rfl w.1.size 0 pkA rfl rfl (HR1.o.there 0 5 (a8 _)) ae0 aez ?_;intro W2 hs;have HR2:=q_ (HR1.o.all hs rfl);have HB2:=q_ (HB1.o.trans (hs.below (a8 _)));clear hs))
 have HLD:=q_ (adm HR2.o rfl);exact b9 (v:=.tuple #[.agg pkA,.int .i64 0,.int .i64 3]) (by rw[zq rfl];simp[asAddr,Result.andThen];rw[HLD.o]) rfl (ah7 3 0 HB2.o)
theorem as8 {w:World} (b off n c:Nat) (h0:0<n) (h6:n<6) (H0:Q_ (ByC w b off 0 254)):Calls prog 46 #[.slice (some ⟨b,off,none⟩) n c] w (acq (2,0,aaf) w):=by
 have HZ:=λW=>q_ (ac2 W)
 have HB0:=λW=>q_ (abb W)
 have hn0:(0:Int)<(n:Int):=by omega
 have hn6:(n:Int)<6:=by omega
 have hn1:((n:Int)==0)=false:=by rw[l7];omega
 go_enter func46,ntmps46;go_upto_region 1 with(refine qc rfl 62 rfl pkA (HZ _).o ?_;intro W1 hW1;have HR1:=q_ (Blk.newL (L:=pkA.toList) hW1 rfl);have HB1:=q_ hW1.bel;clear hW1)
 have d0:W1.cell? ⟨b,off,none⟩=some (.int .u8 254):=H0.o W1 HB1.o
 go_wp2_with (first
  | refine zo rfl 62 rfl (HB0 _).o ?_
  | (refine qe rfl 62 _ _ rfl w.1.size 0 pkA rfl rfl (HR1.o.there 0 5 (a8 _)) ae0 aez ?_;intro W2 hs;have HR2:=q_ (HR1.o.all hs rfl);have HB2:=q_ (HB1.o.trans (hs.below (a8 _)));clear hs))
 have HLD:=q_ (adm HR2.o rfl);exact b9 (v:=.tuple #[.agg pkA,.int .i64 0,.int .i64 2]) (by rw[zq rfl];simp[asAddr,Result.andThen];rw[HLD.o]) rfl (ah7 2 0 HB2.o)
theorem ax9 {w:World} (b off n c x5:Nat) (h6:6<=n) (hm:n<=1100000) (h5:x5<256) (H0:Q_ (ByC w b off 0 254)) (H5:Q_ (ByC w b off 5 x5)) (hs:ari x5=0):Calls prog 46 #[.slice (some ⟨b,off,none⟩) n c] w (acq (6,0,aaf) w):=by
 have HZ:=λW=>q_ (ac2 W)
 have HB0:=λW=>q_ (abb W)
 have hn0:(0:Int)<(n:Int):=by omega
 have hn6:(6:Int) <=(n:Int):=by omega
 have hn5:(5:Int)<(n:Int):=by omega
 have hn2:(1:Int)<(n:Int):=by omega
 have h50:(0:Int) <=(x5:Int):=by omega
 have h51:(x5:Int)<=255:=by omega
 have hn1:((n:Int)==0)=false:=by rw[l7];omega
 have HS:∀W,Q_ (Calls prog 64 #[.int .i64 x5] W λe w'=>e=.returned (.int .i64 0)/\Below W.1.size W w'):=λW=>q_ (by have:=ab9 x5 W;rwa [hs]at this)
 clear hs;go_enter func46,ntmps46;go_upto_region 1 with(refine qc rfl 62 rfl pkA (HZ _).o ?_;intro W1 hW1;have HR1:=q_ (Blk.newL (L:=pkA.toList) hW1 rfl);have HB1:=q_ hW1.bel;clear hW1)
 have d0:W1.cell? ⟨b,off,none⟩=some (.int .u8 254):=H0.o W1 HB1.o;have d5:W1.cell? ⟨b,off+5,none⟩=some (.int .u8 (x5:Int)):=H5.o W1 HB1.o;go_wp2_with fail;refine(HS W1).o.mono ?_;rintro e w2 ⟨rfl,hb⟩;have HR2:=q_ (HR1.o.on hb);have HB2:=q_ (qb HB1.o hb);clear hb HR1 HB1 d0 d5 HS
 go_wp2_with (first
  | refine zo rfl 62 rfl (HB0 _).o ?_
  | (refine qe rfl 62 _ _ rfl w.1.size 0 pkA rfl rfl (HR2.o.there 0 5 (a8 _)) ae0 aez ?_;intro W3 hs;have HR3:=q_ (HR2.o.all hs rfl);have HB3:=q_ (HB2.o.trans (hs.below (a8 _)));clear hs))
 have HLD:=q_ (adm HR3.o rfl);exact b9 (v:=.tuple #[.agg pkA,.int .i64 0,.int .i64 6]) (by rw[zq rfl];simp[asAddr,Result.andThen];rw[HLD.o]) rfl (ah7 6 0 HB3.o)
theorem ax8 {w:World} (b off n c x5 x1 N:Nat) (h6:6<=n) (hm:n<=1100000) (h5:x5<256) (H0:Q_ (ByC w b off 0 254)) (H5:Q_ (ByC w b off 5 x5)) (H1:Q_ (ByC w b off 1 x1)) (h1:x1<256) (hs:ari x5=N) (hN:0<N) (hx:x1+8≠N):Calls prog 46 #[.slice (some ⟨b,off,none⟩) n c] w (acq (3,0,aaf) w):=by
 have HZ:=λW=>q_ (ac2 W)
 have HB0:=λW=>q_ (abb W)
 have hn0:(0:Int)<(n:Int):=by omega
 have hn6:(6:Int) <=(n:Int):=by omega
 have hn5:(5:Int)<(n:Int):=by omega
 have hn2:(1:Int)<(n:Int):=by omega
 have h50:(0:Int) <=(x5:Int):=by omega
 have h51:(x5:Int)<=255:=by omega
 have hn1:((n:Int)==0)=false:=by rw[l7];omega
 have h10:(0:Int) <=(x1:Int):=by omega
 have h11:(x1:Int)<=255:=by omega
 have HS:∀W,Q_ (Calls prog 64 #[.int .i64 x5] W λe w'=>e=.returned (.int .i64 N)/\Below W.1.size W w'):=λW=>q_ (by have:=ab9 x5 W;rwa [hs]at this)
 have hN0:((N:Int)==0)=false:=by rw[l7];omega
 clear hs;have hx1:((6:Int) +(x1:Int)+2 != (N:Int))=true:=by rw[b0r];omega
 go_enter func46,ntmps46;go_upto_region 1 with(refine qc rfl 62 rfl pkA (HZ _).o ?_;intro W1 hW1;have HR1:=q_ (Blk.newL (L:=pkA.toList) hW1 rfl);have HB1:=q_ hW1.bel;clear hW1)
 have d0:W1.cell? ⟨b,off,none⟩=some (.int .u8 254):=H0.o W1 HB1.o;have d5:W1.cell? ⟨b,off+5,none⟩=some (.int .u8 (x5:Int)):=H5.o W1 HB1.o;go_wp2_with fail;refine(HS W1).o.mono ?_;rintro e w2 ⟨rfl,hb⟩;have HR2:=q_ (HR1.o.on hb);have HB2:=q_ (qb HB1.o hb);clear hb HR1 HB1 d0 d5 HS;have d1:w2.cell? ⟨b,off+1,none⟩=some (.int .u8 (x1:Int)):=H1.o w2 HB2.o
 go_wp2_with (first
  | refine zo rfl 62 rfl (HB0 _).o ?_
  | (refine qe rfl 62 _ _ rfl w.1.size 0 pkA rfl rfl (HR2.o.there 0 5 (a8 _)) ae0 aez ?_;intro W3 hs;have HR3:=q_ (HR2.o.all hs rfl);have HB3:=q_ (HB2.o.trans (hs.below (a8 _)));clear hs))
 have HLD:=q_ (adm HR3.o rfl);exact b9 (v:=.tuple #[.agg pkA,.int .i64 0,.int .i64 3]) (by rw[zq rfl];simp[asAddr,Result.andThen];rw[HLD.o]) rfl (ah7 3 0 HB3.o)
theorem a3a {w:World} (b off n c x5 x1 N:Nat) (h6:6<=n) (hm:n<=1100000) (h5:x5<256) (H0:Q_ (ByC w b off 0 254)) (H5:Q_ (ByC w b off 5 x5)) (H1:Q_ (ByC w b off 1 x1)) (h1:x1<256) (hs:ari x5=N) (hN:0<N) (hx:x1+8=N) (hl:n<N):Calls prog 46 #[.slice (some ⟨b,off,none⟩) n c] w (acq (2,0,aaf) w):=by
 have HZ:=λW=>q_ (ac2 W)
 have HB0:=λW=>q_ (abb W)
 have hn0:(0:Int)<(n:Int):=by omega
 have hn6:(6:Int) <=(n:Int):=by omega
 have hn5:(5:Int)<(n:Int):=by omega
 have hn2:(1:Int)<(n:Int):=by omega
 have h50:(0:Int) <=(x5:Int):=by omega
 have h51:(x5:Int)<=255:=by omega
 have hn1:((n:Int)==0)=false:=by rw[l7];omega
 have h10:(0:Int) <=(x1:Int):=by omega
 have h11:(x1:Int)<=255:=by omega
 have HS:∀W,Q_ (Calls prog 64 #[.int .i64 x5] W λe w'=>e=.returned (.int .i64 N)/\Below W.1.size W w'):=λW=>q_ (by have:=ab9 x5 W;rwa [hs]at this)
 have hN0:((N:Int)==0)=false:=by rw[l7];omega
 clear hs;have hx1:((6:Int) +(x1:Int)+2 != (N:Int))=false:=by rw[b0b];omega
 have hl2:(n:Int)<(N:Int):=by omega
 clear hx;go_enter func46,ntmps46;go_upto_region 1 with(refine qc rfl 62 rfl pkA (HZ _).o ?_;intro W1 hW1;have HR1:=q_ (Blk.newL (L:=pkA.toList) hW1 rfl);have HB1:=q_ hW1.bel;clear hW1)
 have d0:W1.cell? ⟨b,off,none⟩=some (.int .u8 254):=H0.o W1 HB1.o;have d5:W1.cell? ⟨b,off+5,none⟩=some (.int .u8 (x5:Int)):=H5.o W1 HB1.o;go_wp2_with fail;refine(HS W1).o.mono ?_;rintro e w2 ⟨rfl,hb⟩;have HR2:=q_ (HR1.o.on hb);have HB2:=q_ (qb HB1.o hb);clear hb HR1 HB1 d0 d5 HS;have d1:w2.cell? ⟨b,off+1,none⟩=some (.int .u8 (x1:Int)):=H1.o w2 HB2.o
 go_wp2_with (first
  | refine zo rfl 62 rfl (HB0 _).o ?_
  | (refine qe rfl 62 _ _ rfl w.1.size 0 pkA rfl rfl (HR2.o.there 0 5 (a8 _)) ae0 aez ?_;intro W3 hs;have HR3:=q_ (HR2.o.all hs rfl);have HB3:=q_ (HB2.o.trans (hs.below (a8 _)));clear hs))
 have HLD:=q_ (adm HR3.o rfl);exact b9 (v:=.tuple #[.agg pkA,.int .i64 0,.int .i64 2]) (by rw[zq rfl];simp[asAddr,Result.andThen];rw[HLD.o]) rfl (ah7 2 0 HB3.o)
theorem acg {Q:Nat->Prop} {w:World} {b off:Nat} {l:List UInt8} (h:qf Q w (some ⟨b,off,none⟩) (bsV l)) (k m:Nat):qf Q w (some ⟨b,off+k,none⟩) (bsV ((l.drop k).take m)):=by
 have:=(h.part k).first m
 rwa [abs,ys]at this
theorem adv {w:World} {a b off:Nat} (m n c:Nat) (h:Blk w a [.slice (some ⟨b,off,none⟩) m c]) (hn:n<=m) (hmc:m<=c) (hlt:n<c) :
 Calls prog 65 #[.pointer (some ⟨a,0,none⟩),.int .i64 n] w λe w'=>e=.returned (.slice (some ⟨b,off,none⟩) n n)/\Blk w' a [.slice (some ⟨b,off+n,none⟩) (m-n) (c-n)]/\qi (λk=>k≠a) w w'/\w'.1.size=w.1.size:=by
 have:=agk m n c h hn hmc;rw[if_neg om]at this;exact this
theorem bc1 {Q:Nat->Prop} {w:World} {A:Option Addr} {c:Nat} (v:List Int) (hv:InI v) (hf:qf Q w A (qt v)) (hn:v.length<=1100000):aaw 2 1 Q w (.slice A v.length c) (v.map λx=>abw [x]):=by
 refine⟨A,c,by rw[b0o],λk hk=>?_,by rw[b0o];unfold maxLen;omega⟩;have hk':k<v.length:=by simpa using hk
 obtain⟨b,off,hA,hb,h0⟩:=hf k (.int .i64 v[k]) (by unfold qt;rw[b0l,d7 hk'];rfl);refine⟨b,off,[.int .i64 v[k]],hA,hb,λj u hu=>?_,by rw[b3m];exact bmk (hv _ (b1j hk'))⟩;cases j with
 | zero=>injection hu with hu;subst hu;rw[b4j,b3d];exact h0
 | succ j=>simp at hu
theorem a3d {Q:Nat->Prop} {w:World} (b off n c x5 wd N:Nat) (l:List UInt8) (hA:qf Q w (some ⟨b,off,none⟩) (bsV l)) (hl:l.length=n) (hc:n<=c) (hm:n<=1100000) (hw:0<wd) (hw2:wd<256) (hN:wd+8=N) (hNn:N<=n) (h5:x5<256) (H0:Q_ (ByC w b off 0 254)) (H1:Q_ (ByC w b off 1 wd)) (H5:Q_ (ByC w b off 5 x5)) (hs:ari x5=N)
 (hne:(l.drop (wd+6)).take 2≠ah4 x5 ((l.drop 1).take (wd+5))):Calls prog 46 #[.slice (some ⟨b,off,none⟩) n c] w (acq (4,0,aaf) w):=by
 have HZ:=λW=>q_ (ac2 W)
 have HB0:=λW=>q_ (abb W)
 have hn0:(0:Int)<(n:Int):=by omega
 have hn6:(6:Int) <=(n:Int):=by omega
 have hn5:(5:Int)<(n:Int):=by omega
 have hn2:(1:Int)<(n:Int):=by omega
 have h50:(0:Int) <=(x5:Int):=by omega
 have h51:(x5:Int)<=255:=by omega
 have h10:(0:Int) <=(wd:Int):=by omega
 have h11:(wd:Int)<=255:=by omega
 have hn1:((n:Int)==0)=false:=by rw[l7];omega
 have HS:∀W,Q_ (Calls prog 64 #[.int .i64 x5] W λe w'=>e=.returned (.int .i64 N)/\Below W.1.size W w'):=λW=>q_ (by have:=ab9 x5 W;rwa [hs]at this)
 have hN0:((N:Int)==0)=false:=by rw[l7];omega
 have hx1:((6:Int) +(wd:Int)+2 != (N:Int))=false:=by rw[b0b];omega
 have hl2:(N:Int) <=(n:Int):=by omega
 have HL:=q_ hl;have hN8:(N:Int)-6-2=(wd:Int):=by omega
 obtain⟨z,hz⟩:∃z,z=wd+6:=⟨_,rfl⟩;have hN9:(N:Int)-2=(z:Int):=by omega
 have hz1:(1:Int) <=(z:Int):=by omega
 have hz2:(z:Int) <=(n:Int):=by omega
 have HNW:=q_ (o3 hN (o3 hz (o3 hc hNn)));have HFA:∀W,Below w.1.size w W->Q_ (qf (λk=>Q k/\k<w.1.size) W (some ⟨b,off,none⟩) (bsV l)):=λW hW=>q_ (hA.lt.below hW (λk q=>q.2))
 have HSUM:∀W,Below w.1.size w W->Q_ (Calls prog 67 #[.int .i64 x5,.slice (some ⟨b,off+1,none⟩) (z-1) (c-1)] W λe w'=>∃g,e=.returned (.slice (some ⟨g,0,none⟩) 2 2)/\Blk w' g (bsV (ah4 x5 ((l.drop 1).take (wd+5))))/\W.1.size<=g/\Below W.1.size W w'):=λW hW=>q_ (by
  have e:((l.drop 1).take (wd+5)).length=z-1:=by rw[l8,n5,hl];omega
  have:=akg (w:=W) x5 (some ⟨b,off+1,none⟩) ((l.drop 1).take (wd+5)) (c-1) (acg (HFA W hW).o 1 (wd+5)) om
  rwa [e]at this)
 have HEQ:∀W g y,Below w.1.size w W->Blk W g (bsV y)->y.length=2->Q_ (Calls prog 66 #[.slice (some ⟨b,off+6+wd,none⟩) 2 2,.slice (some ⟨g,0,none⟩) 2 2] W λe w'=>e=.returned (.bool (decide ((l.drop (wd+6)).take 2=y)))/\Below W.1.size W w'):=λW g y hW hg hy=>q_ (by
  have e:((l.drop (wd+6)).take 2).length=2:=by rw[l8,n5,hl];omega
  have:=ake (w:=W) (some ⟨b,off +(wd+6),none⟩) (some ⟨g,0,none⟩) 2 2 ((l.drop (wd+6)).take 2) y (acg (HFA W hW).o (wd+6) 2) (hg.flat (Q:=λ_=>True) trivial) om om;rw[e,hy]at this
  rwa [show off+6+wd=off +(wd+6)from by omega])
 have _HTK:∀W,Below w.1.size w W->Q_ (Calls prog 68 #[.int .i64 x5,.slice (some ⟨b,off+6,none⟩) wd wd] W (vc (ai7 x5 ((l.drop 6).take wd)) W)):=λW hW=>q_ (by
  have e:((l.drop 6).take wd).length=wd:=by rw[l8,n5,hl];omega
  have:=ah0 (w:=W) x5 (some ⟨b,off+6,none⟩) wd ((l.drop 6).take wd) (acg (HFA W hW).o 6 wd) om
  rwa [e]at this)
 have HSB:Q_ ((ah4 x5 ((l.drop 1).take (wd+5))).length=2):=q_ rfl;have hcI:(n:Int) <=(c:Int):=by omega
 generalize ah4 x5 ((l.drop 1).take (wd+5))=sb at *;generalize (l.drop (wd+6)).take 2=ss at *;clear hs hl hN hz hA hc hNn HFA;go_enter func46,ntmps46;go_upto_region 1 with(refine qc rfl 62 rfl pkA (HZ _).o ?_;intro W1 hW1;have HR1:=q_ (Blk.newL (L:=pkA.toList) hW1 rfl);have HB1:=q_ hW1.bel;clear hW1)
 have d0:W1.cell? ⟨b,off,none⟩=some (.int .u8 254):=H0.o W1 HB1.o;have d5:W1.cell? ⟨b,off+5,none⟩=some (.int .u8 (x5:Int)):=H5.o W1 HB1.o;go_wp2_with fail;refine(HS W1).o.mono ?_;rintro e w2 ⟨rfl,hb⟩;have HR2:=q_ (HR1.o.on hb);have HB2:=q_ (qb HB1.o hb);clear hb HR1 HB1 d0 d5 HS;have d1:w2.cell? ⟨b,off+1,none⟩=some (.int .u8 (wd:Int)):=H1.o w2 HB2.o;go_upto_region 15 with fail;clear d1;go_upto_region 17 with fail;have HE3:Q_ (Blk (w2.alloc (.cells #[.slice (some ⟨b,off,none⟩) n c] 156)) w2.1.size [.slice (some ⟨b,off,none⟩) n c]):=q_ (Blk.newL (qg w2 _ _) rfl);have HR3:=q_ (HR2.o.on (qa w2 (.cells #[.slice (some ⟨b,off,none⟩) n c] 156)));have HB3:=q_ (qb HB2.o (qa w2 (.cells #[.slice (some ⟨b,off,none⟩) n c] 156)));have HAR:Q_ (w.1.size<w2.1.size):=q_ HR2.o.lt;generalize w2.alloc (.cells #[.slice (some ⟨b,off,none⟩) n c] 156)=W3 at *
 generalize w2.1.size=a at *;clear HR2 HB2;go_wp2_with fail;refine(adv n 6 c HE3.o om om om).mono ?_;rintro e w4 ⟨rfl,he,hk,-⟩;have HE4:=q_ he;have HR4:=q_ (HR3.o.kept (hk.block _ (b09 HAR.o)) hk.size);have HB4:=q_ (HB3.o.trans (hk.below (B:=w.1.size) λk q=>by have:=HAR.o;omega));clear he hk HE3 HR3 HB3;go_wp2_with fail;refine(adv (n-6) wd (c-6) HE4.o (by have:=HNW.o;omega) om (by have:=HNW.o;omega)).mono ?_;rintro e w5 ⟨rfl,he,hk,-⟩;have HE5:=q_ he;have HR5:=q_ (HR4.o.kept (hk.block _ (b09 HAR.o)) hk.size);have HB5:=q_ (HB4.o.trans (hk.below (B:=w.1.size) λk q=>by have:=HAR.o;omega));clear he hk HE4 HR4 HB4;go_wp2_with fail;refine(agk (n-6-wd) 2 (c-6-wd) HE5.o (by have:=HNW.o;omega) om).mono ?_;rintro e w6 ⟨rfl,-,hk,-⟩;have HR6:=q_ (HR5.o.kept (hk.block _ (b09 HAR.o)) hk.size);have HB6:=q_ (HB5.o.trans (hk.below (B:=w.1.size) λk q=>by have:=HAR.o;omega))
 clear hk HE5 HR5 HB5;go_wp2_with fail;refine(HSUM w6 HB6.o).o.mono ?_;rintro e w7 ⟨g,rfl,hg,-,hb⟩;have HR7:=q_ (HR6.o.on hb);have HB7:=q_ (qb HB6.o hb);have HEQ7:=HEQ w7 g sb HB7.o hg HSB.o;clear hb hg HR6 HB6 HSUM HEQ;rw[o7 hne]at HEQ7;go_wp2_with fail;refine HEQ7.o.mono ?_;rintro e w8 ⟨rfl,hb⟩;have HR8:=q_ (HR7.o.on hb);have HB8:=q_ (qb HB7.o hb);clear hb HR7 HB7 HEQ7
 go_wp2_with (first
  | refine zo rfl 62 rfl (HB0 _).o ?_
  | (refine qe rfl 62 _ _ rfl w.1.size 0 pkA rfl rfl (HR8.o.there 0 5 (a8 _)) ae0 aez ?_;intro Wz hs;have HRz:=q_ (HR8.o.all hs rfl);have HBz:=q_ (HB8.o.trans (hs.below (a8 _)));clear hs))
 have HLD:=q_ (adm HRz.o rfl);exact b9 (v:=.tuple #[.agg pkA,.int .i64 0,.int .i64 4]) (by rw[zq rfl];simp[asAddr,Result.andThen];rw[HLD.o]) rfl (ah7 4 0 HBz.o)
theorem a3c {Q:Nat->Prop} {w:World} (b off n c x5 wd N:Nat) (l:List UInt8) (hA:qf Q w (some ⟨b,off,none⟩) (bsV l)) (hl:l.length=n) (hc:n<=c) (hm:n<=1100000) (hw:0<wd) (hw2:wd<256) (hN:wd+8=N) (hNn:N<=n) (h5:x5<256) (H0:Q_ (ByC w b off 0 254)) (H1:Q_ (ByC w b off 1 wd)) (H5:Q_ (ByC w b off 5 x5)) (hs:ari x5=N)
 (hne:(l.drop (wd+6)).take 2=ah4 x5 ((l.drop 1).take (wd+5))) (E:Int) (hE:(ai7 x5 ((l.drop 6).take wd)).1=E) (hE0:E≠0):Calls prog 46 #[.slice (some ⟨b,off,none⟩) n c] w (acq (E,N,aaf) w):=by
 have HZ:=λW=>q_ (ac2 W)
 have HB0:=λW=>q_ (abb W)
 have hn0:(0:Int)<(n:Int):=by omega
 have hn6:(6:Int) <=(n:Int):=by omega
 have hn5:(5:Int)<(n:Int):=by omega
 have hn2:(1:Int)<(n:Int):=by omega
 have h50:(0:Int) <=(x5:Int):=by omega
 have h51:(x5:Int)<=255:=by omega
 have h10:(0:Int) <=(wd:Int):=by omega
 have h11:(wd:Int)<=255:=by omega
 have hn1:((n:Int)==0)=false:=by rw[l7];omega
 have HS:∀W,Q_ (Calls prog 64 #[.int .i64 x5] W λe w'=>e=.returned (.int .i64 N)/\Below W.1.size W w'):=λW=>q_ (by have:=ab9 x5 W;rwa [hs]at this)
 have hN0:((N:Int)==0)=false:=by rw[l7];omega
 have hx1:((6:Int) +(wd:Int)+2 != (N:Int))=false:=by rw[b0b];omega
 have hl2:(N:Int) <=(n:Int):=by omega
 have HL:=q_ hl;have hN8:(N:Int)-6-2=(wd:Int):=by omega
 obtain⟨z,hz⟩:∃z,z=wd+6:=⟨_,rfl⟩;have hN9:(N:Int)-2=(z:Int):=by omega
 have hz1:(1:Int) <=(z:Int):=by omega
 have hz2:(z:Int) <=(n:Int):=by omega
 have HNW:=q_ (o3 hN (o3 hz (o3 hc hNn)));have HFA:∀W,Below w.1.size w W->Q_ (qf (λk=>Q k/\k<w.1.size) W (some ⟨b,off,none⟩) (bsV l)):=λW hW=>q_ (hA.lt.below hW (λk q=>q.2))
 have HSUM:∀W,Below w.1.size w W->Q_ (Calls prog 67 #[.int .i64 x5,.slice (some ⟨b,off+1,none⟩) (z-1) (c-1)] W λe w'=>∃g,e=.returned (.slice (some ⟨g,0,none⟩) 2 2)/\Blk w' g (bsV (ah4 x5 ((l.drop 1).take (wd+5))))/\W.1.size<=g/\Below W.1.size W w'):=λW hW=>q_ (by
  have e:((l.drop 1).take (wd+5)).length=z-1:=by rw[l8,n5,hl];omega
  have:=akg (w:=W) x5 (some ⟨b,off+1,none⟩) ((l.drop 1).take (wd+5)) (c-1) (acg (HFA W hW).o 1 (wd+5)) om
  rwa [e]at this)
 have HEQ:∀W g y,Below w.1.size w W->Blk W g (bsV y)->y.length=2->Q_ (Calls prog 66 #[.slice (some ⟨b,off+6+wd,none⟩) 2 2,.slice (some ⟨g,0,none⟩) 2 2] W λe w'=>e=.returned (.bool (decide ((l.drop (wd+6)).take 2=y)))/\Below W.1.size W w'):=λW g y hW hg hy=>q_ (by
  have e:((l.drop (wd+6)).take 2).length=2:=by rw[l8,n5,hl];omega
  have:=ake (w:=W) (some ⟨b,off +(wd+6),none⟩) (some ⟨g,0,none⟩) 2 2 ((l.drop (wd+6)).take 2) y (acg (HFA W hW).o (wd+6) 2) (hg.flat (Q:=λ_=>True) trivial) om om;rw[e,hy]at this
  rwa [show off+6+wd=off +(wd+6)from by omega])
 have HTK:∀W,Below w.1.size w W->Q_ (Calls prog 68 #[.int .i64 x5,.slice (some ⟨b,off+6,none⟩) wd wd] W (vc (ai7 x5 ((l.drop 6).take wd)) W)):=λW hW=>q_ (by
  have e:((l.drop 6).take wd).length=wd:=by rw[l8,n5,hl];omega
  have:=ah0 (w:=W) x5 (some ⟨b,off+6,none⟩) wd ((l.drop 6).take wd) (acg (HFA W hW).o 6 wd) om
  rwa [e]at this)
 have HSB:Q_ ((ah4 x5 ((l.drop 1).take (wd+5))).length=2):=q_ rfl;have hcI:(n:Int) <=(c:Int):=by omega
 generalize ah4 x5 ((l.drop 1).take (wd+5))=sb at *;generalize (l.drop (wd+6)).take 2=ss at *;have he2:(E != 0)=true:=by rw[b0r];exact hE0
 unfold vc at HTK;rw[hE]at HTK;generalize (ai7 x5 ((l.drop 6).take wd)).2=v at *;clear hE hE0;clear hs hl hN hz hA hc hNn HFA;go_enter func46,ntmps46;go_upto_region 1 with(refine qc rfl 62 rfl pkA (HZ _).o ?_;intro W1 hW1;have HR1:=q_ (Blk.newL (L:=pkA.toList) hW1 rfl);have HB1:=q_ hW1.bel;clear hW1)
 have d0:W1.cell? ⟨b,off,none⟩=some (.int .u8 254):=H0.o W1 HB1.o;have d5:W1.cell? ⟨b,off+5,none⟩=some (.int .u8 (x5:Int)):=H5.o W1 HB1.o;go_wp2_with fail;refine(HS W1).o.mono ?_;rintro e w2 ⟨rfl,hb⟩;have HR2:=q_ (HR1.o.on hb);have HB2:=q_ (qb HB1.o hb);clear hb HR1 HB1 d0 d5 HS;have d1:w2.cell? ⟨b,off+1,none⟩=some (.int .u8 (wd:Int)):=H1.o w2 HB2.o;go_upto_region 15 with fail;clear d1;go_upto_region 17 with fail;have HE3:Q_ (Blk (w2.alloc (.cells #[.slice (some ⟨b,off,none⟩) n c] 156)) w2.1.size [.slice (some ⟨b,off,none⟩) n c]):=q_ (Blk.newL (qg w2 _ _) rfl);have HR3:=q_ (HR2.o.on (qa w2 (.cells #[.slice (some ⟨b,off,none⟩) n c] 156)));have HB3:=q_ (qb HB2.o (qa w2 (.cells #[.slice (some ⟨b,off,none⟩) n c] 156)));have HAR:Q_ (w.1.size<w2.1.size):=q_ HR2.o.lt;generalize w2.alloc (.cells #[.slice (some ⟨b,off,none⟩) n c] 156)=W3 at *
 generalize w2.1.size=a at *;clear HR2 HB2;go_wp2_with fail;refine(adv n 6 c HE3.o om om om).mono ?_;rintro e w4 ⟨rfl,he,hk,-⟩;have HE4:=q_ he;have HR4:=q_ (HR3.o.kept (hk.block _ (b09 HAR.o)) hk.size);have HB4:=q_ (HB3.o.trans (hk.below (B:=w.1.size) λk q=>by have:=HAR.o;omega));clear he hk HE3 HR3 HB3;go_wp2_with fail;refine(adv (n-6) wd (c-6) HE4.o (by have:=HNW.o;omega) om (by have:=HNW.o;omega)).mono ?_;rintro e w5 ⟨rfl,he,hk,-⟩;have HE5:=q_ he;have HR5:=q_ (HR4.o.kept (hk.block _ (b09 HAR.o)) hk.size);have HB5:=q_ (HB4.o.trans (hk.below (B:=w.1.size) λk q=>by have:=HAR.o;omega));clear he hk HE4 HR4 HB4;go_wp2_with fail;refine(agk (n-6-wd) 2 (c-6-wd) HE5.o (by have:=HNW.o;omega) om).mono ?_;rintro e w6 ⟨rfl,-,hk,-⟩;have HR6:=q_ (HR5.o.kept (hk.block _ (b09 HAR.o)) hk.size);have HB6:=q_ (HB5.o.trans (hk.below (B:=w.1.size) λk q=>by have:=HAR.o;omega))
 clear hk HE5 HR5 HB5;go_wp2_with fail;refine(HSUM w6 HB6.o).o.mono ?_;rintro e w7 ⟨g,rfl,hg,-,hb⟩;have HR7:=q_ (HR6.o.on hb);have HB7:=q_ (qb HB6.o hb);have HEQ7:=HEQ w7 g sb HB7.o hg HSB.o;clear hb hg HR6 HB6 HSUM HEQ;rw[t8 hne]at HEQ7;go_wp2_with fail;refine HEQ7.o.mono ?_;rintro e w8 ⟨rfl,hb⟩;have HR8:=q_ (HR7.o.on hb);have HB8:=q_ (qb HB7.o hb);clear hb HR7 HB7 HEQ7;go_wp2_with fail;refine(HTK w8 HB8.o).o.mono ?_;rintro e w9 ⟨A9,c9,rfl,hf,hb⟩;have HF9:=q_ hf;have HR9:=q_ (HR8.o.on hb);have HB9:=q_ (qb HB8.o hb);have HG9:=q_ (o3 HB8.o.size hb.size);have HRL:=q_ HR8.o.lt;clear hf hb HR8 HB8 HTK
 go_wp2_with (first
  | refine zo rfl 62 rfl (HB0 _).o ?_
  | (refine qe rfl 62 _ _ rfl w.1.size 0 pkA rfl rfl (HR9.o.there 0 5 (a8 _)) ae0 aez ?_;intro Wz hs;have HRz:=q_ (HR9.o.all hs rfl);have HBz:=q_ (HB9.o.trans (hs.below (a8 _)));clear hs))
 have HLD:=q_ (adm HRz.o rfl);exact b9 (v:=.tuple #[.agg pkA,.int .i64 N,.int .i64 E]) (by rw[zq rfl];simp[asAddr,Result.andThen];rw[HLD.o]) rfl (ah7 E N HBz.o)
theorem a3e {Q:Nat->Prop} {w:World} (b off n c x5 wd N x2 x3 x4:Nat) (l:List UInt8) (hA:qf Q w (some ⟨b,off,none⟩) (bsV l)) (hl:l.length=n) (hc:n<=c) (hm:n<=1100000) (hw:0<wd) (hw2:wd<256) (hN:wd+8=N) (hNn:N<=n) (h5:x5<256) (H0:Q_ (ByC w b off 0 254)) (H1:Q_ (ByC w b off 1 wd)) (H5:Q_ (ByC w b off 5 x5)) (hs:ari x5=N)
 (hne:(l.drop (wd+6)).take 2=ah4 x5 ((l.drop 1).take (wd+5))) (E:Int) (H2:Q_ (ByC w b off 2 x2)) (H3:Q_ (ByC w b off 3 x3)) (H4:Q_ (ByC w b off 4 x4)) (hx:x2<256/\x3<256/\x4<256) (v:List Int) (hE:ai7 x5 ((l.drop 6).take wd)=(0,v)) (hv:InI v) (hvl:v.length<=1100000):Calls prog 46 #[.slice (some ⟨b,off,none⟩) n c] w (acq (0,N,⟨x2,x3,x4,x5,v.map λx=>abw [x]⟩) w):=by
 have HZ:=λW=>q_ (ac2 W)
 have HB0:=λW=>q_ (abb W)
 have hn0:(0:Int)<(n:Int):=by omega
 have hn6:(6:Int) <=(n:Int):=by omega
 have hn5:(5:Int)<(n:Int):=by omega
 have hn2:(1:Int)<(n:Int):=by omega
 have h50:(0:Int) <=(x5:Int):=by omega
 have h51:(x5:Int)<=255:=by omega
 have h10:(0:Int) <=(wd:Int):=by omega
 have h11:(wd:Int)<=255:=by omega
 have hn1:((n:Int)==0)=false:=by rw[l7];omega
 have HS:∀W,Q_ (Calls prog 64 #[.int .i64 x5] W λe w'=>e=.returned (.int .i64 N)/\Below W.1.size W w'):=λW=>q_ (by have:=ab9 x5 W;rwa [hs]at this)
 have hN0:((N:Int)==0)=false:=by rw[l7];omega
 have hx1:((6:Int) +(wd:Int)+2 != (N:Int))=false:=by rw[b0b];omega
 have hl2:(N:Int) <=(n:Int):=by omega
 have HL:=q_ hl;have hN8:(N:Int)-6-2=(wd:Int):=by omega
 obtain⟨z,hz⟩:∃z,z=wd+6:=⟨_,rfl⟩;have hN9:(N:Int)-2=(z:Int):=by omega
 have hz1:(1:Int) <=(z:Int):=by omega
 have hz2:(z:Int) <=(n:Int):=by omega
 have HNW:=q_ (o3 hN (o3 hz (o3 hc hNn)));have HFA:∀W,Below w.1.size w W->Q_ (qf (λk=>Q k/\k<w.1.size) W (some ⟨b,off,none⟩) (bsV l)):=λW hW=>q_ (hA.lt.below hW (λk q=>q.2))
 have HSUM:∀W,Below w.1.size w W->Q_ (Calls prog 67 #[.int .i64 x5,.slice (some ⟨b,off+1,none⟩) (z-1) (c-1)] W λe w'=>∃g,e=.returned (.slice (some ⟨g,0,none⟩) 2 2)/\Blk w' g (bsV (ah4 x5 ((l.drop 1).take (wd+5))))/\W.1.size<=g/\Below W.1.size W w'):=λW hW=>q_ (by
  have e:((l.drop 1).take (wd+5)).length=z-1:=by rw[l8,n5,hl];omega
  have:=akg (w:=W) x5 (some ⟨b,off+1,none⟩) ((l.drop 1).take (wd+5)) (c-1) (acg (HFA W hW).o 1 (wd+5)) om
  rwa [e]at this)
 have HEQ:∀W g y,Below w.1.size w W->Blk W g (bsV y)->y.length=2->Q_ (Calls prog 66 #[.slice (some ⟨b,off+6+wd,none⟩) 2 2,.slice (some ⟨g,0,none⟩) 2 2] W λe w'=>e=.returned (.bool (decide ((l.drop (wd+6)).take 2=y)))/\Below W.1.size W w'):=λW g y hW hg hy=>q_ (by
  have e:((l.drop (wd+6)).take 2).length=2:=by rw[l8,n5,hl];omega
  have:=ake (w:=W) (some ⟨b,off +(wd+6),none⟩) (some ⟨g,0,none⟩) 2 2 ((l.drop (wd+6)).take 2) y (acg (HFA W hW).o (wd+6) 2) (hg.flat (Q:=λ_=>True) trivial) om om;rw[e,hy]at this
  rwa [show off+6+wd=off +(wd+6)from by omega])
 have HTK:∀W,Below w.1.size w W->Q_ (Calls prog 68 #[.int .i64 x5,.slice (some ⟨b,off+6,none⟩) wd wd] W (vc (ai7 x5 ((l.drop 6).take wd)) W)):=λW hW=>q_ (by
  have e:((l.drop 6).take wd).length=wd:=by rw[l8,n5,hl];omega
  have:=ah0 (w:=W) x5 (some ⟨b,off+6,none⟩) wd ((l.drop 6).take wd) (acg (HFA W hW).o 6 wd) om
  rwa [e]at this)
 have HSB:Q_ ((ah4 x5 ((l.drop 1).take (wd+5))).length=2):=q_ rfl;have hcI:(n:Int) <=(c:Int):=by omega
 generalize ah4 x5 ((l.drop 1).take (wd+5))=sb at *;generalize (l.drop (wd+6)).take 2=ss at *;unfold vc at HTK;rw[hE]at HTK;dsimp only at HTK;clear hE;clear hs hl hN hz hA hc hNn HFA;go_enter func46,ntmps46;go_upto_region 1 with(refine qc rfl 62 rfl pkA (HZ _).o ?_;intro W1 hW1;have HR1:=q_ (Blk.newL (L:=pkA.toList) hW1 rfl);have HB1:=q_ hW1.bel;clear hW1)
 have d0:W1.cell? ⟨b,off,none⟩=some (.int .u8 254):=H0.o W1 HB1.o;have d5:W1.cell? ⟨b,off+5,none⟩=some (.int .u8 (x5:Int)):=H5.o W1 HB1.o;go_wp2_with fail;refine(HS W1).o.mono ?_;rintro e w2 ⟨rfl,hb⟩;have HR2:=q_ (HR1.o.on hb);have HB2:=q_ (qb HB1.o hb);clear hb HR1 HB1 d0 d5 HS;have d1:w2.cell? ⟨b,off+1,none⟩=some (.int .u8 (wd:Int)):=H1.o w2 HB2.o;go_upto_region 15 with fail;clear d1;go_upto_region 17 with fail;have HE3:Q_ (Blk (w2.alloc (.cells #[.slice (some ⟨b,off,none⟩) n c] 156)) w2.1.size [.slice (some ⟨b,off,none⟩) n c]):=q_ (Blk.newL (qg w2 _ _) rfl);have HR3:=q_ (HR2.o.on (qa w2 (.cells #[.slice (some ⟨b,off,none⟩) n c] 156)));have HB3:=q_ (qb HB2.o (qa w2 (.cells #[.slice (some ⟨b,off,none⟩) n c] 156)));have HAR:Q_ (w.1.size<w2.1.size):=q_ HR2.o.lt;generalize w2.alloc (.cells #[.slice (some ⟨b,off,none⟩) n c] 156)=W3 at *
 generalize w2.1.size=a at *;clear HR2 HB2;go_wp2_with fail;refine(adv n 6 c HE3.o om om om).mono ?_;rintro e w4 ⟨rfl,he,hk,-⟩;have HE4:=q_ he;have HR4:=q_ (HR3.o.kept (hk.block _ (b09 HAR.o)) hk.size);have HB4:=q_ (HB3.o.trans (hk.below (B:=w.1.size) λk q=>by have:=HAR.o;omega));clear he hk HE3 HR3 HB3;go_wp2_with fail;refine(adv (n-6) wd (c-6) HE4.o (by have:=HNW.o;omega) om (by have:=HNW.o;omega)).mono ?_;rintro e w5 ⟨rfl,he,hk,-⟩;have HE5:=q_ he;have HR5:=q_ (HR4.o.kept (hk.block _ (b09 HAR.o)) hk.size);have HB5:=q_ (HB4.o.trans (hk.below (B:=w.1.size) λk q=>by have:=HAR.o;omega));clear he hk HE4 HR4 HB4;go_wp2_with fail;refine(agk (n-6-wd) 2 (c-6-wd) HE5.o (by have:=HNW.o;omega) om).mono ?_;rintro e w6 ⟨rfl,-,hk,-⟩;have HR6:=q_ (HR5.o.kept (hk.block _ (b09 HAR.o)) hk.size);have HB6:=q_ (HB5.o.trans (hk.below (B:=w.1.size) λk q=>by have:=HAR.o;omega))
 clear hk HE5 HR5 HB5;go_wp2_with fail;refine(HSUM w6 HB6.o).o.mono ?_;rintro e w7 ⟨g,rfl,hg,-,hb⟩;have HR7:=q_ (HR6.o.on hb);have HB7:=q_ (qb HB6.o hb);have HEQ7:=HEQ w7 g sb HB7.o hg HSB.o;clear hb hg HR6 HB6 HSUM HEQ;rw[t8 hne]at HEQ7;go_wp2_with fail;refine HEQ7.o.mono ?_;rintro e w8 ⟨rfl,hb⟩;have HR8:=q_ (HR7.o.on hb);have HB8:=q_ (qb HB7.o hb);clear hb HR7 HB7 HEQ7;go_wp2_with fail;refine(HTK w8 HB8.o).o.mono ?_;rintro e w9 ⟨A9,c9,rfl,hf,hb⟩;have HF9:=q_ hf;have HR9:=q_ (HR8.o.on hb);have HB9:=q_ (qb HB8.o hb);have HG9:=q_ (o3 HB8.o.size hb.size);have HRL:=q_ HR8.o.lt;clear hf hb HR8 HB8 HTK;have d2:w9.cell? ⟨b,off+2,none⟩=some (.int .u8 (x2:Int)):=H2.o w9 HB9.o;have d3:w9.cell? ⟨b,off+3,none⟩=some (.int .u8 (x3:Int)):=H3.o w9 HB9.o;have d4:w9.cell? ⟨b,off+4,none⟩=some (.int .u8 (x4:Int)):=H4.o w9 HB9.o
 have y2:(x2:Int)<=255:=by omega
 have y3:(x3:Int)<=255:=by omega
 have y4:(x4:Int)<=255:=by omega
 have y20:(0:Int) <=(x2:Int):=by omega
 have y30:(0:Int) <=(x3:Int):=by omega
 have y40:(0:Int) <=(x4:Int):=by omega
 go_upto_region 23 with fail;clear HB0 HZ H0 H1 H5 H2 H3 H4 HSB;have r0:=HR9.o.cell 0 (v:=.int .i64 0) rfl;have r1:=HR9.o.cell 1 (v:=.int .i64 0) rfl;have r2:=HR9.o.cell 2 (v:=.int .i64 0) rfl;have r3:=HR9.o.cell 3 (v:=.int .i64 0) rfl;have r4:=HR9.o.cell 4 (v:=.slice none 0 0) rfl;have z0:=HR9.o.fz 0;have z1:=HR9.o.fz 1;have z2:=HR9.o.fz 2;have z3:=HR9.o.fz 3;have z4:=HR9.o.fz 4;have hs:=(bjs HR9.o (.int .i64 (x2:Int)) (.int .i64 (x3:Int)) (.int .i64 (x4:Int)) (.int .i64 (x5:Int)) (.slice A9 v.length c9)).2;have HKZ:=q_ (HR9.o.all hs rfl).drew;have HSZ:=q_ (o3 hs.sz hs.far);have HBZ:=q_ (HB9.o.trans (hs.below (a8 _))).drew;have HVI:=q_ hv;have HVL:=q_ hvl;clear hs hv hvl
 go_region
 generalize (((((w9.setCell ⟨w.1.size,0,none⟩ (.int .i64 (x2:Int))).setCell ⟨w.1.size,1,none⟩ (.int .i64 (x3:Int))).setCell ⟨w.1.size,2,none⟩ (.int .i64 (x4:Int))).setCell ⟨w.1.size,3,none⟩ (.int .i64 (x5:Int))).setCell ⟨w.1.size,4,none⟩ (.slice A9 v.length c9))=WZ at *;clear r0 r1 r2 r3 r4 z0 z1 z2 z3 z4 d2 d3 d4;go_wp2_with fail;have HLD:=q_ (adm HKZ.o rfl);refine b9 (v:=.tuple #[.agg (bnl ⟨x2,x3,x4,x5,v.map λx=>abw [x]⟩ (.slice A9 v.length c9)).toArray,.int .i64 N,.int .i64 0]) (by rw[zq rfl];simp[asAddr,Result.andThen];rw[HLD.o];rfl) rfl ⟨_,rfl,⟨_,rfl,?_⟩,HBZ.o⟩;refine bc1 v HVI.o ((HF9.o.keep λk q=>HSZ.o.2 k (by have:=HG9.o;have:=HAR.o;have:=q.1;have:=HRL.o;omega)).less λk q=>⟨by have:=HG9.o;have:=HRL.o;omega,by rw[show WZ.drew.1.size=WZ.1.size from rfl,HSZ.o.1];exact q.2⟩) HVL.o
theorem aqt:∀(s:List Slt) (v out:List Int),InI v->InI out->InI (yw s v out)
 | [],[],out,_,h=>h
 | [],_::_,out,_,h=>h
 | _::_,[],out,_,h=>h
 | x::s,y::v,out,hv,h=>by
  simp only[yw];refine aqt s v _ (λn hn=>hv n (b13 _ hn)) λn hn=>?_
  rcases List.mem_or_eq_of_mem_set hn with q|q
  ·exact h n q
  ·rw[q];exact hv y (b1x ..)
theorem bjr (i:Nat) (b:List UInt8) (h:(ai7 i b).1=0):InI (ai7 i b).2 /\(ai7 i b).2.length<=1100000:=by
 have hfo:=ahn (i:Int);rw[a9c]at h ⊢;generalize xe (i:Int)=f at *;unfold bgg at h ⊢
 split at h
 ·cases h
 ·rename_i hn;rw[if_neg hn]
  split at h
  ·rename_i h0;rw[if_pos h0];refine⟨aqt _ _ _ (ah2 (anh f.2 hfo.2.2.2) h0) (aif _),?_⟩;rw[agq,b1r];have:=hfo.2.2.1;omega
  ·rename_i h0;exact absurd h h0
theorem bnm (l:List UInt8) (k:Nat) (h:k+2<=l.length):(l.drop k).take 2=[zy l k,zy l (k+1)]:=by
 rw[b0w om,b0w om];show [l[k],l[k+1]]=_;unfold zy;rw[l9,l9,d7 om,d7 om];rfl
theorem bkk (i:Nat) (x y:UInt8) (m:List UInt8):[x,y]=ah4 i m↔x.toNat=ars i m%256/\y.toNat=ars i m / 256:=by
 have hs:=bkj i m;unfold ah4;generalize ars i m=s at *;rw[b5g,b5g,<- b1y,<- b1y,b34,b34,b29 (show s%256<2^8 by omega),b29 (show s / 256<2^8 by omega)];simp
theorem al7 {Q:Nat->Prop} {w:World} {b off:Nat} {l:List UInt8} (h:qf Q w (some ⟨b,off,none⟩) (bsV l)) (i:Nat) (hi:i<l.length):Q_ (ByC w b off i (zy l i).toNat):=q_ λW hW=>by
 obtain⟨b',off',q,-,hc⟩:=h.lt i _ (v9 hi);injection q with q;injection q with q1 q2;subst q1 q2
 have e:zy l i=l[i]:=by unfold zy;rw[l9,d7 hi];rfl
 rw[e];exact(hW.cell (p:=⟨b,off+i,none⟩) (ab6 hc)).trans hc
theorem a29 {Q:Nat->Prop} {w:World} (A:Option Addr) (c:Nat) (l:List UInt8) (h:qf Q w A (bsV l)) (hm:l.length<=1100000) (hc:l.length<=c):Calls prog 46 #[.slice A l.length c] w (acq (ab3 l) w):=by
 by_cases h0:l.length=0
 ·rw[show ab3 l=(2,0,aaf)from by unfold ab3;rw[if_pos h0],h0];exact a3b A c
 obtain⟨b,off,rfl,-,-⟩:=h 0 _ (v9 (show 0<l.length by omega));have B0:=al7 h 0 om
 by_cases h1:zy l 0≠254
 ·rw[show ab3 l=(3,0,aaf)from by unfold ab3;rw[if_neg h0,if_pos h1]];refine as7 b off _ c _ om hm B0 ?_;rw[b0r];intro q;apply h1;apply b1y.1;show (zy l 0).toNat=254;omega
 have e0:zy l 0=254:=b25.1 h1;rw[e0]at B0;have B0:Q_ (ByC w b off 0 254):=B0
 by_cases h6:l.length<6
 ·rw[show ab3 l=(2,0,aaf)from by unfold ab3;rw[if_neg h0,if_neg h1,if_pos h6]];exact as8 b off _ c om h6 B0
 have B5:=al7 h 5 om;have B1:=al7 h 1 om;have l5:=(zy l 5).toNat_lt;have l1:=(zy l 1).toNat_lt
 by_cases hw:yn (xe ((zy l 5).toNat:Int)).2=0
 ·rw[show ab3 l=(6,0,aaf)from by unfold ab3;rw[if_neg h0,if_neg h1,if_neg h6];exact if_pos hw];exact ax9 b off _ c _ om hm om B0 B5 (by unfold ari;rw[if_pos hw])
 have hsz:ari (zy l 5).toNat=yn (xe ((zy l 5).toNat:Int)).2+8:=by unfold ari;rw[if_neg hw]
 by_cases hf:(zy l 1).toNat≠yn (xe ((zy l 5).toNat:Int)).2
 ·rw[show ab3 l=(3,0,aaf)from by unfold ab3;rw[if_neg h0,if_neg h1,if_neg h6];exact(if_neg hw).trans (if_pos hf)];exact ax8 b off _ c _ _ _ om hm om B0 B5 B1 om hsz om om
 have hf':(zy l 1).toNat=yn (xe ((zy l 5).toNat:Int)).2:=b25.1 hf
 by_cases hn:l.length<yn (xe ((zy l 5).toNat:Int)).2+8
 ·rw[show ab3 l=(2,0,aaf)from by unfold ab3;rw[if_neg h0,if_neg h1,if_neg h6];exact(if_neg hw).trans ((if_neg hf).trans (if_pos hn))];exact a3a b off _ c _ _ _ om hm om B0 B5 B1 om hsz om om hn
 have e : ab3 l=if(zy l (yn (xe ((zy l 5).toNat:Int)).2+6)).toNat=ars (zy l 5).toNat ((l.drop 1).take (yn (xe ((zy l 5).toNat:Int)).2+5))%256 /\(zy l (yn (xe ((zy l 5).toNat:Int)).2+7)).toNat=ars (zy l 5).toNat ((l.drop 1).take (yn (xe ((zy l 5).toNat:Int)).2+5)) / 256 then
       (if(ai7 (zy l 5).toNat ((l.drop 6).take (yn (xe ((zy l 5).toNat:Int)).2))).1=0 then(0,yn (xe ((zy l 5).toNat:Int)).2+8,⟨(zy l 2).toNat,(zy l 3).toNat,(zy l 4).toNat,(zy l 5).toNat,(ai7 (zy l 5).toNat ((l.drop 6).take (yn (xe ((zy l 5).toNat:Int)).2))).2.map λx=>abw [x]⟩)else((ai7 (zy l 5).toNat ((l.drop 6).take (yn (xe ((zy l 5).toNat:Int)).2))).1,yn (xe ((zy l 5).toNat:Int)).2+8,aaf))else(4,0,aaf):=by
  unfold ab3;rw[if_neg h0,if_neg h1,if_neg h6];exact(if_neg hw).trans ((if_neg hf).trans (if_neg hn))
 rw[e];clear e;have H2:=al7 h 2 om;have H3:=al7 h 3 om;have H4:=al7 h 4 om;have l2:=(zy l 2).toNat_lt;have l3:=(zy l 3).toNat_lt;have l4:=(zy l 4).toNat_lt;rw[hf']at B1 l1;have ht:=bnm l (yn (xe ((zy l 5).toNat:Int)).2+6) om;have hi:=bkk (zy l 5).toNat (zy l (yn (xe ((zy l 5).toNat:Int)).2+6)) (zy l (yn (xe ((zy l 5).toNat:Int)).2+7)) ((l.drop 1).take (yn (xe ((zy l 5).toNat:Int)).2+5));have hok:=bjr (zy l 5).toNat ((l.drop 6).take (yn (xe ((zy l 5).toNat:Int)).2));generalize (zy l 5).toNat=x5 at *;generalize yn (xe (x5:Int)).2=wd at *
 by_cases hs:(zy l (wd+6)).toNat=ars x5 ((l.drop 1).take (wd+5))%256 /\(zy l (wd+7)).toNat=ars x5 ((l.drop 1).take (wd+5)) / 256
 ·rw[if_pos hs];have hq:(l.drop (wd+6)).take 2=ah4 x5 ((l.drop 1).take (wd+5)):=by rw[ht];exact hi.2 hs
  by_cases hE:(ai7 x5 ((l.drop 6).take wd)).1=0
  ·rw[if_pos hE];obtain⟨k1,k2⟩:=hok hE;exact a3e b off _ c x5 wd _ _ _ _ l h rfl hc hm om om rfl om om B0 B1 B5 hsz hq 0 H2 H3 H4 ⟨by omega,by omega,by omega⟩ _ (by rw[<- hE]) k1 k2
  ·rw[if_neg hE];exact a3c b off _ c x5 wd _ l h rfl hc hm om om rfl om om B0 B1 B5 hsz hq _ rfl hE
 ·rw[if_neg hs];exact a3d b off _ c x5 wd _ l h rfl hc hm om om rfl om om B0 B1 B5 hsz (λq=>hs (hi.1 (by rw[<- ht];exact q)))
