/- Parts. -/
import Derived.Test.YtdkhlkfleggbaaaGreatQ01
import Derived.Laws.OwnMore
import Derived.StillTailTactics
namespace Go.Proofs.YtdkhlkfleggbaaaGreat
set_option maxHeartbeats 4000000
set_option maxRecDepth 8000
open Lib (hid)
open Tryz
set_option linter.unusedVariables false
open Go.RowKit
def vf:List Fld:=[⟨4,false,0,604799999⟩,⟨1,false,1,1⟩,⟨1,false,0,64⟩,⟨2,false,0,0⟩]
theorem a0r:vf.all ys=true:=by decide +kernel
def ajn:List Fld:=[⟨1,false,0,7⟩,⟨1,false,0,255⟩,⟨1,false,0,63⟩,⟨1,true,(-90),90⟩,⟨2,true,0,360⟩,⟨2,true,(-32768),32767⟩,⟨4,false,0,4294967295⟩]
theorem aqi:ajn.all ys=true:=by decide +kernel
def aim:List Fld:=[⟨1,false,0,0⟩,⟨1,false,0,7⟩,⟨2,false,0,0⟩]
theorem a6n:aim.all ys=true:=by decide +kernel
def ax0:List Fld:=[⟨1,false,0,255⟩,⟨1,false,0,255⟩]
theorem aoq:ax0.all ys=true:=by decide +kernel
def ako:List Fld:=[⟨4,false,0,604799999⟩,⟨2,false,0,65535⟩,⟨1,false,0,12⟩,⟨1,false,0,31⟩,⟨1,false,0,23⟩,⟨1,false,0,59⟩,⟨1,false,0,60⟩,⟨1,false,0,15⟩,⟨4,false,0,4294967295⟩,⟨4,true,(-1000000000),1000000000⟩,⟨1,false,0,5⟩,⟨1,false,0,255⟩,⟨1,false,0,255⟩,⟨1,false,0,255⟩,⟨4,true,(-1800000000),1800000000⟩,⟨4,true,(-900000000),900000000⟩,⟨4,true,(-2147483648),2147483647⟩,⟨4,true,(-2147483648),2147483647⟩,⟨4,false,0,4294967295⟩,⟨4,false,0,4294967295⟩,⟨4,true,(-2147483648),2147483647⟩,⟨4,true,(-2147483648),2147483647⟩,⟨4,true,(-2147483648),2147483647⟩,⟨4,true,(-2147483648),2147483647⟩,⟨4,true,0,36000000⟩,⟨4,false,0,4294967295⟩,⟨4,false,0,4294967295⟩,⟨2,false,0,65535⟩,⟨2,false,0,31⟩,⟨4,false,0,0⟩,⟨4,true,0,36000000⟩,⟨2,true,(-18000),18000⟩,⟨2,false,0,65535⟩]
theorem ap8:ako.all ys=true:=by decide +kernel
def aln:List Fld:=[⟨4,false,0,604799999⟩,⟨2,false,0,65535⟩,⟨2,false,0,65535⟩,⟨2,false,0,65535⟩,⟨2,false,0,65535⟩,⟨2,false,0,65535⟩,⟨2,false,0,65535⟩,⟨2,false,0,65535⟩]
theorem apj:aln.all ys=true:=by decide +kernel
def ac6 (l:List Fld) (w:World) (e:Ending) (w':World):Prop:=∃A c,e=.returned (.slice A l.length c)∧qf (fun b=>w.1.size≤b∧b<w'.1.size) w' A (aci l)∧Below w.1.size w w'
theorem a0s (w:World):Calls prog 270 #[] w (ac6 vf w):=by
 have H0:∀W,Hid (Calls prog 261 #[.int .i64 4,.int .i64 604799999] W fun e w'=>e=.returned (.agg #[.int .i64 4,.bool false,.int .i64 0,.int .i64 604799999])∧Below W.1.size W w'):=fun W=>hid (jy 4 604799999 W dc dc)
 have H1:∀W,Hid (Calls prog 261 #[.int .i64 1,.int .i64 64] W fun e w'=>e=.returned (.agg #[.int .i64 1,.bool false,.int .i64 0,.int .i64 64])∧Below W.1.size W w'):=fun W=>hid (jy 1 64 W dc dc)
 have H2:∀W,Hid (Calls prog 261 #[.int .i64 2,.int .i64 0] W fun e w'=>e=.returned (.agg #[.int .i64 2,.bool false,.int .i64 0,.int .i64 0])∧Below W.1.size W w'):=fun W=>hid (jy 2 0 W dc dc)
 go_enter func270,ntmps270;go_wp2_with fail;refine((H0 _).out).mono ?_;rintro e w1 ⟨rfl,hb⟩;have HB1:Hid (Below w.1.size w w1):=hid (hb);clear hb;go_wp2_with fail;refine((H1 _).out).mono ?_;rintro e w2 ⟨rfl,hb⟩;have HB2:Hid (Below w.1.size w w2):=hid (qb HB1.out hb);clear hb HB1;go_wp2_with fail;refine((H2 _).out).mono ?_;rintro e w3 ⟨rfl,hb⟩;have HB3:Hid (Below w.1.size w w3):=hid (qb HB2.out hb);clear hb HB2;go_wp2_with fail;go_ret;exact⟨some ⟨w3.1.size,0,none⟩,4,rfl,(Blk.newL (qg w3 _ _) rfl).flat ⟨HB3.out.size,by simp⟩,qb HB3.out (qa _ _)⟩
theorem awa (w:World):Calls prog 271 #[] w (ac6 ajn w):=by
 have H0:∀W,Hid (Calls prog 261 #[.int .i64 1,.int .i64 7] W fun e w'=>e=.returned (.agg #[.int .i64 1,.bool false,.int .i64 0,.int .i64 7])∧Below W.1.size W w'):=fun W=>hid (jy 1 7 W dc dc)
 have H1:∀W,Hid (Calls prog 122 #[.int .i64 1,.bool false] W fun e w'=>e=.returned (.agg #[.int .i64 1,.bool false,.int .i64 0,.int .i64 255])∧Below W.1.size W w'):=fun W=>hid (afp W)
 have H2:∀W,Hid (Calls prog 261 #[.int .i64 1,.int .i64 63] W fun e w'=>e=.returned (.agg #[.int .i64 1,.bool false,.int .i64 0,.int .i64 63])∧Below W.1.size W w'):=fun W=>hid (jy 1 63 W dc dc)
 have H3:∀W,Hid (Calls prog 260 #[.int .i64 1,.int .i64 (-90),.int .i64 90] W fun e w'=>e=.returned (.agg #[.int .i64 1,.bool true,.int .i64 (-90),.int .i64 90])∧Below W.1.size W w'):=fun W=>hid (aee 1 (-90) 90 W dc dc)
 have H4:∀W,Hid (Calls prog 260 #[.int .i64 2,.int .i64 0,.int .i64 360] W fun e w'=>e=.returned (.agg #[.int .i64 2,.bool true,.int .i64 0,.int .i64 360])∧Below W.1.size W w'):=fun W=>hid (aee 2 0 360 W dc dc)
 have H5:∀W,Hid (Calls prog 122 #[.int .i64 2,.bool true] W fun e w'=>e=.returned (.agg #[.int .i64 2,.bool true,.int .i64 (-32768),.int .i64 32767])∧Below W.1.size W w'):=fun W=>hid (ats W)
 have H6:∀W,Hid (Calls prog 122 #[.int .i64 4,.bool false] W fun e w'=>e=.returned (.agg #[.int .i64 4,.bool false,.int .i64 0,.int .i64 4294967295])∧Below W.1.size W w'):=fun W=>hid (al4 W)
 go_enter func271,ntmps271;go_wp2_with fail;refine((H0 _).out).mono ?_;rintro e w1 ⟨rfl,hb⟩;have HB1:Hid (Below w.1.size w w1):=hid (hb);clear hb;go_wp2_with fail;refine((H1 _).out).mono ?_;rintro e w2 ⟨rfl,hb⟩;have HB2:Hid (Below w.1.size w w2):=hid (qb HB1.out hb);clear hb HB1;go_wp2_with fail;refine((H2 _).out).mono ?_;rintro e w3 ⟨rfl,hb⟩;have HB3:Hid (Below w.1.size w w3):=hid (qb HB2.out hb);clear hb HB2;go_wp2_with fail;refine((H3 _).out).mono ?_;rintro e w4 ⟨rfl,hb⟩;have HB4:Hid (Below w.1.size w w4):=hid (qb HB3.out hb);clear hb HB3;go_wp2_with fail;refine((H4 _).out).mono ?_;rintro e w5 ⟨rfl,hb⟩;have HB5:Hid (Below w.1.size w w5):=hid (qb HB4.out hb);clear hb HB4;go_wp2_with fail;refine((H5 _).out).mono ?_;rintro e w6 ⟨rfl,hb⟩;have HB6:Hid (Below w.1.size w w6):=hid (qb HB5.out hb);clear hb HB5;go_wp2_with fail;refine((H6 _).out).mono ?_;rintro e w7 ⟨rfl,hb⟩
 have HB7:Hid (Below w.1.size w w7):=hid (qb HB6.out hb);clear hb HB6;go_wp2_with fail;go_ret;exact⟨some ⟨w7.1.size,0,none⟩,7,rfl,(Blk.newL (qg w7 _ _) rfl).flat ⟨HB7.out.size,by simp⟩,qb HB7.out (qa _ _)⟩
theorem axc (w:World):Calls prog 290 #[] w (ac6 aim w):=by
 have H0:∀W,Hid (Calls prog 261 #[.int .i64 1,.int .i64 0] W fun e w'=>e=.returned (.agg #[.int .i64 1,.bool false,.int .i64 0,.int .i64 0])∧Below W.1.size W w'):=fun W=>hid (jy 1 0 W dc dc)
 have H1:∀W,Hid (Calls prog 261 #[.int .i64 1,.int .i64 7] W fun e w'=>e=.returned (.agg #[.int .i64 1,.bool false,.int .i64 0,.int .i64 7])∧Below W.1.size W w'):=fun W=>hid (jy 1 7 W dc dc)
 have H2:∀W,Hid (Calls prog 261 #[.int .i64 2,.int .i64 0] W fun e w'=>e=.returned (.agg #[.int .i64 2,.bool false,.int .i64 0,.int .i64 0])∧Below W.1.size W w'):=fun W=>hid (jy 2 0 W dc dc)
 go_enter func290,ntmps290;go_wp2_with fail;refine((H0 _).out).mono ?_;rintro e w1 ⟨rfl,hb⟩;have HB1:Hid (Below w.1.size w w1):=hid (hb);clear hb;go_wp2_with fail;refine((H1 _).out).mono ?_;rintro e w2 ⟨rfl,hb⟩;have HB2:Hid (Below w.1.size w w2):=hid (qb HB1.out hb);clear hb HB1;go_wp2_with fail;refine((H2 _).out).mono ?_;rintro e w3 ⟨rfl,hb⟩;have HB3:Hid (Below w.1.size w w3):=hid (qb HB2.out hb);clear hb HB2;go_wp2_with fail;go_ret;exact⟨some ⟨w3.1.size,0,none⟩,3,rfl,(Blk.newL (qg w3 _ _) rfl).flat ⟨HB3.out.size,by simp⟩,qb HB3.out (qa _ _)⟩
theorem arq (w:World):Calls prog 284 #[] w (ac6 ax0 w):=by
 have H0:∀W,Hid (Calls prog 122 #[.int .i64 1,.bool false] W fun e w'=>e=.returned (.agg #[.int .i64 1,.bool false,.int .i64 0,.int .i64 255])∧Below W.1.size W w'):=fun W=>hid (afp W)
 have H1:∀W,Hid (Calls prog 122 #[.int .i64 1,.bool false] W fun e w'=>e=.returned (.agg #[.int .i64 1,.bool false,.int .i64 0,.int .i64 255])∧Below W.1.size W w'):=fun W=>hid (afp W)
 go_enter func284,ntmps284;go_wp2_with fail;refine((H0 _).out).mono ?_;rintro e w1 ⟨rfl,hb⟩;have HB1:Hid (Below w.1.size w w1):=hid (hb);clear hb;go_wp2_with fail;refine((H1 _).out).mono ?_;rintro e w2 ⟨rfl,hb⟩;have HB2:Hid (Below w.1.size w w2):=hid (qb HB1.out hb);clear hb HB1;go_wp2_with fail;go_ret;exact⟨some ⟨w2.1.size,0,none⟩,2,rfl,(Blk.newL (qg w2 _ _) rfl).flat ⟨HB2.out.size,by simp⟩,qb HB2.out (qa _ _)⟩
theorem ayy:(prog.info? 270).map (fun i=>(i.zero,i.size,i.bytes))=some (some (.agg #[.int .i64 0,.bool false,.int .i64 0,.int .i64 0]),4,32):=by kernel_rfl
theorem as3 (l:List Fld):∀v∈aci l,v.oneCell'=true:=by
 intro v hv;obtain⟨p,-,h⟩:=List.mem_flatMap.1 hv;simp only[ayx,List.mem_cons,List.not_mem_nil,or_false]at h;rcases h with rfl|rfl|rfl|rfl<;>rfl
theorem as2 (l m:List Fld):aci (l++m)=aci l++aci m:=List.flatMap_append
theorem arv (w:World):Calls prog 278 #[] w (ac6 aln w):=by
 have H0:∀W,Hid (Calls prog 261 #[.int .i64 4,.int .i64 604799999] W fun e w'=>e=.returned (.agg #[.int .i64 4,.bool false,.int .i64 0,.int .i64 604799999])∧Below W.1.size W w'):=fun W=>hid (jy 4 604799999 W dc dc)
 have H1:∀W,Hid (Calls prog 122 #[.int .i64 2,.bool false] W fun e w'=>e=.returned (.agg #[.int .i64 2,.bool false,.int .i64 0,.int .i64 65535])∧Below W.1.size W w'):=fun W=>hid (al3 W)
 obtain⟨i0,hi,hz0,hz1,hz2⟩:=ko ayy;have HI:=hid (And.intro hi (And.intro hz0 (And.intro hz1 hz2)));clear hi hz0 hz1 hz2;go_enter func278,ntmps278;go_wp2_with fail;refine((H0 _).out).mono ?_;rintro e w1 ⟨rfl,hb⟩;have HB1:=hid hb;clear hb;go_wp2_with fail;have HO2:Hid (abj w 270 4 (.slice (some ⟨w1.1.size,0,none⟩) 1 1) 1 (aci (aln.take 1)) (w1.alloc (.cells #[.int .i64 4,.bool false,.int .i64 0,.int .i64 604799999] 270))):=hid ⟨World.ownsRow_lit w1 #[.int .i64 4,.bool false,.int .i64 0,.int .i64 604799999] 1 HB1.out.size dc rfl,qb HB1.out (qa _ _)⟩;clear HB1
 go_loopg [1,4] 7 (fun g s1 s4 wr=>∃k:Nat,k≤7∧7-k≤g∧s4=.int .i64 k∧Hid (abj w 270 4 s1 (k+1) (aci (aln.take (k+1))) wr))
 case atStart=>exact⟨0,by omega,by omega,rfl,HO2⟩
 case round=>
  rename_i s1;obtain⟨k,hk,hg,rfl,HO⟩:=hrel
  by_cases hlt:k<7
  ·have i1:(k:Int)<7:=by omega
   have i2:(0:Int) ≤(k:Int):=Int.natCast_nonneg _;obtain⟨A,c,hs1,-,-⟩:=HO.out.flat;subst hs1;go_wp2_with fail;refine((H1 _).out).mono ?_;rintro e w2 ⟨rfl,hb⟩;obtain⟨v',w3,hrun,ho⟩:=abj.app (P:=prog) (t:=203) (ty:=203) ((HO.out.on hb).on (qa w2 (.cells #[.int .i64 2,.bool false,.int .i64 0,.int .i64 65535] 270))) HI.out underlying203 rfl dc (R:=fun _=>True) (some ⟨w2.1.size,0,none⟩) 1 1 [.int .i64 2,.bool false,.int .i64 0,.int .i64 65535] rfl ((Blk.newL (qg w2 _ _) rfl).flat trivial) (as3 [⟨2,false,0,65535⟩]) (by unfold maxLen;omega) om;have HRUN:=hid hrun
   have HO3:Hid (abj w 270 4 v' (k+1+1) (aci (aln.take (k+1+1))) w3):=hid (by
    have e:aln.take (k+1+1)=aln.take (k+1)++[⟨2,false,0,65535⟩]:=by
     have:k=0∨k=1∨k=2∨k=3∨k=4∨k=5∨k=6:=by omega
     rcases this with rfl|rfl|rfl|rfl|rfl|rfl|rfl<;>rfl
    rw[e,as2];exact ho)
   clear hb hrun ho;go_wp2_with (at_builtin;refine zf rfl _ _ 203 rfl _ _ _ rfl rfl HRUN.out ?_)
   go_roundg (7-(k+1))
   case measure=>omega
   case rel=>exact⟨k+1,by omega,by omega,by go_num,HO3⟩
  ·obtain rfl:k=7:=by omega
   obtain⟨A,c,hs1,hcap,hfl⟩:=HO.out.flat;subst hs1;have HFL:=hid (And.intro hfl HO.out.2);clear hfl HO;go_wp2_with fail;go_ret;exact⟨A,c,rfl,HFL.out.1,HFL.out.2⟩
set_option maxRecDepth 20000 in
theorem avt (w:World):Calls prog 258 #[] w (ac6 ako w):=by
 have Hp0:∀W,Hid (Calls prog 122 #[.int .i64 1,.bool false] W fun e w'=>e=.returned (.agg #[.int .i64 1,.bool false,.int .i64 0,.int .i64 255])∧Below W.1.size W w'):=fun W=>hid (afp W)
 have Hp1:∀W,Hid (Calls prog 122 #[.int .i64 2,.bool false] W fun e w'=>e=.returned (.agg #[.int .i64 2,.bool false,.int .i64 0,.int .i64 65535])∧Below W.1.size W w'):=fun W=>hid (al3 W)
 have Hp2:∀W,Hid (Calls prog 122 #[.int .i64 4,.bool false] W fun e w'=>e=.returned (.agg #[.int .i64 4,.bool false,.int .i64 0,.int .i64 4294967295])∧Below W.1.size W w'):=fun W=>hid (al4 W)
 have Hp3:∀W,Hid (Calls prog 122 #[.int .i64 4,.bool true] W fun e w'=>e=.returned (.agg #[.int .i64 4,.bool true,.int .i64 (-2147483648),.int .i64 2147483647])∧Below W.1.size W w'):=fun W=>hid (att W)
 have Hp4:∀W,Hid (Calls prog 260 #[.int .i64 4,.int .i64 0,.int .i64 36000000] W fun e w'=>e=.returned (.agg #[.int .i64 4,.bool true,.int .i64 0,.int .i64 36000000])∧Below W.1.size W w'):=fun W=>hid (aee 4 0 36000000 W dc dc)
 have H0:∀W,Hid (Calls prog 261 #[.int .i64 4,.int .i64 604799999] W fun e w'=>e=.returned (.agg #[.int .i64 4,.bool false,.int .i64 0,.int .i64 604799999])∧Below W.1.size W w'):=fun W=>hid (jy 4 604799999 W dc dc)
 have H2:∀W,Hid (Calls prog 261 #[.int .i64 1,.int .i64 12] W fun e w'=>e=.returned (.agg #[.int .i64 1,.bool false,.int .i64 0,.int .i64 12])∧Below W.1.size W w'):=fun W=>hid (jy 1 12 W dc dc)
 have H3:∀W,Hid (Calls prog 261 #[.int .i64 1,.int .i64 31] W fun e w'=>e=.returned (.agg #[.int .i64 1,.bool false,.int .i64 0,.int .i64 31])∧Below W.1.size W w'):=fun W=>hid (jy 1 31 W dc dc)
 have H4:∀W,Hid (Calls prog 261 #[.int .i64 1,.int .i64 23] W fun e w'=>e=.returned (.agg #[.int .i64 1,.bool false,.int .i64 0,.int .i64 23])∧Below W.1.size W w'):=fun W=>hid (jy 1 23 W dc dc)
 have H5:∀W,Hid (Calls prog 261 #[.int .i64 1,.int .i64 59] W fun e w'=>e=.returned (.agg #[.int .i64 1,.bool false,.int .i64 0,.int .i64 59])∧Below W.1.size W w'):=fun W=>hid (jy 1 59 W dc dc)
 have H6:∀W,Hid (Calls prog 261 #[.int .i64 1,.int .i64 60] W fun e w'=>e=.returned (.agg #[.int .i64 1,.bool false,.int .i64 0,.int .i64 60])∧Below W.1.size W w'):=fun W=>hid (jy 1 60 W dc dc)
 have H7:∀W,Hid (Calls prog 261 #[.int .i64 1,.int .i64 15] W fun e w'=>e=.returned (.agg #[.int .i64 1,.bool false,.int .i64 0,.int .i64 15])∧Below W.1.size W w'):=fun W=>hid (jy 1 15 W dc dc)
 have H9:∀W,Hid (Calls prog 260 #[.int .i64 4,.int .i64 (-1000000000),.int .i64 1000000000] W fun e w'=>e=.returned (.agg #[.int .i64 4,.bool true,.int .i64 (-1000000000),.int .i64 1000000000])∧Below W.1.size W w'):=fun W=>hid (aee 4 (-1000000000) 1000000000 W dc dc)
 have H10:∀W,Hid (Calls prog 261 #[.int .i64 1,.int .i64 5] W fun e w'=>e=.returned (.agg #[.int .i64 1,.bool false,.int .i64 0,.int .i64 5])∧Below W.1.size W w'):=fun W=>hid (jy 1 5 W dc dc)
 have H14:∀W,Hid (Calls prog 260 #[.int .i64 4,.int .i64 (-1800000000),.int .i64 1800000000] W fun e w'=>e=.returned (.agg #[.int .i64 4,.bool true,.int .i64 (-1800000000),.int .i64 1800000000])∧Below W.1.size W w'):=fun W=>hid (aee 4 (-1800000000) 1800000000 W dc dc)
 have H15:∀W,Hid (Calls prog 260 #[.int .i64 4,.int .i64 (-900000000),.int .i64 900000000] W fun e w'=>e=.returned (.agg #[.int .i64 4,.bool true,.int .i64 (-900000000),.int .i64 900000000])∧Below W.1.size W w'):=fun W=>hid (aee 4 (-900000000) 900000000 W dc dc)
 have H28:∀W,Hid (Calls prog 261 #[.int .i64 2,.int .i64 31] W fun e w'=>e=.returned (.agg #[.int .i64 2,.bool false,.int .i64 0,.int .i64 31])∧Below W.1.size W w'):=fun W=>hid (jy 2 31 W dc dc)
 have H29:∀W,Hid (Calls prog 261 #[.int .i64 4,.int .i64 0] W fun e w'=>e=.returned (.agg #[.int .i64 4,.bool false,.int .i64 0,.int .i64 0])∧Below W.1.size W w'):=fun W=>hid (jy 4 0 W dc dc)
 have H31:∀W,Hid (Calls prog 260 #[.int .i64 2,.int .i64 (-18000),.int .i64 18000] W fun e w'=>e=.returned (.agg #[.int .i64 2,.bool true,.int .i64 (-18000),.int .i64 18000])∧Below W.1.size W w'):=fun W=>hid (aee 2 (-18000) 18000 W dc dc)
 go_enter func258,ntmps258;go_wp2_with fail;refine((Hp0 _).out).mono ?_;rintro e w1 ⟨rfl,hb⟩;have HB1:Hid (Below w.1.size w w1):=hid (hb);clear hb;go_wp2_with fail;refine((Hp1 _).out).mono ?_;rintro e w2 ⟨rfl,hb⟩;have HB2:Hid (Below w.1.size w w2):=hid (qb HB1.out hb);clear hb HB1;go_wp2_with fail;refine((Hp2 _).out).mono ?_;rintro e w3 ⟨rfl,hb⟩;have HB3:Hid (Below w.1.size w w3):=hid (qb HB2.out hb);clear hb HB2;have h31:(w3.alloc (.cells #[.int .i64 1,.bool false,.int .i64 0,.int .i64 255] 270)).1.size=w3.1.size+1:=by simp
 have h32:((w3.alloc (.cells #[.int .i64 1,.bool false,.int .i64 0,.int .i64 255] 270)).alloc (.cells #[.int .i64 2,.bool false,.int .i64 0,.int .i64 65535] 270)).1.size=w3.1.size+2:=by simp
 have HX1:Hid (Blk (((w3.alloc (.cells #[.int .i64 1,.bool false,.int .i64 0,.int .i64 255] 270)).alloc (.cells #[.int .i64 2,.bool false,.int .i64 0,.int .i64 65535] 270)).alloc (.cells #[.int .i64 4,.bool false,.int .i64 0,.int .i64 4294967295] 270)) w3.1.size [.int .i64 1,.bool false,.int .i64 0,.int .i64 255]):=hid (((Blk.newL (qg w3 _ _) rfl).on (qa _ _)).on (qa _ _))
 have HX2:Hid (Blk (((w3.alloc (.cells #[.int .i64 1,.bool false,.int .i64 0,.int .i64 255] 270)).alloc (.cells #[.int .i64 2,.bool false,.int .i64 0,.int .i64 65535] 270)).alloc (.cells #[.int .i64 4,.bool false,.int .i64 0,.int .i64 4294967295] 270)) (w3.1.size+1) [.int .i64 2,.bool false,.int .i64 0,.int .i64 65535]):=hid (by
  have:=(Blk.newL (L:=[.int .i64 2,.bool false,.int .i64 0,.int .i64 65535]) (qg (w3.alloc (.cells #[.int .i64 1,.bool false,.int .i64 0,.int .i64 255] 270)) #[.int .i64 2,.bool false,.int .i64 0,.int .i64 65535] 270) rfl).on (qa _ (.cells #[.int .i64 4,.bool false,.int .i64 0,.int .i64 4294967295] 270))
  rwa [h31]at this)
 have HX3:Hid (Blk (((w3.alloc (.cells #[.int .i64 1,.bool false,.int .i64 0,.int .i64 255] 270)).alloc (.cells #[.int .i64 2,.bool false,.int .i64 0,.int .i64 65535] 270)).alloc (.cells #[.int .i64 4,.bool false,.int .i64 0,.int .i64 4294967295] 270)) (w3.1.size+2) [.int .i64 4,.bool false,.int .i64 0,.int .i64 4294967295]):=hid (by
  have:=Blk.newL (L:=[.int .i64 4,.bool false,.int .i64 0,.int .i64 4294967295]) (qg ((w3.alloc (.cells #[.int .i64 1,.bool false,.int .i64 0,.int .i64 255] 270)).alloc (.cells #[.int .i64 2,.bool false,.int .i64 0,.int .i64 65535] 270)) #[.int .i64 4,.bool false,.int .i64 0,.int .i64 4294967295] 270) rfl
  rwa [h32]at this)
 have HB4:Hid (Below w.1.size w (((w3.alloc (.cells #[.int .i64 1,.bool false,.int .i64 0,.int .i64 255] 270)).alloc (.cells #[.int .i64 2,.bool false,.int .i64 0,.int .i64 65535] 270)).alloc (.cells #[.int .i64 4,.bool false,.int .i64 0,.int .i64 4294967295] 270))):=hid (qb (qb (qb HB3.out (qa _ _)) (qa _ _)) (qa _ _));clear h31 h32 HB3;go_wp2_with fail;refine((Hp3 _).out).mono ?_;rintro e w4 ⟨rfl,hb⟩;have HY1:=hid ((HX1.out.on hb).on (qa w4 (.cells #[.int .i64 4,.bool true,.int .i64 (-2147483648),.int .i64 2147483647] 270)));have HY2:=hid ((HX2.out.on hb).on (qa w4 (.cells #[.int .i64 4,.bool true,.int .i64 (-2147483648),.int .i64 2147483647] 270)));have HY3:=hid ((HX3.out.on hb).on (qa w4 (.cells #[.int .i64 4,.bool true,.int .i64 (-2147483648),.int .i64 2147483647] 270)));have HY4:Hid (Blk (w4.alloc (.cells #[.int .i64 4,.bool true,.int .i64 (-2147483648),.int .i64 2147483647] 270)) w4.1.size [.int .i64 4,.bool true,.int .i64 (-2147483648),.int .i64 2147483647]):=hid (Blk.newL (qg w4 _ _) rfl)
 have HB5:=hid (qb (qb HB4.out hb) (qa w4 (.cells #[.int .i64 4,.bool true,.int .i64 (-2147483648),.int .i64 2147483647] 270)));clear hb HX1 HX2 HX3 HB4;go_wp2_with fail;refine((Hp4 _).out).mono ?_;rintro e w5 ⟨rfl,hb⟩;have HZ1:=hid ((HY1.out.on hb).on (qa w5 (.cells #[.int .i64 4,.bool true,.int .i64 0,.int .i64 36000000] 270)));have HZ2:=hid ((HY2.out.on hb).on (qa w5 (.cells #[.int .i64 4,.bool true,.int .i64 0,.int .i64 36000000] 270)));have HZ3:=hid ((HY3.out.on hb).on (qa w5 (.cells #[.int .i64 4,.bool true,.int .i64 0,.int .i64 36000000] 270)));have HZ4:=hid ((HY4.out.on hb).on (qa w5 (.cells #[.int .i64 4,.bool true,.int .i64 0,.int .i64 36000000] 270)));have HZ5:Hid (Blk (w5.alloc (.cells #[.int .i64 4,.bool true,.int .i64 0,.int .i64 36000000] 270)) w5.1.size [.int .i64 4,.bool true,.int .i64 0,.int .i64 36000000]):=hid (Blk.newL (qg w5 _ _) rfl);have HB6:=hid (qb (qb HB5.out hb) (qa w5 (.cells #[.int .i64 4,.bool true,.int .i64 0,.int .i64 36000000] 270)))
 clear hb HY1 HY2 HY3 HY4 HB5;go_upto_region 4 with fail;generalize w5.alloc (.cells #[.int .i64 4,.bool true,.int .i64 0,.int .i64 36000000] 270)=W at *
 try (apply wp_seq_k;intro K_ HK_)
 have hS0:Below W.1.size W W.drew:=(Below.refl _ _).drew;refine wp_region_held_drew (S:=fun w'=>Below W.1.size W w') kr hS0 (fun hHeld0=>?_);have HS:Hid (Below W.1.size W W.drew):=hid hS0;refine tkQ (i:=1) (oi:=⟨some 12,_,_,_,_,_⟩) (v:=_) rfl (yieldsIf_load_mid (by rfl) 270 _ rfl (w3.1.size+1) 0 rfl [.int .i64 2,.bool false,.int .i64 0,.int .i64 65535] _ (fun w' hSw=>(HZ2.out.on hSw).rg) underlying270 rfl kr) ?_
 try go_frame
 refine tkQ (i:=8) (oi:=⟨some 19,_,_,_,_,_⟩) (v:=_) rfl (yieldsIf_load_mid (by rfl) 270 _ rfl (w3.1.size+2) 0 rfl [.int .i64 4,.bool false,.int .i64 0,.int .i64 4294967295] _ (fun w' hSw=>(HZ3.out.on hSw).rg) underlying270 rfl kr) ?_
 try go_frame
 refine tkQ (i:=11) (oi:=⟨some 22,_,_,_,_,_⟩) (v:=_) rfl (yieldsIf_load_mid (by rfl) 270 _ rfl w3.1.size 0 rfl [.int .i64 1,.bool false,.int .i64 0,.int .i64 255] _ (fun w' hSw=>(HZ1.out.on hSw).rg) underlying270 rfl kr) ?_
 try go_frame
 refine tkQ (i:=12) (oi:=⟨some 23,_,_,_,_,_⟩) (v:=_) rfl (yieldsIf_load_mid (by rfl) 270 _ rfl w3.1.size 0 rfl [.int .i64 1,.bool false,.int .i64 0,.int .i64 255] _ (fun w' hSw=>(HZ1.out.on hSw).rg) underlying270 rfl kr) ?_
 try go_frame
 refine tkQ (i:=13) (oi:=⟨some 24,_,_,_,_,_⟩) (v:=_) rfl (yieldsIf_load_mid (by rfl) 270 _ rfl w3.1.size 0 rfl [.int .i64 1,.bool false,.int .i64 0,.int .i64 255] _ (fun w' hSw=>(HZ1.out.on hSw).rg) underlying270 rfl kr) ?_
 try go_frame
 refine tkQ (i:=16) (oi:=⟨some 27,_,_,_,_,_⟩) (v:=_) rfl (yieldsIf_load_mid (by rfl) 270 _ rfl w4.1.size 0 rfl [.int .i64 4,.bool true,.int .i64 (-2147483648),.int .i64 2147483647] _ (fun w' hSw=>(HZ4.out.on hSw).rg) underlying270 rfl kr) ?_
 try go_frame
 refine tkQ (i:=17) (oi:=⟨some 28,_,_,_,_,_⟩) (v:=_) rfl (yieldsIf_load_mid (by rfl) 270 _ rfl w4.1.size 0 rfl [.int .i64 4,.bool true,.int .i64 (-2147483648),.int .i64 2147483647] _ (fun w' hSw=>(HZ4.out.on hSw).rg) underlying270 rfl kr) ?_
 try go_frame
 refine tkQ (i:=18) (oi:=⟨some 29,_,_,_,_,_⟩) (v:=_) rfl (yieldsIf_load_mid (by rfl) 270 _ rfl (w3.1.size+2) 0 rfl [.int .i64 4,.bool false,.int .i64 0,.int .i64 4294967295] _ (fun w' hSw=>(HZ3.out.on hSw).rg) underlying270 rfl kr) ?_
 try go_frame
 refine tkQ (i:=19) (oi:=⟨some 30,_,_,_,_,_⟩) (v:=_) rfl (yieldsIf_load_mid (by rfl) 270 _ rfl (w3.1.size+2) 0 rfl [.int .i64 4,.bool false,.int .i64 0,.int .i64 4294967295] _ (fun w' hSw=>(HZ3.out.on hSw).rg) underlying270 rfl kr) ?_
 try go_frame
 refine tkQ (i:=20) (oi:=⟨some 31,_,_,_,_,_⟩) (v:=_) rfl (yieldsIf_load_mid (by rfl) 270 _ rfl w4.1.size 0 rfl [.int .i64 4,.bool true,.int .i64 (-2147483648),.int .i64 2147483647] _ (fun w' hSw=>(HZ4.out.on hSw).rg) underlying270 rfl kr) ?_
 try go_frame
 refine tkQ (i:=21) (oi:=⟨some 32,_,_,_,_,_⟩) (v:=_) rfl (yieldsIf_load_mid (by rfl) 270 _ rfl w4.1.size 0 rfl [.int .i64 4,.bool true,.int .i64 (-2147483648),.int .i64 2147483647] _ (fun w' hSw=>(HZ4.out.on hSw).rg) underlying270 rfl kr) ?_
 try go_frame
 refine tkQ (i:=22) (oi:=⟨some 33,_,_,_,_,_⟩) (v:=_) rfl (yieldsIf_load_mid (by rfl) 270 _ rfl w4.1.size 0 rfl [.int .i64 4,.bool true,.int .i64 (-2147483648),.int .i64 2147483647] _ (fun w' hSw=>(HZ4.out.on hSw).rg) underlying270 rfl kr) ?_
 try go_frame
 refine tkQ (i:=23) (oi:=⟨some 34,_,_,_,_,_⟩) (v:=_) rfl (yieldsIf_load_mid (by rfl) 270 _ rfl w4.1.size 0 rfl [.int .i64 4,.bool true,.int .i64 (-2147483648),.int .i64 2147483647] _ (fun w' hSw=>(HZ4.out.on hSw).rg) underlying270 rfl kr) ?_
 try go_frame
 refine tkQ (i:=24) (oi:=⟨some 35,_,_,_,_,_⟩) (v:=_) rfl (yieldsIf_load_mid (by rfl) 270 _ rfl w5.1.size 0 rfl [.int .i64 4,.bool true,.int .i64 0,.int .i64 36000000] _ (fun w' hSw=>(HZ5.out.on hSw).rg) underlying270 rfl kr) ?_
 try go_frame
 refine tkQ (i:=25) (oi:=⟨some 36,_,_,_,_,_⟩) (v:=_) rfl (yieldsIf_load_mid (by rfl) 270 _ rfl (w3.1.size+2) 0 rfl [.int .i64 4,.bool false,.int .i64 0,.int .i64 4294967295] _ (fun w' hSw=>(HZ3.out.on hSw).rg) underlying270 rfl kr) ?_
 try go_frame
 refine tkQ (i:=26) (oi:=⟨some 37,_,_,_,_,_⟩) (v:=_) rfl (yieldsIf_load_mid (by rfl) 270 _ rfl (w3.1.size+2) 0 rfl [.int .i64 4,.bool false,.int .i64 0,.int .i64 4294967295] _ (fun w' hSw=>(HZ3.out.on hSw).rg) underlying270 rfl kr) ?_
 try go_frame
 refine tkQ (i:=27) (oi:=⟨some 38,_,_,_,_,_⟩) (v:=_) rfl (yieldsIf_load_mid (by rfl) 270 _ rfl (w3.1.size+1) 0 rfl [.int .i64 2,.bool false,.int .i64 0,.int .i64 65535] _ (fun w' hSw=>(HZ2.out.on hSw).rg) underlying270 rfl kr) ?_
 try go_frame
 refine tkQ (i:=30) (oi:=⟨some 41,_,_,_,_,_⟩) (v:=_) rfl (yieldsIf_load_mid (by rfl) 270 _ rfl w5.1.size 0 rfl [.int .i64 4,.bool true,.int .i64 0,.int .i64 36000000] _ (fun w' hSw=>(HZ5.out.on hSw).rg) underlying270 rfl kr) ?_
 try go_frame
 refine tkQ (i:=32) (oi:=⟨some 43,_,_,_,_,_⟩) (v:=_) rfl (yieldsIf_load_mid (by rfl) 270 _ rfl (w3.1.size+1) 0 rfl [.int .i64 2,.bool false,.int .i64 0,.int .i64 65535] _ (fun w' hSw=>(HZ2.out.on hSw).rg) underlying270 rfl kr) ?_
 try go_frame
 refine rdB 0 11 rfl fun K hK=>?_
 go_step;refine(H0 _).out.mono ?_;rintro e Q0 ⟨rfl,hb⟩;replace HS:=hid (HS.out.trans (hb.mono HS.out.size));clear hb
 try go_frame
 refine hK.out _ _ (HS.out) (fun hHeld=>?_);clear hK K
 try go_frame
 refine rdB 2 13 rfl fun K hK=>?_
 go_step;refine(H2 _).out.mono ?_;rintro e Q2 ⟨rfl,hb⟩;replace HS:=hid (HS.out.trans (hb.mono HS.out.size));clear hb
 try go_frame
 refine hK.out _ _ (HS.out) (fun hHeld=>?_);clear hK K
 try go_frame
 refine rdB 3 14 rfl fun K hK=>?_
 go_step;refine(H3 _).out.mono ?_;rintro e Q3 ⟨rfl,hb⟩;replace HS:=hid (HS.out.trans (hb.mono HS.out.size));clear hb
 try go_frame
 refine hK.out _ _ (HS.out) (fun hHeld=>?_);clear hK K
 try go_frame
 refine rdB 4 15 rfl fun K hK=>?_
 go_step;refine(H4 _).out.mono ?_;rintro e Q4 ⟨rfl,hb⟩;replace HS:=hid (HS.out.trans (hb.mono HS.out.size));clear hb
 try go_frame
 refine hK.out _ _ (HS.out) (fun hHeld=>?_);clear hK K
 try go_frame
 refine rdB 5 16 rfl fun K hK=>?_
 go_step;refine(H5 _).out.mono ?_;rintro e Q5 ⟨rfl,hb⟩;replace HS:=hid (HS.out.trans (hb.mono HS.out.size));clear hb
 try go_frame
 refine hK.out _ _ (HS.out) (fun hHeld=>?_);clear hK K
 try go_frame
 refine rdB 6 17 rfl fun K hK=>?_
 go_step;refine(H6 _).out.mono ?_;rintro e Q6 ⟨rfl,hb⟩;replace HS:=hid (HS.out.trans (hb.mono HS.out.size));clear hb
 try go_frame
 refine hK.out _ _ (HS.out) (fun hHeld=>?_);clear hK K
 try go_frame
 refine rdB 7 18 rfl fun K hK=>?_
 go_step;refine(H7 _).out.mono ?_;rintro e Q7 ⟨rfl,hb⟩;replace HS:=hid (HS.out.trans (hb.mono HS.out.size));clear hb
 try go_frame
 refine hK.out _ _ (HS.out) (fun hHeld=>?_);clear hK K
 try go_frame
 refine rdB 9 20 rfl fun K hK=>?_
 go_step;refine(H9 _).out.mono ?_;rintro e Q9 ⟨rfl,hb⟩;replace HS:=hid (HS.out.trans (hb.mono HS.out.size));clear hb
 try go_frame
 refine hK.out _ _ (HS.out) (fun hHeld=>?_);clear hK K
 try go_frame
 refine rdB 10 21 rfl fun K hK=>?_
 go_step;refine(H10 _).out.mono ?_;rintro e Q10 ⟨rfl,hb⟩;replace HS:=hid (HS.out.trans (hb.mono HS.out.size));clear hb
 try go_frame
 refine hK.out _ _ (HS.out) (fun hHeld=>?_);clear hK K
 try go_frame
 refine rdB 14 25 rfl fun K hK=>?_
 go_step;refine(H14 _).out.mono ?_;rintro e Q14 ⟨rfl,hb⟩;replace HS:=hid (HS.out.trans (hb.mono HS.out.size));clear hb
 try go_frame
 refine hK.out _ _ (HS.out) (fun hHeld=>?_);clear hK K
 try go_frame
 refine rdB 15 26 rfl fun K hK=>?_
 go_step;refine(H15 _).out.mono ?_;rintro e Q15 ⟨rfl,hb⟩;replace HS:=hid (HS.out.trans (hb.mono HS.out.size));clear hb
 try go_frame
 refine hK.out _ _ (HS.out) (fun hHeld=>?_);clear hK K
 try go_frame
 refine rdB 28 39 rfl fun K hK=>?_
 go_step;refine(H28 _).out.mono ?_;rintro e Q28 ⟨rfl,hb⟩;replace HS:=hid (HS.out.trans (hb.mono HS.out.size));clear hb
 try go_frame
 refine hK.out _ _ (HS.out) (fun hHeld=>?_);clear hK K
 try go_frame
 refine rdB 29 40 rfl fun K hK=>?_
 go_step;refine(H29 _).out.mono ?_;rintro e Q29 ⟨rfl,hb⟩;replace HS:=hid (HS.out.trans (hb.mono HS.out.size));clear hb
 try go_frame
 refine hK.out _ _ (HS.out) (fun hHeld=>?_);clear hK K
 try go_frame
 refine rdB 31 42 rfl fun K hK=>?_
 go_step;refine(H31 _).out.mono ?_;rintro e Q31 ⟨rfl,hb⟩;replace HS:=hid (HS.out.trans (hb.mono HS.out.size));clear hb
 try go_frame
 refine hK.out _ _ (HS.out) (fun hHeld=>?_);clear hK K
 try go_frame
 refine rdB 33 44 rfl fun K hK=>?_
 go_step
 try go_frame
 have HSL:=hid HS.out.size;have HN:Hid (Blk (Q31.alloc (.cells #[.int .i64 4,.bool false,.int .i64 0,.int .i64 604799999,.int .i64 2,.bool false,.int .i64 0,.int .i64 65535,.int .i64 1,.bool false,.int .i64 0,.int .i64 12,.int .i64 1,.bool false,.int .i64 0,.int .i64 31,.int .i64 1,.bool false,.int .i64 0,.int .i64 23,.int .i64 1,.bool false,.int .i64 0,.int .i64 59,.int .i64 1,.bool false,.int .i64 0,.int .i64 60,.int .i64 1,.bool false,.int .i64 0,.int .i64 15,.int .i64 4,.bool false,.int .i64 0,.int .i64 4294967295,.int .i64 4,.bool true,.int .i64 (-1000000000),.int .i64 1000000000,.int .i64 1,.bool false,.int .i64 0,.int .i64 5,.int .i64 1,.bool false,.int .i64 0,.int .i64 255,.int .i64 1,.bool false,.int .i64 0,.int .i64 255,.int .i64 1,.bool false,.int .i64 0,.int .i64 255,.int .i64 4,.bool true,.int .i64 (-1800000000),.int .i64 1800000000,.int .i64 4,.bool true,.int .i64 (-900000000),.int .i64 900000000,.int .i64 4,.bool true,.int .i64 (-2147483648),.int .i64 2147483647,.int .i64 4,.bool true,.int .i64 (-2147483648),.int .i64 2147483647,.int .i64 4,.bool false,.int .i64 0,.int .i64 4294967295,.int .i64 4,.bool false,.int .i64 0,.int .i64 4294967295,.int .i64 4,.bool true,.int .i64 (-2147483648),.int .i64 2147483647,.int .i64 4,.bool true,.int .i64 (-2147483648),.int .i64 2147483647,.int .i64 4,.bool true,.int .i64 (-2147483648),.int .i64 2147483647,.int .i64 4,.bool true,.int .i64 (-2147483648),.int .i64 2147483647,.int .i64 4,.bool true,.int .i64 0,.int .i64 36000000,.int .i64 4,.bool false,.int .i64 0,.int .i64 4294967295,.int .i64 4,.bool false,.int .i64 0,.int .i64 4294967295,.int .i64 2,.bool false,.int .i64 0,.int .i64 65535,.int .i64 2,.bool false,.int .i64 0,.int .i64 31,.int .i64 4,.bool false,.int .i64 0,.int .i64 0,.int .i64 4,.bool true,.int .i64 0,.int .i64 36000000,.int .i64 2,.bool true,.int .i64 (-18000),.int .i64 18000,.int .i64 2,.bool false,.int .i64 0,.int .i64 65535] 270)) Q31.1.size (aci ako)):=hid (Blk.newL (qg Q31 _ _) rfl)
 replace HS:=hid (HS.out.trans ((qa Q31 (.cells #[.int .i64 4,.bool false,.int .i64 0,.int .i64 604799999,.int .i64 2,.bool false,.int .i64 0,.int .i64 65535,.int .i64 1,.bool false,.int .i64 0,.int .i64 12,.int .i64 1,.bool false,.int .i64 0,.int .i64 31,.int .i64 1,.bool false,.int .i64 0,.int .i64 23,.int .i64 1,.bool false,.int .i64 0,.int .i64 59,.int .i64 1,.bool false,.int .i64 0,.int .i64 60,.int .i64 1,.bool false,.int .i64 0,.int .i64 15,.int .i64 4,.bool false,.int .i64 0,.int .i64 4294967295,.int .i64 4,.bool true,.int .i64 (-1000000000),.int .i64 1000000000,.int .i64 1,.bool false,.int .i64 0,.int .i64 5,.int .i64 1,.bool false,.int .i64 0,.int .i64 255,.int .i64 1,.bool false,.int .i64 0,.int .i64 255,.int .i64 1,.bool false,.int .i64 0,.int .i64 255,.int .i64 4,.bool true,.int .i64 (-1800000000),.int .i64 1800000000,.int .i64 4,.bool true,.int .i64 (-900000000),.int .i64 900000000,.int .i64 4,.bool true,.int .i64 (-2147483648),.int .i64 2147483647,.int .i64 4,.bool true,.int .i64 (-2147483648),.int .i64 2147483647,.int .i64 4,.bool false,.int .i64 0,.int .i64 4294967295,.int .i64 4,.bool false,.int .i64 0,.int .i64 4294967295,.int .i64 4,.bool true,.int .i64 (-2147483648),.int .i64 2147483647,.int .i64 4,.bool true,.int .i64 (-2147483648),.int .i64 2147483647,.int .i64 4,.bool true,.int .i64 (-2147483648),.int .i64 2147483647,.int .i64 4,.bool true,.int .i64 (-2147483648),.int .i64 2147483647,.int .i64 4,.bool true,.int .i64 0,.int .i64 36000000,.int .i64 4,.bool false,.int .i64 0,.int .i64 4294967295,.int .i64 4,.bool false,.int .i64 0,.int .i64 4294967295,.int .i64 2,.bool false,.int .i64 0,.int .i64 65535,.int .i64 2,.bool false,.int .i64 0,.int .i64 31,.int .i64 4,.bool false,.int .i64 0,.int .i64 0,.int .i64 4,.bool true,.int .i64 0,.int .i64 36000000,.int .i64 2,.bool true,.int .i64 (-18000),.int .i64 18000,.int .i64 2,.bool false,.int .i64 0,.int .i64 65535] 270)).mono HS.out.size));refine hK.out _ _ HS.out (fun hHeld=>?_)
 clear hK K
 try go_frame
 refine tkA 34 0 rfl ?_
 try go_frame
 refine wpAnyH_done kr ?_ _
 try go_frame
 have HE:=hid (And.intro HN.out (And.intro (qb HB6.out HS.out) (Nat.le_trans HB6.out.size (HSL.out))));clear hHeld hHeld0 hS0 HN HS HSL HB6;generalize Q31.alloc (.cells #[.int .i64 4,.bool false,.int .i64 0,.int .i64 604799999,.int .i64 2,.bool false,.int .i64 0,.int .i64 65535,.int .i64 1,.bool false,.int .i64 0,.int .i64 12,.int .i64 1,.bool false,.int .i64 0,.int .i64 31,.int .i64 1,.bool false,.int .i64 0,.int .i64 23,.int .i64 1,.bool false,.int .i64 0,.int .i64 59,.int .i64 1,.bool false,.int .i64 0,.int .i64 60,.int .i64 1,.bool false,.int .i64 0,.int .i64 15,.int .i64 4,.bool false,.int .i64 0,.int .i64 4294967295,.int .i64 4,.bool true,.int .i64 (-1000000000),.int .i64 1000000000,.int .i64 1,.bool false,.int .i64 0,.int .i64 5,.int .i64 1,.bool false,.int .i64 0,.int .i64 255,.int .i64 1,.bool false,.int .i64 0,.int .i64 255,.int .i64 1,.bool false,.int .i64 0,.int .i64 255,.int .i64 4,.bool true,.int .i64 (-1800000000),.int .i64 1800000000,.int .i64 4,.bool true,.int .i64 (-900000000),.int .i64 900000000,.int .i64 4,.bool true,.int .i64 (-2147483648),.int .i64 2147483647,.int .i64 4,.bool true,.int .i64 (-2147483648),.int .i64 2147483647,.int .i64 4,.bool false,.int .i64 0,.int .i64 4294967295,.int .i64 4,.bool false,.int .i64 0,.int .i64 4294967295,.int .i64 4,.bool true,.int .i64 (-2147483648),.int .i64 2147483647,.int .i64 4,.bool true,.int .i64 (-2147483648),.int .i64 2147483647,.int .i64 4,.bool true,.int .i64 (-2147483648),.int .i64 2147483647,.int .i64 4,.bool true,.int .i64 (-2147483648),.int .i64 2147483647,.int .i64 4,.bool true,.int .i64 0,.int .i64 36000000,.int .i64 4,.bool false,.int .i64 0,.int .i64 4294967295,.int .i64 4,.bool false,.int .i64 0,.int .i64 4294967295,.int .i64 2,.bool false,.int .i64 0,.int .i64 65535,.int .i64 2,.bool false,.int .i64 0,.int .i64 31,.int .i64 4,.bool false,.int .i64 0,.int .i64 0,.int .i64 4,.bool true,.int .i64 0,.int .i64 36000000,.int .i64 2,.bool true,.int .i64 (-18000),.int .i64 18000,.int .i64 2,.bool false,.int .i64 0,.int .i64 65535] 270)=WE at *
 go_wp2_with fail;go_ret;exact⟨some ⟨Q31.1.size,0,none⟩,33,rfl,HE.out.1.flat ⟨HE.out.2.2,HE.out.1.lt⟩,HE.out.2.1⟩
theorem zh {fn:Func} {p u:Tmp} {ty:TypeId} (h:fn.results=#[.cell p ty,.tmp u]) (tmps:Array Value) (P:Program) (w:World) :
 (results fn tmps).run P w =
  ((asAddr (tmps.getD p undef)).run P w).andThen fun a w₁=>((loadVar ty a).run P w₁).andThen fun v' w₂=>.ok (.tuple #[v',tmps.getD u undef]) w₂:=by
 simp only[results,h];simp[Sem.run_bind,Result.andThen]
theorem ah5 {Q0:Nat→Prop} {w:World} {fs:List Fld} {b:List UInt8} {X:Option Addr} {d:Nat} (hr:fs.all ys=true) (hn:fs.length≤1000) (hB:qf Q0 w X (bsV b)) (hm:b.length≤1000000) :
 ∀A c W1 W2,Below w.1.size w W1→qf (fun b=>W1.1.size≤b∧b<W2.1.size) W2 A (aci fs)→Below W1.1.size W1 W2→Hid (Calls prog 91 #[.slice A fs.length c,.slice X b.length d] W2 (kz (xk fs b) W2)):=fun A c W1 W2 h1 hA h2=>
 hid (am3 A X c d fs b (hA.less fun b q=>q.2) hr hn (hB.lt.below (qb h1 h2) (fun b q=>q.2)) hm)
theorem abo {fs:List Fld} {b:List UInt8} (h:(xk fs b).1=0):(xk fs b).2.length=fs.length:=by
 unfold xk at *
 split at h
 ·simp at h
 ·rename_i h1
  split at h
  ·simp at h
  ·rename_i h2;rw[if_neg h1,if_neg h2];cases ht:aal fs b with
   | none=>rw[ht]at h;simp at h
   | some v=>exact al8 fs b ht
theorem ak0:∀(l:List Fld) (b:List UInt8) {v:List Int},aal l b=some v→∀k (hk:k<l.length),∃x,v[k]?=some x∧l[k].lo≤x∧x≤l[k].hi
 | [],_,v,_,k,hk=>absurd hk (Nat.not_lt_zero _)
 | f::l,b,v,h,k,hk=>by
  unfold aal at h
  split at h
  ·rename_i hx;obtain⟨v',h',rfl⟩:=Option.map_eq_some_iff.1 h;cases k with
   | zero=>exact⟨_,rfl,hx⟩
   | succ k=>exact ak0 l _ h' k (by simpa using hk)
  ·cases h
theorem akv {fs:List Fld} {b:List UInt8} (h:(xk fs b).1=0):aal fs b=some (xk fs b).2:=by
 unfold xk at *
 split at h
 ·simp at h
 ·rename_i h1
  split at h
  ·simp at h
  ·rename_i h2;rw[if_neg h1,if_neg h2];cases ht:aal fs b with
   | none=>rw[ht]at h;simp at h
   | some v=>rfl
theorem afi {w:World} {Q:Nat→Prop} {A:Option Addr} {v:List Int} (h:qf Q w A (qp v)) (hl:0<v.length):∃b off,A=some ⟨b,off,none⟩∧Q b∧b<w.1.size∧∀k (hk:k<v.length),w.cell? ⟨b,off+k,none⟩=some (.int .i64 v[k]):=by
 have e:∀k (hk:k<v.length),(qp v)[k]?=some (.int .i64 v[k]):=fun k hk=>by unfold qp;rw[List.getElem?_map,List.getElem?_eq_getElem hk];rfl
 obtain⟨b,off,hA,hb,h0⟩:=h 0 _ (e 0 hl);refine⟨b,off,hA,hb,abz h0,fun k hk=>?_⟩;obtain⟨b',off',hA',-,h1⟩:=h k _ (e k hk);rw[hA]at hA';injection hA' with hA';injection hA' with q1 q2;subst q1 q2
 exact h1
def ag4 (b:List UInt8):Int×List Int:=if(xk aln b).1=0 then xk aln b else((xk aln b).1,List.replicate 8 0)
theorem blk (w:World):(zeroValue 31).run prog w=.ok (.agg #[.int .i64 0,.int .i64 0,.int .i64 0,.int .i64 0,.int .i64 0,.int .i64 0,.int .i64 0,.int .i64 0]) w:=by kernel_rfl
theorem bjv (w:World):(Instr.build 31 #[]).run prog w=.ok (.agg #[.int .i64 0,.int .i64 0,.int .i64 0,.int .i64 0,.int .i64 0,.int .i64 0,.int .i64 0,.int .i64 0]) w:=by kernel_rfl
theorem ayq {Q0:Nat→Prop} {w:World} (X:Option Addr) (d:Nat) (b:List UInt8) (hB:qf Q0 w X (bsV b)) (hm:b.length≤1000000) :
 Calls prog 277 #[.slice X b.length d] w fun e w'=>e=.returned (.tuple #[.agg (qp (ag4 b).2).toArray,.int .i64 (ag4 b).1])∧Below w.1.size w w':=by
 have HF:=fun W=>hid (arv W)
 have HS:=ah5 (d:=d) apj dc hB hm;have HZ:=fun W=>hid (blk W)
 have HB0:=fun W=>hid (bjv W)
 have HLN:=hid (fun h=>(abo (fs:=aln) (b:=b) h));unfold ag4;obtain⟨⟨E,v⟩,hr⟩:∃r,xk aln b=r:=⟨_,rfl⟩;rw[hr]at HS HLN ⊢;dsimp only at *;generalize hL:b.length=L at *;unfold ac6 at HF;rw[show aln.length=8 from rfl]at *;clear hB hr hL
 by_cases hE:E=0
 ·subst hE;have hl:=HLN.out rfl
  obtain⟨x0,x1,x2,x3,x4,x5,x6,x7,rfl⟩:∃x0 x1 x2 x3 x4 x5 x6 x7,v=[x0,x1,x2,x3,x4,x5,x6,x7]:=by
   rcases v with _|⟨a0,_|⟨a1,_|⟨a2,_|⟨a3,_|⟨a4,_|⟨a5,_|⟨a6,_|⟨a7,_|⟨z,_⟩⟩⟩⟩⟩⟩⟩⟩⟩<;>first|exact⟨_,_,_,_,_,_,_,_,rfl⟩|(simp at hl)
  rw[if_pos rfl];clear hl HLN;show Calls prog _ _ w fun e w'=>e=.returned (.tuple #[.agg #[.int .i64 x0,.int .i64 x1,.int .i64 x2,.int .i64 x3,.int .i64 x4,.int .i64 x5,.int .i64 x6,.int .i64 x7],.int .i64 0])∧Below w.1.size w w'
  go_enter func277,ntmps277;go_wp2_with (refine qc rfl 31 rfl #[.int .i64 0,.int .i64 0,.int .i64 0,.int .i64 0,.int .i64 0,.int .i64 0,.int .i64 0,.int .i64 0] (HZ _).out ?_;intro W1 hW1;have HK1:=hid (Blk.newL (L:=[.int .i64 0,.int .i64 0,.int .i64 0,.int .i64 0,.int .i64 0,.int .i64 0,.int .i64 0,.int .i64 0]) hW1 rfl);have HB1:=hid hW1.bel;clear hW1);refine(HF _).out.mono ?_;rintro e w2 ⟨A,c,rfl,hf,hb⟩;have HT:=HS _ c _ _ HB1.out hf hb;have HK2:=hid (HK1.out.on hb);have HB2:=hid (qb HB1.out hb);clear hf hb HS HK1 HB1;go_wp2_with fail;refine HT.out.mono ?_;rintro e w3 ⟨A3,c3,rfl,hf,hb⟩;have HFL:=hid hf;have HK3:=hid (HK2.out.on hb);have HB3:=hid (qb HB2.out hb);clear hf hb HK2 HB2 HT;obtain⟨ab,ao,rfl,-,hablt,hcell⟩:=afi HFL.out sm;have HCE:Hid (∀W,Below w3.1.size w3 W→W.cell? ⟨ab,ao,none⟩=some (.int .i64 x0)∧W.cell? ⟨ab,ao+1,none⟩=some (.int .i64 x1)∧W.cell? ⟨ab,ao+2,none⟩=some (.int .i64 x2)∧W.cell? ⟨ab,ao+3,none⟩=some (.int .i64 x3)∧W.cell? ⟨ab,ao+4,none⟩=some (.int .i64 x4)∧W.cell? ⟨ab,ao+5,none⟩=some (.int .i64 x5)∧W.cell? ⟨ab,ao+6,none⟩=some (.int .i64 x6)∧W.cell? ⟨ab,ao+7,none⟩=some (.int .i64 x7)):=hid fun W hW=>⟨(hW.cell (p:=⟨ab,ao,none⟩) hablt).trans (hcell 0 sm),(hW.cell (p:=⟨ab,ao+1,none⟩) hablt).trans (hcell 1 sm),(hW.cell (p:=⟨ab,ao+2,none⟩) hablt).trans (hcell 2 sm),(hW.cell (p:=⟨ab,ao+3,none⟩) hablt).trans (hcell 3 sm),(hW.cell (p:=⟨ab,ao+4,none⟩) hablt).trans (hcell 4 sm),(hW.cell (p:=⟨ab,ao+5,none⟩) hablt).trans (hcell 5 sm),(hW.cell (p:=⟨ab,ao+6,none⟩) hablt).trans (hcell 6 sm),(hW.cell (p:=⟨ab,ao+7,none⟩) hablt).trans (hcell 7 sm)⟩
  clear hcell;go_upto_region 4 with fail;have cc:=HCE.out w3.drew ((Below.refl _ _).drew);obtain⟨cc0,cc1,cc2,cc3,cc4,cc5,cc6,cc7⟩:=cc
  go_still_tail 25,kr
  change wpList _ _ _ _ _ w3.drew;clear cc0 cc1 cc2 cc3 cc4 cc5 cc6 cc7;have HK4:Hid (Blk w3.drew w.1.size [.int .i64 0,.int .i64 0,.int .i64 0,.int .i64 0,.int .i64 0,.int .i64 0,.int .i64 0,.int .i64 0]):=hid HK3.out.drew;have HB4:Hid (Below w.1.size w w3.drew):=hid HB3.out.drew;generalize w3.drew=w4 at *;have g0:=HK4.out.cell 0 (v:=.int .i64 0) rfl;have z0:=HK4.out.fz 0;have g1:=HK4.out.cell 1 (v:=.int .i64 0) rfl;have z1:=HK4.out.fz 1;have g2:=HK4.out.cell 2 (v:=.int .i64 0) rfl;have z2:=HK4.out.fz 2;have g3:=HK4.out.cell 3 (v:=.int .i64 0) rfl;have z3:=HK4.out.fz 3;have g4:=HK4.out.cell 4 (v:=.int .i64 0) rfl;have z4:=HK4.out.fz 4;have g5:=HK4.out.cell 5 (v:=.int .i64 0) rfl;have z5:=HK4.out.fz 5;have g6:=HK4.out.cell 6 (v:=.int .i64 0) rfl;have z6:=HK4.out.fz 6;have g7:=HK4.out.cell 7 (v:=.int .i64 0) rfl;have z7:=HK4.out.fz 7;go_wp2_with fail;have hs:qz w4 (((((((((w4.setCell ⟨w.1.size,0,none⟩ (.int .i64 x0)).setCell ⟨w.1.size,1,none⟩ (.int .i64 x1)).setCell ⟨w.1.size,2,none⟩ (.int .i64 x2)).setCell ⟨w.1.size,3,none⟩ (.int .i64 x3)).setCell ⟨w.1.size,4,none⟩ (.int .i64 x4)).setCell ⟨w.1.size,5,none⟩ (.int .i64 x5)).setCell ⟨w.1.size,6,none⟩ (.int .i64 x6)).setCell ⟨w.1.size,7,none⟩ (.int .i64 x7))) w.1.size 0 [.int .i64 x0,.int .i64 x1,.int .i64 x2,.int .i64 x3,.int .i64 x4,.int .i64 x5,.int .i64 x6,.int .i64 x7]:=qm (cs:=[.int .i64 x0,.int .i64 x1,.int .i64 x2,.int .i64 x3,.int .i64 x4,.int .i64 x5,.int .i64 x6,.int .i64 x7]) (HK4.out.there 0 8 (Nat.le_refl _))
  have HK5:Hid (Blk (((((((((w4.setCell ⟨w.1.size,0,none⟩ (.int .i64 x0)).setCell ⟨w.1.size,1,none⟩ (.int .i64 x1)).setCell ⟨w.1.size,2,none⟩ (.int .i64 x2)).setCell ⟨w.1.size,3,none⟩ (.int .i64 x3)).setCell ⟨w.1.size,4,none⟩ (.int .i64 x4)).setCell ⟨w.1.size,5,none⟩ (.int .i64 x5)).setCell ⟨w.1.size,6,none⟩ (.int .i64 x6)).setCell ⟨w.1.size,7,none⟩ (.int .i64 x7))) w.1.size [.int .i64 x0,.int .i64 x1,.int .i64 x2,.int .i64 x3,.int .i64 x4,.int .i64 x5,.int .i64 x6,.int .i64 x7]):=hid (HK4.out.all hs rfl);have HB5:Hid (Below w.1.size w (((((((((w4.setCell ⟨w.1.size,0,none⟩ (.int .i64 x0)).setCell ⟨w.1.size,1,none⟩ (.int .i64 x1)).setCell ⟨w.1.size,2,none⟩ (.int .i64 x2)).setCell ⟨w.1.size,3,none⟩ (.int .i64 x3)).setCell ⟨w.1.size,4,none⟩ (.int .i64 x4)).setCell ⟨w.1.size,5,none⟩ (.int .i64 x5)).setCell ⟨w.1.size,6,none⟩ (.int .i64 x6)).setCell ⟨w.1.size,7,none⟩ (.int .i64 x7)))):=hid (HB4.out.trans (hs.below (Nat.le_refl _)))
  clear hs g0 z0 g1 z1 g2 z2 g3 z3 g4 z4 g5 z5 g6 z6 g7 z7;generalize ((((((((w4.setCell ⟨w.1.size,0,none⟩ (.int .i64 x0)).setCell ⟨w.1.size,1,none⟩ (.int .i64 x1)).setCell ⟨w.1.size,2,none⟩ (.int .i64 x2)).setCell ⟨w.1.size,3,none⟩ (.int .i64 x3)).setCell ⟨w.1.size,4,none⟩ (.int .i64 x4)).setCell ⟨w.1.size,5,none⟩ (.int .i64 x5)).setCell ⟨w.1.size,6,none⟩ (.int .i64 x6)).setCell ⟨w.1.size,7,none⟩ (.int .i64 x7))=W5 at *;have HLD:=hid (run_loadVar_mid (P:=prog) W5 w.1.size 0 31 [.int .i64 x0,.int .i64 x1,.int .i64 x2,.int .i64 x3,.int .i64 x4,.int .i64 x5,.int .i64 x6,.int .i64 x7] _ HK5.out.rg underlying31 rfl kr);exact bodyPost_ret (v:=.tuple #[.agg #[.int .i64 x0,.int .i64 x1,.int .i64 x2,.int .i64 x3,.int .i64 x4,.int .i64 x5,.int .i64 x6,.int .i64 x7],.int .i64 0]) (by rw[zh rfl];simp[asAddr,Result.andThen];rw[HLD.out]) rfl ⟨rfl,HB5.out⟩
 ·have hE2:(E != 0)=true:=by rw[bne_iff_ne];exact hE
  have hE3:(E==0)=false:=by rw[beq_eq_false_iff_ne];exact hE
  rw[if_neg hE];clear HLN;clear hE;show Calls prog _ _ w fun e w'=>e=.returned (.tuple #[.agg #[.int .i64 0,.int .i64 0,.int .i64 0,.int .i64 0,.int .i64 0,.int .i64 0,.int .i64 0,.int .i64 0],.int .i64 E])∧Below w.1.size w w'
  go_enter func277,ntmps277;go_wp2_with (refine qc rfl 31 rfl #[.int .i64 0,.int .i64 0,.int .i64 0,.int .i64 0,.int .i64 0,.int .i64 0,.int .i64 0,.int .i64 0] (HZ _).out ?_;intro W1 hW1;have HK1:=hid (Blk.newL (L:=[.int .i64 0,.int .i64 0,.int .i64 0,.int .i64 0,.int .i64 0,.int .i64 0,.int .i64 0,.int .i64 0]) hW1 rfl);have HB1:=hid hW1.bel;clear hW1);refine(HF _).out.mono ?_;rintro e w2 ⟨A,c,rfl,hf,hb⟩;have HT:=HS _ c _ _ HB1.out hf hb;have HK2:=hid (HK1.out.on hb);have HB2:=hid (qb HB1.out hb);clear hf hb HS HK1 HB1;go_wp2_with fail;refine HT.out.mono ?_;rintro e w3 ⟨A3,c3,rfl,hf,hb⟩;have HFL:=hid hf;have HK3:=hid (HK2.out.on hb);have HB3:=hid (qb HB2.out hb);clear hf hb HK2 HB2 HT;have g0:=HK3.out.cell 0 (v:=.int .i64 0) rfl;have z0:=HK3.out.fz 0;have g1:=HK3.out.cell 1 (v:=.int .i64 0) rfl;have z1:=HK3.out.fz 1;have g2:=HK3.out.cell 2 (v:=.int .i64 0) rfl;have z2:=HK3.out.fz 2
  have g3:=HK3.out.cell 3 (v:=.int .i64 0) rfl;have z3:=HK3.out.fz 3;have g4:=HK3.out.cell 4 (v:=.int .i64 0) rfl;have z4:=HK3.out.fz 4;have g5:=HK3.out.cell 5 (v:=.int .i64 0) rfl;have z5:=HK3.out.fz 5;have g6:=HK3.out.cell 6 (v:=.int .i64 0) rfl;have z6:=HK3.out.fz 6;have g7:=HK3.out.cell 7 (v:=.int .i64 0) rfl;have z7:=HK3.out.fz 7;go_wp2_with fail;have hs:qz w3 (((((((((w3.setCell ⟨w.1.size,0,none⟩ (.int .i64 0)).setCell ⟨w.1.size,1,none⟩ (.int .i64 0)).setCell ⟨w.1.size,2,none⟩ (.int .i64 0)).setCell ⟨w.1.size,3,none⟩ (.int .i64 0)).setCell ⟨w.1.size,4,none⟩ (.int .i64 0)).setCell ⟨w.1.size,5,none⟩ (.int .i64 0)).setCell ⟨w.1.size,6,none⟩ (.int .i64 0)).setCell ⟨w.1.size,7,none⟩ (.int .i64 0))) w.1.size 0 [.int .i64 0,.int .i64 0,.int .i64 0,.int .i64 0,.int .i64 0,.int .i64 0,.int .i64 0,.int .i64 0]:=qm (cs:=[.int .i64 0,.int .i64 0,.int .i64 0,.int .i64 0,.int .i64 0,.int .i64 0,.int .i64 0,.int .i64 0]) (HK3.out.there 0 8 (Nat.le_refl _))
  have HK5:Hid (Blk (((((((((w3.setCell ⟨w.1.size,0,none⟩ (.int .i64 0)).setCell ⟨w.1.size,1,none⟩ (.int .i64 0)).setCell ⟨w.1.size,2,none⟩ (.int .i64 0)).setCell ⟨w.1.size,3,none⟩ (.int .i64 0)).setCell ⟨w.1.size,4,none⟩ (.int .i64 0)).setCell ⟨w.1.size,5,none⟩ (.int .i64 0)).setCell ⟨w.1.size,6,none⟩ (.int .i64 0)).setCell ⟨w.1.size,7,none⟩ (.int .i64 0))) w.1.size [.int .i64 0,.int .i64 0,.int .i64 0,.int .i64 0,.int .i64 0,.int .i64 0,.int .i64 0,.int .i64 0]):=hid (HK3.out.all hs rfl);have HB5:Hid (Below w.1.size w (((((((((w3.setCell ⟨w.1.size,0,none⟩ (.int .i64 0)).setCell ⟨w.1.size,1,none⟩ (.int .i64 0)).setCell ⟨w.1.size,2,none⟩ (.int .i64 0)).setCell ⟨w.1.size,3,none⟩ (.int .i64 0)).setCell ⟨w.1.size,4,none⟩ (.int .i64 0)).setCell ⟨w.1.size,5,none⟩ (.int .i64 0)).setCell ⟨w.1.size,6,none⟩ (.int .i64 0)).setCell ⟨w.1.size,7,none⟩ (.int .i64 0)))):=hid (HB3.out.trans (hs.below (Nat.le_refl _)))
  clear hs g0 z0 g1 z1 g2 z2 g3 z3 g4 z4 g5 z5 g6 z6 g7 z7;generalize ((((((((w3.setCell ⟨w.1.size,0,none⟩ (.int .i64 0)).setCell ⟨w.1.size,1,none⟩ (.int .i64 0)).setCell ⟨w.1.size,2,none⟩ (.int .i64 0)).setCell ⟨w.1.size,3,none⟩ (.int .i64 0)).setCell ⟨w.1.size,4,none⟩ (.int .i64 0)).setCell ⟨w.1.size,5,none⟩ (.int .i64 0)).setCell ⟨w.1.size,6,none⟩ (.int .i64 0)).setCell ⟨w.1.size,7,none⟩ (.int .i64 0))=W5 at *;have HLD:=hid (run_loadVar_mid (P:=prog) W5 w.1.size 0 31 [.int .i64 0,.int .i64 0,.int .i64 0,.int .i64 0,.int .i64 0,.int .i64 0,.int .i64 0,.int .i64 0] _ HK5.out.rg underlying31 rfl kr);exact bodyPost_ret (v:=.tuple #[.agg #[.int .i64 0,.int .i64 0,.int .i64 0,.int .i64 0,.int .i64 0,.int .i64 0,.int .i64 0,.int .i64 0],.int .i64 E]) (by rw[zh rfl];simp[asAddr,Result.andThen];rw[HLD.out]) rfl ⟨rfl,HB5.out⟩
def af1 (b:List UInt8):Int×List Int:=if(xk ax0 b).1=0 then xk ax0 b else((xk ax0 b).1,List.replicate 2 0)
theorem blf (w:World):(zeroValue 33).run prog w=.ok (.agg #[.bool false,.int .i64 0,.int .i64 0]) w:=by kernel_rfl
theorem bjr (w:World):(Instr.build 33 #[]).run prog w=.ok (.agg #[.bool false,.int .i64 0,.int .i64 0]) w:=by kernel_rfl
theorem ax1 {Q0:Nat→Prop} {w:World} (X:Option Addr) (d:Nat) (b:List UInt8) (yes:Bool) (hB:qf Q0 w X (bsV b)) (hm:b.length≤1000000) :
 Calls prog 283 #[.slice X b.length d,.bool yes] w fun e w'=>e=.returned (.tuple #[.agg (.bool (yes && decide ((af1 b).1=0))::qp (af1 b).2).toArray,.int .i64 (af1 b).1])∧Below w.1.size w w':=by
 have HF:=fun W=>hid (arq W)
 have HS:=ah5 (d:=d) aoq dc hB hm;have HZ:=fun W=>hid (blf W)
 have HB0:=fun W=>hid (bjr W)
 have HLN:=hid (fun h=>(abo (fs:=ax0) (b:=b) h));unfold af1;obtain⟨⟨E,v⟩,hr⟩:∃r,xk ax0 b=r:=⟨_,rfl⟩;rw[hr]at HS HLN ⊢;dsimp only at *;generalize hL:b.length=L at *;unfold ac6 at HF;rw[show ax0.length=2 from rfl]at *;clear hB hr hL
 by_cases hE:E=0
 ·subst hE;have hl:=HLN.out rfl
  obtain⟨x0,x1,rfl⟩:∃x0 x1,v=[x0,x1]:=by
   rcases v with _|⟨a0,_|⟨a1,_|⟨z,_⟩⟩⟩<;>first|exact⟨_,_,rfl⟩|(simp at hl)
  rw[if_pos rfl];clear hl HLN;simp only[Bool.and_true,decide_true]at *;show Calls prog _ _ w fun e w'=>e=.returned (.tuple #[.agg #[.bool yes,.int .i64 x0,.int .i64 x1],.int .i64 0])∧Below w.1.size w w'
  go_enter func283,ntmps283;go_wp2_with (refine qc rfl 33 rfl #[.bool false,.int .i64 0,.int .i64 0] (HZ _).out ?_;intro W1 hW1;have HK1:=hid (Blk.newL (L:=[.bool false,.int .i64 0,.int .i64 0]) hW1 rfl);have HB1:=hid hW1.bel;clear hW1);refine(HF _).out.mono ?_;rintro e w2 ⟨A,c,rfl,hf,hb⟩;have HT:=HS _ c _ _ HB1.out hf hb;have HK2:=hid (HK1.out.on hb);have HB2:=hid (qb HB1.out hb);clear hf hb HS HK1 HB1;go_wp2_with fail;refine HT.out.mono ?_;rintro e w3 ⟨A3,c3,rfl,hf,hb⟩;have HFL:=hid hf;have HK3:=hid (HK2.out.on hb);have HB3:=hid (qb HB2.out hb);clear hf hb HK2 HB2 HT;obtain⟨ab,ao,rfl,-,hablt,hcell⟩:=afi HFL.out sm;have HCE:Hid (∀W,Below w3.1.size w3 W→W.cell? ⟨ab,ao,none⟩=some (.int .i64 x0)∧W.cell? ⟨ab,ao+1,none⟩=some (.int .i64 x1)):=hid fun W hW=>⟨(hW.cell (p:=⟨ab,ao,none⟩) hablt).trans (hcell 0 sm),(hW.cell (p:=⟨ab,ao+1,none⟩) hablt).trans (hcell 1 sm)⟩
  clear hcell;go_upto_region 4 with fail;have cc:=HCE.out w3.drew ((Below.refl _ _).drew);obtain⟨cc0,cc1⟩:=cc
  go_still_tail 8,kr
  change wpList _ _ _ _ _ w3.drew;clear cc0 cc1;have HK4:Hid (Blk w3.drew w.1.size [.bool false,.int .i64 0,.int .i64 0]):=hid HK3.out.drew;have HB4:Hid (Below w.1.size w w3.drew):=hid HB3.out.drew;generalize w3.drew=w4 at *;have g0:=HK4.out.cell 0 (v:=.bool false) rfl;have z0:=HK4.out.fz 0;have g1:=HK4.out.cell 1 (v:=.int .i64 0) rfl;have z1:=HK4.out.fz 1;have g2:=HK4.out.cell 2 (v:=.int .i64 0) rfl;have z2:=HK4.out.fz 2;go_wp2_with fail;have hs:qz w4 ((((w4.setCell ⟨w.1.size,0,none⟩ (.bool yes)).setCell ⟨w.1.size,1,none⟩ (.int .i64 x0)).setCell ⟨w.1.size,2,none⟩ (.int .i64 x1))) w.1.size 0 [.bool yes,.int .i64 x0,.int .i64 x1]:=qm (cs:=[.bool yes,.int .i64 x0,.int .i64 x1]) (HK4.out.there 0 3 (Nat.le_refl _));have HK5:Hid (Blk ((((w4.setCell ⟨w.1.size,0,none⟩ (.bool yes)).setCell ⟨w.1.size,1,none⟩ (.int .i64 x0)).setCell ⟨w.1.size,2,none⟩ (.int .i64 x1))) w.1.size [.bool yes,.int .i64 x0,.int .i64 x1]):=hid (HK4.out.all hs rfl)
  have HB5:Hid (Below w.1.size w ((((w4.setCell ⟨w.1.size,0,none⟩ (.bool yes)).setCell ⟨w.1.size,1,none⟩ (.int .i64 x0)).setCell ⟨w.1.size,2,none⟩ (.int .i64 x1)))):=hid (HB4.out.trans (hs.below (Nat.le_refl _)));clear hs g0 z0 g1 z1 g2 z2;generalize (((w4.setCell ⟨w.1.size,0,none⟩ (.bool yes)).setCell ⟨w.1.size,1,none⟩ (.int .i64 x0)).setCell ⟨w.1.size,2,none⟩ (.int .i64 x1))=W5 at *;have HLD:=hid (run_loadVar_mid (P:=prog) W5 w.1.size 0 33 [.bool yes,.int .i64 x0,.int .i64 x1] _ HK5.out.rg underlying33 rfl kr);exact bodyPost_ret (v:=.tuple #[.agg #[.bool yes,.int .i64 x0,.int .i64 x1],.int .i64 0]) (by rw[zh rfl];simp[asAddr,Result.andThen];rw[HLD.out]) rfl ⟨rfl,HB5.out⟩
 ·have hE2:(E != 0)=true:=by rw[bne_iff_ne];exact hE
  have hE3:(E==0)=false:=by rw[beq_eq_false_iff_ne];exact hE
  rw[if_neg hE];clear HLN;rw[decide_eq_false (show ¬(E,List.replicate 2 (0:Int)).1=0 from hE),Bool.and_false];clear hE;show Calls prog _ _ w fun e w'=>e=.returned (.tuple #[.agg #[.bool false,.int .i64 0,.int .i64 0],.int .i64 E])∧Below w.1.size w w'
  go_enter func283,ntmps283;go_wp2_with (refine qc rfl 33 rfl #[.bool false,.int .i64 0,.int .i64 0] (HZ _).out ?_;intro W1 hW1;have HK1:=hid (Blk.newL (L:=[.bool false,.int .i64 0,.int .i64 0]) hW1 rfl);have HB1:=hid hW1.bel;clear hW1);refine(HF _).out.mono ?_;rintro e w2 ⟨A,c,rfl,hf,hb⟩;have HT:=HS _ c _ _ HB1.out hf hb;have HK2:=hid (HK1.out.on hb);have HB2:=hid (qb HB1.out hb);clear hf hb HS HK1 HB1;go_wp2_with fail;refine HT.out.mono ?_;rintro e w3 ⟨A3,c3,rfl,hf,hb⟩;have HFL:=hid hf;have HK3:=hid (HK2.out.on hb);have HB3:=hid (qb HB2.out hb);clear hf hb HK2 HB2 HT;have g0:=HK3.out.cell 0 (v:=.bool false) rfl;have z0:=HK3.out.fz 0;have g1:=HK3.out.cell 1 (v:=.int .i64 0) rfl;have z1:=HK3.out.fz 1;have g2:=HK3.out.cell 2 (v:=.int .i64 0) rfl;have z2:=HK3.out.fz 2;go_wp2_with fail;have hs:qz w3 ((((w3.setCell ⟨w.1.size,0,none⟩ (.bool false)).setCell ⟨w.1.size,1,none⟩ (.int .i64 0)).setCell ⟨w.1.size,2,none⟩ (.int .i64 0))) w.1.size 0 [.bool false,.int .i64 0,.int .i64 0]:=qm (cs:=[.bool false,.int .i64 0,.int .i64 0]) (HK3.out.there 0 3 (Nat.le_refl _))
  have HK5:Hid (Blk ((((w3.setCell ⟨w.1.size,0,none⟩ (.bool false)).setCell ⟨w.1.size,1,none⟩ (.int .i64 0)).setCell ⟨w.1.size,2,none⟩ (.int .i64 0))) w.1.size [.bool false,.int .i64 0,.int .i64 0]):=hid (HK3.out.all hs rfl);have HB5:Hid (Below w.1.size w ((((w3.setCell ⟨w.1.size,0,none⟩ (.bool false)).setCell ⟨w.1.size,1,none⟩ (.int .i64 0)).setCell ⟨w.1.size,2,none⟩ (.int .i64 0)))):=hid (HB3.out.trans (hs.below (Nat.le_refl _)));clear hs g0 z0 g1 z1 g2 z2;generalize (((w3.setCell ⟨w.1.size,0,none⟩ (.bool false)).setCell ⟨w.1.size,1,none⟩ (.int .i64 0)).setCell ⟨w.1.size,2,none⟩ (.int .i64 0))=W5 at *;have HLD:=hid (run_loadVar_mid (P:=prog) W5 w.1.size 0 33 [.bool false,.int .i64 0,.int .i64 0] _ HK5.out.rg underlying33 rfl kr);exact bodyPost_ret (v:=.tuple #[.agg #[.bool false,.int .i64 0,.int .i64 0],.int .i64 E]) (by rw[zh rfl];simp[asAddr,Result.andThen];rw[HLD.out]) rfl ⟨rfl,HB5.out⟩
theorem auj (w:World):Calls prog 297 #[.int .i64 28,.int .i64 3] w fun e w'=>e=.returned (.bool true)∧w=w':=by
 go_enter func297,ntmps297;go_wp2;go_ret;exact⟨rfl,rfl⟩
theorem a23 (w:World):Calls prog 298 #[.int .i64 3] w fun e w'=>e=.returned (.int .u32 7)∧w=w':=by
 go_enter func298,ntmps298;go_wp2;go_ret;exact⟨rfl,rfl⟩
theorem ax3 (k q:Nat) (w:World) (hk:k<2147483648) (hq:k / 268435456=q):Calls prog 296 #[.int .u32 k,.int .i64 28,.int .i64 3] w fun e w'=>e=.returned (.int .u32 q)∧Below w.1.size w w':=by
 have HP:=fun W=>hid (auj W)
 have HM:=fun W=>hid (a23 W)
 have f1:(k:Int) / 268435456=(q:Int):=by omega
 have f2:bits BinOp.and IntKind.u32 (q:Int) 7=(q:Int):=by
  have:=u32_and_nat q 7 om dc;rw[show ((7:Nat):Int)=7 from rfl,nat_mask3]at this;rw[this];omega
 clear hq;go_enter func296,ntmps296;go_wp2_with fail;refine((HP _).out).mono ?_;rintro e w' ⟨rfl,rfl⟩;go_upto_region 3 with fail
 try (apply wp_seq_k;intro K_ HK_)
 have hS0:Below w.1.size w w.drew:=(Below.refl _ _).drew;refine wp_region_held_drew (S:=fun w'=>Below w.1.size w w') kr hS0 (fun hHeld0=>?_);refine tkA 0 11 rfl ?_
 try go_frame
 refine tkA 1 12 rfl ?_
 try go_frame
 refine tkA 2 13 rfl ?_
 try go_frame
 refine tkA 3 14 rfl ?_
 try go_frame
 refine rdB 4 15 rfl fun K hK=>?_
 go_step;refine(HM _).out.mono ?_;rintro e w2 ⟨rfl,rfl⟩
 try go_frame
 refine hK.out _ _ (hHeld0) (fun hHeld=>?_);clear hK K
 try go_frame
 refine tkA 5 16 rfl ?_
 try go_frame
 refine tkA 6 6 rfl ?_
 try go_frame
 refine wpAnyH_done kr ?_ _
 try go_frame
 go_wp2_with fail;go_ret;exact⟨rfl,hHeld0⟩
def bdm:Nat→Nat×Nat
 | 1=>(1,1)
 | 2=>(8,1)
 | 3=>(16,2)
 | 4=>(32,4)
 | 5=>(63,8)
 | _=>(0,0)
def ji (key:Nat):Nat×Nat:=if 2147483648≤key then(0,0)else bdm (key / 268435456)
theorem am6 (k:Nat) (w:World) (hk:k<4294967296):Calls prog 295 #[.int .i64 k] w fun e w'=>e=.returned (.tuple #[.int .i64 (ji k).1,.int .i64 (ji k).2])∧Below w.1.size w w':=by
 by_cases hb:2147483648≤k
 ·have e:ji k=(0,0):=by unfold ji;rw[if_pos hb]
  rw[e];have f1:(2147483647:Int)<(k:Int):=by omega
  have f2:¬(k:Int)<0:=by omega
  go_enter func295,ntmps295;go_wp2_with fail
  go_ret2
  exact⟨rfl,Below.refl _ _⟩
 have f1:¬(2147483647:Int)<(k:Int):=by omega
 have f2:¬(k:Int)<0:=by omega
 have f3:IntKind.u32.wrap (k:Int)=(k:Int):=IntWalk.u32_in _ om;obtain⟨q,hq⟩:∃q,k / 268435456=q:=⟨_,rfl⟩;have HG:=fun W=>hid (ax3 k q W om hq)
 have hq7:q=0∨q=1∨q=2∨q=3∨q=4∨q=5∨q=6∨q=7:=by omega
 have e:ji k=bdm q:=by unfold ji;rw[if_neg hb,hq]
 rw[e];clear e hq hb hk;rcases hq7 with rfl|rfl|rfl|rfl|rfl|rfl|rfl|rfl
 ·show Calls prog _ _ w fun e w'=>e=.returned (.tuple #[.int .i64 0,.int .i64 0])∧Below w.1.size w w'
  go_enter func295,ntmps295;go_wp2_with fail;refine(HG _).out.mono ?_;rintro e w2 ⟨rfl,hb⟩;have HK2:Hid (Blk w2 w.1.size #[.int .i64 0,.int .i64 0,.int .i64 1,.int .i64 1,.int .i64 8,.int .i64 1,.int .i64 16,.int .i64 2,.int .i64 32,.int .i64 4,.int .i64 63,.int .i64 8,.int .i64 0,.int .i64 0,.int .i64 0,.int .i64 0].toList):=hid ((Blk.newL (qg w _ _) rfl).on hb);have HB2:Hid (Below w.1.size w w2):=hid (qb (qa _ _) hb);have c0:=HK2.out.cell 0 (v:=.int .i64 0) rfl;have c1:=HK2.out.cell 1 (v:=.int .i64 0) rfl;clear hb;go_upto_region 5 with fail
  go_quiet (fail)
  go_wp2_with fail
  go_ret2
  exact⟨rfl,aab (qb HB2.out (qa _ _)) _⟩
 ·show Calls prog _ _ w fun e w'=>e=.returned (.tuple #[.int .i64 1,.int .i64 1])∧Below w.1.size w w'
  go_enter func295,ntmps295;go_wp2_with fail;refine(HG _).out.mono ?_;rintro e w2 ⟨rfl,hb⟩;have HK2:Hid (Blk w2 w.1.size #[.int .i64 0,.int .i64 0,.int .i64 1,.int .i64 1,.int .i64 8,.int .i64 1,.int .i64 16,.int .i64 2,.int .i64 32,.int .i64 4,.int .i64 63,.int .i64 8,.int .i64 0,.int .i64 0,.int .i64 0,.int .i64 0].toList):=hid ((Blk.newL (qg w _ _) rfl).on hb);have HB2:Hid (Below w.1.size w w2):=hid (qb (qa _ _) hb);have c0:=HK2.out.cell 2 (v:=.int .i64 1) rfl;have c1:=HK2.out.cell 3 (v:=.int .i64 1) rfl;clear hb;go_upto_region 5 with fail
  go_quiet (fail)
  go_wp2_with fail
  go_ret2
  exact⟨rfl,aab (qb HB2.out (qa _ _)) _⟩
 ·show Calls prog _ _ w fun e w'=>e=.returned (.tuple #[.int .i64 8,.int .i64 1])∧Below w.1.size w w'
  go_enter func295,ntmps295;go_wp2_with fail;refine(HG _).out.mono ?_;rintro e w2 ⟨rfl,hb⟩;have HK2:Hid (Blk w2 w.1.size #[.int .i64 0,.int .i64 0,.int .i64 1,.int .i64 1,.int .i64 8,.int .i64 1,.int .i64 16,.int .i64 2,.int .i64 32,.int .i64 4,.int .i64 63,.int .i64 8,.int .i64 0,.int .i64 0,.int .i64 0,.int .i64 0].toList):=hid ((Blk.newL (qg w _ _) rfl).on hb);have HB2:Hid (Below w.1.size w w2):=hid (qb (qa _ _) hb);have c0:=HK2.out.cell 4 (v:=.int .i64 8) rfl;have c1:=HK2.out.cell 5 (v:=.int .i64 1) rfl;clear hb;go_upto_region 5 with fail
  go_quiet (fail)
  go_wp2_with fail
  go_ret2
  exact⟨rfl,aab (qb HB2.out (qa _ _)) _⟩
 ·show Calls prog _ _ w fun e w'=>e=.returned (.tuple #[.int .i64 16,.int .i64 2])∧Below w.1.size w w'
  go_enter func295,ntmps295;go_wp2_with fail;refine(HG _).out.mono ?_;rintro e w2 ⟨rfl,hb⟩;have HK2:Hid (Blk w2 w.1.size #[.int .i64 0,.int .i64 0,.int .i64 1,.int .i64 1,.int .i64 8,.int .i64 1,.int .i64 16,.int .i64 2,.int .i64 32,.int .i64 4,.int .i64 63,.int .i64 8,.int .i64 0,.int .i64 0,.int .i64 0,.int .i64 0].toList):=hid ((Blk.newL (qg w _ _) rfl).on hb);have HB2:Hid (Below w.1.size w w2):=hid (qb (qa _ _) hb);have c0:=HK2.out.cell 6 (v:=.int .i64 16) rfl;have c1:=HK2.out.cell 7 (v:=.int .i64 2) rfl;clear hb;go_upto_region 5 with fail
  go_quiet (fail)
  go_wp2_with fail
  go_ret2
  exact⟨rfl,aab (qb HB2.out (qa _ _)) _⟩
 ·show Calls prog _ _ w fun e w'=>e=.returned (.tuple #[.int .i64 32,.int .i64 4])∧Below w.1.size w w'
  go_enter func295,ntmps295;go_wp2_with fail;refine(HG _).out.mono ?_;rintro e w2 ⟨rfl,hb⟩;have HK2:Hid (Blk w2 w.1.size #[.int .i64 0,.int .i64 0,.int .i64 1,.int .i64 1,.int .i64 8,.int .i64 1,.int .i64 16,.int .i64 2,.int .i64 32,.int .i64 4,.int .i64 63,.int .i64 8,.int .i64 0,.int .i64 0,.int .i64 0,.int .i64 0].toList):=hid ((Blk.newL (qg w _ _) rfl).on hb);have HB2:Hid (Below w.1.size w w2):=hid (qb (qa _ _) hb);have c0:=HK2.out.cell 8 (v:=.int .i64 32) rfl;have c1:=HK2.out.cell 9 (v:=.int .i64 4) rfl;clear hb;go_upto_region 5 with fail
  go_quiet (fail)
  go_wp2_with fail
  go_ret2
  exact⟨rfl,aab (qb HB2.out (qa _ _)) _⟩
 ·show Calls prog _ _ w fun e w'=>e=.returned (.tuple #[.int .i64 63,.int .i64 8])∧Below w.1.size w w'
  go_enter func295,ntmps295;go_wp2_with fail;refine(HG _).out.mono ?_;rintro e w2 ⟨rfl,hb⟩;have HK2:Hid (Blk w2 w.1.size #[.int .i64 0,.int .i64 0,.int .i64 1,.int .i64 1,.int .i64 8,.int .i64 1,.int .i64 16,.int .i64 2,.int .i64 32,.int .i64 4,.int .i64 63,.int .i64 8,.int .i64 0,.int .i64 0,.int .i64 0,.int .i64 0].toList):=hid ((Blk.newL (qg w _ _) rfl).on hb);have HB2:Hid (Below w.1.size w w2):=hid (qb (qa _ _) hb);have c0:=HK2.out.cell 10 (v:=.int .i64 63) rfl;have c1:=HK2.out.cell 11 (v:=.int .i64 8) rfl;clear hb;go_upto_region 5 with fail
  go_quiet (fail)
  go_wp2_with fail
  go_ret2
  exact⟨rfl,aab (qb HB2.out (qa _ _)) _⟩
 ·show Calls prog _ _ w fun e w'=>e=.returned (.tuple #[.int .i64 0,.int .i64 0])∧Below w.1.size w w'
  go_enter func295,ntmps295;go_wp2_with fail;refine(HG _).out.mono ?_;rintro e w2 ⟨rfl,hb⟩;have HK2:Hid (Blk w2 w.1.size #[.int .i64 0,.int .i64 0,.int .i64 1,.int .i64 1,.int .i64 8,.int .i64 1,.int .i64 16,.int .i64 2,.int .i64 32,.int .i64 4,.int .i64 63,.int .i64 8,.int .i64 0,.int .i64 0,.int .i64 0,.int .i64 0].toList):=hid ((Blk.newL (qg w _ _) rfl).on hb);have HB2:Hid (Below w.1.size w w2):=hid (qb (qa _ _) hb);have c0:=HK2.out.cell 12 (v:=.int .i64 0) rfl;have c1:=HK2.out.cell 13 (v:=.int .i64 0) rfl;clear hb;go_upto_region 5 with fail
  go_quiet (fail)
  go_wp2_with fail
  go_ret2
  exact⟨rfl,aab (qb HB2.out (qa _ _)) _⟩
 ·show Calls prog _ _ w fun e w'=>e=.returned (.tuple #[.int .i64 0,.int .i64 0])∧Below w.1.size w w'
  go_enter func295,ntmps295;go_wp2_with fail;refine(HG _).out.mono ?_;rintro e w2 ⟨rfl,hb⟩;have HK2:Hid (Blk w2 w.1.size #[.int .i64 0,.int .i64 0,.int .i64 1,.int .i64 1,.int .i64 8,.int .i64 1,.int .i64 16,.int .i64 2,.int .i64 32,.int .i64 4,.int .i64 63,.int .i64 8,.int .i64 0,.int .i64 0,.int .i64 0,.int .i64 0].toList):=hid ((Blk.newL (qg w _ _) rfl).on hb);have HB2:Hid (Below w.1.size w w2):=hid (qb (qa _ _) hb);have c0:=HK2.out.cell 14 (v:=.int .i64 0) rfl;have c1:=HK2.out.cell 15 (v:=.int .i64 0) rfl;clear hb;go_upto_region 5 with fail
  go_quiet (fail)
  go_wp2_with fail
  go_ret2
  exact⟨rfl,aab (qb HB2.out (qa _ _)) _⟩
theorem apv (k:Nat):(ji k).1≤63 ∧(ji k).2≤8:=by
 unfold ji
 split
 ·exact⟨by decide,by decide⟩
 ·unfold bdm
  split<;>exact⟨by decide,by decide⟩
theorem am7 (k:Nat) (w:World) (hk:k<4294967296):Calls prog 292 #[.int .i64 k] w fun e w'=>e=.returned (.tuple #[.int .i64 (ji k).2,.bool (decide (0<(ji k).2))])∧Below w.1.size w w':=by
 have HK:=fun W=>hid (am6 k W hk)
 generalize (ji k).1=a at *;generalize (ji k).2=b at *;go_enter func292,ntmps292;go_wp2_with (refine(HK _).out.mono ?_;rintro e w1 ⟨rfl,hb⟩;have HB:=hid hb;clear hb)
 go_ret2
 refine⟨?_,HB.out⟩;have:decide (0<b)=decide ((0:Int)<(b:Int)):=by apply decide_eq_decide.2;omega
 rw[this];rfl
theorem bg8 (n:Nat) (h:n≤63):IntKind.i64.wrap (IntKind.u64.wrap (IntKind.u64.wrap (2^n)-1))=((2^n-1:Nat):Int):=by
 have h1:2^n≤2^63:=Nat.pow_le_pow_right dc h;have h0:0<2^n:=Nat.pow_pos dc;have e:((2:Int)^n)=((2^n:Nat):Int):=by rw[Int.natCast_pow];rfl
 have e1:IntKind.u64.wrap ((2^n:Nat):Int)=((2^n:Nat):Int):=IntWalk.u64_in _ om;have e2:IntKind.u64.wrap (((2^n:Nat):Int)-1)=((2^n:Nat):Int)-1:=IntWalk.u64_in _ om;rw[e,e1,e2,IntWalk.i64_in _ om];omega
theorem a16 (k:Nat) (w:World) (hk:k<4294967296):Calls prog 294 #[.int .i64 k] w fun e w'=>e=.returned (.int .i64 ((2^(ji k).1-1:Nat):Int))∧Below w.1.size w w':=by
 have HK:=fun W=>hid (am6 k W hk)
 have hle:=(apv k).1;have HM:=hid (bg8 _ hle);generalize (ji k).1=a at *;generalize (ji k).2=b at *;have f1:IntKind.u64.wrap (a:Int)=(a:Int):=IntWalk.u64_in _ om;have f2:(0:Int) ≤(a:Int):=Int.natCast_nonneg _;go_enter func294,ntmps294;go_wp2_with (refine(HK _).out.mono ?_;rintro e w1 ⟨rfl,hb⟩;have HB:=hid hb;clear hb);go_ret;refine⟨?_,HB.out⟩;have e:=HM.out;rw[IntWalk.i64_left]at e;exact congrArg (fun x=>Ending.returned (.int .i64 x)) e
theorem bae {Q:Nat→Prop} {w:World} (A:Option Addr) (c:Nat) (v:List Int) (hf:qf Q w A (qp v)) (hl:v.length=7) :
 Calls prog 272 #[.slice A 7 c] w fun e w'=>e=.returned (.agg (qp v).toArray)∧Below w.1.size w w':=by
 obtain⟨ab,ao,rfl,-,hablt,hcell⟩:=afi hf om
 obtain⟨x0,x1,x2,x3,x4,x5,x6,rfl⟩:∃x0 x1 x2 x3 x4 x5 x6,v=[x0,x1,x2,x3,x4,x5,x6]:=by
  rcases v with _|⟨x0,_|⟨x1,_|⟨x2,_|⟨x3,_|⟨x4,_|⟨x5,_|⟨x6,_|⟨z,_⟩⟩⟩⟩⟩⟩⟩⟩<;>first|exact⟨_,_,_,_,_,_,_,rfl⟩|(simp at hl)
 have HCE:Hid (∀W,Below w.1.size w W→W.cell? ⟨ab,ao,none⟩=some (.int .i64 x0)∧W.cell? ⟨ab,ao+1,none⟩=some (.int .i64 x1)∧W.cell? ⟨ab,ao+2,none⟩=some (.int .i64 x2)∧W.cell? ⟨ab,ao+3,none⟩=some (.int .i64 x3)∧W.cell? ⟨ab,ao+4,none⟩=some (.int .i64 x4)∧W.cell? ⟨ab,ao+5,none⟩=some (.int .i64 x5)∧W.cell? ⟨ab,ao+6,none⟩=some (.int .i64 x6)):=hid fun W hW=>⟨(hW.cell (p:=⟨ab,ao,none⟩) hablt).trans (hcell 0 sm),(hW.cell (p:=⟨ab,ao+1,none⟩) hablt).trans (hcell 1 sm),(hW.cell (p:=⟨ab,ao+2,none⟩) hablt).trans (hcell 2 sm),(hW.cell (p:=⟨ab,ao+3,none⟩) hablt).trans (hcell 3 sm),(hW.cell (p:=⟨ab,ao+4,none⟩) hablt).trans (hcell 4 sm),(hW.cell (p:=⟨ab,ao+5,none⟩) hablt).trans (hcell 5 sm),(hW.cell (p:=⟨ab,ao+6,none⟩) hablt).trans (hcell 6 sm)⟩
 show Calls prog _ _ w fun e w'=>e=.returned (.agg #[.int .i64 x0,.int .i64 x1,.int .i64 x2,.int .i64 x3,.int .i64 x4,.int .i64 x5,.int .i64 x6])∧Below w.1.size w w'
 clear hf hl hcell;go_enter func272,ntmps272;go_upto_region 1 with fail;have HK:Hid (Blk (w.alloc (.cells #[.int .i64 0,.int .i64 0,.int .i64 0,.int .i64 0,.int .i64 0,.int .i64 0,.int .i64 0] 162)) w.1.size [.int .i64 0,.int .i64 0,.int .i64 0,.int .i64 0,.int .i64 0,.int .i64 0,.int .i64 0]):=hid (Blk.newL (qg w _ _) rfl);have HB:Hid (Below w.1.size w (w.alloc (.cells #[.int .i64 0,.int .i64 0,.int .i64 0,.int .i64 0,.int .i64 0,.int .i64 0,.int .i64 0] 162))):=hid (qa _ _);generalize w.alloc (.cells #[.int .i64 0,.int .i64 0,.int .i64 0,.int .i64 0,.int .i64 0,.int .i64 0,.int .i64 0] 162)=W1 at *;have cc:=HCE.out W1.drew HB.out.drew;obtain⟨cc0,cc1,cc2,cc3,cc4,cc5,cc6⟩:=cc
 go_still_tail 22,kr
 change wpList _ _ _ _ _ W1.drew;clear cc0 cc1 cc2 cc3 cc4 cc5 cc6;have HK4:Hid (Blk W1.drew w.1.size [.int .i64 0,.int .i64 0,.int .i64 0,.int .i64 0,.int .i64 0,.int .i64 0,.int .i64 0]):=hid HK.out.drew;have HB4:Hid (Below w.1.size w W1.drew):=hid HB.out.drew;generalize W1.drew=w4 at *;have g0:=HK4.out.cell 0 (v:=.int .i64 0) rfl;have z0:=HK4.out.fz 0;have g1:=HK4.out.cell 1 (v:=.int .i64 0) rfl;have z1:=HK4.out.fz 1;have g2:=HK4.out.cell 2 (v:=.int .i64 0) rfl;have z2:=HK4.out.fz 2;have g3:=HK4.out.cell 3 (v:=.int .i64 0) rfl;have z3:=HK4.out.fz 3;have g4:=HK4.out.cell 4 (v:=.int .i64 0) rfl;have z4:=HK4.out.fz 4;have g5:=HK4.out.cell 5 (v:=.int .i64 0) rfl;have z5:=HK4.out.fz 5;have g6:=HK4.out.cell 6 (v:=.int .i64 0) rfl;have z6:=HK4.out.fz 6;go_wp2_with fail;have hs:qz w4 (((((((w4.setCell ⟨w.1.size,0,none⟩ (.int .i64 x0)).setCell ⟨w.1.size,1,none⟩ (.int .i64 x1)).setCell ⟨w.1.size,2,none⟩ (.int .i64 x2)).setCell ⟨w.1.size,3,none⟩ (.int .i64 x3)).setCell ⟨w.1.size,4,none⟩ (.int .i64 x4)).setCell ⟨w.1.size,5,none⟩ (.int .i64 x5)).setCell ⟨w.1.size,6,none⟩ (.int .i64 x6)) w.1.size 0 [.int .i64 x0,.int .i64 x1,.int .i64 x2,.int .i64 x3,.int .i64 x4,.int .i64 x5,.int .i64 x6]:=qm (cs:=[.int .i64 x0,.int .i64 x1,.int .i64 x2,.int .i64 x3,.int .i64 x4,.int .i64 x5,.int .i64 x6]) (HK4.out.there 0 7 (Nat.le_refl _))
 have HK5:Hid (Blk (((((((w4.setCell ⟨w.1.size,0,none⟩ (.int .i64 x0)).setCell ⟨w.1.size,1,none⟩ (.int .i64 x1)).setCell ⟨w.1.size,2,none⟩ (.int .i64 x2)).setCell ⟨w.1.size,3,none⟩ (.int .i64 x3)).setCell ⟨w.1.size,4,none⟩ (.int .i64 x4)).setCell ⟨w.1.size,5,none⟩ (.int .i64 x5)).setCell ⟨w.1.size,6,none⟩ (.int .i64 x6)) w.1.size [.int .i64 x0,.int .i64 x1,.int .i64 x2,.int .i64 x3,.int .i64 x4,.int .i64 x5,.int .i64 x6]):=hid (HK4.out.all hs rfl);have HB5:Hid (Below w.1.size w (((((((w4.setCell ⟨w.1.size,0,none⟩ (.int .i64 x0)).setCell ⟨w.1.size,1,none⟩ (.int .i64 x1)).setCell ⟨w.1.size,2,none⟩ (.int .i64 x2)).setCell ⟨w.1.size,3,none⟩ (.int .i64 x3)).setCell ⟨w.1.size,4,none⟩ (.int .i64 x4)).setCell ⟨w.1.size,5,none⟩ (.int .i64 x5)).setCell ⟨w.1.size,6,none⟩ (.int .i64 x6))):=hid (HB4.out.trans (hs.below (Nat.le_refl _)));clear hs g0 z0 g1 z1 g2 z2 g3 z3 g4 z4 g5 z5 g6 z6
 generalize (((((((w4.setCell ⟨w.1.size,0,none⟩ (.int .i64 x0)).setCell ⟨w.1.size,1,none⟩ (.int .i64 x1)).setCell ⟨w.1.size,2,none⟩ (.int .i64 x2)).setCell ⟨w.1.size,3,none⟩ (.int .i64 x3)).setCell ⟨w.1.size,4,none⟩ (.int .i64 x4)).setCell ⟨w.1.size,5,none⟩ (.int .i64 x5)).setCell ⟨w.1.size,6,none⟩ (.int .i64 x6))=W5 at *;have HLD:=hid (run_loadVar_mid (P:=prog) W5 w.1.size 0 162 [.int .i64 x0,.int .i64 x1,.int .i64 x2,.int .i64 x3,.int .i64 x4,.int .i64 x5,.int .i64 x6] _ HK5.out.rg underlying162 rfl kr);exact bodyPost_ret (v:=.agg #[.int .i64 x0,.int .i64 x1,.int .i64 x2,.int .i64 x3,.int .i64 x4,.int .i64 x5,.int .i64 x6]) (by rw[qk rfl];simp[asAddr,Result.andThen];exact HLD.out) rfl ⟨rfl,HB5.out⟩
def jj:Nat→List UInt8→Int×List (List Int)
 | 0,_=>(0,[])
 | n+1,b=>if(xk ajn (b.take 12)).1=0 then(if(jj n (b.drop 12)).1=0 then(0,(xk ajn (b.take 12)).2::(jj n (b.drop 12)).2)else((jj n (b.drop 12)).1,[]))else((xk ajn (b.take 12)).1,[])
theorem baf:∀(n:Nat) (b:List UInt8),(jj n b).1≠0 →(jj n b).2=[]
 | 0,_,h=>absurd rfl h
 | n+1,b,h=>by
  unfold jj at *
  split
  ·rename_i h1;rw[if_pos h1]at h
   split
   ·rename_i h2;rw[if_pos h2]at h;exact absurd rfl h
   ·rfl
  ·rfl
theorem al2:∀(n:Nat) (b:List UInt8),(jj n b).1=0 →(jj n b).2.length=n∧∀v∈(jj n b).2,v.length=7
 | 0,_,_=>⟨rfl,fun v hv=>by cases hv⟩
 | n+1,b,h=>by
  unfold jj at *
  split at h
  ·rename_i h1
   split at h
   ·rename_i h2;rw[if_pos h1,if_pos h2];obtain⟨q1,q2⟩:=al2 n _ h2;refine⟨by simp[q1],fun v hv=>?_⟩;rcases List.mem_cons.1 hv with rfl|hv
    ·exact abo h1
    ·exact q2 v hv
   ·rename_i h2;exact absurd h h2
  ·rename_i h1;exact absurd h h1
def afn (L:List (List Int)) (r:Int×List (List Int)):Int×List (List Int):=if r.1=0 then(0,L++r.2)else(r.1,[])
theorem a5a (n:Nat) (b:List UInt8):afn [] (jj n b)=jj n b:=by
 unfold afn
 split
 ·rename_i h;rw[List.nil_append,← h]
 ·rename_i h;rw[← baf n b h]
theorem ajp (L:List (List Int)) (n:Nat) (b:List UInt8) (h:(xk ajn (b.take 12)).1=0):afn L (jj (n+1) b)=afn (L++[(xk ajn (b.take 12)).2]) (jj n (b.drop 12)):=by
 unfold afn
 conv=>lhs;unfold jj
 rw[if_pos h]
 by_cases h2:(jj n (b.drop 12)).1=0
 ·rw[if_pos h2,if_pos rfl,if_pos h2];simp
 ·rw[if_neg h2,if_neg h2,if_neg h2]
theorem a49 (L:List (List Int)) (n:Nat) (b:List UInt8) (h:(xk ajn (b.take 12)).1≠0):afn L (jj (n+1) b)=((xk ajn (b.take 12)).1,[]):=by
 unfold afn jj;rw[if_neg h,if_neg h]
def ab0 (b:List UInt8):Int×Int×List (List Int):=
 if b.length<8 then(2,0,[])else if(xk vf (b.take 8)).1=0 then
  if b.length-8<12*((xk vf (b.take 8)).2.getD 2 0).toNat then(2,0,[])else if 12*((xk vf (b.take 8)).2.getD 2 0).toNat<b.length-8 then(7,0,[])else
   if(jj ((xk vf (b.take 8)).2.getD 2 0).toNat (b.drop 8)).1=0 then(0,(xk vf (b.take 8)).2.getD 0 0,(jj ((xk vf (b.take 8)).2.getD 2 0).toNat (b.drop 8)).2)else((jj ((xk vf (b.take 8)).2.getD 2 0).toNat (b.drop 8)).1,0,[])
  else((xk vf (b.take 8)).1,0,[])
def afm (L:List (List Int)):List Value:=L.flatMap qp
def anu (x:Int×Int×List (List Int)) (w:World) (e:Ending) (w':World):Prop:=
 ∃A c,e=.returned (.tuple #[.agg #[.int .i64 x.2.1,.slice A x.2.2.length c],.int .i64 x.1])∧qf (fun b=>w.1.size≤b∧b<w'.1.size) w' A (afm x.2.2)∧Below w.1.size w w'
theorem be5:(prog.info? 162).map (fun i=>(i.zero,i.size,i.bytes))=some (some (.agg #[.int .i64 0,.int .i64 0,.int .i64 0,.int .i64 0,.int .i64 0,.int .i64 0,.int .i64 0]),7,56):=by kernel_rfl
theorem ajo (L:List (List Int)) (v:List Int):afm (L++[v])=afm L++qp v:=by simp[afm]
theorem als (v:List Int):∀u∈qp v,u.oneCell'=true:=by
 intro u hu;obtain⟨n,-,rfl⟩:=List.mem_map.1 hu;rfl
theorem ahh {w1 w:World} {b:Nat} {x y:Value} (hk:Blk w1 b [x,y]) (p q:Value) (hb:Below b w w1) :
 (loadVar 29 ⟨b,0,none⟩).run prog ((w1.setCell ⟨b,0,none⟩ p).setCell ⟨b,1,none⟩ q)=.ok (.agg #[p,q]) ((w1.setCell ⟨b,0,none⟩ p).setCell ⟨b,1,none⟩ q)∧Below b w ((w1.setCell ⟨b,0,none⟩ p).setCell ⟨b,1,none⟩ q)∧∀k,k≠b →((w1.setCell ⟨b,0,none⟩ p).setCell ⟨b,1,none⟩ q).heap[k]?=w1.heap[k]?:=by
 have hs:qz w1 ((w1.setCell ⟨b,0,none⟩ p).setCell ⟨b,1,none⟩ q) b 0 [p,q]:=qm (cs:=[p,q]) (hk.there 0 2 (Nat.le_refl _));exact⟨run_loadVar_mid (P:=prog) _ b 0 29 [p,q] _ (hk.all hs rfl).rg underlying29 rfl kr,hb.trans (hs.below (Nat.le_refl _)),hs.far⟩
theorem avz {Q:Nat→Prop} {w:World} {b o c:Nat} {l:List UInt8} (h:qf Q w (some ⟨b,o,none⟩) (bsV l)) (n:Nat) (hn:n≤l.length) (hc:l.length≤c) (o':Nat) (ho:o'=o+n∨c=n):qf Q w (some ⟨b,o',none⟩) (bsV (l.drop n)):=by
 rcases ho with rfl|rfl
 ·have:=h.part n
  rwa [afd]at this
 ·rw[List.drop_of_length_le om];exact qf.nil _ _ _
theorem awb {Q0:Nat→Prop} {w:World} (X:Option Addr) (d:Nat) (b:List UInt8) (hB:qf Q0 w X (bsV b)) (hm:b.length≤1000000) (hd:b.length≤d) :
 Calls prog 269 #[.slice X b.length d] w (anu (ab0 b) w):=by
 have HK0:∀W,Below (w.alloc (.cells #[.int .i64 0,.slice none 0 0] 29)).1.size (w.alloc (.cells #[.int .i64 0,.slice none 0 0] 29)) W→Hid (Blk W w.1.size [.int .i64 0,.slice none 0 0]):=fun W hW=>hid ((Blk.newL (qg w _ _) rfl).on hW)
 by_cases h8:b.length<8
 ·have e:ab0 b=(2,0,[]):=by unfold ab0;rw[if_pos h8]
  rw[e];have f1:(b.length:Int)<8:=by omega
  have HK1:=HK0 _ (Below.refl _ _);generalize b.length=L at *;clear hB e;have g0:=HK1.out.cell 0 (v:=.int .i64 0) rfl;have g1:=HK1.out.cell 1 (v:=.slice none 0 0) rfl;have z0:=HK1.out.fz 0;have z1:=HK1.out.fz 1;go_enter func269,ntmps269;go_wp2_with fail;have HLD:=hid (run_loadVar_mid (P:=prog) _ w.1.size 0 29 [.int .i64 0,.slice none 0 0] _ HK1.out.rg underlying29 rfl kr);exact bodyPost_ret (v:=.tuple #[.agg #[.int .i64 0,.slice none 0 0],.int .i64 2]) (by rw[zh rfl];simp[asAddr,Result.andThen];rw[HLD.out]) rfl ⟨none,0,rfl,qf.nil _ _ _,qa _ _⟩
 obtain⟨bb,off,rfl,-,-⟩:=hB 0 (bV (b[0]'(by omega))) (yk om);have h8l:(b.take 8).length=8:=by rw[List.length_take];omega
 have HH:=fun W=>hid (a0s W)
 have HS:∀A c W1 W2,Below w.1.size w W1→qf (fun b=>W1.1.size≤b∧b<W2.1.size) W2 A (aci vf)→Below W1.1.size W1 W2→Hid (Calls prog 91 #[.slice A vf.length c,.slice (some ⟨bb,off,none⟩) 8 d] W2 (kz (xk vf (b.take 8)) W2)):=by
  have:=ah5 (Q0:=Q0) (w:=w) (fs:=vf) (b:=b.take 8) (X:=some ⟨bb,off,none⟩) (d:=d) a0r dc (by have:=hB.first 8;rwa [ab8]at this) om
  rwa [h8l]at this
 have HLN:Hid ((xk vf (b.take 8)).1=0 →(xk vf (b.take 8)).2.length=4∧∃m:Nat,(xk vf (b.take 8)).2.getD 2 0=(m:Int)∧m≤64):=hid (fun h=>⟨abo h,by
  obtain⟨x,h1,h2,h3⟩:=ak0 vf (b.take 8) (akv h) 2 dc;rw[List.getD_eq_getElem?_getD,h1];have e1:(vf[2]'(by decide)).lo=0:=rfl;have e2:(vf[2]'(by decide)).hi=64:=rfl;rw[e1]at h2;rw[e2]at h3;exact⟨x.toNat,by show x=_;omega,by omega⟩⟩)
 have hT:ab0 b=if(xk vf (b.take 8)).1=0 then
  if b.length-8<12*((xk vf (b.take 8)).2.getD 2 0).toNat then(2,0,[])else if 12*((xk vf (b.take 8)).2.getD 2 0).toNat<b.length-8 then(7,0,[])else
   if(jj ((xk vf (b.take 8)).2.getD 2 0).toNat (b.drop 8)).1=0 then(0,(xk vf (b.take 8)).2.getD 0 0,(jj ((xk vf (b.take 8)).2.getD 2 0).toNat (b.drop 8)).2)else((jj ((xk vf (b.take 8)).2.getD 2 0).toNat (b.drop 8)).1,0,[])
  else((xk vf (b.take 8)).1,0,[]):=by unfold ab0;rw[if_neg h8]
 rw[hT];clear hT h8l;obtain⟨⟨E,v⟩,hr⟩:∃r,xk vf (b.take 8)=r:=⟨_,rfl⟩;rw[hr]at HS HLN ⊢;unfold ac6 at HH;rw[show vf.length=4 from rfl]at *;unfold kz at HS;dsimp only at *;have HBF:=hid hB.lt;have f8:(8:Int) ≤(b.length:Int):=by omega
 have f8d:(8:Int) ≤(d:Int):=by omega
 have f80:¬(b.length:Int)<8:=by omega
 clear hr hB
 by_cases hE:E=0
 rotate_left
 ·have hE2:(E != 0)=true:=by rw[bne_iff_ne];exact hE
  have hE3:(E==0)=false:=by rw[beq_eq_false_iff_ne];exact hE
  rw[if_neg hE];clear hE HLN;go_enter func269,ntmps269;go_upto_region 3 with fail;have HK1:=HK0 _ (Below.refl _ _);have HB1:Hid (Below w.1.size w (w.alloc (.cells #[.int .i64 0,.slice none 0 0] 29))):=hid (qa _ _);clear HK0;generalize w.alloc (.cells #[.int .i64 0,.slice none 0 0] 29)=W1 at *
  try (apply wp_seq_k;intro K_ HK_)
  have hS0:Below W1.1.size W1 W1.drew:=(Below.refl _ _).drew;refine wp_region_held_drew (S:=fun w'=>Below W1.1.size W1 w') kr hS0 (fun hHeld0=>?_);refine tkA 1 17 rfl ?_
  try go_frame
  refine tkA 2 18 rfl ?_
  try go_frame
  refine rdB 0 16 rfl fun K hK=>?_
  go_step;refine(HH _).out.mono ?_;rintro e w2 ⟨A,c,rfl,hf,hb⟩;have HT:=HS _ c _ _ (hHeld0.mono HB1.out.size |> fun q=>HB1.out.trans q) hf hb;have HS2:Hid (Below W1.1.size W1 w2):=hid (hHeld0.trans (hb.mono hHeld0.size));clear hf hb HS
  try go_frame
  refine hK.out _ _ (HS2.out) (fun hHeld=>?_);clear hK K
  try go_frame
  refine rdB 3 19 rfl fun K hK=>?_
  go_step;refine HT.out.mono ?_;rintro e w3 ⟨A3,c3,rfl,hf,hb⟩;have HFL:=hid hf;have HS3:Hid (Below W1.1.size W1 w3):=hid (HS2.out.trans (hb.mono HS2.out.size));have HQ3:Hid (w.1.size≤w2.1.size):=hid (Nat.le_trans HB1.out.size HS2.out.size);clear hf hb HT HS2
  try go_frame
  refine hK.out _ _ (HS3.out) (fun hHeld=>?_);clear hK K
  try go_frame
  refine tkA 4 15 rfl ?_
  try go_frame
  refine tkA 5 20 rfl ?_
  try go_frame
  refine tkA 6 21 rfl ?_
  try go_frame
  refine tkA 7 4 rfl ?_
  try go_frame
  refine tkA 8 5 rfl ?_
  try go_frame
  refine wpAnyH_done kr ?_ _
  try go_frame
  have HK3:=hid (HK1.out.on HS3.out);have HB3:=hid (qb HB1.out HS3.out);clear hHeld hHeld0 hS0 HK1 HB1 HS3;have g0:=HK3.out.cell 0 (v:=.int .i64 0) rfl;have g1:=HK3.out.cell 1 (v:=.slice none 0 0) rfl;have z0:=HK3.out.fz 0;have z1:=HK3.out.fz 1;go_wp2_with fail;obtain⟨r1,r2,-⟩:=ahh HK3.out (.int .i64 0) (.slice none 0 0) HB3.out;exact bodyPost_ret (v:=.tuple #[.agg #[.int .i64 0,.slice none 0 0],.int .i64 E]) (by rw[zh rfl];simp[asAddr,Result.andThen];rw[r1]) rfl ⟨none,0,rfl,qf.nil _ _ _,r2⟩
 subst hE;rw[if_pos rfl];obtain⟨hvl,m,hvm,hm64⟩:=HLN.out rfl;simp only[hvl]at HS;rw[hvm,Int.toNat_natCast];clear HLN
 obtain⟨t0,y1,y2,y3,rfl⟩:∃t0 y1 y2 y3,v=[t0,y1,y2,y3]:=by
  rcases v with _|⟨x0,_|⟨x1,_|⟨x2,_|⟨x3,_|⟨z,_⟩⟩⟩⟩⟩<;>first|exact⟨_,_,_,_,rfl⟩|(simp at hvl)
 have hvm':y2=(m:Int):=hvm;subst hvm';show Calls prog _ _ w (anu (if b.length-8<12*m then(2,0,[])else if 12*m<b.length-8 then(7,0,[])else if(jj m (b.drop 8)).1=0 then(0,t0,(jj m (b.drop 8)).2)else((jj m (b.drop 8)).1,0,[])) w);clear hvl hvm;obtain⟨R,hR⟩:∃R,b.length-8=R:=⟨_,rfl⟩;have fR:(b.length:Int)-8=(R:Int):=by omega
 rw[hR];have fm:IntKind.i64.wrap (12*(m:Int))=12*(m:Int):=IntWalk.i64_in _ om;have fm0:(0:Int)≤12*(m:Int):=by omega
 obtain⟨res,hres⟩:∃res,(if R<12*m then((2:Int),(0:Int),([]:List (List Int)))else if 12*m<R then(7,0,[])else if(jj m (b.drop 8)).1=0 then(0,t0,(jj m (b.drop 8)).2)else((jj m (b.drop 8)).1,0,[]))=res:=⟨_,rfl⟩;rw[hres];have HRES:=hid hres;clear hres;go_enter func269,ntmps269;go_upto_region 3 with fail;have HK1:=HK0 _ (Below.refl _ _);have HB1:Hid (Below w.1.size w (w.alloc (.cells #[.int .i64 0,.slice none 0 0] 29))):=hid (qa _ _);clear HK0;generalize w.alloc (.cells #[.int .i64 0,.slice none 0 0] 29)=W1 at *
 try (apply wp_seq_k;intro K_ HK_)
 have hS0:Below W1.1.size W1 W1.drew:=(Below.refl _ _).drew;refine wp_region_held_drew (S:=fun w'=>Below W1.1.size W1 w') kr hS0 (fun hHeld0=>?_);refine tkA 1 17 rfl ?_
 try go_frame
 refine tkA 2 18 rfl ?_
 try go_frame
 refine rdB 0 16 rfl fun K hK=>?_
 go_step;refine(HH _).out.mono ?_;rintro e w2 ⟨A,c,rfl,hf,hb⟩;have HT:=HS _ c _ _ (hHeld0.mono HB1.out.size |> fun q=>HB1.out.trans q) hf hb;have HS2:Hid (Below W1.1.size W1 w2):=hid (hHeld0.trans (hb.mono hHeld0.size));clear hf hb HS
 try go_frame
 refine hK.out _ _ (HS2.out) (fun hHeld=>?_);clear hK K
 try go_frame
 refine rdB 3 19 rfl fun K hK=>?_
 go_step;refine HT.out.mono ?_;rintro e w3 ⟨A3,c3,rfl,hf,hb⟩;have HFL:=hid hf;have HS3:Hid (Below W1.1.size W1 w3):=hid (HS2.out.trans (hb.mono HS2.out.size));have HQ3:Hid (w.1.size≤w2.1.size):=hid (Nat.le_trans HB1.out.size HS2.out.size);clear hf hb HT HS2
 try go_frame
 refine hK.out _ _ (HS3.out) (fun hHeld=>?_);clear hK K
 try go_frame
 refine tkA 4 15 rfl ?_
 try go_frame
 refine tkA 5 20 rfl ?_
 try go_frame
 refine tkA 6 21 rfl ?_
 try go_frame
 refine tkA 7 4 rfl ?_
 try go_frame
 refine tkA 8 5 rfl ?_
 try go_frame
 refine wpAnyH_done kr ?_ _
 try go_frame
 have HK3:=hid (HK1.out.on HS3.out);have HB3:=hid (qb HB1.out HS3.out);clear hHeld hHeld0 hS0 HK1 HB1 HS3;obtain⟨ab,ao,rfl,-,hablt,hcell⟩:=afi HFL.out sm;have c0:w3.cell? ⟨ab,ao,none⟩=some (.int .i64 t0):=hcell 0 sm;have c2:w3.cell? ⟨ab,ao+2,none⟩=some (.int .i64 (m:Int)):=hcell 2 sm;clear hcell HFL;go_upto_region 7 with fail;have HM4:Hid (Blk (w3.alloc (.cells #[.int .i64 t0,.slice none 0 0] 29)) w3.1.size [.int .i64 t0,.slice none 0 0]):=hid (Blk.newL (qg _ _ _) rfl);have HK4:Hid (Blk (w3.alloc (.cells #[.int .i64 t0,.slice none 0 0] 29)) w.1.size [.int .i64 0,.slice none 0 0]):=hid (HK3.out.on (qa _ _));have HB4:Hid (Below w.1.size w (w3.alloc (.cells #[.int .i64 t0,.slice none 0 0] 29))):=hid (qb HB3.out (qa _ _));have c2':(w3.alloc (.cells #[.int .i64 t0,.slice none 0 0] 29)).cell? ⟨ab,ao+2,none⟩=some (.int .i64 (m:Int)):=((qa w3 _).cell (p:=⟨ab,ao+2,none⟩) hablt).trans c2
 have hgl:w.1.size<w3.1.size:=HK3.out.lt;clear c0 c2 hablt HK3 HB3 HQ3;generalize w3.alloc (.cells #[.int .i64 t0,.slice none 0 0] 29)=W4 at *;generalize w3.1.size=g at *;have fRd:(R:Int) ≤(d:Int)-8:=by omega
 go_cut [7] (fun s wx=>∃o',s=.slice (some ⟨bb,o',none⟩) R (d-8)∧Hid (o'=off+8∨d=8)∧wx=W4)
 case first=>
  by_cases hd8:d=8
  ·subst hd8;go_wp2_with fail
   go_meet
   exact⟨off,rfl,hid (.inr trivial),rfl⟩
  ·have f1:¬(8:Int)=(d:Int):=by omega
   have f2:¬(8:Nat)=d:=by omega
   go_wp2_with fail
   go_meet
   exact⟨off+8,by rw[← hR],hid (.inl rfl),rfl⟩
 case rest=>
 obtain⟨o',rfl,HO,rfl⟩:=hcut;rcases Nat.lt_trichotomy R (12*m)with hlt|heq|hgt
 ·have hre:=HRES.out;rw[if_pos hlt]at hre;subst hre;have f1:(R:Int)<12*(m:Int):=by omega
  have g0:=HK4.out.cell 0 (v:=.int .i64 0) rfl;have g1:=HK4.out.cell 1 (v:=.slice none 0 0) rfl;have z0:=HK4.out.fz 0;have z1:=HK4.out.fz 1;go_wp2_with fail;obtain⟨r1,r2,-⟩:=ahh HK4.out (.int .i64 0) (.slice none 0 0) HB4.out;exact bodyPost_ret (v:=.tuple #[.agg #[.int .i64 0,.slice none 0 0],.int .i64 2]) (by rw[zh rfl];simp[asAddr,Result.andThen];rw[r1]) rfl ⟨none,0,rfl,qf.nil _ _ _,r2⟩
 rotate_left
 ·have hre:=HRES.out;rw[if_neg om,if_pos hgt]at hre;subst hre;have f1:12*(m:Int)<(R:Int):=by omega
  have g0:=HK4.out.cell 0 (v:=.int .i64 0) rfl;have g1:=HK4.out.cell 1 (v:=.slice none 0 0) rfl;have z0:=HK4.out.fz 0;have z1:=HK4.out.fz 1;go_wp2_with fail;obtain⟨r1,r2,-⟩:=ahh HK4.out (.int .i64 0) (.slice none 0 0) HB4.out;exact bodyPost_ret (v:=.tuple #[.agg #[.int .i64 0,.slice none 0 0],.int .i64 7]) (by rw[zh rfl];simp[asAddr,Result.andThen];rw[r1]) rfl ⟨none,0,rfl,qf.nil _ _ _,r2⟩
 subst heq;have HRE2:Hid ((if(jj m (b.drop 8)).1=0 then(0,t0,(jj m (b.drop 8)).2)else((jj m (b.drop 8)).1,0,[]))=res):=hid (by have:=HRES.out;rwa [if_neg om,if_neg om]at this)
 have HFR:Hid (qf (fun j=>j<w.1.size) w (some ⟨bb,o',none⟩) (bsV (b.drop (8+12*0)))):=hid (by
  rw[Nat.mul_zero,Nat.add_zero];exact avz (HBF.out.less fun j q=>q.2) 8 om hd o' HO.out)
 have HBL:Hid (b.length=8+12*m):=hid om;have hcap:12*(m-0)≤d-8:=by omega
 have HSH:=fun W=>hid (awa W)
 have HSO:=fun(QQ:Nat→Prop) W A c v (q:qf QQ W A (qp v)) (ql:v.length=7)=>hid (bae A c v q ql)
 unfold ac6 at HSH;rw[show ajn.length=7 from rfl]at HSH;obtain⟨i0,hi,hz0,hz1,hz2⟩:=ko be5;have HI:=hid (And.intro hi (And.intro hz0 (And.intro hz1 hz2)));have HO4:Hid (wc.ownsRow wc.1.size 162 7 (.slice none 0 0) 0 (afm [])):=hid (World.ownsRow_nil _ _ _ _);have HG4:=hid (And.intro hgl HM4.out.lt);have f12:((12*m:Nat):Int)=12*(m:Int):=by omega
 clear hi hz0 hz1 hz2 HRES HO hR fR fRd HBF f8 f8d f80 h8 HH;go_upto_region 13 with fail;clear c2'
 go_loopg [7] m (fun h s7 wr=>∃k:Nat,k≤m∧m-k≤h∧∃o c',s7=.slice (some ⟨bb,o,none⟩) (12*(m-k)) c'∧12*(m-k)≤c'∧Hid (qf (fun j=>j<w.1.size) w (some ⟨bb,o,none⟩) (bsV (b.drop (8+12*k))))∧Hid (∃L vL,L.length=k ∧(∀v∈L,v.length=7)∧afn L (jj (m-k) (b.drop (8+12*k)))=jj m (b.drop 8)∧Blk wr g [.int .i64 t0,vL]∧wr.ownsRow wc.1.size 162 7 vL k (afm L))∧Hid (Blk wr w.1.size [.int .i64 0,.slice none 0 0])∧Hid (Below w.1.size w wr∧wc.1.size≤wr.1.size))
 case atStart=>exact⟨0,Nat.zero_le _,by omega,o',d-8,rfl,hcap,HFR,⟨[],.slice none 0 0,rfl,(fun v hv=>nomatch hv),(by rw[Nat.sub_zero,Nat.mul_zero,Nat.add_zero];exact a5a _ _),HM4.out,HO4.out⟩,HK4,HB4.out,Nat.le_refl _⟩
 case round=>
  obtain⟨k,hk,hh,o,c',rfl,hc',HF,HL,HK,HB⟩:=hrel;obtain⟨L,vL,hL1,hL2,hL3,hL4,hL5⟩:=HL.out
  by_cases hlt:k<m
  ·have HFX:=hid (HF.out.first 12);rw[ab8]at HFX;have hcl:((b.drop (8+12*k)).take 12).length=12:=by rw[List.length_take,List.length_drop,HBL.out];omega
   have HSK:∀A c W1 W2,Below w.1.size w W1→qf (fun b=>W1.1.size≤b∧b<W2.1.size) W2 A (aci ajn)→Below W1.1.size W1 W2→Hid (Calls prog 91 #[.slice A 7 c,.slice (some ⟨bb,o,none⟩) 12 c'] W2 (kz (xk ajn ((b.drop (8+12*k)).take 12)) W2)):=by
    have:=ah5 (w:=w) (fs:=ajn) (b:=(b.drop (8+12*k)).take 12) (X:=some ⟨bb,o,none⟩) (d:=c') aqi dc HFX.out om
    rwa [hcl]at this
   obtain⟨N,hN⟩:∃N,m-k=N+1:=⟨m-k-1,by omega⟩;have HN:=hid hN;have HNX:=hid (avz (c:=c') HF.out 12 (by rw[List.length_drop,HBL.out];omega) (by rw[List.length_drop,HBL.out];omega));rw[hN]at hL3 hc' ⊢;have HL3:=hid hL3;have HLR:=hid (And.intro hL1 (And.intro hL2 (And.intro hL4 hL5)));obtain⟨⟨E,v⟩,hr⟩:∃r,xk ajn ((b.drop (8+12*k)).take 12)=r:=⟨_,rfl⟩;have HR:=hid hr;have HVL:Hid (E=0→v.length=7):=hid (fun q=>by have:=abo (fs:=ajn) (b:=(b.drop (8+12*k)).take 12) (by rw[hr];exact q);rwa [hr]at this);rw[hr]at HSK;unfold kz at HSK;dsimp only at HSK;have i1:(0:Int)<((12*(N+1):Nat):Int):=by omega
   have i2:(12:Int) ≤(c':Int):=by omega
   have i3:(12:Int) ≤((12*(N+1):Nat):Int):=by omega
   have i4:12≤c':=by omega
   have i5:12≤12*(N+1):=by omega
   clear hr hN hL1 hL2 hL3 hL4 hL5 HL hcl HF HFX
   by_cases hE:E=0
   ·subst hE;have hv7:=HVL.out rfl
    obtain⟨x0,x1,x2,x3,x4,x5,x6,rfl⟩:∃x0 x1 x2 x3 x4 x5 x6,v=[x0,x1,x2,x3,x4,x5,x6]:=by
     rcases v with _|⟨x0,_|⟨x1,_|⟨x2,_|⟨x3,_|⟨x4,_|⟨x5,_|⟨x6,_|⟨z,_⟩⟩⟩⟩⟩⟩⟩⟩<;>first|exact⟨_,_,_,_,_,_,_,rfl⟩|(simp at hv7)
    clear hv7 HVL;go_upto_region 15 with fail
    try (apply wp_seq_k;intro K_ HK_)
    have hS0:Below wr.1.size wr wr.drew:=(Below.refl _ _).drew;refine wp_region_held_drew (S:=fun w'=>Below wr.1.size wr w') kr hS0 (fun hHeld0=>?_);refine tkA 1 55 rfl ?_
    try go_frame
    refine tkA 2 56 rfl ?_
    try go_frame
    refine rdB 0 54 rfl fun K hK=>?_
    go_step;refine(HSH _).out.mono ?_;rintro e w5 ⟨A,c,rfl,hf,hb⟩;have HT:=HSK _ c _ _ (HB.out.1.trans (hHeld0.mono HB.out.1.size)) hf hb;have HS5:Hid (Below wr.1.size wr w5):=hid (hHeld0.trans (hb.mono hHeld0.size));clear hf hb HSK
    try go_frame
    refine hK.out _ _ (HS5.out) (fun hHeld=>?_);clear hK K
    try go_frame
    refine rdB 3 57 rfl fun K hK=>?_
    go_step;refine HT.out.mono ?_;rintro e w6 ⟨A3,c3,rfl,hf,hb⟩;have HFL:=hid hf;have HS6:Hid (Below wr.1.size wr w6):=hid (HS5.out.trans (hb.mono HS5.out.size));clear hf hb HT HS5
    try go_frame
    refine hK.out _ _ (HS6.out) (fun hHeld=>?_);clear hK K
    try go_frame
    refine tkA 4 53 rfl ?_
    try go_frame
    refine tkA 5 58 rfl ?_
    try go_frame
    refine tkA 6 59 rfl ?_
    try go_frame
    refine tkA 7 9 rfl ?_
    try go_frame
    refine tkA 8 10 rfl ?_
    try go_frame
    refine wpAnyH_done kr ?_ _
    try go_frame
    have HK6:=hid (HK.out.on HS6.out);have HB6:=hid (qb HB.out.1 HS6.out);clear hHeld hHeld0 hS0;have HM6:=hid (HLR.out.2.2.1.on HS6.out);have HO6:=hid (ae4 HLR.out.2.2.2 HS6.out);have HSZ6:Hid (wc.1.size≤w6.1.size):=hid (Nat.le_trans HB.out.2 HS6.out.size);have HOF7:Hid (Calls prog 272 #[.slice A3 7 c3] w6.drew fun e w'=>e=.returned (.agg #[.int .i64 x0,.int .i64 x1,.int .i64 x2,.int .i64 x3,.int .i64 x4,.int .i64 x5,.int .i64 x6])∧Below w6.drew.1.size w6.drew w'):=HSO _ w6.drew A3 c3 [x0,x1,x2,x3,x4,x5,x6] (HFL.out.keep (w':=w6.drew) fun _ _=>rfl) rfl;have HL7:=hid (And.intro HLR.out.1 HLR.out.2.1);clear HFL HLR HS6 HK HB HSO HSH;go_upto_region 18 with fail
    try (apply wp_seq_k;intro K_ HK_)
    have hS0:True:=trivial;refine wp_region_held_drew (S:=fun _=>True) kr trivial (fun hHeld0=>?_);refine tkA 0 64 rfl ?_
    try go_frame
    refine tkA 2 66 rfl ?_
    try go_frame
    refine wpAnyH_ready (rs:=[1,3]) kr sm ?_;refine AllReadyH.cons (o:=⟨some 65,_,_,_,_,_⟩) rfl (fun K hK=>?_) (AllReadyH.cons (o:=⟨some 67,_,_,_,_,_⟩) rfl (fun K hK=>?_) AllReadyH.nil)
    ·rw[if_pos (by rfl)];have m1:w6.drew.cell? ⟨g,1,none⟩=some vL:=HM6.out.cell 1 rfl;go_step
     try go_frame
     refine hK.out _ _ trivial (fun hHeld=>?_);clear hK K m1
     try go_frame
     refine rdB 3 67 rfl fun K hK=>?_
     go_step;refine HOF7.out.mono ?_;rintro e w7 ⟨rfl,hb⟩;have HM7:=hid (HM6.out.drew.on hb);have HO7:=hid (ae4 (ae4 HO6.out ((Below.refl _ w6).drew)) hb);have HK7:=hid (HK6.out.drew.on hb);have HB7:Hid (Below w.1.size w w7):=hid (qb HB6.out.drew hb);have HSZ7:Hid (wc.1.size≤w7.1.size):=hid (Nat.le_trans HSZ6.out hb.size);clear hb
     try go_frame
     refine hK.out _ _ (trivial) (fun hHeld=>?_);clear hK K
     try go_frame
     refine rdB 4 68 rfl fun K hK=>?_
     go_step
     try go_frame
     refine hK.out _ _ trivial (fun hHeld=>?_);clear hK K
     try go_frame
     obtain⟨v',w9,hrun,ho,hb9⟩:=akm (P:=prog) (t:=27) (ty:=27) (ae4 HO7.out (qa w7 (.cells #[.int .i64 x0,.int .i64 x1,.int .i64 x2,.int .i64 x3,.int .i64 x4,.int .i64 x5,.int .i64 x6] 162))) (Nat.le_trans HSZ7.out (qa w7 _).size) HI.out underlying27 rfl dc (R:=fun _=>True) (some ⟨w7.1.size,0,none⟩) 1 1 (qp [x0,x1,x2,x3,x4,x5,x6]) rfl ((Blk.newL (qg w7 _ _) rfl).flat trivial) (als _) (by unfold maxLen;omega) om;obtain⟨A',cp,hv',-,-,-⟩:=zj ho;subst hv';have HRUN:=hid hrun;have HO9:=hid ho;have HM9:=hid ((HM7.out.on (qa w7 (.cells #[.int .i64 x0,.int .i64 x1,.int .i64 x2,.int .i64 x3,.int .i64 x4,.int .i64 x5,.int .i64 x6] 162))).below hb9 HG4.out.2);have HK9:=hid ((HK7.out.on (qa w7 (.cells #[.int .i64 x0,.int .i64 x1,.int .i64 x2,.int .i64 x3,.int .i64 x4,.int .i64 x5,.int .i64 x6] 162))).below hb9 (Nat.lt_trans HG4.out.1 HG4.out.2));have HB9:Hid (Below w.1.size w w9):=hid ((qb HB7.out (qa w7 (.cells #[.int .i64 x0,.int .i64 x1,.int .i64 x2,.int .i64 x3,.int .i64 x4,.int .i64 x5,.int .i64 x6] 162))).trans (hb9.mono (Nat.le_of_lt (Nat.lt_trans HG4.out.1 HG4.out.2))))
     have HSZ9:Hid (wc.1.size≤w9.1.size):=hid (Nat.le_trans HSZ7.out (Nat.le_trans (qa w7 (.cells #[.int .i64 x0,.int .i64 x1,.int .i64 x2,.int .i64 x3,.int .i64 x4,.int .i64 x5,.int .i64 x6] 162)).size hb9.size));clear hrun ho hb9 HM7 HO7 HK7 HB7 HSZ7;refine rdA 5 69 rfl fun K hK=>?_
     refine ace rfl (.tmp 65) (.tmp 68) 27 rfl vL (.slice (some ⟨w7.1.size,0,none⟩) 1 1) (.slice A' (k+1) cp) rfl rfl HRUN.out ?_
     try go_frame
     refine hK.out _ _ trivial (fun hHeld=>?_);clear hK K HRUN
     try go_frame
     refine tkA 6 70 rfl ?_
     try go_frame
     have m1:=HM9.out.cell 1 (v:=vL) rfl;have z1:=HM9.out.fz 1;refine wpAnyH_ready (rs:=[7]) kr sm ?_;refine AllReadyH.cons (o:=⟨none,_,_,_,_,_⟩) rfl (fun K hK=>?_) AllReadyH.nil;rw[if_pos (by rfl)];go_step
     try go_frame
     obtain⟨hm10,hs⟩:=HM9.out.set (o:=1) sm (.slice A' (k+1) cp);have HM10:Hid (Blk (w9.setCell ⟨g,1,none⟩ (.slice A' (k+1) cp)) g [.int .i64 t0,(.slice A' (k+1) cp)]):=hid hm10;have HO10:Hid ((w9.setCell ⟨g,1,none⟩ (.slice A' (k+1) cp)).ownsRow wc.1.size 162 7 (.slice A' (k+1) cp) (k+1) (afm (L++[[x0,x1,x2,x3,x4,x5,x6]]))):=hid (by rw[ajo];exact akn HO9.out HG4.out.2 (.slice A' (k+1) cp));have HK10:=hid (HK9.out.far hs (Nat.ne_of_lt HG4.out.1));have HB10:=hid (HB9.out.trans (hs.below (Nat.le_of_lt HG4.out.1)));have HSZ10:Hid (wc.1.size ≤(w9.setCell ⟨g,1,none⟩ (.slice A' (k+1) cp)).1.size):=hid (by rw[hs.sz];exact HSZ9.out);refine hK.out _ _ trivial (fun hHeld=>?_);clear hK K m1 z1 hm10 hs HM9 HO9 HK9 HB9 HSZ9
     try go_frame
     generalize w9.setCell ⟨g,1,none⟩ (.slice A' (k+1) cp)=w10 at *;refine wpAnyH_done kr ?_ _
     try go_frame
     have HLN:Hid (∃L' vL',L'.length=k+1 ∧(∀v∈L',v.length=7)∧afn L' (jj (m-(k+1)) (b.drop (8+12*(k+1))))=jj m (b.drop 8)∧Blk w10 g [.int .i64 t0,vL']∧w10.ownsRow wc.1.size 162 7 vL' (k+1) (afm L')):=hid ⟨L++[[x0,x1,x2,x3,x4,x5,x6]],(.slice A' (k+1) cp),by rw[List.length_append,HL7.out.1];rfl,(fun v hv=>by
      rcases List.mem_append.1 hv with q|q
      ·exact HL7.out.2 v q
      ·rw[List.mem_singleton.1 q];rfl),(by
      have e:=ajp L N (b.drop (8+12*k)) (by rw[HR.out]);rw[HR.out,HL3.out,List.drop_drop]at e;rw[show m-(k+1)=N from by have:=HN.out;omega,show 8+12*(k+1)=8+12*k+12 from by omega];exact e.symm),HM10.out,HO10.out⟩
     clear HM10 HO10 HL7 hHeld hHeld0 hS0;have HND:Hid (12*(N+1)-12=12*(m-(k+1))):=hid (by have:=HN.out;omega);have HDR:Hid ((b.drop (8+12*k)).drop 12=b.drop (8+12*(k+1))):=hid (by rw[List.drop_drop,show 8+12*k+12=8+12*(k+1)from by omega]);have hcc:12*(m-(k+1))≤c'-12:=by have:=HN.out;omega
     by_cases h12:c'=12
     ·have HF2:=hid (HNX.out o (.inr h12));rw[HDR.out]at HF2;subst h12;go_wp2_with fail
      go_roundg (m-(k+1))
      case measure=>omega
      case rel=>exact⟨k+1,by omega,by omega,o,0,by(rw[show 12*(m-(k+1))=0 from by omega]),hcc,HF2,HLN,HK10,HB10.out,HSZ10.out⟩
     ·have j1:¬(12:Int)=(c':Int):=by omega
      have j2:¬(12:Nat)=c':=by omega
      have HF2:=hid (HNX.out (o+12) (.inl rfl));rw[HDR.out]at HF2;go_wp2_with fail
      go_roundg (m-(k+1))
      case measure=>omega
      case rel=>exact⟨k+1,by omega,by omega,o+12,c'-12,by rw[← HND.out],hcc,HF2,HLN,HK10,HB10.out,HSZ10.out⟩
    ·rw[if_pos (by rfl)];go_step;refine HOF7.out.mono ?_;rintro e w7 ⟨rfl,hb⟩;have HM7:=hid (HM6.out.drew.on hb);have HO7:=hid (ae4 (ae4 HO6.out ((Below.refl _ w6).drew)) hb);have HK7:=hid (HK6.out.drew.on hb);have HB7:Hid (Below w.1.size w w7):=hid (qb HB6.out.drew hb);have HSZ7:Hid (wc.1.size≤w7.1.size):=hid (Nat.le_trans HSZ6.out hb.size);clear hb
     try go_frame
     refine hK.out _ _ trivial (fun hHeld=>?_);clear hK K
     try go_frame
     refine wpAnyH_ready (rs:=[1,4]) kr sm ?_;refine AllReadyH.cons (o:=⟨some 65,_,_,_,_,_⟩) rfl (fun K hK=>?_) (AllReadyH.cons (o:=⟨some 68,_,_,_,_,_⟩) rfl (fun K hK=>?_) AllReadyH.nil)
     ·rw[if_pos (by rfl)];have m1:w7.cell? ⟨g,1,none⟩=some vL:=HM7.out.cell 1 rfl;go_step
      try go_frame
      refine hK.out _ _ trivial (fun hHeld=>?_);clear hK K m1
      try go_frame
      refine rdB 4 68 rfl fun K hK=>?_
      go_step
      try go_frame
      refine hK.out _ _ trivial (fun hHeld=>?_);clear hK K
      try go_frame
      obtain⟨v',w9,hrun,ho,hb9⟩:=akm (P:=prog) (t:=27) (ty:=27) (ae4 HO7.out (qa w7 (.cells #[.int .i64 x0,.int .i64 x1,.int .i64 x2,.int .i64 x3,.int .i64 x4,.int .i64 x5,.int .i64 x6] 162))) (Nat.le_trans HSZ7.out (qa w7 _).size) HI.out underlying27 rfl dc (R:=fun _=>True) (some ⟨w7.1.size,0,none⟩) 1 1 (qp [x0,x1,x2,x3,x4,x5,x6]) rfl ((Blk.newL (qg w7 _ _) rfl).flat trivial) (als _) (by unfold maxLen;omega) om;obtain⟨A',cp,hv',-,-,-⟩:=zj ho;subst hv';have HRUN:=hid hrun;have HO9:=hid ho;have HM9:=hid ((HM7.out.on (qa w7 (.cells #[.int .i64 x0,.int .i64 x1,.int .i64 x2,.int .i64 x3,.int .i64 x4,.int .i64 x5,.int .i64 x6] 162))).below hb9 HG4.out.2);have HK9:=hid ((HK7.out.on (qa w7 (.cells #[.int .i64 x0,.int .i64 x1,.int .i64 x2,.int .i64 x3,.int .i64 x4,.int .i64 x5,.int .i64 x6] 162))).below hb9 (Nat.lt_trans HG4.out.1 HG4.out.2));have HB9:Hid (Below w.1.size w w9):=hid ((qb HB7.out (qa w7 (.cells #[.int .i64 x0,.int .i64 x1,.int .i64 x2,.int .i64 x3,.int .i64 x4,.int .i64 x5,.int .i64 x6] 162))).trans (hb9.mono (Nat.le_of_lt (Nat.lt_trans HG4.out.1 HG4.out.2))))
      have HSZ9:Hid (wc.1.size≤w9.1.size):=hid (Nat.le_trans HSZ7.out (Nat.le_trans (qa w7 (.cells #[.int .i64 x0,.int .i64 x1,.int .i64 x2,.int .i64 x3,.int .i64 x4,.int .i64 x5,.int .i64 x6] 162)).size hb9.size));clear hrun ho hb9 HM7 HO7 HK7 HB7 HSZ7;refine rdA 5 69 rfl fun K hK=>?_
      refine ace rfl (.tmp 65) (.tmp 68) 27 rfl vL (.slice (some ⟨w7.1.size,0,none⟩) 1 1) (.slice A' (k+1) cp) rfl rfl HRUN.out ?_
      try go_frame
      refine hK.out _ _ trivial (fun hHeld=>?_);clear hK K HRUN
      try go_frame
      refine tkA 6 70 rfl ?_
      try go_frame
      have m1:=HM9.out.cell 1 (v:=vL) rfl;have z1:=HM9.out.fz 1;refine wpAnyH_ready (rs:=[7]) kr sm ?_;refine AllReadyH.cons (o:=⟨none,_,_,_,_,_⟩) rfl (fun K hK=>?_) AllReadyH.nil;rw[if_pos (by rfl)];go_step
      try go_frame
      obtain⟨hm10,hs⟩:=HM9.out.set (o:=1) sm (.slice A' (k+1) cp);have HM10:Hid (Blk (w9.setCell ⟨g,1,none⟩ (.slice A' (k+1) cp)) g [.int .i64 t0,(.slice A' (k+1) cp)]):=hid hm10;have HO10:Hid ((w9.setCell ⟨g,1,none⟩ (.slice A' (k+1) cp)).ownsRow wc.1.size 162 7 (.slice A' (k+1) cp) (k+1) (afm (L++[[x0,x1,x2,x3,x4,x5,x6]]))):=hid (by rw[ajo];exact akn HO9.out HG4.out.2 (.slice A' (k+1) cp));have HK10:=hid (HK9.out.far hs (Nat.ne_of_lt HG4.out.1));have HB10:=hid (HB9.out.trans (hs.below (Nat.le_of_lt HG4.out.1)));have HSZ10:Hid (wc.1.size ≤(w9.setCell ⟨g,1,none⟩ (.slice A' (k+1) cp)).1.size):=hid (by rw[hs.sz];exact HSZ9.out);refine hK.out _ _ trivial (fun hHeld=>?_);clear hK K m1 z1 hm10 hs HM9 HO9 HK9 HB9 HSZ9
      try go_frame
      generalize w9.setCell ⟨g,1,none⟩ (.slice A' (k+1) cp)=w10 at *;refine wpAnyH_done kr ?_ _
      try go_frame
      have HLN:Hid (∃L' vL',L'.length=k+1 ∧(∀v∈L',v.length=7)∧afn L' (jj (m-(k+1)) (b.drop (8+12*(k+1))))=jj m (b.drop 8)∧Blk w10 g [.int .i64 t0,vL']∧w10.ownsRow wc.1.size 162 7 vL' (k+1) (afm L')):=hid ⟨L++[[x0,x1,x2,x3,x4,x5,x6]],(.slice A' (k+1) cp),by rw[List.length_append,HL7.out.1];rfl,(fun v hv=>by
       rcases List.mem_append.1 hv with q|q
       ·exact HL7.out.2 v q
       ·rw[List.mem_singleton.1 q];rfl),(by
       have e:=ajp L N (b.drop (8+12*k)) (by rw[HR.out]);rw[HR.out,HL3.out,List.drop_drop]at e;rw[show m-(k+1)=N from by have:=HN.out;omega,show 8+12*(k+1)=8+12*k+12 from by omega];exact e.symm),HM10.out,HO10.out⟩
      clear HM10 HO10 HL7 hHeld hHeld0 hS0;have HND:Hid (12*(N+1)-12=12*(m-(k+1))):=hid (by have:=HN.out;omega);have HDR:Hid ((b.drop (8+12*k)).drop 12=b.drop (8+12*(k+1))):=hid (by rw[List.drop_drop,show 8+12*k+12=8+12*(k+1)from by omega]);have hcc:12*(m-(k+1))≤c'-12:=by have:=HN.out;omega
      by_cases h12:c'=12
      ·have HF2:=hid (HNX.out o (.inr h12));rw[HDR.out]at HF2;subst h12;go_wp2_with fail
       go_roundg (m-(k+1))
       case measure=>omega
       case rel=>exact⟨k+1,by omega,by omega,o,0,by(rw[show 12*(m-(k+1))=0 from by omega]),hcc,HF2,HLN,HK10,HB10.out,HSZ10.out⟩
      ·have j1:¬(12:Int)=(c':Int):=by omega
       have j2:¬(12:Nat)=c':=by omega
       have HF2:=hid (HNX.out (o+12) (.inl rfl));rw[HDR.out]at HF2;go_wp2_with fail
       go_roundg (m-(k+1))
       case measure=>omega
       case rel=>exact⟨k+1,by omega,by omega,o+12,c'-12,by rw[← HND.out],hcc,HF2,HLN,HK10,HB10.out,HSZ10.out⟩
     ·rw[if_pos (by rfl)];go_step
      try go_frame
      refine hK.out _ _ trivial (fun hHeld=>?_);clear hK K
      try go_frame
      refine rdB 1 65 rfl fun K hK=>?_
      have m1:(w7.alloc (.cells #[.int .i64 x0,.int .i64 x1,.int .i64 x2,.int .i64 x3,.int .i64 x4,.int .i64 x5,.int .i64 x6] 162)).cell? ⟨g,1,none⟩=some vL:=(HM7.out.on (qa w7 _)).cell 1 rfl;go_step
      try go_frame
      refine hK.out _ _ trivial (fun hHeld=>?_);clear hK K m1
      try go_frame
      obtain⟨v',w9,hrun,ho,hb9⟩:=akm (P:=prog) (t:=27) (ty:=27) (ae4 HO7.out (qa w7 (.cells #[.int .i64 x0,.int .i64 x1,.int .i64 x2,.int .i64 x3,.int .i64 x4,.int .i64 x5,.int .i64 x6] 162))) (Nat.le_trans HSZ7.out (qa w7 _).size) HI.out underlying27 rfl dc (R:=fun _=>True) (some ⟨w7.1.size,0,none⟩) 1 1 (qp [x0,x1,x2,x3,x4,x5,x6]) rfl ((Blk.newL (qg w7 _ _) rfl).flat trivial) (als _) (by unfold maxLen;omega) om;obtain⟨A',cp,hv',-,-,-⟩:=zj ho;subst hv';have HRUN:=hid hrun;have HO9:=hid ho;have HM9:=hid ((HM7.out.on (qa w7 (.cells #[.int .i64 x0,.int .i64 x1,.int .i64 x2,.int .i64 x3,.int .i64 x4,.int .i64 x5,.int .i64 x6] 162))).below hb9 HG4.out.2);have HK9:=hid ((HK7.out.on (qa w7 (.cells #[.int .i64 x0,.int .i64 x1,.int .i64 x2,.int .i64 x3,.int .i64 x4,.int .i64 x5,.int .i64 x6] 162))).below hb9 (Nat.lt_trans HG4.out.1 HG4.out.2));have HB9:Hid (Below w.1.size w w9):=hid ((qb HB7.out (qa w7 (.cells #[.int .i64 x0,.int .i64 x1,.int .i64 x2,.int .i64 x3,.int .i64 x4,.int .i64 x5,.int .i64 x6] 162))).trans (hb9.mono (Nat.le_of_lt (Nat.lt_trans HG4.out.1 HG4.out.2))))
      have HSZ9:Hid (wc.1.size≤w9.1.size):=hid (Nat.le_trans HSZ7.out (Nat.le_trans (qa w7 (.cells #[.int .i64 x0,.int .i64 x1,.int .i64 x2,.int .i64 x3,.int .i64 x4,.int .i64 x5,.int .i64 x6] 162)).size hb9.size));clear hrun ho hb9 HM7 HO7 HK7 HB7 HSZ7;refine rdA 5 69 rfl fun K hK=>?_
      refine ace rfl (.tmp 65) (.tmp 68) 27 rfl vL (.slice (some ⟨w7.1.size,0,none⟩) 1 1) (.slice A' (k+1) cp) rfl rfl HRUN.out ?_
      try go_frame
      refine hK.out _ _ trivial (fun hHeld=>?_);clear hK K HRUN
      try go_frame
      refine tkA 6 70 rfl ?_
      try go_frame
      have m1:=HM9.out.cell 1 (v:=vL) rfl;have z1:=HM9.out.fz 1;refine wpAnyH_ready (rs:=[7]) kr sm ?_;refine AllReadyH.cons (o:=⟨none,_,_,_,_,_⟩) rfl (fun K hK=>?_) AllReadyH.nil;rw[if_pos (by rfl)];go_step
      try go_frame
      obtain⟨hm10,hs⟩:=HM9.out.set (o:=1) sm (.slice A' (k+1) cp);have HM10:Hid (Blk (w9.setCell ⟨g,1,none⟩ (.slice A' (k+1) cp)) g [.int .i64 t0,(.slice A' (k+1) cp)]):=hid hm10;have HO10:Hid ((w9.setCell ⟨g,1,none⟩ (.slice A' (k+1) cp)).ownsRow wc.1.size 162 7 (.slice A' (k+1) cp) (k+1) (afm (L++[[x0,x1,x2,x3,x4,x5,x6]]))):=hid (by rw[ajo];exact akn HO9.out HG4.out.2 (.slice A' (k+1) cp));have HK10:=hid (HK9.out.far hs (Nat.ne_of_lt HG4.out.1));have HB10:=hid (HB9.out.trans (hs.below (Nat.le_of_lt HG4.out.1)));have HSZ10:Hid (wc.1.size ≤(w9.setCell ⟨g,1,none⟩ (.slice A' (k+1) cp)).1.size):=hid (by rw[hs.sz];exact HSZ9.out);refine hK.out _ _ trivial (fun hHeld=>?_);clear hK K m1 z1 hm10 hs HM9 HO9 HK9 HB9 HSZ9
      try go_frame
      generalize w9.setCell ⟨g,1,none⟩ (.slice A' (k+1) cp)=w10 at *;refine wpAnyH_done kr ?_ _
      try go_frame
      have HLN:Hid (∃L' vL',L'.length=k+1 ∧(∀v∈L',v.length=7)∧afn L' (jj (m-(k+1)) (b.drop (8+12*(k+1))))=jj m (b.drop 8)∧Blk w10 g [.int .i64 t0,vL']∧w10.ownsRow wc.1.size 162 7 vL' (k+1) (afm L')):=hid ⟨L++[[x0,x1,x2,x3,x4,x5,x6]],(.slice A' (k+1) cp),by rw[List.length_append,HL7.out.1];rfl,(fun v hv=>by
       rcases List.mem_append.1 hv with q|q
       ·exact HL7.out.2 v q
       ·rw[List.mem_singleton.1 q];rfl),(by
       have e:=ajp L N (b.drop (8+12*k)) (by rw[HR.out]);rw[HR.out,HL3.out,List.drop_drop]at e;rw[show m-(k+1)=N from by have:=HN.out;omega,show 8+12*(k+1)=8+12*k+12 from by omega];exact e.symm),HM10.out,HO10.out⟩
      clear HM10 HO10 HL7 hHeld hHeld0 hS0;have HND:Hid (12*(N+1)-12=12*(m-(k+1))):=hid (by have:=HN.out;omega);have HDR:Hid ((b.drop (8+12*k)).drop 12=b.drop (8+12*(k+1))):=hid (by rw[List.drop_drop,show 8+12*k+12=8+12*(k+1)from by omega]);have hcc:12*(m-(k+1))≤c'-12:=by have:=HN.out;omega
      by_cases h12:c'=12
      ·have HF2:=hid (HNX.out o (.inr h12));rw[HDR.out]at HF2;subst h12;go_wp2_with fail
       go_roundg (m-(k+1))
       case measure=>omega
       case rel=>exact⟨k+1,by omega,by omega,o,0,by(rw[show 12*(m-(k+1))=0 from by omega]),hcc,HF2,HLN,HK10,HB10.out,HSZ10.out⟩
      ·have j1:¬(12:Int)=(c':Int):=by omega
       have j2:¬(12:Nat)=c':=by omega
       have HF2:=hid (HNX.out (o+12) (.inl rfl));rw[HDR.out]at HF2;go_wp2_with fail
       go_roundg (m-(k+1))
       case measure=>omega
       case rel=>exact⟨k+1,by omega,by omega,o+12,c'-12,by rw[← HND.out],hcc,HF2,HLN,HK10,HB10.out,HSZ10.out⟩
   ·have hE2:(E != 0)=true:=by rw[bne_iff_ne];exact hE
    have hE3:(E==0)=false:=by rw[beq_eq_false_iff_ne];exact hE
    have HXF:Hid (jj m (b.drop 8)=(E,[])):=hid (by rw[← HL3.out,a49 _ _ _ (by rw[HR.out];exact hE),HR.out]);have hre:=HRE2.out;rw[HXF.out,if_neg hE]at hre;subst hre;clear hE HVL HNX;go_upto_region 15 with fail
    try (apply wp_seq_k;intro K_ HK_)
    have hS0:Below wr.1.size wr wr.drew:=(Below.refl _ _).drew;refine wp_region_held_drew (S:=fun w'=>Below wr.1.size wr w') kr hS0 (fun hHeld0=>?_);refine tkA 1 55 rfl ?_
    try go_frame
    refine tkA 2 56 rfl ?_
    try go_frame
    refine rdB 0 54 rfl fun K hK=>?_
    go_step;refine(HSH _).out.mono ?_;rintro e w5 ⟨A,c,rfl,hf,hb⟩;have HT:=HSK _ c _ _ (HB.out.1.trans (hHeld0.mono HB.out.1.size)) hf hb;have HS5:Hid (Below wr.1.size wr w5):=hid (hHeld0.trans (hb.mono hHeld0.size));clear hf hb HSK
    try go_frame
    refine hK.out _ _ (HS5.out) (fun hHeld=>?_);clear hK K
    try go_frame
    refine rdB 3 57 rfl fun K hK=>?_
    go_step;refine HT.out.mono ?_;rintro e w6 ⟨A3,c3,rfl,hf,hb⟩;have HFL:=hid hf;have HS6:Hid (Below wr.1.size wr w6):=hid (HS5.out.trans (hb.mono HS5.out.size));clear hf hb HT HS5
    try go_frame
    refine hK.out _ _ (HS6.out) (fun hHeld=>?_);clear hK K
    try go_frame
    refine tkA 4 53 rfl ?_
    try go_frame
    refine tkA 5 58 rfl ?_
    try go_frame
    refine tkA 6 59 rfl ?_
    try go_frame
    refine tkA 7 9 rfl ?_
    try go_frame
    refine tkA 8 10 rfl ?_
    try go_frame
    refine wpAnyH_done kr ?_ _
    try go_frame
    have HK6:=hid (HK.out.on HS6.out);have HB6:=hid (qb HB.out.1 HS6.out);clear hHeld hHeld0 hS0;have g0:=HK6.out.cell 0 (v:=.int .i64 0) rfl;have g1:=HK6.out.cell 1 (v:=.slice none 0 0) rfl;have z0:=HK6.out.fz 0;have z1:=HK6.out.fz 1;go_wp2_with fail;obtain⟨r1,r2,-⟩:=ahh HK6.out (.int .i64 0) (.slice none 0 0) HB6.out;exact bodyPost_ret (v:=.tuple #[.agg #[.int .i64 0,.slice none 0 0],.int .i64 E]) (by rw[zh rfl];simp[asAddr,Result.andThen];rw[r1]) rfl ⟨none,0,rfl,qf.nil _ _ _,r2⟩
  ·obtain rfl:k=m:=by omega
   rw[Nat.sub_self]at hL3 ⊢;have hs0:afn L (jj 0 (b.drop (8+12*k)))=(0,L):=by unfold afn jj;rw[if_pos rfl,List.append_nil]
   rw[hs0]at hL3;have hre:=HRE2.out;rw[← hL3,if_pos rfl]at hre;subst hre;obtain⟨A,c,rfl,-,hfl,-⟩:=zj hL5;have HFL:=hid (And.intro hL1 hfl);have HM5:=hid hL4;have m0:=hL4.cell 0 (v:=.int .i64 t0) rfl;have m1:=hL4.cell 1 (v:=.slice A k c) rfl;clear hL1 hL2 hL3 hL4 hL5 hfl hs0 HL HF;have g0:=HK.out.cell 0 (v:=.int .i64 0) rfl;have g1:=HK.out.cell 1 (v:=.slice none 0 0) rfl;have z0:=HK.out.fz 0;have z1:=HK.out.fz 1;go_wp2_with fail;obtain⟨r1,r2,r3⟩:=ahh HK.out (.int .i64 t0) (.slice A k c) HB.out.1;refine bodyPost_ret (v:=.tuple #[.agg #[.int .i64 t0,.slice A k c],.int .i64 0]) (by rw[zh rfl];simp[asAddr,Result.andThen];rw[r1]) rfl ⟨A,c,by rw[HFL.out.1],?_,r2⟩;refine(HFL.out.2.keep fun j hj=>r3 j (fun e=>?_)).less fun j hj=>⟨?_,by simpa using hj.2⟩
   ·have:=HG4.out;omega
   ·have:=HG4.out;omega
def kj:Nat→List UInt8→Int×List (Nat×Nat)
 | 0,b=>if b=[]then(0,[])else(7,[])
 | k+1,b=>if b=[]then(0,[])else if b.length<4 then(2,[])else
  if(ji (jd (b.take 4))).2=0 then(6,[])else if(b.drop 4).length<(ji (jd (b.take 4))).2 then(2,[])else
   if 2^(ji (jd (b.take 4))).1-1<jd ((b.drop 4).take (ji (jd (b.take 4))).2)then(5,[])else
    if(kj k ((b.drop 4).drop (ji (jd (b.take 4))).2)).1=0 then(0,(jd (b.take 4),jd ((b.drop 4).take (ji (jd (b.take 4))).2))::(kj k ((b.drop 4).drop (ji (jd (b.take 4))).2)).2)else((kj k ((b.drop 4).drop (ji (jd (b.take 4))).2)).1,[])
theorem be8:∀(k:Nat) (b:List UInt8),(kj k b).1≠0 →(kj k b).2=[]
 | 0,b,h=>by unfold kj at *;split<;>rfl
 | k+1,b,h=>by
  unfold kj at *
  by_cases h0:b=[]
  ·rw[if_pos h0]
  rw[if_neg h0]at h ⊢
  by_cases h1:b.length<4
  ·rw[if_pos h1]
  rw[if_neg h1]at h ⊢
  by_cases h2:(ji (jd (b.take 4))).2=0
  ·rw[if_pos h2]
  rw[if_neg h2]at h ⊢
  by_cases h3:(b.drop 4).length<(ji (jd (b.take 4))).2
  ·rw[if_pos h3]
  rw[if_neg h3]at h ⊢
  by_cases h4:2^(ji (jd (b.take 4))).1-1<jd ((b.drop 4).take (ji (jd (b.take 4))).2)
  ·rw[if_pos h4]
  rw[if_neg h4]at h ⊢
  by_cases h5:(kj k ((b.drop 4).drop (ji (jd (b.take 4))).2)).1=0
  ·rw[if_pos h5]at h;exact absurd rfl h
  ·rw[if_neg h5]
def ase (L:List (Nat×Nat)) (r:Int×List (Nat×Nat)):Int×List (Nat×Nat):=if r.1=0 then(0,L++r.2)else(r.1,[])
theorem bao (k:Nat) (b:List UInt8):ase [] (kj k b)=kj k b:=by
 unfold ase
 split
 ·rename_i h;rw[List.nil_append,← h]
 ·rename_i h;rw[← be8 k b h]
theorem ban (L:List (Nat×Nat)) (k:Nat) (b:List UInt8) (h0:b≠[]) (h4:¬b.length<4) (hn:(ji (jd (b.take 4))).2≠0) (hl:¬(b.drop 4).length<(ji (jd (b.take 4))).2) (hv:¬2^(ji (jd (b.take 4))).1-1<jd ((b.drop 4).take (ji (jd (b.take 4))).2)) :
 ase L (kj (k+1) b)=ase (L++[(jd (b.take 4),jd ((b.drop 4).take (ji (jd (b.take 4))).2))]) (kj k ((b.drop 4).drop (ji (jd (b.take 4))).2)):=by
 unfold ase
 conv=>lhs;unfold kj
 rw[if_neg h0,if_neg h4,if_neg hn,if_neg hl,if_neg hv]
 by_cases h2:(kj k ((b.drop 4).drop (ji (jd (b.take 4))).2)).1=0
 ·rw[if_pos h2,if_pos rfl,if_pos h2];simp
 ·rw[if_neg h2,if_neg h2,if_neg h2]
theorem ahk (L:List (Nat×Nat)) (r:Int×List (Nat×Nat)) (h:r.1≠0) (h2:r.2=[]):ase L r=r:=by
 unfold ase;rw[if_neg h,← h2]
def afu (b:List UInt8):Int×Int×List (Nat×Nat):=
 if b.length<4 then(2,0,[])else if(xk aim (b.take 4)).1=0 then
  if(kj 32 (b.drop 4)).1=0 then(0,(xk aim (b.take 4)).2.getD 1 0,(kj 32 (b.drop 4)).2)else((kj 32 (b.drop 4)).1,0,[])
  else((xk aim (b.take 4)).1,0,[])
def ae5 (L:List (Nat×Nat)):List Value:=L.flatMap fun p=>[.int .i64 p.1,.int .i64 p.2]
theorem az3 (L:List (Nat×Nat)) (p:Nat×Nat):ae5 (L++[p])=ae5 L++[.int .i64 p.1,.int .i64 p.2]:=by simp[ae5]
def aud (x:Int×Int×List (Nat×Nat)) (w:World) (e:Ending) (w':World):Prop:=
 ∃A c,e=.returned (.tuple #[.agg #[.int .i64 x.2.1,.slice A x.2.2.length c],.int .i64 x.1])∧qf (fun b=>w.1.size≤b∧b<w'.1.size) w' A (ae5 x.2.2)∧Below w.1.size w w'
theorem bew:(prog.info? 164).map (fun i=>(i.zero,i.size,i.bytes))=some (some (.agg #[.int .i64 0,.int .i64 0]),2,16):=by kernel_rfl
theorem agp {w1 w:World} {b:Nat} {x y:Value} (hk:Blk w1 b [x,y]) (p q:Value) (hb:Below b w w1) :
 (loadVar 36 ⟨b,0,none⟩).run prog ((w1.setCell ⟨b,0,none⟩ p).setCell ⟨b,1,none⟩ q)=.ok (.agg #[p,q]) ((w1.setCell ⟨b,0,none⟩ p).setCell ⟨b,1,none⟩ q)∧Below b w ((w1.setCell ⟨b,0,none⟩ p).setCell ⟨b,1,none⟩ q)∧∀k,k≠b →((w1.setCell ⟨b,0,none⟩ p).setCell ⟨b,1,none⟩ q).heap[k]?=w1.heap[k]?:=by
 have hs:qz w1 ((w1.setCell ⟨b,0,none⟩ p).setCell ⟨b,1,none⟩ q) b 0 [p,q]:=qm (cs:=[p,q]) (hk.there 0 2 (Nat.le_refl _));exact⟨run_loadVar_mid (P:=prog) _ b 0 36 [p,q] _ (hk.all hs rfl).rg underlying36 rfl kr,hb.trans (hs.below (Nat.le_refl _)),hs.far⟩
theorem be9 (k:Nat):kj k []=(0,[]):=by cases k<;>simp[kj]
structure VB (w:World) (B lo a g:Nat) (t0:Int) (vL:Value) (k:Nat) (L:List (Nat×Nat)) (W:World) (s:Option (List UInt8)):Prop where
 m:Blk W g [.int .i64 t0,vL]
 own:W.ownsRow B 164 2 vL k (ae5 L)
 rd:RdI (fun j=>lo≤j∧j<B) W a s
 res:Blk W w.1.size [.int .i64 0,.slice none 0 0]
 bel:Below w.1.size w W
 sz:B≤W.1.size
theorem VB.on {w:World} {B lo a g:Nat} {t0:Int} {vL:Value} {k:Nat} {L:List (Nat×Nat)} {W W':World} {s:Option (List UInt8)} (h:VB w B lo a g t0 vL k L W s) (hb:Below W.1.size W W'):VB w B lo a g t0 vL k L W' s:=
 ⟨h.m.on hb,ae4 h.own hb,h.rd.below hb (fun j q=>Nat.lt_of_lt_of_le q.2 h.sz),h.res.on hb,qb h.bel hb,Nat.le_trans h.sz hb.size⟩
theorem VB.kept {w:World} {B lo a g:Nat} {t0:Int} {vL:Value} {k:Nat} {L:List (Nat×Nat)} {W W':World} {s s':Option (List UInt8)} (h:VB w B lo a g t0 vL k L W s) (hd:w.1.size<g∧g<lo∧lo≤a∧a<B) (hk:qn (fun j=>j≠a) W W') (hr:RdI (fun j=>lo≤j∧j<B) W' a s'):VB w B lo a g t0 vL k L W' s':=by
 refine⟨h.m.kept (hk.block g om) hk.size,⟨h.own.1,?_⟩,hr,h.res.kept (hk.block _ om) hk.size,h.bel.trans (hk.below (fun j hj=>by omega)),Nat.le_trans h.sz hk.size⟩;rcases h.own.2 with q|⟨g',cap,cur,h1,h2,h3,h4⟩
 ·exact .inl q
 ·exact .inr ⟨g',cap,cur,h1,h2,by rw[hk.block g' om];exact h3,h4⟩
theorem a2a {Q0:Nat→Prop} {w:World} (X:Option Addr) (d:Nat) (b:List UInt8) (hB:qf Q0 w X (bsV b)) (hm:b.length≤1000000) (hd:b.length≤d) :
 Calls prog 289 #[.slice X b.length d] w (aud (afu b) w):=by
 have HK0:∀W,Below (w.alloc (.cells #[.int .i64 0,.slice none 0 0] 36)).1.size (w.alloc (.cells #[.int .i64 0,.slice none 0 0] 36)) W→Hid (Blk W w.1.size [.int .i64 0,.slice none 0 0]):=fun W hW=>hid ((Blk.newL (qg w _ _) rfl).on hW)
 by_cases h8:b.length<4
 ·have e:afu b=(2,0,[]):=by unfold afu;rw[if_pos h8]
  rw[e];have f1:(b.length:Int)<4:=by omega
  have HK1:=HK0 _ (Below.refl _ _);generalize b.length=L at *;clear hB e;have g0:=HK1.out.cell 0 (v:=.int .i64 0) rfl;have g1:=HK1.out.cell 1 (v:=.slice none 0 0) rfl;have z0:=HK1.out.fz 0;have z1:=HK1.out.fz 1;go_enter func289,ntmps289;go_wp2_with fail;refine wp_scope_straight (wp_mono ?_ (fun e a w h=>by cases e<;>first|exact h|exact h.elim));go_wp2_with fail;have HLD:=hid (run_loadVar_mid (P:=prog) _ w.1.size 0 36 [.int .i64 0,.slice none 0 0] _ HK1.out.rg underlying36 rfl kr);exact bodyPost_ret (v:=.tuple #[.agg #[.int .i64 0,.slice none 0 0],.int .i64 2]) (by rw[zh rfl];simp[asAddr,Result.andThen];rw[HLD.out]) rfl ⟨none,0,rfl,qf.nil _ _ _,qa _ _⟩
 obtain⟨bb,off,rfl,-,-⟩:=hB 0 (bV (b[0]'(by omega))) (yk om);have h8l:(b.take 4).length=4:=by rw[List.length_take];omega
 have HH:=fun W=>hid (axc W)
 have HS:∀A c W1 W2,Below w.1.size w W1→qf (fun b=>W1.1.size≤b∧b<W2.1.size) W2 A (aci aim)→Below W1.1.size W1 W2→Hid (Calls prog 91 #[.slice A aim.length c,.slice (some ⟨bb,off,none⟩) 4 d] W2 (kz (xk aim (b.take 4)) W2)):=by
  have:=ah5 (Q0:=Q0) (w:=w) (fs:=aim) (b:=b.take 4) (X:=some ⟨bb,off,none⟩) (d:=d) a6n dc (by have:=hB.first 4;rwa [ab8]at this) om
  rwa [h8l]at this
 have HLN:Hid ((xk aim (b.take 4)).1=0 →(xk aim (b.take 4)).2.length=3):=hid (fun h=>abo h)
 have hT:afu b=if(xk aim (b.take 4)).1=0 then
  if(kj 32 (b.drop 4)).1=0 then(0,(xk aim (b.take 4)).2.getD 1 0,(kj 32 (b.drop 4)).2)else((kj 32 (b.drop 4)).1,0,[])
  else((xk aim (b.take 4)).1,0,[]):=by unfold afu;rw[if_neg h8]
 rw[hT];clear hT h8l;obtain⟨⟨E,v⟩,hr⟩:∃r,xk aim (b.take 4)=r:=⟨_,rfl⟩;rw[hr]at HS HLN ⊢;unfold ac6 at HH;rw[show aim.length=3 from rfl]at *;unfold kz at HS;dsimp only at *;have HBF:=hid hB.lt;have f8:(4:Int) ≤(b.length:Int):=by omega
 have f8d:(4:Int) ≤(d:Int):=by omega
 have f80:¬(b.length:Int)<4:=by omega
 clear hr hB
 by_cases hE:E=0
 rotate_left
 ·have hE2:(E != 0)=true:=by rw[bne_iff_ne];exact hE
  have hE3:(E==0)=false:=by rw[beq_eq_false_iff_ne];exact hE
  rw[if_neg hE];clear hE HLN;go_enter func289,ntmps289;go_wp2_with fail;refine wp_scope_straight (wp_mono ?_ (fun e a w h=>by cases e<;>first|exact h|exact h.elim));go_upto_region 3 with fail;have HK1:=HK0 _ (Below.refl _ _);have HB1:Hid (Below w.1.size w (w.alloc (.cells #[.int .i64 0,.slice none 0 0] 36))):=hid (qa _ _);clear HK0;generalize w.alloc (.cells #[.int .i64 0,.slice none 0 0] 36)=W1 at *
  try (apply wp_seq_k;intro K_ HK_)
  have hS0:Below W1.1.size W1 W1.drew:=(Below.refl _ _).drew;refine wp_region_held_drew (S:=fun w'=>Below W1.1.size W1 w') kr hS0 (fun hHeld0=>?_);refine tkA 1 18 rfl ?_
  try go_frame
  refine tkA 2 19 rfl ?_
  try go_frame
  refine rdB 0 17 rfl fun K hK=>?_
  go_step;refine(HH _).out.mono ?_;rintro e w2 ⟨A,c,rfl,hf,hb⟩;have HT:=HS _ c _ _ (hHeld0.mono HB1.out.size |> fun q=>HB1.out.trans q) hf hb;have HS2:Hid (Below W1.1.size W1 w2):=hid (hHeld0.trans (hb.mono hHeld0.size));clear hf hb HS
  try go_frame
  refine hK.out _ _ (HS2.out) (fun hHeld=>?_);clear hK K
  try go_frame
  refine rdB 3 20 rfl fun K hK=>?_
  go_step;refine HT.out.mono ?_;rintro e w3 ⟨A3,c3,rfl,hf,hb⟩;have HFL:=hid hf;have HS3:Hid (Below W1.1.size W1 w3):=hid (HS2.out.trans (hb.mono HS2.out.size));clear hf hb HT HS2
  try go_frame
  refine hK.out _ _ (HS3.out) (fun hHeld=>?_);clear hK K
  try go_frame
  refine tkA 4 16 rfl ?_
  try go_frame
  refine tkA 5 21 rfl ?_
  try go_frame
  refine tkA 6 22 rfl ?_
  try go_frame
  refine tkA 7 4 rfl ?_
  try go_frame
  refine tkA 8 5 rfl ?_
  try go_frame
  refine wpAnyH_done kr ?_ _
  try go_frame
  have HK3:=hid (HK1.out.on HS3.out);have HB3:=hid (qb HB1.out HS3.out);clear hHeld hHeld0 hS0 HK1 HB1 HS3;have g0:=HK3.out.cell 0 (v:=.int .i64 0) rfl;have g1:=HK3.out.cell 1 (v:=.slice none 0 0) rfl;have z0:=HK3.out.fz 0;have z1:=HK3.out.fz 1;go_wp2_with fail;obtain⟨r1,r2,-⟩:=agp HK3.out (.int .i64 0) (.slice none 0 0) HB3.out;exact bodyPost_ret (v:=.tuple #[.agg #[.int .i64 0,.slice none 0 0],.int .i64 E]) (by rw[zh rfl];simp[asAddr,Result.andThen];rw[r1]) rfl ⟨none,0,rfl,qf.nil _ _ _,r2⟩
 subst hE;rw[if_pos rfl];have hvl:=HLN.out rfl;simp only[hvl]at HS;clear HLN
 obtain⟨y0,t0,y2,rfl⟩:∃y0 t0 y2,v=[y0,t0,y2]:=by
  rcases v with _|⟨x0,_|⟨x1,_|⟨x2,_|⟨z,_⟩⟩⟩⟩<;>first|exact⟨_,_,_,rfl⟩|(simp at hvl)
 clear hvl;obtain⟨res,hres⟩:∃res,(if(kj 32 (b.drop 4)).1=0 then((0:Int),t0,(kj 32 (b.drop 4)).2)else((kj 32 (b.drop 4)).1,0,[]))=res:=⟨_,rfl⟩;show Calls prog _ _ w (aud (if(kj 32 (b.drop 4)).1=0 then((0:Int),t0,(kj 32 (b.drop 4)).2)else((kj 32 (b.drop 4)).1,0,[])) w);rw[hres];have HRES:=hid hres;clear hres;go_enter func289,ntmps289;go_wp2_with fail;refine wp_scope_straight (wp_mono ?_ (fun e a w h=>by cases e<;>first|exact h|exact h.elim));go_upto_region 3 with fail;have HK1:=HK0 _ (Below.refl _ _);have HB1:Hid (Below w.1.size w (w.alloc (.cells #[.int .i64 0,.slice none 0 0] 36))):=hid (qa _ _);clear HK0;generalize w.alloc (.cells #[.int .i64 0,.slice none 0 0] 36)=W1 at *
 try (apply wp_seq_k;intro K_ HK_)
 have hS0:Below W1.1.size W1 W1.drew:=(Below.refl _ _).drew;refine wp_region_held_drew (S:=fun w'=>Below W1.1.size W1 w') kr hS0 (fun hHeld0=>?_);refine tkA 1 18 rfl ?_
 try go_frame
 refine tkA 2 19 rfl ?_
 try go_frame
 refine rdB 0 17 rfl fun K hK=>?_
 go_step;refine(HH _).out.mono ?_;rintro e w2 ⟨A,c,rfl,hf,hb⟩;have HT:=HS _ c _ _ (hHeld0.mono HB1.out.size |> fun q=>HB1.out.trans q) hf hb;have HS2:Hid (Below W1.1.size W1 w2):=hid (hHeld0.trans (hb.mono hHeld0.size));clear hf hb HS
 try go_frame
 refine hK.out _ _ (HS2.out) (fun hHeld=>?_);clear hK K
 try go_frame
 refine rdB 3 20 rfl fun K hK=>?_
 go_step;refine HT.out.mono ?_;rintro e w3 ⟨A3,c3,rfl,hf,hb⟩;have HFL:=hid hf;have HS3:Hid (Below W1.1.size W1 w3):=hid (HS2.out.trans (hb.mono HS2.out.size));clear hf hb HT HS2
 try go_frame
 refine hK.out _ _ (HS3.out) (fun hHeld=>?_);clear hK K
 try go_frame
 refine tkA 4 16 rfl ?_
 try go_frame
 refine tkA 5 21 rfl ?_
 try go_frame
 refine tkA 6 22 rfl ?_
 try go_frame
 refine tkA 7 4 rfl ?_
 try go_frame
 refine tkA 8 5 rfl ?_
 try go_frame
 refine wpAnyH_done kr ?_ _
 try go_frame
 have HK3:=hid (HK1.out.on HS3.out);have HB3:=hid (qb HB1.out HS3.out);clear hHeld hHeld0 hS0 HK1 HB1 HS3;obtain⟨ab,ao,rfl,-,hablt,hcell⟩:=afi HFL.out sm;have c1:w3.cell? ⟨ab,ao+1,none⟩=some (.int .i64 t0):=hcell 1 sm;clear hcell HFL;go_upto_region 7 with fail;have HM4:Hid (Blk (w3.alloc (.cells #[.int .i64 t0,.slice none 0 0] 36)) w3.1.size [.int .i64 t0,.slice none 0 0]):=hid (Blk.newL (qg _ _ _) rfl);have HK4:Hid (Blk (w3.alloc (.cells #[.int .i64 t0,.slice none 0 0] 36)) w.1.size [.int .i64 0,.slice none 0 0]):=hid (HK3.out.on (qa _ _));have HB4:Hid (Below w.1.size w (w3.alloc (.cells #[.int .i64 t0,.slice none 0 0] 36))):=hid (qb HB3.out (qa _ _));have hgl:w.1.size<w3.1.size:=HK3.out.lt;clear c1 hablt HK3 HB3;generalize w3.alloc (.cells #[.int .i64 t0,.slice none 0 0] 36)=W4 at *;generalize w3.1.size=g at *;have hRl:(b.drop 4).length=b.length-4:=List.length_drop ..
 have HNW:∀o',(o'=off+4∨d=4)→Hid (Calls prog 74 #[.slice (some ⟨bb,o',none⟩) (b.length-4) (d-4)] W4 fun e w'=>∃g,e=.returned (.pointer (some ⟨g,0,none⟩))∧RdI (fun b=>W4.1.size≤b∧b<w'.1.size) w' g (some (b.drop 4))∧Below W4.1.size W4 w'):=fun o' ho=>hid (by
  have h1:=avz (c:=d) HBF.out 4 om hd o' ho;have:=aji (some ⟨bb,o',none⟩) (b.drop 4) (d-4) W4 (h1.below HB4.out (fun b q=>q.2)) (by rw[hRl];omega)
  rwa [hRl]at this)
 go_cut [7] (fun s wx=>∃a,s=.pointer (some ⟨a,0,none⟩)∧Hid (RdI (fun j=>W4.1.size≤j∧j<wx.1.size) wx a (some (b.drop 4))∧Below W4.1.size W4 wx))
 case first=>
  by_cases hd8:d=4
  ·have HNX:=HNW off (.inr hd8);rw[show b.length-4=0 from by omega,show d-4=0 from by omega]at HNX;subst hd8;go_wp2_with fail;refine HNX.out.mono ?_;rintro e w5 ⟨a,rfl,hr,hb⟩;have HR5:=hid (And.intro hr hb);clear hr hb;go_wp2_with fail
   go_meet
   exact⟨a,rfl,HR5⟩
  ·have HNX:=HNW (off+4) (.inl rfl);have f1:¬(4:Int)=(d:Int):=by omega
   have f2:¬(4:Nat)=d:=by omega
   go_wp2_with fail;refine HNX.out.mono ?_;rintro e w5 ⟨a,rfl,hr,hb⟩;have HR5:=hid (And.intro hr hb);clear hr hb;go_wp2_with fail
   go_meet
   exact⟨a,rfl,HR5⟩
 case rest=>
 obtain⟨a,rfl,HRC⟩:=hcut;have HM5:=hid (HM4.out.on HRC.out.2);have HK5:=hid (HK4.out.on HRC.out.2);have HB5:=hid (qb HB4.out HRC.out.2);have HG5:Hid (w.1.size<g∧g<W4.1.size∧W4.1.size≤a∧a<wc.1.size):=hid ⟨hgl,HM4.out.lt,HRC.out.1.1.1,HRC.out.1.1.2⟩;have HR5:=hid HRC.out.1;have HO5:Hid (wc.ownsRow wc.1.size 164 2 (.slice none 0 0) 0 (ae5 [])):=hid (World.ownsRow_nil _ _ _ _);obtain⟨i0,hi,hz0,hz1,hz2⟩:=ko bew;have HI:=hid (And.intro hi (And.intro hz0 (And.intro hz1 hz2)));clear hi hz0 hz1 hz2 HRC HM4 HK4 HB4 hgl HNW hRl HBF HH f8 f8d f80 h8;go_wp2_with fail;refine wp_label ?_;go_wp2_with fail
 go_loopg [5] 33 (fun h s5 wr=>s5=.int .i64 0∧∃k:Nat,k≤32∧32-k<h∧Hid (∃L vL R,L.length=k∧ase L (kj (32-k) R)=kj 32 (b.drop 4)∧R.length≤1000000∧VB w wc.1.size W4.1.size a g t0 vL k L wr (some R)))
 case atStart=>exact⟨rfl,0,by omega,by omega,⟨[],.slice none 0 0,b.drop 4,rfl,bao _ _,(by rw[List.length_drop];omega),HM5.out,HO5.out,HR5.out,HK5.out,HB5.out,Nat.le_refl _⟩⟩
 case round=>
  obtain⟨rfl,k,hk,hh,HL⟩:=hrel;obtain⟨L,vL,R,hL1,hL2,hRm,hV⟩:=HL.out;obtain⟨A,cp,rfl,-,-,-⟩:=zj hV.own;have HLF:=hid (akk hV.rd);have HV:=hid hV;have HL1:=hid hL1;have HL2:=hid hL2;have m0:=hV.m.cell 0 (v:=.int .i64 t0) rfl;have m1:=hV.m.cell 1 (v:=.slice A k cp) rfl;clear HL hL1 hL2 hV
  by_cases hR0:R=[]
  ·subst hR0
   have hs0:kj 32 (b.drop 4)=(0,L):=by
    rw[← HL2.out,be9];unfold ase;rw[if_pos rfl,List.append_nil]
   have hre:=HRES.out;rw[hs0,if_pos rfl]at hre;subst hre
   have HFL:Hid (qf (fun j=>wc.1.size≤j∧j<wr.1.size) wr A (ae5 L)):=hid (by
    obtain⟨A',c',e1,-,h2,-⟩:=zj HV.out.own;injection e1 with e1 _ _;subst e1
    exact h2)
   have HK:=hid HV.out.res;have HB:=hid HV.out.bel;clear hs0;have g0:=HK.out.cell 0 (v:=.int .i64 0) rfl;have g1:=HK.out.cell 1 (v:=.slice none 0 0) rfl;have z0:=HK.out.fz 0;have z1:=HK.out.fz 1;go_wp2_with (refine HLF.out.mono ?_;rintro e w' ⟨rfl,rfl⟩);obtain⟨r1,r2,r3⟩:=agp HK.out (.int .i64 t0) (.slice A k cp) HB.out;refine bodyPost_ret (v:=.tuple #[.agg #[.int .i64 t0,.slice A k cp],.int .i64 0]) (by rw[zh rfl];simp[asAddr,Result.andThen];rw[r1]) rfl ⟨A,cp,by rw[HL1.out],?_,r2⟩;have hg:=HG5.out;exact(HFL.out.keep fun j hj=>r3 j (fun e=>by omega)).less fun j hj=>⟨by omega,by simpa using hj.2⟩
  have hRl:0<R.length:=List.length_pos_iff.2 hR0;have i1:(0:Int)<(R.length:Int):=by omega
  by_cases hk32:k=32
  ·subst hk32
   have hs0:kj 32 (b.drop 4)=(7,[]):=by
    have e:kj 0 R=(7,[]):=by
     unfold kj;rw[if_neg hR0]
    rw[← HL2.out,show 32-32=0 from rfl,e,ahk _ _ dc rfl]
   have hre:=HRES.out;rw[hs0,if_neg dc]at hre;subst hre;clear hs0;have g0:=HV.out.res.cell 0 (v:=.int .i64 0) rfl;have g1:=HV.out.res.cell 1 (v:=.slice none 0 0) rfl;have z0:=HV.out.res.fz 0;have z1:=HV.out.res.fz 1;go_wp2_with (refine HLF.out.mono ?_;rintro e w' ⟨rfl,rfl⟩);obtain⟨r1,r2,-⟩:=agp HV.out.res (.int .i64 0) (.slice none 0 0) HV.out.bel;exact bodyPost_ret (v:=.tuple #[.agg #[.int .i64 0,.slice none 0 0],.int .i64 7]) (by rw[zh rfl];simp[asAddr,Result.andThen];rw[r1]) rfl ⟨none,0,rfl,qf.nil _ _ _,r2⟩
  have i2:((k:Int)==32)=false:=by rw[beq_eq_false_iff_ne];omega
  have i2':¬(k:Int)=32:=by omega
  obtain⟨N,hN⟩:∃N,32-k=N+1:=⟨32-k-1,by omega⟩;have HN:=hid hN;rw[hN]at HL2;clear hN
  by_cases h4:R.length<4
  ·have HU:=hid (beh (w:=wr) 4 HV.out.rd dc dc (fun l q=>by injection q with q;subst q;exact h4));have HSZ:=fun W=>hid (am7 0 W dc)
   rw[show (ji 0).2=0 from rfl]at HSZ
   have hs0:kj 32 (b.drop 4)=(2,[]):=by
    have e:kj (N+1) R=(2,[]):=by
     unfold kj;rw[if_neg hR0,if_pos h4]
    rw[← HL2.out,e,ahk _ _ dc rfl]
   have hre:=HRES.out;rw[hs0,if_neg dc]at hre;subst hre;clear hs0;go_wp2_with (refine HLF.out.mono ?_;rintro e w' ⟨rfl,rfl⟩);refine HU.out.mono ?_;rintro e w1 ⟨rfl,hr,hk1⟩;have HV1:=hid (HV.out.kept HG5.out hk1 hr);clear hr hk1;go_wp2_with fail;refine((HSZ _).out).mono ?_;rintro e w2 ⟨rfl,hb⟩;have HV2:=hid (HV1.out.on hb);have HFA:=hid (akl HV2.out.rd);clear hb;have g0:=HV2.out.res.cell 0 (v:=.int .i64 0) rfl;have g1:=HV2.out.res.cell 1 (v:=.slice none 0 0) rfl;have z0:=HV2.out.res.fz 0;have z1:=HV2.out.res.fz 1;go_wp2_with (refine HFA.out.mono ?_;rintro e w' ⟨rfl,rfl⟩);obtain⟨r1,r2,-⟩:=agp HV2.out.res (.int .i64 0) (.slice none 0 0) HV2.out.bel;exact bodyPost_ret (v:=.tuple #[.agg #[.int .i64 0,.slice none 0 0],.int .i64 2]) (by rw[zh rfl];simp[asAddr,Result.andThen];rw[r1]) rfl ⟨none,0,rfl,qf.nil _ _ _,r2⟩
  have HU:=hid (acm (w:=wr) 4 HV.out.rd dc dc om)
  have hkey:jd (R.take 4)<4294967296:=by
   have:=ah2 (R.take 4);rw[List.length_take,Nat.min_eq_left om]at this;exact this
  have HSZ:=fun W=>hid (am7 (jd (R.take 4)) W hkey)
  have HMO:=fun W=>hid (a16 (jd (R.take 4)) W hkey)
  have hkl:=apv (jd (R.take 4));have hRd:(R.drop 4).length=R.length-4:=List.length_drop ..;have hvlt:∀n,n≤8→jd ((R.drop 4).take n)<18446744073709551616:=fun n hn=>beg _ (by rw[List.length_take];omega)
  have hML:2^(ji (jd (R.take 4))).1≤2^63:=Nat.pow_le_pow_right dc hkl.1;have hM0:0<2^(ji (jd (R.take 4))).1:=Nat.pow_pos dc;obtain⟨K,hK⟩:∃K,jd (R.take 4)=K:=⟨_,rfl⟩;obtain⟨n,hn⟩:∃n,(ji K).2=n:=⟨_,rfl⟩;obtain⟨M,hM⟩:∃M,2^(ji K).1-1=M:=⟨_,rfl⟩;rw[hK]at hML hM0 hkl hkey HU;simp only[hK]at HSZ HMO;simp only[hn]at HSZ;simp only[hM]at HMO;have hM63:M<9223372036854775808:=by omega
  have hn8:n≤8:=by have:=hkl.2;rw[hn]at this;exact this
  have i3:IntKind.i64.wrap (K:Int)=(K:Int):=IntWalk.i64_in _ om;have i4:IntKind.u64.wrap (M:Int)=(M:Int):=IntWalk.u64_in _ om;have HKN:=hid (And.intro hK (And.intro hn hM));clear hML hM0 hkl hM hn hK;go_wp2_with (refine HLF.out.mono ?_;rintro e w' ⟨rfl,rfl⟩);refine HU.out.mono ?_;rintro e w1 ⟨rfl,hr,hk1⟩;have HV1:=hid (HV.out.kept HG5.out hk1 hr);clear hr hk1 m0 m1;go_wp2_with fail;refine((HSZ _).out).mono ?_;rintro e w2 ⟨rfl,hb⟩;have HV2:=hid (HV1.out.on hb);have HFA:=hid (akl HV2.out.rd);have HLF2:=hid (akk HV2.out.rd);rw[hRd]at HLF2;clear hb HV1 HU HLF
  by_cases hn0:n=0
  ·have d0:decide (0<n)=false:=decide_eq_false om
   have hs0:kj 32 (b.drop 4)=(6,[]):=by
    have e:kj (N+1) R=(6,[]):=by
     unfold kj;rw[if_neg hR0,if_neg h4,HKN.out.1,HKN.out.2.1,if_pos hn0]
    rw[← HL2.out,e,ahk _ _ dc rfl]
   have hre:=HRES.out;rw[hs0,if_neg dc]at hre;subst hre;clear hs0;have g0:=HV2.out.res.cell 0 (v:=.int .i64 0) rfl;have g1:=HV2.out.res.cell 1 (v:=.slice none 0 0) rfl;have z0:=HV2.out.res.fz 0;have z1:=HV2.out.res.fz 1;go_wp2_with (refine HFA.out.mono ?_;rintro e w' ⟨rfl,rfl⟩);obtain⟨r1,r2,-⟩:=agp HV2.out.res (.int .i64 0) (.slice none 0 0) HV2.out.bel;exact bodyPost_ret (v:=.tuple #[.agg #[.int .i64 0,.slice none 0 0],.int .i64 6]) (by rw[zh rfl];simp[asAddr,Result.andThen];rw[r1]) rfl ⟨none,0,rfl,qf.nil _ _ _,r2⟩
  have d1:decide (0<n)=true:=decide_eq_true om
  by_cases hl:R.length-4<n
  ·have j1:((R.length-4:Nat):Int)<(n:Int):=by omega
   have hs0:kj 32 (b.drop 4)=(2,[]):=by
    have e:kj (N+1) R=(2,[]):=by
     unfold kj;rw[if_neg hR0,if_neg h4,HKN.out.1,HKN.out.2.1,if_neg hn0,if_pos (by rw[hRd];exact hl)]
    rw[← HL2.out,e,ahk _ _ dc rfl]
   have hre:=HRES.out;rw[hs0,if_neg dc]at hre;subst hre;clear hs0;have g0:=HV2.out.res.cell 0 (v:=.int .i64 0) rfl;have g1:=HV2.out.res.cell 1 (v:=.slice none 0 0) rfl;have z0:=HV2.out.res.fz 0;have z1:=HV2.out.res.fz 1;go_wp2_with (first|(refine HFA.out.mono ?_;rintro e w' ⟨rfl,rfl⟩)|(refine HLF2.out.mono ?_;rintro e w' ⟨rfl,rfl⟩));obtain⟨r1,r2,-⟩:=agp HV2.out.res (.int .i64 0) (.slice none 0 0) HV2.out.bel;exact bodyPost_ret (v:=.tuple #[.agg #[.int .i64 0,.slice none 0 0],.int .i64 2]) (by rw[zh rfl];simp[asAddr,Result.andThen];rw[r1]) rfl ⟨none,0,rfl,qf.nil _ _ _,r2⟩
  have j1:¬((R.length-4:Nat):Int)<(n:Int):=by omega
  have HU2:=hid (acm (w:=w2) n HV2.out.rd om hn8 om);have hv8:=hvlt n hn8;obtain⟨v,hv⟩:∃v,jd ((R.drop 4).take n)=v:=⟨_,rfl⟩;rw[hv]at HU2 hv8;have HVV:=hid hv;clear hv;go_wp2_with (first|(refine HFA.out.mono ?_;rintro e w' ⟨rfl,rfl⟩)|(refine HLF2.out.mono ?_;rintro e w' ⟨rfl,rfl⟩));refine HU2.out.mono ?_;rintro e w3 ⟨rfl,hr,hk1⟩;have HV3:=hid (HV2.out.kept HG5.out hk1 hr);clear hr hk1 HU2 HV2 HFA HLF2;go_wp2_with fail;refine((HMO _).out).mono ?_;rintro e w4 ⟨rfl,hb⟩;have HV4:=hid (HV3.out.on hb);clear hb HV3
  by_cases hvm:M<v
  ·have j2:(M:Int)<(v:Int):=by omega
   have hs0:kj 32 (b.drop 4)=(5,[]):=by
    have e:kj (N+1) R=(5,[]):=by
     unfold kj;rw[if_neg hR0,if_neg h4,HKN.out.1,HKN.out.2.1,HKN.out.2.2,HVV.out,if_neg hn0,if_neg (by rw[hRd];exact hl),if_pos hvm]
    rw[← HL2.out,e,ahk _ _ dc rfl]
   have hre:=HRES.out;rw[hs0,if_neg dc]at hre;subst hre;clear hs0;have g0:=HV4.out.res.cell 0 (v:=.int .i64 0) rfl;have g1:=HV4.out.res.cell 1 (v:=.slice none 0 0) rfl;have z0:=HV4.out.res.fz 0;have z1:=HV4.out.res.fz 1;go_wp2_with fail;obtain⟨r1,r2,-⟩:=agp HV4.out.res (.int .i64 0) (.slice none 0 0) HV4.out.bel;exact bodyPost_ret (v:=.tuple #[.agg #[.int .i64 0,.slice none 0 0],.int .i64 5]) (by rw[zh rfl];simp[asAddr,Result.andThen];rw[r1]) rfl ⟨none,0,rfl,qf.nil _ _ _,r2⟩
  have j2:¬(M:Int)<(v:Int):=by omega
  have i5:IntKind.i64.wrap (v:Int)=(v:Int):=IntWalk.i64_in _ om;obtain⟨v',w6,hrun,ho,hb9⟩:=akm (P:=prog) (t:=34) (ty:=34) (ae4 HV4.out.own (qa w4 (.cells #[.int .i64 (K:Int),.int .i64 (v:Int)] 164))) (Nat.le_trans HV4.out.sz (qa w4 _).size) HI.out underlying34 rfl dc (R:=fun _=>True) (some ⟨w4.1.size,0,none⟩) 1 1 [.int .i64 (K:Int),.int .i64 (v:Int)] rfl ((Blk.newL (qg w4 _ _) rfl).flat trivial) (fun u hu=>by simp only[List.mem_cons,List.not_mem_nil,or_false]at hu;rcases hu with rfl|rfl<;>rfl) (by unfold maxLen;omega) om;obtain⟨A',cp',hv',-,-,-⟩:=zj ho;subst hv';have HRUN:=hid hrun
  have HV6:Hid (VB w wc.1.size W4.1.size a g t0 (.slice A' (k+1) cp') (k+1) (L++[(K,v)]) (w6.setCell ⟨g,1,none⟩ (.slice A' (k+1) cp')) (some ((R.drop 4).drop n))):=hid (by
   have h4:=HV4.out.on (qa w4 (.cells #[.int .i64 (K:Int),.int .i64 (v:Int)] 164));have hd:=HG5.out;obtain⟨q1,q2⟩:=(h4.m.below hb9 om).set (o:=1) sm (.slice A' (k+1) cp');refine⟨q1,?_,?_,(h4.res.below hb9 om).far q2 om,(h4.bel.trans (hb9.mono om)).trans (q2.below om),by rw[q2.sz];exact Nat.le_trans h4.sz hb9.size⟩
   ·rw[az3];exact akn ho om _
   ·exact h4.rd.keep (fun j hj=>(q2.far j om).trans (hb9.block j hj.2)) (by rw[q2.sz];exact hb9.size))
  have m9:=((HV4.out.on (qa w4 (.cells #[.int .i64 (K:Int),.int .i64 (v:Int)] 164))).m.below hb9 (by have:=HG5.out;omega)).cell 1 (v:=.slice A k cp) rfl;have z9:=((HV4.out.on (qa w4 (.cells #[.int .i64 (K:Int),.int .i64 (v:Int)] 164))).m.below hb9 (by have:=HG5.out;omega)).fz 1;have m4:=HV4.out.m.cell 1 (v:=.slice A k cp) rfl;clear hrun ho hb9;go_wp2_with (at_builtin;refine zf rfl _ _ 34 rfl _ _ _ rfl rfl HRUN.out ?_)
  have HLN:Hid (∃L' vL R',L'.length=k+1∧ase L' (kj (32-(k+1)) R')=kj 32 (b.drop 4)∧R'.length≤1000000∧VB w wc.1.size W4.1.size a g t0 vL (k+1) L' (w6.setCell ⟨g,1,none⟩ (.slice A' (k+1) cp')) (some R')):=hid ⟨L++[(K,v)],_,(R.drop 4).drop n,by rw[List.length_append,HL1.out];rfl,(by
   have e:=ban L N R hR0 h4 (by rw[HKN.out.1,HKN.out.2.1];exact hn0) (by rw[HKN.out.1,HKN.out.2.1,hRd];exact hl) (by rw[HKN.out.1,HKN.out.2.1,HKN.out.2.2,HVV.out];exact hvm);rw[HL2.out,HKN.out.1,HKN.out.2.1,HVV.out]at e;rw[show 32-(k+1)=N from by have:=HN.out;omega];exact e.symm),(by rw[List.length_drop,List.length_drop];omega),HV6.out⟩
  go_roundg (32-k)
  case measure=>omega
  case rel=>exact⟨rfl,k+1,by omega,by omega,HLN⟩
