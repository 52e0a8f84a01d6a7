/- Parts. -/
import Derived.Test.YtdkhlkfleggbaaaGreatV19
import Derived.Test.YtdkhlkfleggbaaaGreatV18
namespace Go.Proofs.YtdkhlkfleggbaaaGreat
set_option maxHeartbeats 8000000
set_option maxRecDepth 8000
open Tryz
set_option linter.unusedVariables false
open Go.RowKit
theorem asq (A B:Option Addr) (n c d:Nat) (L:List V4) (w:World) (hn:Q_ (L.length=n)) (hA:Q_ (Vws w w.1.size A L)) (hB:Q_ (Vws w w.1.size B L)) (h0:n<=1100000) :
 Calls prog 69 #[.slice A n c,.slice B n d] w λe w'=>e=.returned (.bool true)/\Below w.1.size w w':=by
 have hb:((n:Int) != (n:Int))=false:=by rw[b0b]
 go_enter func69,ntmps69;go_wp2
 go_loopw [5] (λi wr=>∃k nq:Nat,k<=n/\i=.int .i64 k/\wr=w.drewN nq) (λi _=>n-(intOf i).toNat)
 case atStart=>exact⟨0,0,b0d _,rfl,rfl⟩
 case round=>
  obtain⟨k,nq,hk,rfl,rfl⟩:=hrel
  by_cases hlt:k<n
  ·have hkl:k<L.length:=by rw[hn.o];exact hlt
   obtain⟨b1,o1,hA1,hb1,hc1⟩:=hA.o k hkl;obtain⟨b2,o2,hA2,hb2,hc2⟩:=hB.o k hkl;subst hA1 hA2;generalize L[k]=v at *;obtain⟨⟨vb0,vn0⟩,⟨vb1,vn1⟩,⟨vb2,vn2⟩,⟨vb3,vn3⟩⟩:=v
   have e1:∀(j:Nat) u,(j5 ((vb0,vn0),(vb1,vn1),(vb2,vn2),(vb3,vn3)))[j]?=some u->w.cell? ⟨b1,o1+k*8+j,none⟩=some u:=λj u hu=>by
    rw[show o1+k*8+j=o1+8*k+j from by omega];exact hc1 j u hu
   have e2:∀(j:Nat) u,(j5 ((vb0,vn0),(vb1,vn1),(vb2,vn2),(vb3,vn3)))[j]?=some u->w.cell? ⟨b2,o2+k*8+j,none⟩=some u:=λj u hu=>by
    rw[show o2+k*8+j=o2+8*k+j from by omega];exact hc2 j u hu
   have x0:w.cell? ⟨b1,o1+k*8,none⟩=some (.bool vb0):=e1 0 _ rfl;have x1:=e1 1 _ rfl;have x2:=e1 2 _ rfl;have x3:=e1 3 _ rfl;have x4:=e1 4 _ rfl;have x5:=e1 5 _ rfl;have x6:=e1 6 _ rfl;have x7:=e1 7 _ rfl;have y0:w.cell? ⟨b2,o2+k*8,none⟩=some (.bool vb0):=e2 0 _ rfl;have y1:=e2 1 _ rfl;have y2:=e2 2 _ rfl;have y3:=e2 3 _ rfl;have y4:=e2 4 _ rfl;have y5:=e2 5 _ rfl;have y6:=e2 6 _ rfl;have y7:=e2 7 _ rfl;have i1:(0:Int) <=(k:Int):=o5 _;have i2:(k:Int)<(n:Int):=by omega
   clear hc1 hc2 e1 e2 hkl;go_wp2_with fail
   go_quiet (fail)
   go_wp2_with fail
   go_roundw
   case rel=>exact⟨k+1,_,by omega,by go_num,rfl⟩
   case measure=>simp[intOf];omega
  ·go_wp2_with fail;go_ret;exact⟨by rfl,aai (n9 _ _) _⟩
theorem aw0 (T N S:Int) (A B:Option Addr) (n c d:Nat) (L:List V4) (w:World) (hn:Q_ (L.length=n)) (hA:Q_ (Vws w w.1.size A L)) (hB:Q_ (Vws w w.1.size B L)) (h0:n<=1100000) :
 Calls prog 50 #[a5u T N S A n c,a5u T N S B n d] w λe w'=>e=.returned (.bool true)/\Below w.1.size w w':=by
 have hbb:∀o1 o2,Below w.1.size w ((w.alloc o1).alloc o2):=λo1 o2=>qb (qa _ _) (qa _ _)
 have HV:∀o1 o2,Q_ (Calls prog 69 #[.slice A n c,.slice B n d] ((w.alloc o1).alloc o2) λe w'=>e=.returned (.bool true)/\Below ((w.alloc o1).alloc o2).1.size ((w.alloc o1).alloc o2) w'):=λo1 o2=>
  asq A B n c d L _ hn ((hA.o.below (hbb o1 o2) (a8 _)).more (hbb o1 o2).size) ((hB.o.below (hbb o1 o2) (a8 _)).more (hbb o1 o2).size) h0
 have HB:=λo1 o2=>q_ (hbb o1 o2)
 clear hA hB hbb;go_enter func50,ntmps50;go_wp2_with fail;refine(HV _ _).o.mono ?_;rintro r w1 ⟨rfl,hb1⟩;go_wp2_with fail;go_ret;exact⟨by rfl,qb (HB _ _).o hb1⟩
theorem a0v (A:Option Addr) (R:List ByteArray) (c:Nat) (w:World) (hA:A=none->c=0) (hs:v6 w w.1.size A R) (hn:R.length<=1100000) (hz:∀t∈R,t.size<=1100000):Calls prog 106 #[.slice A R.length c] w (akp (zx R) w):=by
 by_cases h:avl R.length
 ·have:zx R=(vv,3):=by unfold zx;rw[if_pos h]
  rw[this];exact anl A R.length c w h hn
 ·unfold avl at h;exact a5t A R.length c ((R.length-3) / 4) R w rfl hA hs hz (q_ om) om
theorem a24 (R:List ByteArray):(zx R).1.L.length<=4:=by
 by_cases h:(zx R).2=0
 ·exact(awf h).1
 ·rw[a7y h];exact b0d _
section
variable {P : Program} {ops : Array Oper} {rest : List Oper} {o : Oper} {a : Act} {w : World} {Q : Exit -> Act -> World -> Prop}
end
theorem bmb (x:au9) (w:World):(binOp .eql 44 (.agg (gL x).toArray) (.agg (gL x).toArray)).run prog w=.ok (.bool true) w:=by
 unfold gL;simp[go_sem]
theorem bmc (x:avb) (w:World):(binOp .eql 48 (.agg (rL x).toArray) (.agg (rL x).toArray)).run prog w=.ok (.bool true) w:=by
 unfold rL;simp[go_sem]
theorem bmd (x:V4) (w:World):(binOp .eql 53 (.agg (j5 x).toArray) (.agg (j5 x).toArray)).run prog w=.ok (.bool true) w:=by
 unfold j5;simp[go_sem]
theorem Blk.nm {w:World} {b:Nat} {k:Int} {t:ByteArray} {G R S V U:List Value} (h:Blk w b (nmL k t G R S V U)) (hl:aca G R S V U):bnt w b k t G R S V U:=(bf4 hl).1 h.rg
theorem a6v {m:NmD} {A B A' B':Option Addr} {n c c' p d d':Nat} {w:World}
 (HS:∀W,Below w.1.size w W->Q_ (Calls prog 49 #[.agg (sL m.s (.slice A n c)).toArray,.agg (sL m.s (.slice A' n c')).toArray] W λe w'=>e=.returned (.bool true)/\Below W.1.size W w'))
 (HV:∀W,Below w.1.size w W->Q_ (Calls prog 50 #[.agg (uL m.u (.slice B p d)).toArray,.agg (uL m.u (.slice B' p d')).toArray] W λe w'=>e=.returned (.bool true)/\Below W.1.size W w')) :
 Calls prog 28 #[.agg (nmC m (.slice A n c) (.slice B p d)).toArray,.agg (nmC m (.slice A' n c') (.slice B' p d')).toArray] w λe w'=>e=.returned (.bool true)/\Below w.1.size w w':=by
 have EG:∀W:World,(binOp .eql 44 (.agg (gL m.g).toArray) (.agg (gL m.g).toArray)).run prog W=.ok (.bool true) W:=λW=>bmb m.g W
 have ER:∀W:World,(binOp .eql 48 (.agg (rL m.r).toArray) (.agg (rL m.r).toArray)).run prog W=.ok (.bool true) W:=λW=>bmc m.r W
 have EV:∀W:World,(binOp .eql 53 (.agg (j5 m.v).toArray) (.agg (j5 m.v).toArray)).run prog W=.ok (.bool true) W:=λW=>bmd m.v W
 go_enter func28,ntmps28
 go_upto_region 1 with(first
  | (refine qr rfl _ _ rfl (nmC m (.slice A n c) (.slice B p d)).toArray rfl ?_;intro W1 hW1;have H1:Q_ (Blk W1 w.1.size (nmC m (.slice A n c) (.slice B p d))):=Blk.new hW1;have HB1:=q_ hW1.bel;clear hW1)
  | (refine qr rfl _ _ rfl (nmC m (.slice A' n c') (.slice B' p d')).toArray rfl ?_;intro W2 hW2;have H2:Q_ (Blk W2 W1.1.size (nmC m (.slice A' n c') (.slice B' p d'))):=Blk.new hW2;have H12:=q_ (H1.o.grew hW2);have HB2:=q_ (qb HB1.o hW2.bel);clear hW2 H1 HB1))
 have a0:=H12.o.cell 0 rfl;have a1:=H12.o.cell 1 rfl;have c0:=H2.o.cell 0 rfl;have c1:=H2.o.cell 1 rfl
 try (apply b1q;intro K_ HK_)
 apply b20
 repeat (fail_if_success (show Oper.wp _ ⟨some 19,_,_,_,_,_⟩ _ _ _ _)
         first|go_values|go_skip|go_guarded|go_step|go_upon)
 refine b1i _ _ rfl w.1.size 2 rfl (gL m.g) _ (H12.o.nm (aec m _ _)).g underlying44 rfl aed ?_
 repeat (fail_if_success (show Oper.wp _ ⟨some 21,_,_,_,_,_⟩ _ _ _ _)
         first|go_values|go_skip|go_guarded|go_step|go_upon)
 refine b1i _ _ rfl W1.1.size 2 rfl (gL m.g) _ (H2.o.nm (aec m _ _)).g underlying44 rfl aed ?_
 repeat (fail_if_success (show Oper.wp _ ⟨some 26,_,_,_,_,_⟩ _ _ _ _)
         first|go_values|go_skip|go_guarded|go_step|go_upon)
 refine b1i _ _ rfl w.1.size 24 rfl (rL m.r) _ (H12.o.nm (aec m _ _)).r underlying48 rfl aeg ?_
 repeat (fail_if_success (show Oper.wp _ ⟨some 28,_,_,_,_,_⟩ _ _ _ _)
         first|go_values|go_skip|go_guarded|go_step|go_upon)
 refine b1i _ _ rfl W1.1.size 24 rfl (rL m.r) _ (H2.o.nm (aec m _ _)).r underlying48 rfl aeg ?_;clear a0 a1 c0 c1
 repeat (fail_if_success (show Oper.wp _ ⟨some 33,_,_,_,_,_⟩ _ _ _ _)
         first|go_values|go_skip|go_guarded|go_step|go_upon)
 refine b1i _ _ rfl w.1.size 44 rfl (sL m.s (.slice A n c)) _ (H12.o.nm (aec m _ _)).s underlying51 rfl aee ?_
 repeat (fail_if_success (show Oper.wp _ ⟨some 35,_,_,_,_,_⟩ _ _ _ _)
         first|go_values|go_skip|go_guarded|go_step|go_upon)
 refine b1i _ _ rfl W1.1.size 44 rfl (sL m.s (.slice A' n c')) _ (H2.o.nm (aec m _ _)).s underlying51 rfl aee ?_
 repeat (fail_if_success (show Calls _ _ _ _ _)
         first|go_values|go_skip|go_guarded|go_step|go_upon)
 refine(HS _ HB2.o).o.mono ?_;rintro e W3 ⟨rfl,hb⟩;have H13:=q_ (H12.o.on hb);have H3:=q_ (H2.o.on hb);have HB3:=q_ (qb HB2.o hb);clear hb H12 H2 HB2 HS;dsimp only
 repeat (fail_if_success (show Oper.wp _ ⟨some 40,_,_,_,_,_⟩ _ _ _ _)
         first|go_values|go_skip|go_guarded|go_step|go_upon)
 refine b1i _ _ rfl w.1.size 53 rfl (j5 m.v) _ (H13.o.nm (aec m _ _)).v underlying53 rfl aeh ?_
 repeat (fail_if_success (show Oper.wp _ ⟨some 42,_,_,_,_,_⟩ _ _ _ _)
         first|go_values|go_skip|go_guarded|go_step|go_upon)
 refine b1i _ _ rfl W1.1.size 53 rfl (j5 m.v) _ (H3.o.nm (aec m _ _)).v underlying53 rfl aeh ?_
 repeat (fail_if_success (show Oper.wp _ ⟨some 47,_,_,_,_,_⟩ _ _ _ _)
         first|go_values|go_skip|go_guarded|go_step|go_upon)
 refine b1i _ _ rfl w.1.size 61 rfl (uL m.u (.slice B p d)) _ (H13.o.nm (aec m _ _)).u underlying56 rfl aef ?_
 repeat (fail_if_success (show Oper.wp _ ⟨some 49,_,_,_,_,_⟩ _ _ _ _)
         first|go_values|go_skip|go_guarded|go_step|go_upon)
 refine b1i _ _ rfl W1.1.size 61 rfl (uL m.u (.slice B' p d')) _ (H3.o.nm (aec m _ _)).u underlying56 rfl aef ?_
 repeat (fail_if_success (show Calls _ _ _ _ _)
         first|go_values|go_skip|go_guarded|go_step|go_upon)
 refine(HV _ HB3.o).o.mono ?_;rintro e W4 ⟨rfl,hb⟩;have HB4:=q_ (qb HB3.o hb);clear hb H13 H3 HB3 HV;go_wp2_with fail;go_ret;exact⟨rfl,HB4.o⟩
