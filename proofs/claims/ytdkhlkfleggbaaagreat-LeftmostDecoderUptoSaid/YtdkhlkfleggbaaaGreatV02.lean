/- Parts. -/
import Derived.Test.YtdkhlkfleggbaaaGreatV01
import Derived.StillTailTactics
namespace Go.Proofs.YtdkhlkfleggbaaaGreat
set_option maxHeartbeats 4000000
set_option maxRecDepth 8000
open Tryz
set_option linter.unusedVariables false
open Go.RowKit
theorem ate {P:Program} {ops:Array Oper} {rest:List Oper} {o:Oper} {a:Act} {w:World} {Q:Exit->Act->World->Prop} (hgd:o.guard=none) (t:TypeId) (i j k:Nat) (x y z:Operand) (ho:o.op=.build t #[(i,x),(j,y),(k,z)]) {u u' u'' v:Value} (hx:a.eval x=u) (hy:a.eval y=u') (hz:a.eval z=u'') (hr:(Instr.build t #[(i,u),(j,u'),(k,u'')]).run P w=.ok v w)
 (h:wpList P ops Q rest (a.put o.dst v) w):wpList P ops Q (o::rest) a w:=abi hgd t _ ho #[(i,u),(j,u'),(k,u'')] (by simp[hx,hy,hz]) hr h
theorem baw (F:Nat) (W:World):(Instr.field 94 (.agg #[.func (Fn.func F) #[] #[]]) 0).run prog W=.ok (.func (Fn.func F) #[] #[]) W:=by kernel_rfl
theorem bl8 (p:Int) (x:Value) (W:World):(callFunc (a1c p) #[x]).run prog W=.ok (.enter (a1c p) #[x]) W:=by
 unfold a1c
 split
 ·kernel_rfl
 split
 ·kernel_rfl
 ·kernel_rfl
def bd3 (d p n e:Int) (w:World) (r:Ending) (w':World):Prop:=r=.returned (.agg (veA d p n e))/\Below w.1.size w w'
theorem bb0 (A:Option Addr) (c:Nat) (w:World):Calls prog 10 #[.slice A 0 c] w (bd3 0 0 0 0 w):=by
 have HZ:=λW=>q_ (ag3 W)
 have HB0:=λW=>q_ (baf W)
 go_enter func10,ntmps10
 go_wp2_with (first
  | (refine qc rfl 66 rfl (veA 0 0 0 0) (HZ _).o ?_;intro W1 hW1;have HK1:=q_ (Blk.newL (L:=veL 0 0 0 0 ac7) hW1 rfl);have HB1:=q_ hW1.bel;clear hW1)
  | refine zo rfl 66 rfl (HB0 _).o ?_
  | (refine qe rfl 66 _ _ rfl w.1.size 0 (veA 0 0 0 0) rfl rfl (HK1.o.there 0 124 (a8 _)) (ao2 _ _ _ _) (ao1 _ _ _ _) ?_;intro W5 hs;have HK5:=q_ (HK1.o.all hs rfl);have HB5:=q_ (HB1.o.trans (hs.below (a8 _)));clear hs))
 try go_frame
 have HLD:=q_ (t9 (P:=prog) W5 w.1.size 0 66 (veA 0 0 0 0).toList _ HK5.o.rg underlying66 rfl kr);refine b9 (v:=.agg (veA 0 0 0 0)) (by rw[aa7 rfl];simp[asAddr,Result.andThen,HLD.o]) rfl ⟨rfl,HB5.o⟩
theorem a6m {Q:Nat->Prop} {w:World} (A:Option Addr) (c:Nat) (x:UInt8) (l:List UInt8) (h:qf Q w A (bsV (x::l))) (hp:xz x=0) (hm:(x::l).length<=maxLen) :
 Calls prog 10 #[.slice A (x::l).length c] w (bd3 1 0 0 3 w):=by
 unfold maxLen at hm;have HZ:=λW=>q_ (ag3 W)
 have HB0:=λW=>q_ (a4r W)
 have HP:∀W,Q_ (Calls prog 13 #[.int .u8 (x.toNat:Int)] W λe w'=>e=.returned (.int .i64 0)/\W=w'):=λW=>q_ (by have:=amp x W;rw[hp]at this;exact this)
 obtain⟨b,off,rfl,-,hc⟩:=h 0 (bV x) rfl;have hb:=ab6 hc;have HC:∀W,Below w.1.size w W->Q_ (W.cell? ⟨b,off,none⟩=some (.int .u8 (x.toNat:Int))):=λW hW=>q_ ((hW.cell (p:=⟨b,off+0,none⟩) hb).trans hc)
 have hl:(0:Int)<((x::l).length:Int):=by simp only[n6];omega
 generalize (x::l).length=L at *;have hl0:((L:Int)==0)=false:=by rw[l7];omega
 clear hc hb hp h;go_enter func10,ntmps10;go_upto_region 3 with(refine qc rfl 66 rfl (veA 0 0 0 0) (HZ _).o ?_;intro W1 hW1;have HK1:=q_ (Blk.newL (L:=veL 0 0 0 0 ac7) hW1 rfl);have HB1:=q_ hW1.bel;clear hW1)
 have c0:=(HC _ HB1.o).o
 go_wp2_with (first
  | (refine(HP _).o.mono ?_;rintro e w' ⟨rfl,rfl⟩)
  | refine aff (u:=.int .i64 1) (u':=.int .i64 3) rfl 66 0 3 _ _ rfl rfl rfl (HB0 _).o ?_
  | (refine qe rfl 66 _ _ rfl w.1.size 0 (veA 1 0 0 3) rfl rfl (HK1.o.there 0 124 (a8 _)) (ao2 _ _ _ _) (ao1 _ _ _ _) ?_;intro W5 hs;have HK5:=q_ (HK1.o.all hs rfl);have HB5:=q_ (HB1.o.trans (hs.below (a8 _)));clear hs))
 try go_frame
 have HLD:=q_ (t9 (P:=prog) W5 w.1.size 0 66 (veA 1 0 0 3).toList _ HK5.o.rg underlying66 rfl kr);refine b9 (v:=.agg (veA 1 0 0 3)) (by rw[aa7 rfl];simp[asAddr,Result.andThen,HLD.o]) rfl ⟨rfl,HB5.o⟩
theorem zj {fn:Func} {p u:Tmp} {ty:TypeId} (h:fn.results=#[.cell p ty,.tmp u]) (tmps:Array Value) (P:Program) (w:World) :
 (results fn tmps).run P w =
  ((asAddr (tmps.getD p undef)).run P w).andThen λa w₁=>((loadVar ty a).run P w₁).andThen λv' w₂=>.ok (.tuple #[v',tmps.getD u undef]) w₂:=by
 simp only[results,h];simp[Result.andThen]
theorem ais {Q0:Nat->Prop} {w:World} {fs:List Fld} {b:List UInt8} {X:Option Addr} {d:Nat} (hr:fs.all aaa=true) (hn:fs.length<=1000) (hB:qf Q0 w X (bsV b)) (hm:b.length<=1100000) :
 ∀A c W1 W2,Below w.1.size w W1->qf (λb=>W1.1.size<=b/\b<W2.1.size) W2 A (acp fs)->Below W1.1.size W1 W2->Q_ (Calls prog 91 #[.slice A fs.length c,.slice X b.length d] W2 (vc (xl fs b) W2)):=λA c W1 W2 h1 hA h2=>
 q_ (anv A X c d fs b (hA.less λb q=>q.2) hr hn (hB.lt.below (qb h1 h2) (λb q=>q.2)) hm)
theorem aby {fs:List Fld} {b:List UInt8} (h:(xl fs b).1=0):(xl fs b).2.length=fs.length:=by
 unfold xl at *
 split at h
 ·simp at h
 ·rename_i h1
  split at h
  ·simp at h
  ·rename_i h2;rw[if_neg h1,if_neg h2];cases ht:aar fs b with
   | none=>rw[ht]at h;simp at h
   | some v=>exact am0 fs b ht
theorem alp:∀(l:List Fld) (b:List UInt8) {v:List Int},aar l b=some v->∀k (hk:k<l.length),∃x,v[k]?=some x/\l[k].lo<=x/\x<=l[k].hi
 | [],_,v,_,k,hk=>absurd hk (b04 _)
 | f::l,b,v,h,k,hk=>by
  unfold aar at h
  split at h
  ·rename_i hx;obtain⟨v',h',rfl⟩:=b27.1 h;cases k with
   | zero=>exact⟨_,rfl,hx⟩
   | succ k=>exact alp l _ h' k (by simpa using hk)
  ·cases h
theorem alj {fs:List Fld} {b:List UInt8} (h:(xl fs b).1=0):aar fs b=some (xl fs b).2:=by
 unfold xl at *
 split at h
 ·simp at h
 ·rename_i h1
  split at h
  ·simp at h
  ·rename_i h2;rw[if_neg h1,if_neg h2];cases ht:aar fs b with
   | none=>rw[ht]at h;simp at h
   | some v=>rfl
theorem afp {w:World} {Q:Nat->Prop} {A:Option Addr} {v:List Int} (h:qf Q w A (qt v)) (hl:0<v.length):∃b off,A=some ⟨b,off,none⟩/\Q b/\b<w.1.size/\∀k (hk:k<v.length),w.cell? ⟨b,off+k,none⟩=some (.int .i64 v[k]):=by
 have e:∀k (hk:k<v.length),(qt v)[k]?=some (.int .i64 v[k]):=λk hk=>by unfold qt;rw[b0l,d7 hk];rfl
 obtain⟨b,off,hA,hb,h0⟩:=h 0 _ (e 0 hl);refine⟨b,off,hA,hb,ab6 h0,λk hk=>?_⟩;obtain⟨b',off',hA',-,h1⟩:=h k _ (e k hk);rw[hA]at hA';injection hA' with hA';injection hA' with q1 q2;subst q1 q2
 exact h1
def ahl (b:List UInt8):Int×List Int:=if(xl amf b).1=0 then xl amf b else((xl amf b).1,List.replicate 8 0)
theorem bn1 (w:World):(zeroValue 31).run prog w=.ok (.agg #[.int .i64 0,.int .i64 0,.int .i64 0,.int .i64 0,.int .i64 0,.int .i64 0,.int .i64 0,.int .i64 0]) w:=by kernel_rfl
theorem bl9 (w:World):(Instr.build 31 #[]).run prog w=.ok (.agg #[.int .i64 0,.int .i64 0,.int .i64 0,.int .i64 0,.int .i64 0,.int .i64 0,.int .i64 0,.int .i64 0]) w:=by kernel_rfl
theorem azz {Q0:Nat->Prop} {w:World} (X:Option Addr) (d:Nat) (b:List UInt8) (hB:qf Q0 w X (bsV b)) (hm:b.length<=1100000) :
 Calls prog 277 #[.slice X b.length d] w λe w'=>e=.returned (.tuple #[.agg (qt (ahl b).2).toArray,.int .i64 (ahl b).1])/\Below w.1.size w w':=by
 have HF:=λW=>q_ (ask W)
 have HS:=ais (d:=d) aqa dc hB hm;have HZ:=λW=>q_ (bn1 W)
 have HB0:=λW=>q_ (bl9 W)
 have HLN:=q_ (λh=>(aby (fs:=amf) (b:=b) h));unfold ahl;obtain⟨⟨E,v⟩,hr⟩:∃r,xl amf b=r:=⟨_,rfl⟩;rw[hr]at HS HLN ⊢;dsimp only at *;generalize hL:b.length=L at *;unfold ac9 at HF;rw[show amf.length=8 from rfl]at *;clear hB hr hL
 by_cases hE:E=0
 ·subst hE;have hl:=HLN.o rfl
  obtain⟨x0,x1,x2,x3,x4,x5,x6,x7,rfl⟩:∃x0 x1 x2 x3 x4 x5 x6 x7,v=[x0,x1,x2,x3,x4,x5,x6,x7]:=by
   rcases v with _|⟨a0,_|⟨a1,_|⟨a2,_|⟨a3,_|⟨a4,_|⟨a5,_|⟨a6,_|⟨a7,_|⟨z,_⟩⟩⟩⟩⟩⟩⟩⟩⟩<;>first|exact⟨_,_,_,_,_,_,_,_,rfl⟩|(simp at hl)
  rw[if_pos rfl];clear hl HLN;show Calls prog _ _ w λe w'=>e=.returned (.tuple #[.agg #[.int .i64 x0,.int .i64 x1,.int .i64 x2,.int .i64 x3,.int .i64 x4,.int .i64 x5,.int .i64 x6,.int .i64 x7],.int .i64 0])/\Below w.1.size w w'
  go_enter func277,ntmps277;go_wp2_with (refine qc rfl 31 rfl #[.int .i64 0,.int .i64 0,.int .i64 0,.int .i64 0,.int .i64 0,.int .i64 0,.int .i64 0,.int .i64 0] (HZ _).o ?_;intro W1 hW1;have HK1:=q_ (Blk.newL (L:=[.int .i64 0,.int .i64 0,.int .i64 0,.int .i64 0,.int .i64 0,.int .i64 0,.int .i64 0,.int .i64 0]) hW1 rfl);have HB1:=q_ hW1.bel;clear hW1);refine(HF _).o.mono ?_;rintro e w2 ⟨A,c,rfl,hf,hb⟩;have HT:=HS _ c _ _ HB1.o hf hb;have HK2:=q_ (HK1.o.on hb);have HB2:=q_ (qb HB1.o hb);clear hf hb HS HK1 HB1;go_wp2_with fail;refine HT.o.mono ?_;rintro e w3 ⟨A3,c3,rfl,hf,hb⟩;have HFL:=q_ hf;have HK3:=q_ (HK2.o.on hb);have HB3:=q_ (qb HB2.o hb);clear hf hb HK2 HB2 HT;obtain⟨ab,ao,rfl,-,hablt,hcell⟩:=afp HFL.o sm;have HCE:Q_ (∀W,Below w3.1.size w3 W->W.cell? ⟨ab,ao,none⟩=some (.int .i64 x0)/\W.cell? ⟨ab,ao+1,none⟩=some (.int .i64 x1)/\W.cell? ⟨ab,ao+2,none⟩=some (.int .i64 x2)/\W.cell? ⟨ab,ao+3,none⟩=some (.int .i64 x3)/\W.cell? ⟨ab,ao+4,none⟩=some (.int .i64 x4)/\W.cell? ⟨ab,ao+5,none⟩=some (.int .i64 x5)/\W.cell? ⟨ab,ao+6,none⟩=some (.int .i64 x6)/\W.cell? ⟨ab,ao+7,none⟩=some (.int .i64 x7)):=q_ λW hW=>⟨(hW.cell (p:=⟨ab,ao,none⟩) hablt).trans (hcell 0 sm),(hW.cell (p:=⟨ab,ao+1,none⟩) hablt).trans (hcell 1 sm),(hW.cell (p:=⟨ab,ao+2,none⟩) hablt).trans (hcell 2 sm),(hW.cell (p:=⟨ab,ao+3,none⟩) hablt).trans (hcell 3 sm),(hW.cell (p:=⟨ab,ao+4,none⟩) hablt).trans (hcell 4 sm),(hW.cell (p:=⟨ab,ao+5,none⟩) hablt).trans (hcell 5 sm),(hW.cell (p:=⟨ab,ao+6,none⟩) hablt).trans (hcell 6 sm),(hW.cell (p:=⟨ab,ao+7,none⟩) hablt).trans (hcell 7 sm)⟩
  clear hcell;go_upto_region 4 with fail;have cc:=HCE.o w3.drew ((n9 _ _).drew);obtain⟨cc0,cc1,cc2,cc3,cc4,cc5,cc6,cc7⟩:=cc
  go_still_tail 25,kr
  change wpList _ _ _ _ _ w3.drew;clear cc0 cc1 cc2 cc3 cc4 cc5 cc6 cc7;have HK4:Q_ (Blk w3.drew w.1.size [.int .i64 0,.int .i64 0,.int .i64 0,.int .i64 0,.int .i64 0,.int .i64 0,.int .i64 0,.int .i64 0]):=q_ HK3.o.drew;have HB4:Q_ (Below w.1.size w w3.drew):=q_ HB3.o.drew;generalize w3.drew=w4 at *;have g0:=HK4.o.cell 0 (v:=.int .i64 0) rfl;have z0:=HK4.o.fz 0;have g1:=HK4.o.cell 1 (v:=.int .i64 0) rfl;have z1:=HK4.o.fz 1;have g2:=HK4.o.cell 2 (v:=.int .i64 0) rfl;have z2:=HK4.o.fz 2;have g3:=HK4.o.cell 3 (v:=.int .i64 0) rfl;have z3:=HK4.o.fz 3;have g4:=HK4.o.cell 4 (v:=.int .i64 0) rfl;have z4:=HK4.o.fz 4;have g5:=HK4.o.cell 5 (v:=.int .i64 0) rfl;have z5:=HK4.o.fz 5;have g6:=HK4.o.cell 6 (v:=.int .i64 0) rfl;have z6:=HK4.o.fz 6;have g7:=HK4.o.cell 7 (v:=.int .i64 0) rfl;have z7:=HK4.o.fz 7;go_wp2_with fail;have hs:qq w4 (((((((((w4.setCell ⟨w.1.size,0,none⟩ (.int .i64 x0)).setCell ⟨w.1.size,1,none⟩ (.int .i64 x1)).setCell ⟨w.1.size,2,none⟩ (.int .i64 x2)).setCell ⟨w.1.size,3,none⟩ (.int .i64 x3)).setCell ⟨w.1.size,4,none⟩ (.int .i64 x4)).setCell ⟨w.1.size,5,none⟩ (.int .i64 x5)).setCell ⟨w.1.size,6,none⟩ (.int .i64 x6)).setCell ⟨w.1.size,7,none⟩ (.int .i64 x7))) w.1.size 0 [.int .i64 x0,.int .i64 x1,.int .i64 x2,.int .i64 x3,.int .i64 x4,.int .i64 x5,.int .i64 x6,.int .i64 x7]:=qo (cs:=[.int .i64 x0,.int .i64 x1,.int .i64 x2,.int .i64 x3,.int .i64 x4,.int .i64 x5,.int .i64 x6,.int .i64 x7]) (HK4.o.there 0 8 (a8 _))
  have HK5:Q_ (Blk (((((((((w4.setCell ⟨w.1.size,0,none⟩ (.int .i64 x0)).setCell ⟨w.1.size,1,none⟩ (.int .i64 x1)).setCell ⟨w.1.size,2,none⟩ (.int .i64 x2)).setCell ⟨w.1.size,3,none⟩ (.int .i64 x3)).setCell ⟨w.1.size,4,none⟩ (.int .i64 x4)).setCell ⟨w.1.size,5,none⟩ (.int .i64 x5)).setCell ⟨w.1.size,6,none⟩ (.int .i64 x6)).setCell ⟨w.1.size,7,none⟩ (.int .i64 x7))) w.1.size [.int .i64 x0,.int .i64 x1,.int .i64 x2,.int .i64 x3,.int .i64 x4,.int .i64 x5,.int .i64 x6,.int .i64 x7]):=q_ (HK4.o.all hs rfl);have HB5:Q_ (Below w.1.size w (((((((((w4.setCell ⟨w.1.size,0,none⟩ (.int .i64 x0)).setCell ⟨w.1.size,1,none⟩ (.int .i64 x1)).setCell ⟨w.1.size,2,none⟩ (.int .i64 x2)).setCell ⟨w.1.size,3,none⟩ (.int .i64 x3)).setCell ⟨w.1.size,4,none⟩ (.int .i64 x4)).setCell ⟨w.1.size,5,none⟩ (.int .i64 x5)).setCell ⟨w.1.size,6,none⟩ (.int .i64 x6)).setCell ⟨w.1.size,7,none⟩ (.int .i64 x7)))):=q_ (HB4.o.trans (hs.below (a8 _)))
  clear hs g0 z0 g1 z1 g2 z2 g3 z3 g4 z4 g5 z5 g6 z6 g7 z7;generalize ((((((((w4.setCell ⟨w.1.size,0,none⟩ (.int .i64 x0)).setCell ⟨w.1.size,1,none⟩ (.int .i64 x1)).setCell ⟨w.1.size,2,none⟩ (.int .i64 x2)).setCell ⟨w.1.size,3,none⟩ (.int .i64 x3)).setCell ⟨w.1.size,4,none⟩ (.int .i64 x4)).setCell ⟨w.1.size,5,none⟩ (.int .i64 x5)).setCell ⟨w.1.size,6,none⟩ (.int .i64 x6)).setCell ⟨w.1.size,7,none⟩ (.int .i64 x7))=W5 at *;have HLD:=q_ (t9 (P:=prog) W5 w.1.size 0 31 [.int .i64 x0,.int .i64 x1,.int .i64 x2,.int .i64 x3,.int .i64 x4,.int .i64 x5,.int .i64 x6,.int .i64 x7] _ HK5.o.rg underlying31 rfl kr);exact b9 (v:=.tuple #[.agg #[.int .i64 x0,.int .i64 x1,.int .i64 x2,.int .i64 x3,.int .i64 x4,.int .i64 x5,.int .i64 x6,.int .i64 x7],.int .i64 0]) (by rw[zj rfl];simp[asAddr,Result.andThen];rw[HLD.o]) rfl ⟨rfl,HB5.o⟩
 ·have hE2:(E != 0)=true:=by rw[b0r];exact hE
  have hE3:(E==0)=false:=by rw[l7];exact hE
  rw[if_neg hE];clear HLN;clear hE;show Calls prog _ _ w λe w'=>e=.returned (.tuple #[.agg #[.int .i64 0,.int .i64 0,.int .i64 0,.int .i64 0,.int .i64 0,.int .i64 0,.int .i64 0,.int .i64 0],.int .i64 E])/\Below w.1.size w w'
  go_enter func277,ntmps277;go_wp2_with (refine qc rfl 31 rfl #[.int .i64 0,.int .i64 0,.int .i64 0,.int .i64 0,.int .i64 0,.int .i64 0,.int .i64 0,.int .i64 0] (HZ _).o ?_;intro W1 hW1;have HK1:=q_ (Blk.newL (L:=[.int .i64 0,.int .i64 0,.int .i64 0,.int .i64 0,.int .i64 0,.int .i64 0,.int .i64 0,.int .i64 0]) hW1 rfl);have HB1:=q_ hW1.bel;clear hW1);refine(HF _).o.mono ?_;rintro e w2 ⟨A,c,rfl,hf,hb⟩;have HT:=HS _ c _ _ HB1.o hf hb;have HK2:=q_ (HK1.o.on hb);have HB2:=q_ (qb HB1.o hb);clear hf hb HS HK1 HB1;go_wp2_with fail;refine HT.o.mono ?_;rintro e w3 ⟨A3,c3,rfl,hf,hb⟩;have HFL:=q_ hf;have HK3:=q_ (HK2.o.on hb);have HB3:=q_ (qb HB2.o hb);clear hf hb HK2 HB2 HT;have g0:=HK3.o.cell 0 (v:=.int .i64 0) rfl;have z0:=HK3.o.fz 0;have g1:=HK3.o.cell 1 (v:=.int .i64 0) rfl;have z1:=HK3.o.fz 1;have g2:=HK3.o.cell 2 (v:=.int .i64 0) rfl;have z2:=HK3.o.fz 2
  have g3:=HK3.o.cell 3 (v:=.int .i64 0) rfl;have z3:=HK3.o.fz 3;have g4:=HK3.o.cell 4 (v:=.int .i64 0) rfl;have z4:=HK3.o.fz 4;have g5:=HK3.o.cell 5 (v:=.int .i64 0) rfl;have z5:=HK3.o.fz 5;have g6:=HK3.o.cell 6 (v:=.int .i64 0) rfl;have z6:=HK3.o.fz 6;have g7:=HK3.o.cell 7 (v:=.int .i64 0) rfl;have z7:=HK3.o.fz 7;go_wp2_with fail;have hs:qq w3 (((((((((w3.setCell ⟨w.1.size,0,none⟩ (.int .i64 0)).setCell ⟨w.1.size,1,none⟩ (.int .i64 0)).setCell ⟨w.1.size,2,none⟩ (.int .i64 0)).setCell ⟨w.1.size,3,none⟩ (.int .i64 0)).setCell ⟨w.1.size,4,none⟩ (.int .i64 0)).setCell ⟨w.1.size,5,none⟩ (.int .i64 0)).setCell ⟨w.1.size,6,none⟩ (.int .i64 0)).setCell ⟨w.1.size,7,none⟩ (.int .i64 0))) w.1.size 0 [.int .i64 0,.int .i64 0,.int .i64 0,.int .i64 0,.int .i64 0,.int .i64 0,.int .i64 0,.int .i64 0]:=qo (cs:=[.int .i64 0,.int .i64 0,.int .i64 0,.int .i64 0,.int .i64 0,.int .i64 0,.int .i64 0,.int .i64 0]) (HK3.o.there 0 8 (a8 _))
  have HK5:Q_ (Blk (((((((((w3.setCell ⟨w.1.size,0,none⟩ (.int .i64 0)).setCell ⟨w.1.size,1,none⟩ (.int .i64 0)).setCell ⟨w.1.size,2,none⟩ (.int .i64 0)).setCell ⟨w.1.size,3,none⟩ (.int .i64 0)).setCell ⟨w.1.size,4,none⟩ (.int .i64 0)).setCell ⟨w.1.size,5,none⟩ (.int .i64 0)).setCell ⟨w.1.size,6,none⟩ (.int .i64 0)).setCell ⟨w.1.size,7,none⟩ (.int .i64 0))) w.1.size [.int .i64 0,.int .i64 0,.int .i64 0,.int .i64 0,.int .i64 0,.int .i64 0,.int .i64 0,.int .i64 0]):=q_ (HK3.o.all hs rfl);have HB5:Q_ (Below w.1.size w (((((((((w3.setCell ⟨w.1.size,0,none⟩ (.int .i64 0)).setCell ⟨w.1.size,1,none⟩ (.int .i64 0)).setCell ⟨w.1.size,2,none⟩ (.int .i64 0)).setCell ⟨w.1.size,3,none⟩ (.int .i64 0)).setCell ⟨w.1.size,4,none⟩ (.int .i64 0)).setCell ⟨w.1.size,5,none⟩ (.int .i64 0)).setCell ⟨w.1.size,6,none⟩ (.int .i64 0)).setCell ⟨w.1.size,7,none⟩ (.int .i64 0)))):=q_ (HB3.o.trans (hs.below (a8 _)))
  clear hs g0 z0 g1 z1 g2 z2 g3 z3 g4 z4 g5 z5 g6 z6 g7 z7;generalize ((((((((w3.setCell ⟨w.1.size,0,none⟩ (.int .i64 0)).setCell ⟨w.1.size,1,none⟩ (.int .i64 0)).setCell ⟨w.1.size,2,none⟩ (.int .i64 0)).setCell ⟨w.1.size,3,none⟩ (.int .i64 0)).setCell ⟨w.1.size,4,none⟩ (.int .i64 0)).setCell ⟨w.1.size,5,none⟩ (.int .i64 0)).setCell ⟨w.1.size,6,none⟩ (.int .i64 0)).setCell ⟨w.1.size,7,none⟩ (.int .i64 0))=W5 at *;have HLD:=q_ (t9 (P:=prog) W5 w.1.size 0 31 [.int .i64 0,.int .i64 0,.int .i64 0,.int .i64 0,.int .i64 0,.int .i64 0,.int .i64 0,.int .i64 0] _ HK5.o.rg underlying31 rfl kr);exact b9 (v:=.tuple #[.agg #[.int .i64 0,.int .i64 0,.int .i64 0,.int .i64 0,.int .i64 0,.int .i64 0,.int .i64 0,.int .i64 0],.int .i64 E]) (by rw[zj rfl];simp[asAddr,Result.andThen];rw[HLD.o]) rfl ⟨rfl,HB5.o⟩
def af7 (b:List UInt8):Int×List Int:=if(xl ay6 b).1=0 then xl ay6 b else((xl ay6 b).1,List.replicate 2 0)
theorem bnw (w:World):(zeroValue 33).run prog w=.ok (.agg #[.bool false,.int .i64 0,.int .i64 0]) w:=by kernel_rfl
theorem bl5 (w:World):(Instr.build 33 #[]).run prog w=.ok (.agg #[.bool false,.int .i64 0,.int .i64 0]) w:=by kernel_rfl
theorem ay7 {Q0:Nat->Prop} {w:World} (X:Option Addr) (d:Nat) (b:List UInt8) (yes:Bool) (hB:qf Q0 w X (bsV b)) (hm:b.length<=1100000) :
 Calls prog 283 #[.slice X b.length d,.bool yes] w λe w'=>e=.returned (.tuple #[.agg (.bool (yes && decide ((af7 b).1=0))::qt (af7 b).2).toArray,.int .i64 (af7 b).1])/\Below w.1.size w w':=by
 have HF:=λW=>q_ (ase W)
 have HS:=ais (d:=d) api dc hB hm;have HZ:=λW=>q_ (bnw W)
 have HB0:=λW=>q_ (bl5 W)
 have HLN:=q_ (λh=>(aby (fs:=ay6) (b:=b) h));unfold af7;obtain⟨⟨E,v⟩,hr⟩:∃r,xl ay6 b=r:=⟨_,rfl⟩;rw[hr]at HS HLN ⊢;dsimp only at *;generalize hL:b.length=L at *;unfold ac9 at HF;rw[show ay6.length=2 from rfl]at *;clear hB hr hL
 by_cases hE:E=0
 ·subst hE;have hl:=HLN.o rfl
  obtain⟨x0,x1,rfl⟩:∃x0 x1,v=[x0,x1]:=by
   rcases v with _|⟨a0,_|⟨a1,_|⟨z,_⟩⟩⟩<;>first|exact⟨_,_,rfl⟩|(simp at hl)
  rw[if_pos rfl];clear hl HLN;simp only[Bool.and_true,decide_true]at *;show Calls prog _ _ w λe w'=>e=.returned (.tuple #[.agg #[.bool yes,.int .i64 x0,.int .i64 x1],.int .i64 0])/\Below w.1.size w w'
  go_enter func283,ntmps283;go_wp2_with (refine qc rfl 33 rfl #[.bool false,.int .i64 0,.int .i64 0] (HZ _).o ?_;intro W1 hW1;have HK1:=q_ (Blk.newL (L:=[.bool false,.int .i64 0,.int .i64 0]) hW1 rfl);have HB1:=q_ hW1.bel;clear hW1);refine(HF _).o.mono ?_;rintro e w2 ⟨A,c,rfl,hf,hb⟩;have HT:=HS _ c _ _ HB1.o hf hb;have HK2:=q_ (HK1.o.on hb);have HB2:=q_ (qb HB1.o hb);clear hf hb HS HK1 HB1;go_wp2_with fail;refine HT.o.mono ?_;rintro e w3 ⟨A3,c3,rfl,hf,hb⟩;have HFL:=q_ hf;have HK3:=q_ (HK2.o.on hb);have HB3:=q_ (qb HB2.o hb);clear hf hb HK2 HB2 HT;obtain⟨ab,ao,rfl,-,hablt,hcell⟩:=afp HFL.o sm;have HCE:Q_ (∀W,Below w3.1.size w3 W->W.cell? ⟨ab,ao,none⟩=some (.int .i64 x0)/\W.cell? ⟨ab,ao+1,none⟩=some (.int .i64 x1)):=q_ λW hW=>⟨(hW.cell (p:=⟨ab,ao,none⟩) hablt).trans (hcell 0 sm),(hW.cell (p:=⟨ab,ao+1,none⟩) hablt).trans (hcell 1 sm)⟩
  clear hcell;go_upto_region 4 with fail;have cc:=HCE.o w3.drew ((n9 _ _).drew);obtain⟨cc0,cc1⟩:=cc
  go_still_tail 8,kr
  change wpList _ _ _ _ _ w3.drew;clear cc0 cc1;have HK4:Q_ (Blk w3.drew w.1.size [.bool false,.int .i64 0,.int .i64 0]):=q_ HK3.o.drew;have HB4:Q_ (Below w.1.size w w3.drew):=q_ HB3.o.drew;generalize w3.drew=w4 at *;have g0:=HK4.o.cell 0 (v:=.bool false) rfl;have z0:=HK4.o.fz 0;have g1:=HK4.o.cell 1 (v:=.int .i64 0) rfl;have z1:=HK4.o.fz 1;have g2:=HK4.o.cell 2 (v:=.int .i64 0) rfl;have z2:=HK4.o.fz 2;go_wp2_with fail;have hs:qq w4 ((((w4.setCell ⟨w.1.size,0,none⟩ (.bool yes)).setCell ⟨w.1.size,1,none⟩ (.int .i64 x0)).setCell ⟨w.1.size,2,none⟩ (.int .i64 x1))) w.1.size 0 [.bool yes,.int .i64 x0,.int .i64 x1]:=qo (cs:=[.bool yes,.int .i64 x0,.int .i64 x1]) (HK4.o.there 0 3 (a8 _));have HK5:Q_ (Blk ((((w4.setCell ⟨w.1.size,0,none⟩ (.bool yes)).setCell ⟨w.1.size,1,none⟩ (.int .i64 x0)).setCell ⟨w.1.size,2,none⟩ (.int .i64 x1))) w.1.size [.bool yes,.int .i64 x0,.int .i64 x1]):=q_ (HK4.o.all hs rfl)
  have HB5:Q_ (Below w.1.size w ((((w4.setCell ⟨w.1.size,0,none⟩ (.bool yes)).setCell ⟨w.1.size,1,none⟩ (.int .i64 x0)).setCell ⟨w.1.size,2,none⟩ (.int .i64 x1)))):=q_ (HB4.o.trans (hs.below (a8 _)));clear hs g0 z0 g1 z1 g2 z2;generalize (((w4.setCell ⟨w.1.size,0,none⟩ (.bool yes)).setCell ⟨w.1.size,1,none⟩ (.int .i64 x0)).setCell ⟨w.1.size,2,none⟩ (.int .i64 x1))=W5 at *;have HLD:=q_ (t9 (P:=prog) W5 w.1.size 0 33 [.bool yes,.int .i64 x0,.int .i64 x1] _ HK5.o.rg underlying33 rfl kr);exact b9 (v:=.tuple #[.agg #[.bool yes,.int .i64 x0,.int .i64 x1],.int .i64 0]) (by rw[zj rfl];simp[asAddr,Result.andThen];rw[HLD.o]) rfl ⟨rfl,HB5.o⟩
 ·have hE2:(E != 0)=true:=by rw[b0r];exact hE
  have hE3:(E==0)=false:=by rw[l7];exact hE
  rw[if_neg hE];clear HLN;rw[o7 (show ¬(E,List.replicate 2 (0:Int)).1=0 from hE),Bool.and_false];clear hE;show Calls prog _ _ w λe w'=>e=.returned (.tuple #[.agg #[.bool false,.int .i64 0,.int .i64 0],.int .i64 E])/\Below w.1.size w w'
  go_enter func283,ntmps283;go_wp2_with (refine qc rfl 33 rfl #[.bool false,.int .i64 0,.int .i64 0] (HZ _).o ?_;intro W1 hW1;have HK1:=q_ (Blk.newL (L:=[.bool false,.int .i64 0,.int .i64 0]) hW1 rfl);have HB1:=q_ hW1.bel;clear hW1);refine(HF _).o.mono ?_;rintro e w2 ⟨A,c,rfl,hf,hb⟩;have HT:=HS _ c _ _ HB1.o hf hb;have HK2:=q_ (HK1.o.on hb);have HB2:=q_ (qb HB1.o hb);clear hf hb HS HK1 HB1;go_wp2_with fail;refine HT.o.mono ?_;rintro e w3 ⟨A3,c3,rfl,hf,hb⟩;have HFL:=q_ hf;have HK3:=q_ (HK2.o.on hb);have HB3:=q_ (qb HB2.o hb);clear hf hb HK2 HB2 HT;have g0:=HK3.o.cell 0 (v:=.bool false) rfl;have z0:=HK3.o.fz 0;have g1:=HK3.o.cell 1 (v:=.int .i64 0) rfl;have z1:=HK3.o.fz 1;have g2:=HK3.o.cell 2 (v:=.int .i64 0) rfl;have z2:=HK3.o.fz 2;go_wp2_with fail;have hs:qq w3 ((((w3.setCell ⟨w.1.size,0,none⟩ (.bool false)).setCell ⟨w.1.size,1,none⟩ (.int .i64 0)).setCell ⟨w.1.size,2,none⟩ (.int .i64 0))) w.1.size 0 [.bool false,.int .i64 0,.int .i64 0]:=qo (cs:=[.bool false,.int .i64 0,.int .i64 0]) (HK3.o.there 0 3 (a8 _))
  have HK5:Q_ (Blk ((((w3.setCell ⟨w.1.size,0,none⟩ (.bool false)).setCell ⟨w.1.size,1,none⟩ (.int .i64 0)).setCell ⟨w.1.size,2,none⟩ (.int .i64 0))) w.1.size [.bool false,.int .i64 0,.int .i64 0]):=q_ (HK3.o.all hs rfl);have HB5:Q_ (Below w.1.size w ((((w3.setCell ⟨w.1.size,0,none⟩ (.bool false)).setCell ⟨w.1.size,1,none⟩ (.int .i64 0)).setCell ⟨w.1.size,2,none⟩ (.int .i64 0)))):=q_ (HB3.o.trans (hs.below (a8 _)));clear hs g0 z0 g1 z1 g2 z2;generalize (((w3.setCell ⟨w.1.size,0,none⟩ (.bool false)).setCell ⟨w.1.size,1,none⟩ (.int .i64 0)).setCell ⟨w.1.size,2,none⟩ (.int .i64 0))=W5 at *;have HLD:=q_ (t9 (P:=prog) W5 w.1.size 0 33 [.bool false,.int .i64 0,.int .i64 0] _ HK5.o.rg underlying33 rfl kr);exact b9 (v:=.tuple #[.agg #[.bool false,.int .i64 0,.int .i64 0],.int .i64 E]) (by rw[zj rfl];simp[asAddr,Result.andThen];rw[HLD.o]) rfl ⟨rfl,HB5.o⟩
theorem avn (w:World):Calls prog 297 #[.int .i64 28,.int .i64 3] w λe w'=>e=.returned (.bool true)/\w=w':=by
 go_enter func297,ntmps297;go_wp2;go_ret;exact⟨rfl,rfl⟩
theorem a4l (w:World):Calls prog 298 #[.int .i64 3] w λe w'=>e=.returned (.int .u32 7)/\w=w':=by
 go_enter func298,ntmps298;go_wp2;go_ret;exact⟨rfl,rfl⟩
theorem ay9 (k q:Nat) (w:World) (hk:k<2147483648) (hq:k / 268435456=q):Calls prog 296 #[.int .u32 k,.int .i64 28,.int .i64 3] w λe w'=>e=.returned (.int .u32 q)/\Below w.1.size w w':=by
 have HP:=λW=>q_ (avn W)
 have HM:=λW=>q_ (a4l W)
 have f1:(k:Int) / 268435456=(q:Int):=by omega
 have f2:bits BinOp.and IntKind.u32 (q:Int) 7=(q:Int):=by
  have:=u32_and_nat q 7 om dc;rw[show ((7:Nat):Int)=7 from rfl,nat_mask3]at this;rw[this];omega
 clear hq;go_enter func296,ntmps296;go_wp2_with fail;refine((HP _).o).mono ?_;rintro e w' ⟨rfl,rfl⟩;go_upto_region 3 with fail
 try (apply b1q;intro K_ HK_)
 have hS0:Below w.1.size w w.drew:=(n9 _ _).drew;refine t6 (S:=λw'=>Below w.1.size w w') kr hS0 (λhHeld0=>?_);refine tkA 0 11 rfl ?_;go_frame;refine tkA 1 12 rfl ?_;go_frame;refine tkA 2 13 rfl ?_;go_frame;refine tkA 3 14 rfl ?_;go_frame;refine rdB 4 15 rfl λK hK=>?_
 go_step;refine(HM _).o.mono ?_;rintro e w2 ⟨rfl,rfl⟩
 try go_frame
 refine hK.out _ _ (hHeld0) (λhHeld=>?_);clear hK K
 try go_frame
 refine tkA 5 16 rfl ?_;go_frame;refine tkA 6 6 rfl ?_;go_frame;refine b0m kr ?_ _
 try go_frame
 go_wp2_with fail;go_ret;exact⟨rfl,hHeld0⟩
def bfm:Nat->Nat×Nat
 | 1=>(1,1)
 | 2=>(8,1)
 | 3=>(16,2)
 | 4=>(32,4)
 | 5=>(63,8)
 | _=>(0,0)
def jk (key:Nat):Nat×Nat:=if 2147483648<=key then(0,0)else bfm (key / 268435456)
theorem an0 (k:Nat) (w:World) (hk:k<4294967296):Calls prog 295 #[.int .i64 k] w λe w'=>e=.returned (.tuple #[.int .i64 (jk k).1,.int .i64 (jk k).2])/\Below w.1.size w w':=by
 by_cases hb:2147483648<=k
 ·have e:jk k=(0,0):=by unfold jk;rw[if_pos hb]
  rw[e];have f1:(2147483647:Int)<(k:Int):=by omega
  have f2:¬(k:Int)<0:=by omega
  go_enter func295,ntmps295;go_wp2_with fail
  go_ret2
  exact⟨rfl,n9 _ _⟩
 have f1:¬(2147483647:Int)<(k:Int):=by omega
 have f2:¬(k:Int)<0:=by omega
 have f3:IntKind.u32.wrap (k:Int)=(k:Int):=IntWalk.u32_in _ om;obtain⟨q,hq⟩:∃q,k / 268435456=q:=⟨_,rfl⟩;have HG:=λW=>q_ (ay9 k q W om hq)
 have hq7:q=0\/q=1\/q=2\/q=3\/q=4\/q=5\/q=6\/q=7:=by omega
 have e:jk k=bfm q:=by unfold jk;rw[if_neg hb,hq]
 rw[e];clear e hq hb hk;rcases hq7 with rfl|rfl|rfl|rfl|rfl|rfl|rfl|rfl
 ·show Calls prog _ _ w λe w'=>e=.returned (.tuple #[.int .i64 0,.int .i64 0])/\Below w.1.size w w'
  go_enter func295,ntmps295;go_wp2_with fail;refine(HG _).o.mono ?_;rintro e w2 ⟨rfl,hb⟩;have HK2:Q_ (Blk w2 w.1.size #[.int .i64 0,.int .i64 0,.int .i64 1,.int .i64 1,.int .i64 8,.int .i64 1,.int .i64 16,.int .i64 2,.int .i64 32,.int .i64 4,.int .i64 63,.int .i64 8,.int .i64 0,.int .i64 0,.int .i64 0,.int .i64 0].toList):=q_ ((Blk.newL (qg w _ _) rfl).on hb);have HB2:Q_ (Below w.1.size w w2):=q_ (qb (qa _ _) hb);have c0:=HK2.o.cell 0 (v:=.int .i64 0) rfl;have c1:=HK2.o.cell 1 (v:=.int .i64 0) rfl;clear hb;go_upto_region 5 with fail
  go_quiet (fail)
  go_wp2_with fail
  go_ret2
  exact⟨rfl,aai (qb HB2.o (qa _ _)) _⟩
 ·show Calls prog _ _ w λe w'=>e=.returned (.tuple #[.int .i64 1,.int .i64 1])/\Below w.1.size w w'
  go_enter func295,ntmps295;go_wp2_with fail;refine(HG _).o.mono ?_;rintro e w2 ⟨rfl,hb⟩;have HK2:Q_ (Blk w2 w.1.size #[.int .i64 0,.int .i64 0,.int .i64 1,.int .i64 1,.int .i64 8,.int .i64 1,.int .i64 16,.int .i64 2,.int .i64 32,.int .i64 4,.int .i64 63,.int .i64 8,.int .i64 0,.int .i64 0,.int .i64 0,.int .i64 0].toList):=q_ ((Blk.newL (qg w _ _) rfl).on hb);have HB2:Q_ (Below w.1.size w w2):=q_ (qb (qa _ _) hb);have c0:=HK2.o.cell 2 (v:=.int .i64 1) rfl;have c1:=HK2.o.cell 3 (v:=.int .i64 1) rfl;clear hb;go_upto_region 5 with fail
  go_quiet (fail)
  go_wp2_with fail
  go_ret2
  exact⟨rfl,aai (qb HB2.o (qa _ _)) _⟩
 ·show Calls prog _ _ w λe w'=>e=.returned (.tuple #[.int .i64 8,.int .i64 1])/\Below w.1.size w w'
  go_enter func295,ntmps295;go_wp2_with fail;refine(HG _).o.mono ?_;rintro e w2 ⟨rfl,hb⟩;have HK2:Q_ (Blk w2 w.1.size #[.int .i64 0,.int .i64 0,.int .i64 1,.int .i64 1,.int .i64 8,.int .i64 1,.int .i64 16,.int .i64 2,.int .i64 32,.int .i64 4,.int .i64 63,.int .i64 8,.int .i64 0,.int .i64 0,.int .i64 0,.int .i64 0].toList):=q_ ((Blk.newL (qg w _ _) rfl).on hb);have HB2:Q_ (Below w.1.size w w2):=q_ (qb (qa _ _) hb);have c0:=HK2.o.cell 4 (v:=.int .i64 8) rfl;have c1:=HK2.o.cell 5 (v:=.int .i64 1) rfl;clear hb;go_upto_region 5 with fail
  go_quiet (fail)
  go_wp2_with fail
  go_ret2
  exact⟨rfl,aai (qb HB2.o (qa _ _)) _⟩
 ·show Calls prog _ _ w λe w'=>e=.returned (.tuple #[.int .i64 16,.int .i64 2])/\Below w.1.size w w'
  go_enter func295,ntmps295;go_wp2_with fail;refine(HG _).o.mono ?_;rintro e w2 ⟨rfl,hb⟩;have HK2:Q_ (Blk w2 w.1.size #[.int .i64 0,.int .i64 0,.int .i64 1,.int .i64 1,.int .i64 8,.int .i64 1,.int .i64 16,.int .i64 2,.int .i64 32,.int .i64 4,.int .i64 63,.int .i64 8,.int .i64 0,.int .i64 0,.int .i64 0,.int .i64 0].toList):=q_ ((Blk.newL (qg w _ _) rfl).on hb);have HB2:Q_ (Below w.1.size w w2):=q_ (qb (qa _ _) hb);have c0:=HK2.o.cell 6 (v:=.int .i64 16) rfl;have c1:=HK2.o.cell 7 (v:=.int .i64 2) rfl;clear hb;go_upto_region 5 with fail
  go_quiet (fail)
  go_wp2_with fail
  go_ret2
  exact⟨rfl,aai (qb HB2.o (qa _ _)) _⟩
 ·show Calls prog _ _ w λe w'=>e=.returned (.tuple #[.int .i64 32,.int .i64 4])/\Below w.1.size w w'
  go_enter func295,ntmps295;go_wp2_with fail;refine(HG _).o.mono ?_;rintro e w2 ⟨rfl,hb⟩;have HK2:Q_ (Blk w2 w.1.size #[.int .i64 0,.int .i64 0,.int .i64 1,.int .i64 1,.int .i64 8,.int .i64 1,.int .i64 16,.int .i64 2,.int .i64 32,.int .i64 4,.int .i64 63,.int .i64 8,.int .i64 0,.int .i64 0,.int .i64 0,.int .i64 0].toList):=q_ ((Blk.newL (qg w _ _) rfl).on hb);have HB2:Q_ (Below w.1.size w w2):=q_ (qb (qa _ _) hb);have c0:=HK2.o.cell 8 (v:=.int .i64 32) rfl;have c1:=HK2.o.cell 9 (v:=.int .i64 4) rfl;clear hb;go_upto_region 5 with fail
  go_quiet (fail)
  go_wp2_with fail
  go_ret2
  exact⟨rfl,aai (qb HB2.o (qa _ _)) _⟩
 ·show Calls prog _ _ w λe w'=>e=.returned (.tuple #[.int .i64 63,.int .i64 8])/\Below w.1.size w w'
  go_enter func295,ntmps295;go_wp2_with fail;refine(HG _).o.mono ?_;rintro e w2 ⟨rfl,hb⟩;have HK2:Q_ (Blk w2 w.1.size #[.int .i64 0,.int .i64 0,.int .i64 1,.int .i64 1,.int .i64 8,.int .i64 1,.int .i64 16,.int .i64 2,.int .i64 32,.int .i64 4,.int .i64 63,.int .i64 8,.int .i64 0,.int .i64 0,.int .i64 0,.int .i64 0].toList):=q_ ((Blk.newL (qg w _ _) rfl).on hb);have HB2:Q_ (Below w.1.size w w2):=q_ (qb (qa _ _) hb);have c0:=HK2.o.cell 10 (v:=.int .i64 63) rfl;have c1:=HK2.o.cell 11 (v:=.int .i64 8) rfl;clear hb;go_upto_region 5 with fail
  go_quiet (fail)
  go_wp2_with fail
  go_ret2
  exact⟨rfl,aai (qb HB2.o (qa _ _)) _⟩
 ·show Calls prog _ _ w λe w'=>e=.returned (.tuple #[.int .i64 0,.int .i64 0])/\Below w.1.size w w'
  go_enter func295,ntmps295;go_wp2_with fail;refine(HG _).o.mono ?_;rintro e w2 ⟨rfl,hb⟩;have HK2:Q_ (Blk w2 w.1.size #[.int .i64 0,.int .i64 0,.int .i64 1,.int .i64 1,.int .i64 8,.int .i64 1,.int .i64 16,.int .i64 2,.int .i64 32,.int .i64 4,.int .i64 63,.int .i64 8,.int .i64 0,.int .i64 0,.int .i64 0,.int .i64 0].toList):=q_ ((Blk.newL (qg w _ _) rfl).on hb);have HB2:Q_ (Below w.1.size w w2):=q_ (qb (qa _ _) hb);have c0:=HK2.o.cell 12 (v:=.int .i64 0) rfl;have c1:=HK2.o.cell 13 (v:=.int .i64 0) rfl;clear hb;go_upto_region 5 with fail
  go_quiet (fail)
  go_wp2_with fail
  go_ret2
  exact⟨rfl,aai (qb HB2.o (qa _ _)) _⟩
 ·show Calls prog _ _ w λe w'=>e=.returned (.tuple #[.int .i64 0,.int .i64 0])/\Below w.1.size w w'
  go_enter func295,ntmps295;go_wp2_with fail;refine(HG _).o.mono ?_;rintro e w2 ⟨rfl,hb⟩;have HK2:Q_ (Blk w2 w.1.size #[.int .i64 0,.int .i64 0,.int .i64 1,.int .i64 1,.int .i64 8,.int .i64 1,.int .i64 16,.int .i64 2,.int .i64 32,.int .i64 4,.int .i64 63,.int .i64 8,.int .i64 0,.int .i64 0,.int .i64 0,.int .i64 0].toList):=q_ ((Blk.newL (qg w _ _) rfl).on hb);have HB2:Q_ (Below w.1.size w w2):=q_ (qb (qa _ _) hb);have c0:=HK2.o.cell 14 (v:=.int .i64 0) rfl;have c1:=HK2.o.cell 15 (v:=.int .i64 0) rfl;clear hb;go_upto_region 5 with fail
  go_quiet (fail)
  go_wp2_with fail
  go_ret2
  exact⟨rfl,aai (qb HB2.o (qa _ _)) _⟩
theorem aqk (k:Nat):(jk k).1<=63 /\(jk k).2<=8:=by
 unfold jk
 split
 ·exact⟨by decide,by decide⟩
 ·unfold bfm
  split<;>exact⟨by decide,by decide⟩
theorem an1 (k:Nat) (w:World) (hk:k<4294967296):Calls prog 292 #[.int .i64 k] w λe w'=>e=.returned (.tuple #[.int .i64 (jk k).2,.bool (decide (0<(jk k).2))])/\Below w.1.size w w':=by
 have HK:=λW=>q_ (an0 k W hk)
 generalize (jk k).1=a at *;generalize (jk k).2=b at *;go_enter func292,ntmps292;go_wp2_with (refine(HK _).o.mono ?_;rintro e w1 ⟨rfl,hb⟩;have HB:=q_ hb;clear hb)
 go_ret2
 refine⟨?_,HB.o⟩;have:decide (0<b)=decide ((0:Int)<(b:Int)):=by apply decide_eq_decide.2;omega
 rw[this];rfl
theorem bjh (n:Nat) (h:n<=63):IntKind.i64.wrap (IntKind.u64.wrap (IntKind.u64.wrap (2^n)-1))=((2^n-1:Nat):Int):=by
 have h1:2^n<=2^63:=b06 dc h;have h0:0<2^n:=b3x dc;have e:((2:Int)^n)=((2^n:Nat):Int):=by rw[Int.natCast_pow];rfl
 have e1:IntKind.u64.wrap ((2^n:Nat):Int)=((2^n:Nat):Int):=b3w _ om;have e2:IntKind.u64.wrap (((2^n:Nat):Int)-1)=((2^n:Nat):Int)-1:=b3w _ om;rw[e,e1,e2,b05 _ om];omega
theorem a3l (k:Nat) (w:World) (hk:k<4294967296):Calls prog 294 #[.int .i64 k] w λe w'=>e=.returned (.int .i64 ((2^(jk k).1-1:Nat):Int))/\Below w.1.size w w':=by
 have HK:=λW=>q_ (an0 k W hk)
 have hle:=(aqk k).1;have HM:=q_ (bjh _ hle);generalize (jk k).1=a at *;generalize (jk k).2=b at *;have f1:IntKind.u64.wrap (a:Int)=(a:Int):=b3w _ om;have f2:(0:Int) <=(a:Int):=o5 _;go_enter func294,ntmps294;go_wp2_with (refine(HK _).o.mono ?_;rintro e w1 ⟨rfl,hb⟩;have HB:=q_ hb;clear hb);go_ret;refine⟨?_,HB.o⟩;have e:=HM.o;rw[b49]at e;exact congrArg (λx=>Ending.returned (.int .i64 x)) e
theorem bce {Q:Nat->Prop} {w:World} (A:Option Addr) (c:Nat) (v:List Int) (hf:qf Q w A (qt v)) (hl:v.length=7) :
 Calls prog 272 #[.slice A 7 c] w λe w'=>e=.returned (.agg (qt v).toArray)/\Below w.1.size w w':=by
 obtain⟨ab,ao,rfl,-,hablt,hcell⟩:=afp hf om
 obtain⟨x0,x1,x2,x3,x4,x5,x6,rfl⟩:∃x0 x1 x2 x3 x4 x5 x6,v=[x0,x1,x2,x3,x4,x5,x6]:=by
  rcases v with _|⟨x0,_|⟨x1,_|⟨x2,_|⟨x3,_|⟨x4,_|⟨x5,_|⟨x6,_|⟨z,_⟩⟩⟩⟩⟩⟩⟩⟩<;>first|exact⟨_,_,_,_,_,_,_,rfl⟩|(simp at hl)
 have HCE:Q_ (∀W,Below w.1.size w W->W.cell? ⟨ab,ao,none⟩=some (.int .i64 x0)/\W.cell? ⟨ab,ao+1,none⟩=some (.int .i64 x1)/\W.cell? ⟨ab,ao+2,none⟩=some (.int .i64 x2)/\W.cell? ⟨ab,ao+3,none⟩=some (.int .i64 x3)/\W.cell? ⟨ab,ao+4,none⟩=some (.int .i64 x4)/\W.cell? ⟨ab,ao+5,none⟩=some (.int .i64 x5)/\W.cell? ⟨ab,ao+6,none⟩=some (.int .i64 x6)):=q_ λW hW=>⟨(hW.cell (p:=⟨ab,ao,none⟩) hablt).trans (hcell 0 sm),(hW.cell (p:=⟨ab,ao+1,none⟩) hablt).trans (hcell 1 sm),(hW.cell (p:=⟨ab,ao+2,none⟩) hablt).trans (hcell 2 sm),(hW.cell (p:=⟨ab,ao+3,none⟩) hablt).trans (hcell 3 sm),(hW.cell (p:=⟨ab,ao+4,none⟩) hablt).trans (hcell 4 sm),(hW.cell (p:=⟨ab,ao+5,none⟩) hablt).trans (hcell 5 sm),(hW.cell (p:=⟨ab,ao+6,none⟩) hablt).trans (hcell 6 sm)⟩
 show Calls prog _ _ w λe w'=>e=.returned (.agg #[.int .i64 x0,.int .i64 x1,.int .i64 x2,.int .i64 x3,.int .i64 x4,.int .i64 x5,.int .i64 x6])/\Below w.1.size w w'
 clear hf hl hcell;go_enter func272,ntmps272;go_upto_region 1 with fail;have HK:Q_ (Blk (w.alloc (.cells #[.int .i64 0,.int .i64 0,.int .i64 0,.int .i64 0,.int .i64 0,.int .i64 0,.int .i64 0] 162)) w.1.size [.int .i64 0,.int .i64 0,.int .i64 0,.int .i64 0,.int .i64 0,.int .i64 0,.int .i64 0]):=q_ (Blk.newL (qg w _ _) rfl);have HB:Q_ (Below w.1.size w (w.alloc (.cells #[.int .i64 0,.int .i64 0,.int .i64 0,.int .i64 0,.int .i64 0,.int .i64 0,.int .i64 0] 162))):=q_ (qa _ _);generalize w.alloc (.cells #[.int .i64 0,.int .i64 0,.int .i64 0,.int .i64 0,.int .i64 0,.int .i64 0,.int .i64 0] 162)=W1 at *;have cc:=HCE.o W1.drew HB.o.drew;obtain⟨cc0,cc1,cc2,cc3,cc4,cc5,cc6⟩:=cc
 go_still_tail 22,kr
 change wpList _ _ _ _ _ W1.drew;clear cc0 cc1 cc2 cc3 cc4 cc5 cc6;have HK4:Q_ (Blk W1.drew w.1.size [.int .i64 0,.int .i64 0,.int .i64 0,.int .i64 0,.int .i64 0,.int .i64 0,.int .i64 0]):=q_ HK.o.drew;have HB4:Q_ (Below w.1.size w W1.drew):=q_ HB.o.drew;generalize W1.drew=w4 at *;have g0:=HK4.o.cell 0 (v:=.int .i64 0) rfl;have z0:=HK4.o.fz 0;have g1:=HK4.o.cell 1 (v:=.int .i64 0) rfl;have z1:=HK4.o.fz 1;have g2:=HK4.o.cell 2 (v:=.int .i64 0) rfl;have z2:=HK4.o.fz 2;have g3:=HK4.o.cell 3 (v:=.int .i64 0) rfl;have z3:=HK4.o.fz 3;have g4:=HK4.o.cell 4 (v:=.int .i64 0) rfl;have z4:=HK4.o.fz 4;have g5:=HK4.o.cell 5 (v:=.int .i64 0) rfl;have z5:=HK4.o.fz 5;have g6:=HK4.o.cell 6 (v:=.int .i64 0) rfl;have z6:=HK4.o.fz 6;go_wp2_with fail;have hs:qq w4 (((((((w4.setCell ⟨w.1.size,0,none⟩ (.int .i64 x0)).setCell ⟨w.1.size,1,none⟩ (.int .i64 x1)).setCell ⟨w.1.size,2,none⟩ (.int .i64 x2)).setCell ⟨w.1.size,3,none⟩ (.int .i64 x3)).setCell ⟨w.1.size,4,none⟩ (.int .i64 x4)).setCell ⟨w.1.size,5,none⟩ (.int .i64 x5)).setCell ⟨w.1.size,6,none⟩ (.int .i64 x6)) w.1.size 0 [.int .i64 x0,.int .i64 x1,.int .i64 x2,.int .i64 x3,.int .i64 x4,.int .i64 x5,.int .i64 x6]:=qo (cs:=[.int .i64 x0,.int .i64 x1,.int .i64 x2,.int .i64 x3,.int .i64 x4,.int .i64 x5,.int .i64 x6]) (HK4.o.there 0 7 (a8 _))
 have HK5:Q_ (Blk (((((((w4.setCell ⟨w.1.size,0,none⟩ (.int .i64 x0)).setCell ⟨w.1.size,1,none⟩ (.int .i64 x1)).setCell ⟨w.1.size,2,none⟩ (.int .i64 x2)).setCell ⟨w.1.size,3,none⟩ (.int .i64 x3)).setCell ⟨w.1.size,4,none⟩ (.int .i64 x4)).setCell ⟨w.1.size,5,none⟩ (.int .i64 x5)).setCell ⟨w.1.size,6,none⟩ (.int .i64 x6)) w.1.size [.int .i64 x0,.int .i64 x1,.int .i64 x2,.int .i64 x3,.int .i64 x4,.int .i64 x5,.int .i64 x6]):=q_ (HK4.o.all hs rfl);have HB5:Q_ (Below w.1.size w (((((((w4.setCell ⟨w.1.size,0,none⟩ (.int .i64 x0)).setCell ⟨w.1.size,1,none⟩ (.int .i64 x1)).setCell ⟨w.1.size,2,none⟩ (.int .i64 x2)).setCell ⟨w.1.size,3,none⟩ (.int .i64 x3)).setCell ⟨w.1.size,4,none⟩ (.int .i64 x4)).setCell ⟨w.1.size,5,none⟩ (.int .i64 x5)).setCell ⟨w.1.size,6,none⟩ (.int .i64 x6))):=q_ (HB4.o.trans (hs.below (a8 _)));clear hs g0 z0 g1 z1 g2 z2 g3 z3 g4 z4 g5 z5 g6 z6
 generalize (((((((w4.setCell ⟨w.1.size,0,none⟩ (.int .i64 x0)).setCell ⟨w.1.size,1,none⟩ (.int .i64 x1)).setCell ⟨w.1.size,2,none⟩ (.int .i64 x2)).setCell ⟨w.1.size,3,none⟩ (.int .i64 x3)).setCell ⟨w.1.size,4,none⟩ (.int .i64 x4)).setCell ⟨w.1.size,5,none⟩ (.int .i64 x5)).setCell ⟨w.1.size,6,none⟩ (.int .i64 x6))=W5 at *;have HLD:=q_ (t9 (P:=prog) W5 w.1.size 0 162 [.int .i64 x0,.int .i64 x1,.int .i64 x2,.int .i64 x3,.int .i64 x4,.int .i64 x5,.int .i64 x6] _ HK5.o.rg underlying162 rfl kr);exact b9 (v:=.agg #[.int .i64 x0,.int .i64 x1,.int .i64 x2,.int .i64 x3,.int .i64 x4,.int .i64 x5,.int .i64 x6]) (by rw[qm rfl];simp[asAddr,Result.andThen];exact HLD.o) rfl ⟨rfl,HB5.o⟩
def jl:Nat->List UInt8->Int×List (List Int)
 | 0,_=>(0,[])
 | n+1,b=>if(xl aka (b.take 12)).1=0 then(if(jl n (b.drop 12)).1=0 then(0,(xl aka (b.take 12)).2::(jl n (b.drop 12)).2)else((jl n (b.drop 12)).1,[]))else((xl aka (b.take 12)).1,[])
theorem bcf:∀(n:Nat) (b:List UInt8),(jl n b).1≠0 ->(jl n b).2=[]
 | 0,_,h=>absurd rfl h
 | n+1,b,h=>by
  unfold jl at *
  split
  ·rename_i h1;rw[if_pos h1]at h
   split
   ·rename_i h2;rw[if_pos h2]at h;exact absurd rfl h
   ·rfl
  ·rfl
theorem amu:∀(n:Nat) (b:List UInt8),(jl n b).1=0 ->(jl n b).2.length=n/\∀v∈(jl n b).2,v.length=7
 | 0,_,_=>⟨rfl,λv hv=>by cases hv⟩
 | n+1,b,h=>by
  unfold jl at *
  split at h
  ·rename_i h1
   split at h
   ·rename_i h2;rw[if_pos h1,if_pos h2];obtain⟨q1,q2⟩:=amu n _ h2;refine⟨by simp[q1],λv hv=>?_⟩;rcases b03.1 hv with rfl|hv
    ·exact aby h1
    ·exact q2 v hv
   ·rename_i h2;exact absurd h h2
  ·rename_i h1;exact absurd h h1
def afu (L:List (List Int)) (r:Int×List (List Int)):Int×List (List Int):=if r.1=0 then(0,L++r.2)else(r.1,[])
theorem a65 (n:Nat) (b:List UInt8):afu [] (jl n b)=jl n b:=by
 unfold afu
 split
 ·rename_i h;rw[b0y,<- h]
 ·rename_i h;rw[<- bcf n b h]
theorem akc (L:List (List Int)) (n:Nat) (b:List UInt8) (h:(xl aka (b.take 12)).1=0):afu L (jl (n+1) b)=afu (L++[(xl aka (b.take 12)).2]) (jl n (b.drop 12)):=by
 unfold afu
 conv=>lhs;unfold jl
 rw[if_pos h]
 by_cases h2:(jl n (b.drop 12)).1=0
 ·rw[if_pos h2,if_pos rfl,if_pos h2];simp
 ·rw[if_neg h2,if_neg h2,if_neg h2]
theorem a64 (L:List (List Int)) (n:Nat) (b:List UInt8) (h:(xl aka (b.take 12)).1≠0):afu L (jl (n+1) b)=((xl aka (b.take 12)).1,[]):=by
 unfold afu jl;rw[if_neg h,if_neg h]
def ab7 (b:List UInt8):Int×Int×List (List Int):=
 if b.length<8 then(2,0,[])else if(xl vi (b.take 8)).1=0 then
  if b.length-8<12*((xl vi (b.take 8)).2.getD 2 0).toNat then(2,0,[])else if 12*((xl vi (b.take 8)).2.getD 2 0).toNat<b.length-8 then(7,0,[])else
   if(jl ((xl vi (b.take 8)).2.getD 2 0).toNat (b.drop 8)).1=0 then(0,(xl vi (b.take 8)).2.getD 0 0,(jl ((xl vi (b.take 8)).2.getD 2 0).toNat (b.drop 8)).2)else((jl ((xl vi (b.take 8)).2.getD 2 0).toNat (b.drop 8)).1,0,[])
  else((xl vi (b.take 8)).1,0,[])
def aft (L:List (List Int)):List Value:=L.flatMap qt
def aon (x:Int×Int×List (List Int)) (w:World) (e:Ending) (w':World):Prop:=
 ∃A c,e=.returned (.tuple #[.agg #[.int .i64 x.2.1,.slice A x.2.2.length c],.int .i64 x.1])/\qf (λb=>w.1.size<=b/\b<w'.1.size) w' A (aft x.2.2)/\Below w.1.size w w'
theorem bg6:(prog.info? 162).map (λi=>(i.zero,i.size,i.bytes))=some (some (.agg #[.int .i64 0,.int .i64 0,.int .i64 0,.int .i64 0,.int .i64 0,.int .i64 0,.int .i64 0]),7,56):=by kernel_rfl
theorem akb (L:List (List Int)) (v:List Int):aft (L++[v])=aft L++qt v:=by simp[aft]
theorem amk (v:List Int):∀u∈qt v,u.oneCell'=true:=by
 intro u hu;obtain⟨n,-,rfl⟩:=b2f.1 hu;rfl
theorem ahy {w1 w:World} {b:Nat} {x y:Value} (hk:Blk w1 b [x,y]) (p q:Value) (hb:Below b w w1) :
 (loadVar 29 ⟨b,0,none⟩).run prog ((w1.setCell ⟨b,0,none⟩ p).setCell ⟨b,1,none⟩ q)=.ok (.agg #[p,q]) ((w1.setCell ⟨b,0,none⟩ p).setCell ⟨b,1,none⟩ q)/\Below b w ((w1.setCell ⟨b,0,none⟩ p).setCell ⟨b,1,none⟩ q)/\∀k,k≠b ->((w1.setCell ⟨b,0,none⟩ p).setCell ⟨b,1,none⟩ q).heap[k]?=w1.heap[k]?:=by
 have hs:qq w1 ((w1.setCell ⟨b,0,none⟩ p).setCell ⟨b,1,none⟩ q) b 0 [p,q]:=qo (cs:=[p,q]) (hk.there 0 2 (a8 _));exact⟨t9 (P:=prog) _ b 0 29 [p,q] _ (hk.all hs rfl).rg underlying29 rfl kr,hb.trans (hs.below (a8 _)),hs.far⟩
theorem aw1 {Q:Nat->Prop} {w:World} {b o c:Nat} {l:List UInt8} (h:qf Q w (some ⟨b,o,none⟩) (bsV l)) (n:Nat) (hn:n<=l.length) (hc:l.length<=c) (o':Nat) (ho:o'=o+n\/c=n):qf Q w (some ⟨b,o',none⟩) (bsV (l.drop n)):=by
 rcases ho with rfl|rfl
 ·have:=h.part n
  rwa [abs]at this
 ·rw[b19 om];exact qf.nil _ _ _
theorem axe {Q0:Nat->Prop} {w:World} (X:Option Addr) (d:Nat) (b:List UInt8) (hB:qf Q0 w X (bsV b)) (hm:b.length<=1100000) (hd:b.length<=d) :
 Calls prog 269 #[.slice X b.length d] w (aon (ab7 b) w):=by
 have HK0:∀W,Below (w.alloc (.cells #[.int .i64 0,.slice none 0 0] 29)).1.size (w.alloc (.cells #[.int .i64 0,.slice none 0 0] 29)) W->Q_ (Blk W w.1.size [.int .i64 0,.slice none 0 0]):=λW hW=>q_ ((Blk.newL (qg w _ _) rfl).on hW)
 by_cases h8:b.length<8
 ·have e:ab7 b=(2,0,[]):=by unfold ab7;rw[if_pos h8]
  rw[e];have f1:(b.length:Int)<8:=by omega
  have HK1:=HK0 _ (n9 _ _);generalize b.length=L at *;clear hB e;have g0:=HK1.o.cell 0 (v:=.int .i64 0) rfl;have g1:=HK1.o.cell 1 (v:=.slice none 0 0) rfl;have z0:=HK1.o.fz 0;have z1:=HK1.o.fz 1;go_enter func269,ntmps269;go_wp2_with fail;have HLD:=q_ (t9 (P:=prog) _ w.1.size 0 29 [.int .i64 0,.slice none 0 0] _ HK1.o.rg underlying29 rfl kr);exact b9 (v:=.tuple #[.agg #[.int .i64 0,.slice none 0 0],.int .i64 2]) (by rw[zj rfl];simp[asAddr,Result.andThen];rw[HLD.o]) rfl ⟨none,0,rfl,qf.nil _ _ _,qa _ _⟩
 obtain⟨bb,off,rfl,-,-⟩:=hB 0 (bV (b[0]'(by omega))) (v9 om);have h8l:(b.take 8).length=8:=by rw[l8];omega
 have HH:=λW=>q_ (a18 W)
 have HS:∀A c W1 W2,Below w.1.size w W1->qf (λb=>W1.1.size<=b/\b<W2.1.size) W2 A (acp vi)->Below W1.1.size W1 W2->Q_ (Calls prog 91 #[.slice A vi.length c,.slice (some ⟨bb,off,none⟩) 8 d] W2 (vc (xl vi (b.take 8)) W2)):=by
  have:=ais (Q0:=Q0) (w:=w) (fs:=vi) (b:=b.take 8) (X:=some ⟨bb,off,none⟩) (d:=d) a17 dc (by have:=hB.first 8;rwa [ys]at this) om
  rwa [h8l]at this
 have HLN:Q_ ((xl vi (b.take 8)).1=0 ->(xl vi (b.take 8)).2.length=4/\∃m:Nat,(xl vi (b.take 8)).2.getD 2 0=(m:Int)/\m<=64):=q_ (λh=>⟨aby h,by
  obtain⟨x,h1,h2,h3⟩:=alp vi (b.take 8) (alj h) 2 dc;rw[l9,h1];have e1:(vi[2]'(by decide)).lo=0:=rfl;have e2:(vi[2]'(by decide)).hi=64:=rfl;rw[e1]at h2;rw[e2]at h3;exact⟨x.toNat,by show x=_;omega,by omega⟩⟩)
 have hT:ab7 b=if(xl vi (b.take 8)).1=0 then
  if b.length-8<12*((xl vi (b.take 8)).2.getD 2 0).toNat then(2,0,[])else if 12*((xl vi (b.take 8)).2.getD 2 0).toNat<b.length-8 then(7,0,[])else
   if(jl ((xl vi (b.take 8)).2.getD 2 0).toNat (b.drop 8)).1=0 then(0,(xl vi (b.take 8)).2.getD 0 0,(jl ((xl vi (b.take 8)).2.getD 2 0).toNat (b.drop 8)).2)else((jl ((xl vi (b.take 8)).2.getD 2 0).toNat (b.drop 8)).1,0,[])
  else((xl vi (b.take 8)).1,0,[]):=by unfold ab7;rw[if_neg h8]
 rw[hT];clear hT h8l;obtain⟨⟨E,v⟩,hr⟩:∃r,xl vi (b.take 8)=r:=⟨_,rfl⟩;rw[hr]at HS HLN ⊢;unfold ac9 at HH;rw[show vi.length=4 from rfl]at *;unfold vc at HS;dsimp only at *;have HBF:=q_ hB.lt;have f8:(8:Int) <=(b.length:Int):=by omega
 have f8d:(8:Int) <=(d:Int):=by omega
 have f80:¬(b.length:Int)<8:=by omega
 clear hr hB
 by_cases hE:E=0
 rotate_left
 ·have hE2:(E != 0)=true:=by rw[b0r];exact hE
  have hE3:(E==0)=false:=by rw[l7];exact hE
  rw[if_neg hE];clear hE HLN;go_enter func269,ntmps269;go_upto_region 3 with fail;have HK1:=HK0 _ (n9 _ _);have HB1:Q_ (Below w.1.size w (w.alloc (.cells #[.int .i64 0,.slice none 0 0] 29))):=q_ (qa _ _);clear HK0;generalize w.alloc (.cells #[.int .i64 0,.slice none 0 0] 29)=W1 at *
  try (apply b1q;intro K_ HK_)
  have hS0:Below W1.1.size W1 W1.drew:=(n9 _ _).drew;refine t6 (S:=λw'=>Below W1.1.size W1 w') kr hS0 (λhHeld0=>?_);refine tkA 1 17 rfl ?_;go_frame;refine tkA 2 18 rfl ?_;go_frame;refine rdB 0 16 rfl λK hK=>?_
  go_step;refine(HH _).o.mono ?_;rintro e w2 ⟨A,c,rfl,hf,hb⟩;have HT:=HS _ c _ _ (hHeld0.mono HB1.o.size |> λq=>HB1.o.trans q) hf hb;have HS2:Q_ (Below W1.1.size W1 w2):=q_ (hHeld0.trans (hb.mono hHeld0.size));clear hf hb HS
  try go_frame
  refine hK.out _ _ (HS2.o) (λhHeld=>?_);clear hK K
  try go_frame
  refine rdB 3 19 rfl λK hK=>?_
  go_step;refine HT.o.mono ?_;rintro e w3 ⟨A3,c3,rfl,hf,hb⟩;have HFL:=q_ hf;have HS3:Q_ (Below W1.1.size W1 w3):=q_ (HS2.o.trans (hb.mono HS2.o.size));have HQ3:Q_ (w.1.size<=w2.1.size):=q_ (p9 HB1.o.size HS2.o.size);clear hf hb HT HS2
  try go_frame
  refine hK.out _ _ (HS3.o) (λhHeld=>?_);clear hK K
  try go_frame
  refine tkA 4 15 rfl ?_;go_frame;refine tkA 5 20 rfl ?_;go_frame;refine tkA 6 21 rfl ?_;go_frame;refine tkA 7 4 rfl ?_;go_frame;refine tkA 8 5 rfl ?_;go_frame;refine b0m kr ?_ _
  try go_frame
  have HK3:=q_ (HK1.o.on HS3.o);have HB3:=q_ (qb HB1.o HS3.o);clear hHeld hHeld0 hS0 HK1 HB1 HS3;have g0:=HK3.o.cell 0 (v:=.int .i64 0) rfl;have g1:=HK3.o.cell 1 (v:=.slice none 0 0) rfl;have z0:=HK3.o.fz 0;have z1:=HK3.o.fz 1;go_wp2_with fail;obtain⟨r1,r2,-⟩:=ahy HK3.o (.int .i64 0) (.slice none 0 0) HB3.o;exact b9 (v:=.tuple #[.agg #[.int .i64 0,.slice none 0 0],.int .i64 E]) (by rw[zj rfl];simp[asAddr,Result.andThen];rw[r1]) rfl ⟨none,0,rfl,qf.nil _ _ _,r2⟩
 subst hE;rw[if_pos rfl];obtain⟨hvl,m,hvm,hm64⟩:=HLN.o rfl;simp only[hvl]at HS;rw[hvm,b1v];clear HLN
 obtain⟨t0,y1,y2,y3,rfl⟩:∃t0 y1 y2 y3,v=[t0,y1,y2,y3]:=by
  rcases v with _|⟨x0,_|⟨x1,_|⟨x2,_|⟨x3,_|⟨z,_⟩⟩⟩⟩⟩<;>first|exact⟨_,_,_,_,rfl⟩|(simp at hvl)
 have hvm':y2=(m:Int):=hvm;subst hvm';show Calls prog _ _ w (aon (if b.length-8<12*m then(2,0,[])else if 12*m<b.length-8 then(7,0,[])else if(jl m (b.drop 8)).1=0 then(0,t0,(jl m (b.drop 8)).2)else((jl m (b.drop 8)).1,0,[])) w);clear hvl hvm;obtain⟨R,hR⟩:∃R,b.length-8=R:=⟨_,rfl⟩;have fR:(b.length:Int)-8=(R:Int):=by omega
 rw[hR];have fm:IntKind.i64.wrap (12*(m:Int))=12*(m:Int):=b05 _ om;have fm0:(0:Int)<=12*(m:Int):=by omega
 obtain⟨res,hres⟩:∃res,(if R<12*m then((2:Int),(0:Int),([]:List (List Int)))else if 12*m<R then(7,0,[])else if(jl m (b.drop 8)).1=0 then(0,t0,(jl m (b.drop 8)).2)else((jl m (b.drop 8)).1,0,[]))=res:=⟨_,rfl⟩;rw[hres];have HRES:=q_ hres;clear hres;go_enter func269,ntmps269;go_upto_region 3 with fail;have HK1:=HK0 _ (n9 _ _);have HB1:Q_ (Below w.1.size w (w.alloc (.cells #[.int .i64 0,.slice none 0 0] 29))):=q_ (qa _ _);clear HK0;generalize w.alloc (.cells #[.int .i64 0,.slice none 0 0] 29)=W1 at *
 try (apply b1q;intro K_ HK_)
 have hS0:Below W1.1.size W1 W1.drew:=(n9 _ _).drew;refine t6 (S:=λw'=>Below W1.1.size W1 w') kr hS0 (λhHeld0=>?_);refine tkA 1 17 rfl ?_;go_frame;refine tkA 2 18 rfl ?_;go_frame;refine rdB 0 16 rfl λK hK=>?_
 go_step;refine(HH _).o.mono ?_;rintro e w2 ⟨A,c,rfl,hf,hb⟩;have HT:=HS _ c _ _ (hHeld0.mono HB1.o.size |> λq=>HB1.o.trans q) hf hb;have HS2:Q_ (Below W1.1.size W1 w2):=q_ (hHeld0.trans (hb.mono hHeld0.size));clear hf hb HS
 try go_frame
 refine hK.out _ _ (HS2.o) (λhHeld=>?_);clear hK K
 try go_frame
 refine rdB 3 19 rfl λK hK=>?_
 go_step;refine HT.o.mono ?_;rintro e w3 ⟨A3,c3,rfl,hf,hb⟩;have HFL:=q_ hf;have HS3:Q_ (Below W1.1.size W1 w3):=q_ (HS2.o.trans (hb.mono HS2.o.size));have HQ3:Q_ (w.1.size<=w2.1.size):=q_ (p9 HB1.o.size HS2.o.size);clear hf hb HT HS2
 try go_frame
 refine hK.out _ _ (HS3.o) (λhHeld=>?_);clear hK K
 try go_frame
 refine tkA 4 15 rfl ?_;go_frame;refine tkA 5 20 rfl ?_;go_frame;refine tkA 6 21 rfl ?_;go_frame;refine tkA 7 4 rfl ?_;go_frame;refine tkA 8 5 rfl ?_;go_frame;refine b0m kr ?_ _
 try go_frame
 have HK3:=q_ (HK1.o.on HS3.o);have HB3:=q_ (qb HB1.o HS3.o);clear hHeld hHeld0 hS0 HK1 HB1 HS3;obtain⟨ab,ao,rfl,-,hablt,hcell⟩:=afp HFL.o sm;have c0:w3.cell? ⟨ab,ao,none⟩=some (.int .i64 t0):=hcell 0 sm;have c2:w3.cell? ⟨ab,ao+2,none⟩=some (.int .i64 (m:Int)):=hcell 2 sm;clear hcell HFL;go_upto_region 7 with fail;have HM4:Q_ (Blk (w3.alloc (.cells #[.int .i64 t0,.slice none 0 0] 29)) w3.1.size [.int .i64 t0,.slice none 0 0]):=q_ (Blk.newL (qg _ _ _) rfl);have HK4:Q_ (Blk (w3.alloc (.cells #[.int .i64 t0,.slice none 0 0] 29)) w.1.size [.int .i64 0,.slice none 0 0]):=q_ (HK3.o.on (qa _ _));have HB4:Q_ (Below w.1.size w (w3.alloc (.cells #[.int .i64 t0,.slice none 0 0] 29))):=q_ (qb HB3.o (qa _ _));have c2':(w3.alloc (.cells #[.int .i64 t0,.slice none 0 0] 29)).cell? ⟨ab,ao+2,none⟩=some (.int .i64 (m:Int)):=((qa w3 _).cell (p:=⟨ab,ao+2,none⟩) hablt).trans c2
 have hgl:w.1.size<w3.1.size:=HK3.o.lt;clear c0 c2 hablt HK3 HB3 HQ3;generalize w3.alloc (.cells #[.int .i64 t0,.slice none 0 0] 29)=W4 at *;generalize w3.1.size=g at *;have fRd:(R:Int) <=(d:Int)-8:=by omega
 go_cut [7] (λs wx=>∃o',s=.slice (some ⟨bb,o',none⟩) R (d-8)/\Q_ (o'=off+8\/d=8)/\wx=W4)
 case first=>
  by_cases hd8:d=8
  ·subst hd8;go_wp2_with fail
   go_meet
   exact⟨off,rfl,q_ (.inr trivial),rfl⟩
  ·have f1:¬(8:Int)=(d:Int):=by omega
   have f2:¬(8:Nat)=d:=by omega
   go_wp2_with fail
   go_meet
   exact⟨off+8,by rw[<- hR],q_ (.inl rfl),rfl⟩
 case rest=>
 obtain⟨o',rfl,HO,rfl⟩:=hcut;rcases Nat.lt_trichotomy R (12*m)with hlt|heq|hgt
 ·have hre:=HRES.o;rw[if_pos hlt]at hre;subst hre;have f1:(R:Int)<12*(m:Int):=by omega
  have g0:=HK4.o.cell 0 (v:=.int .i64 0) rfl;have g1:=HK4.o.cell 1 (v:=.slice none 0 0) rfl;have z0:=HK4.o.fz 0;have z1:=HK4.o.fz 1;go_wp2_with fail;obtain⟨r1,r2,-⟩:=ahy HK4.o (.int .i64 0) (.slice none 0 0) HB4.o;exact b9 (v:=.tuple #[.agg #[.int .i64 0,.slice none 0 0],.int .i64 2]) (by rw[zj rfl];simp[asAddr,Result.andThen];rw[r1]) rfl ⟨none,0,rfl,qf.nil _ _ _,r2⟩
 rotate_left
 ·have hre:=HRES.o;rw[if_neg om,if_pos hgt]at hre;subst hre;have f1:12*(m:Int)<(R:Int):=by omega
  have g0:=HK4.o.cell 0 (v:=.int .i64 0) rfl;have g1:=HK4.o.cell 1 (v:=.slice none 0 0) rfl;have z0:=HK4.o.fz 0;have z1:=HK4.o.fz 1;go_wp2_with fail;obtain⟨r1,r2,-⟩:=ahy HK4.o (.int .i64 0) (.slice none 0 0) HB4.o;exact b9 (v:=.tuple #[.agg #[.int .i64 0,.slice none 0 0],.int .i64 7]) (by rw[zj rfl];simp[asAddr,Result.andThen];rw[r1]) rfl ⟨none,0,rfl,qf.nil _ _ _,r2⟩
 subst heq;have HRE2:Q_ ((if(jl m (b.drop 8)).1=0 then(0,t0,(jl m (b.drop 8)).2)else((jl m (b.drop 8)).1,0,[]))=res):=q_ (by have:=HRES.o;rwa [if_neg om,if_neg om]at this)
 have HFR:Q_ (qf (λj=>j<w.1.size) w (some ⟨bb,o',none⟩) (bsV (b.drop (8+12*0)))):=q_ (by
  rw[Nat.mul_zero,b3d];exact aw1 (HBF.o.less λj q=>q.2) 8 om hd o' HO.o)
 have HBL:Q_ (b.length=8+12*m):=q_ om;have hcap:12*(m-0)<=d-8:=by omega
 have HSH:=λW=>q_ (axd W)
 have HSO:=fun(QQ:Nat->Prop) W A c v (q:qf QQ W A (qt v)) (ql:v.length=7)=>q_ (bce A c v q ql)
 unfold ac9 at HSH;rw[show aka.length=7 from rfl]at HSH;obtain⟨i0,hi,hz0,hz1,hz2⟩:=kq bg6;have HI:=q_ (o3 hi (o3 hz0 (o3 hz1 hz2)));have HO4:Q_ (wc.ownsRow wc.1.size 162 7 (.slice none 0 0) 0 (aft [])):=q_ (b2p _ _ _ _);have HG4:=q_ (o3 hgl HM4.o.lt);have f12:((12*m:Nat):Int)=12*(m:Int):=by omega
 clear hi hz0 hz1 hz2 HRES HO hR fR fRd HBF f8 f8d f80 h8 HH;go_upto_region 13 with fail;clear c2'
 go_loopg [7] m (λh s7 wr=>∃k:Nat,k<=m/\m-k<=h/\∃o c',s7=.slice (some ⟨bb,o,none⟩) (12*(m-k)) c'/\12*(m-k)<=c'/\Q_ (qf (λj=>j<w.1.size) w (some ⟨bb,o,none⟩) (bsV (b.drop (8+12*k))))/\Q_ (∃L vL,L.length=k /\(∀v∈L,v.length=7)/\afu L (jl (m-k) (b.drop (8+12*k)))=jl m (b.drop 8)/\Blk wr g [.int .i64 t0,vL]/\wr.ownsRow wc.1.size 162 7 vL k (aft L))/\Q_ (Blk wr w.1.size [.int .i64 0,.slice none 0 0])/\Q_ (Below w.1.size w wr/\wc.1.size<=wr.1.size))
 case atStart=>exact⟨0,b0d _,by omega,o',d-8,rfl,hcap,HFR,⟨[],.slice none 0 0,rfl,(λv hv=>nomatch hv),(by rw[b5f,Nat.mul_zero,b3d];exact a65 _ _),HM4.o,HO4.o⟩,HK4,HB4.o,a8 _⟩
 case round=>
  obtain⟨k,hk,hh,o,c',rfl,hc',HF,HL,HK,HB⟩:=hrel;obtain⟨L,vL,hL1,hL2,hL3,hL4,hL5⟩:=HL.o
  by_cases hlt:k<m
  ·have HFX:=q_ (HF.o.first 12);rw[ys]at HFX;have hcl:((b.drop (8+12*k)).take 12).length=12:=by rw[l8,n5,HBL.o];omega
   have HSK:∀A c W1 W2,Below w.1.size w W1->qf (λb=>W1.1.size<=b/\b<W2.1.size) W2 A (acp aka)->Below W1.1.size W1 W2->Q_ (Calls prog 91 #[.slice A 7 c,.slice (some ⟨bb,o,none⟩) 12 c'] W2 (vc (xl aka ((b.drop (8+12*k)).take 12)) W2)):=by
    have:=ais (w:=w) (fs:=aka) (b:=(b.drop (8+12*k)).take 12) (X:=some ⟨bb,o,none⟩) (d:=c') aq7 dc HFX.o om
    rwa [hcl]at this
   obtain⟨N,hN⟩:∃N,m-k=N+1:=⟨m-k-1,by omega⟩;have HN:=q_ hN;have HNX:=q_ (aw1 (c:=c') HF.o 12 (by rw[n5,HBL.o];omega) (by rw[n5,HBL.o];omega));rw[hN]at hL3 hc' ⊢;have HL3:=q_ hL3;have HLR:=q_ (o3 hL1 (o3 hL2 (o3 hL4 hL5)));obtain⟨⟨E,v⟩,hr⟩:∃r,xl aka ((b.drop (8+12*k)).take 12)=r:=⟨_,rfl⟩;have HR:=q_ hr;have HVL:Q_ (E=0->v.length=7):=q_ (λq=>by have:=aby (fs:=aka) (b:=(b.drop (8+12*k)).take 12) (by rw[hr];exact q);rwa [hr]at this);rw[hr]at HSK;unfold vc at HSK;dsimp only at HSK;have i1:(0:Int)<((12*(N+1):Nat):Int):=by omega
   have i2:(12:Int) <=(c':Int):=by omega
   have i3:(12:Int) <=((12*(N+1):Nat):Int):=by omega
   have i4:12<=c':=by omega
   have i5:12<=12*(N+1):=by omega
   clear hr hN hL1 hL2 hL3 hL4 hL5 HL hcl HF HFX
   by_cases hE:E=0
   ·subst hE;have hv7:=HVL.o rfl
    obtain⟨x0,x1,x2,x3,x4,x5,x6,rfl⟩:∃x0 x1 x2 x3 x4 x5 x6,v=[x0,x1,x2,x3,x4,x5,x6]:=by
     rcases v with _|⟨x0,_|⟨x1,_|⟨x2,_|⟨x3,_|⟨x4,_|⟨x5,_|⟨x6,_|⟨z,_⟩⟩⟩⟩⟩⟩⟩⟩<;>first|exact⟨_,_,_,_,_,_,_,rfl⟩|(simp at hv7)
    clear hv7 HVL;go_upto_region 15 with fail
    try (apply b1q;intro K_ HK_)
    have hS0:Below wr.1.size wr wr.drew:=(n9 _ _).drew;refine t6 (S:=λw'=>Below wr.1.size wr w') kr hS0 (λhHeld0=>?_);refine tkA 1 55 rfl ?_;go_frame;refine tkA 2 56 rfl ?_;go_frame;refine rdB 0 54 rfl λK hK=>?_
    go_step;refine(HSH _).o.mono ?_;rintro e w5 ⟨A,c,rfl,hf,hb⟩;have HT:=HSK _ c _ _ (HB.o.1.trans (hHeld0.mono HB.o.1.size)) hf hb;have HS5:Q_ (Below wr.1.size wr w5):=q_ (hHeld0.trans (hb.mono hHeld0.size));clear hf hb HSK
    try go_frame
    refine hK.out _ _ (HS5.o) (λhHeld=>?_);clear hK K
    try go_frame
    refine rdB 3 57 rfl λK hK=>?_
    go_step;refine HT.o.mono ?_;rintro e w6 ⟨A3,c3,rfl,hf,hb⟩;have HFL:=q_ hf;have HS6:Q_ (Below wr.1.size wr w6):=q_ (HS5.o.trans (hb.mono HS5.o.size));clear hf hb HT HS5
    try go_frame
    refine hK.out _ _ (HS6.o) (λhHeld=>?_);clear hK K
    try go_frame
    refine tkA 4 53 rfl ?_;go_frame;refine tkA 5 58 rfl ?_;go_frame;refine tkA 6 59 rfl ?_;go_frame;refine tkA 7 9 rfl ?_;go_frame;refine tkA 8 10 rfl ?_;go_frame;refine b0m kr ?_ _
    try go_frame
    have HK6:=q_ (HK.o.on HS6.o);have HB6:=q_ (qb HB.o.1 HS6.o);clear hHeld hHeld0 hS0;have HM6:=q_ (HLR.o.2.2.1.on HS6.o);have HO6:=q_ (afa HLR.o.2.2.2 HS6.o);have HSZ6:Q_ (wc.1.size<=w6.1.size):=q_ (p9 HB.o.2 HS6.o.size);have HOF7:Q_ (Calls prog 272 #[.slice A3 7 c3] w6.drew λe w'=>e=.returned (.agg #[.int .i64 x0,.int .i64 x1,.int .i64 x2,.int .i64 x3,.int .i64 x4,.int .i64 x5,.int .i64 x6])/\Below w6.drew.1.size w6.drew w'):=HSO _ w6.drew A3 c3 [x0,x1,x2,x3,x4,x5,x6] (HFL.o.keep (w':=w6.drew) λ_ _=>rfl) rfl;have HL7:=q_ (o3 HLR.o.1 HLR.o.2.1);clear HFL HLR HS6 HK HB HSO HSH;go_upto_region 18 with fail
    try (apply b1q;intro K_ HK_)
    have hS0:True:=trivial;refine t6 (S:=λ_=>True) kr trivial (λhHeld0=>?_);refine tkA 0 64 rfl ?_;go_frame;refine tkA 2 66 rfl ?_;go_frame;refine b1a (rs:=[1,3]) kr sm ?_;refine b0i (o:=⟨some 65,_,_,_,_,_⟩) rfl (λK hK=>?_) (b0i (o:=⟨some 67,_,_,_,_,_⟩) rfl (λK hK=>?_) b01)
    ·rw[if_pos (by rfl)];have m1:w6.drew.cell? ⟨g,1,none⟩=some vL:=HM6.o.cell 1 rfl;go_step
     try go_frame
     refine hK.out _ _ trivial (λhHeld=>?_);clear hK K m1
     try go_frame
     refine rdB 3 67 rfl λK hK=>?_
     go_step;refine HOF7.o.mono ?_;rintro e w7 ⟨rfl,hb⟩;have HM7:=q_ (HM6.o.drew.on hb);have HO7:=q_ (afa (afa HO6.o ((n9 _ w6).drew)) hb);have HK7:=q_ (HK6.o.drew.on hb);have HB7:Q_ (Below w.1.size w w7):=q_ (qb HB6.o.drew hb);have HSZ7:Q_ (wc.1.size<=w7.1.size):=q_ (p9 HSZ6.o hb.size);clear hb
     try go_frame
     refine hK.out _ _ (trivial) (λhHeld=>?_);clear hK K
     try go_frame
     refine rdB 4 68 rfl λK hK=>?_
     go_step
     try go_frame
     refine hK.out _ _ trivial (λhHeld=>?_);clear hK K
     try go_frame
     obtain⟨v',w9,hrun,ho,hb9⟩:=aip (P:=prog) (t:=27) (ty:=27) (afa HO7.o (qa w7 (.cells #[.int .i64 x0,.int .i64 x1,.int .i64 x2,.int .i64 x3,.int .i64 x4,.int .i64 x5,.int .i64 x6] 162))) (p9 HSZ7.o (qa w7 _).size) HI.o underlying27 rfl dc (R:=λ_=>True) (some ⟨w7.1.size,0,none⟩) 1 1 (qt [x0,x1,x2,x3,x4,x5,x6]) rfl ((Blk.newL (qg w7 _ _) rfl).flat trivial) (amk _) (by unfold maxLen;omega) om;obtain⟨A',cp,hv',-,-,-⟩:=zt ho;subst hv';have HRUN:=q_ hrun;have HO9:=q_ ho;have HM9:=q_ ((HM7.o.on (qa w7 (.cells #[.int .i64 x0,.int .i64 x1,.int .i64 x2,.int .i64 x3,.int .i64 x4,.int .i64 x5,.int .i64 x6] 162))).below hb9 HG4.o.2);have HK9:=q_ ((HK7.o.on (qa w7 (.cells #[.int .i64 x0,.int .i64 x1,.int .i64 x2,.int .i64 x3,.int .i64 x4,.int .i64 x5,.int .i64 x6] 162))).below hb9 (b1b HG4.o.1 HG4.o.2));have HB9:Q_ (Below w.1.size w w9):=q_ ((qb HB7.o (qa w7 (.cells #[.int .i64 x0,.int .i64 x1,.int .i64 x2,.int .i64 x3,.int .i64 x4,.int .i64 x5,.int .i64 x6] 162))).trans (hb9.mono (b2h (b1b HG4.o.1 HG4.o.2))))
     have HSZ9:Q_ (wc.1.size<=w9.1.size):=q_ (p9 HSZ7.o (p9 (qa w7 (.cells #[.int .i64 x0,.int .i64 x1,.int .i64 x2,.int .i64 x3,.int .i64 x4,.int .i64 x5,.int .i64 x6] 162)).size hb9.size));clear hrun ho hb9 HM7 HO7 HK7 HB7 HSZ7;refine rdA 5 69 rfl λK hK=>?_
     refine ack rfl (.tmp 65) (.tmp 68) 27 rfl vL (.slice (some ⟨w7.1.size,0,none⟩) 1 1) (.slice A' (k+1) cp) rfl rfl HRUN.o ?_
     try go_frame
     refine hK.out _ _ trivial (λhHeld=>?_);clear hK K HRUN
     try go_frame
     refine tkA 6 70 rfl ?_;go_frame;have m1:=HM9.o.cell 1 (v:=vL) rfl;have z1:=HM9.o.fz 1;refine b1a (rs:=[7]) kr sm ?_;refine b0i (o:=⟨none,_,_,_,_,_⟩) rfl (λK hK=>?_) b01;rw[if_pos (by rfl)];go_step
     try go_frame
     obtain⟨hm10,hs⟩:=HM9.o.set (o:=1) sm (.slice A' (k+1) cp);have HM10:Q_ (Blk (w9.setCell ⟨g,1,none⟩ (.slice A' (k+1) cp)) g [.int .i64 t0,(.slice A' (k+1) cp)]):=q_ hm10;have HO10:Q_ ((w9.setCell ⟨g,1,none⟩ (.slice A' (k+1) cp)).ownsRow wc.1.size 162 7 (.slice A' (k+1) cp) (k+1) (aft (L++[[x0,x1,x2,x3,x4,x5,x6]]))):=q_ (by rw[akb];exact ala HO9.o HG4.o.2 (.slice A' (k+1) cp));have HK10:=q_ (HK9.o.far hs (b09 HG4.o.1));have HB10:=q_ (HB9.o.trans (hs.below (b2h HG4.o.1)));have HSZ10:Q_ (wc.1.size <=(w9.setCell ⟨g,1,none⟩ (.slice A' (k+1) cp)).1.size):=q_ (by rw[hs.sz];exact HSZ9.o);refine hK.out _ _ trivial (λhHeld=>?_);clear hK K m1 z1 hm10 hs HM9 HO9 HK9 HB9 HSZ9
     try go_frame
     generalize w9.setCell ⟨g,1,none⟩ (.slice A' (k+1) cp)=w10 at *;refine b0m kr ?_ _
     try go_frame
     have HLN:Q_ (∃L' vL',L'.length=k+1 /\(∀v∈L',v.length=7)/\afu L' (jl (m-(k+1)) (b.drop (8+12*(k+1))))=jl m (b.drop 8)/\Blk w10 g [.int .i64 t0,vL']/\w10.ownsRow wc.1.size 162 7 vL' (k+1) (aft L')):=q_ ⟨L++[[x0,x1,x2,x3,x4,x5,x6]],(.slice A' (k+1) cp),by rw[e9,HL7.o.1];rfl,(λv hv=>by
      rcases b1z.1 hv with q|q
      ·exact HL7.o.2 v q
      ·rw[b2v.1 q];rfl),(by
      have e:=akc L N (b.drop (8+12*k)) (by rw[HR.o]);rw[HR.o,HL3.o,b10]at e;rw[show m-(k+1)=N from by have:=HN.o;omega,show 8+12*(k+1)=8+12*k+12 from by omega];exact e.symm),HM10.o,HO10.o⟩
     clear HM10 HO10 HL7 hHeld hHeld0 hS0;have HND:Q_ (12*(N+1)-12=12*(m-(k+1))):=q_ (by have:=HN.o;omega);have HDR:Q_ ((b.drop (8+12*k)).drop 12=b.drop (8+12*(k+1))):=q_ (by rw[b10,show 8+12*k+12=8+12*(k+1)from by omega]);have hcc:12*(m-(k+1))<=c'-12:=by have:=HN.o;omega
     by_cases h12:c'=12
     ·have HF2:=q_ (HNX.o o (.inr h12));rw[HDR.o]at HF2;subst h12;go_wp2_with fail
      go_roundg (m-(k+1))
      case measure=>omega
      case rel=>exact⟨k+1,by omega,by omega,o,0,by(rw[show 12*(m-(k+1))=0 from by omega]),hcc,HF2,HLN,HK10,HB10.o,HSZ10.o⟩
     ·have j1:¬(12:Int)=(c':Int):=by omega
      have j2:¬(12:Nat)=c':=by omega
      have HF2:=q_ (HNX.o (o+12) (.inl rfl));rw[HDR.o]at HF2;go_wp2_with fail
      go_roundg (m-(k+1))
      case measure=>omega
      case rel=>exact⟨k+1,by omega,by omega,o+12,c'-12,by rw[<- HND.o],hcc,HF2,HLN,HK10,HB10.o,HSZ10.o⟩
    ·rw[if_pos (by rfl)];go_step;refine HOF7.o.mono ?_;rintro e w7 ⟨rfl,hb⟩;have HM7:=q_ (HM6.o.drew.on hb);have HO7:=q_ (afa (afa HO6.o ((n9 _ w6).drew)) hb);have HK7:=q_ (HK6.o.drew.on hb);have HB7:Q_ (Below w.1.size w w7):=q_ (qb HB6.o.drew hb);have HSZ7:Q_ (wc.1.size<=w7.1.size):=q_ (p9 HSZ6.o hb.size);clear hb
     try go_frame
     refine hK.out _ _ trivial (λhHeld=>?_);clear hK K
     try go_frame
     refine b1a (rs:=[1,4]) kr sm ?_;refine b0i (o:=⟨some 65,_,_,_,_,_⟩) rfl (λK hK=>?_) (b0i (o:=⟨some 68,_,_,_,_,_⟩) rfl (λK hK=>?_) b01)
     ·rw[if_pos (by rfl)];have m1:w7.cell? ⟨g,1,none⟩=some vL:=HM7.o.cell 1 rfl;go_step
      try go_frame
      refine hK.out _ _ trivial (λhHeld=>?_);clear hK K m1
      try go_frame
      refine rdB 4 68 rfl λK hK=>?_
      go_step
      try go_frame
      refine hK.out _ _ trivial (λhHeld=>?_);clear hK K
      try go_frame
      obtain⟨v',w9,hrun,ho,hb9⟩:=aip (P:=prog) (t:=27) (ty:=27) (afa HO7.o (qa w7 (.cells #[.int .i64 x0,.int .i64 x1,.int .i64 x2,.int .i64 x3,.int .i64 x4,.int .i64 x5,.int .i64 x6] 162))) (p9 HSZ7.o (qa w7 _).size) HI.o underlying27 rfl dc (R:=λ_=>True) (some ⟨w7.1.size,0,none⟩) 1 1 (qt [x0,x1,x2,x3,x4,x5,x6]) rfl ((Blk.newL (qg w7 _ _) rfl).flat trivial) (amk _) (by unfold maxLen;omega) om;obtain⟨A',cp,hv',-,-,-⟩:=zt ho;subst hv';have HRUN:=q_ hrun;have HO9:=q_ ho;have HM9:=q_ ((HM7.o.on (qa w7 (.cells #[.int .i64 x0,.int .i64 x1,.int .i64 x2,.int .i64 x3,.int .i64 x4,.int .i64 x5,.int .i64 x6] 162))).below hb9 HG4.o.2);have HK9:=q_ ((HK7.o.on (qa w7 (.cells #[.int .i64 x0,.int .i64 x1,.int .i64 x2,.int .i64 x3,.int .i64 x4,.int .i64 x5,.int .i64 x6] 162))).below hb9 (b1b HG4.o.1 HG4.o.2));have HB9:Q_ (Below w.1.size w w9):=q_ ((qb HB7.o (qa w7 (.cells #[.int .i64 x0,.int .i64 x1,.int .i64 x2,.int .i64 x3,.int .i64 x4,.int .i64 x5,.int .i64 x6] 162))).trans (hb9.mono (b2h (b1b HG4.o.1 HG4.o.2))))
      have HSZ9:Q_ (wc.1.size<=w9.1.size):=q_ (p9 HSZ7.o (p9 (qa w7 (.cells #[.int .i64 x0,.int .i64 x1,.int .i64 x2,.int .i64 x3,.int .i64 x4,.int .i64 x5,.int .i64 x6] 162)).size hb9.size));clear hrun ho hb9 HM7 HO7 HK7 HB7 HSZ7;refine rdA 5 69 rfl λK hK=>?_
      refine ack rfl (.tmp 65) (.tmp 68) 27 rfl vL (.slice (some ⟨w7.1.size,0,none⟩) 1 1) (.slice A' (k+1) cp) rfl rfl HRUN.o ?_
      try go_frame
      refine hK.out _ _ trivial (λhHeld=>?_);clear hK K HRUN
      try go_frame
      refine tkA 6 70 rfl ?_;go_frame;have m1:=HM9.o.cell 1 (v:=vL) rfl;have z1:=HM9.o.fz 1;refine b1a (rs:=[7]) kr sm ?_;refine b0i (o:=⟨none,_,_,_,_,_⟩) rfl (λK hK=>?_) b01;rw[if_pos (by rfl)];go_step
      try go_frame
      obtain⟨hm10,hs⟩:=HM9.o.set (o:=1) sm (.slice A' (k+1) cp);have HM10:Q_ (Blk (w9.setCell ⟨g,1,none⟩ (.slice A' (k+1) cp)) g [.int .i64 t0,(.slice A' (k+1) cp)]):=q_ hm10;have HO10:Q_ ((w9.setCell ⟨g,1,none⟩ (.slice A' (k+1) cp)).ownsRow wc.1.size 162 7 (.slice A' (k+1) cp) (k+1) (aft (L++[[x0,x1,x2,x3,x4,x5,x6]]))):=q_ (by rw[akb];exact ala HO9.o HG4.o.2 (.slice A' (k+1) cp));have HK10:=q_ (HK9.o.far hs (b09 HG4.o.1));have HB10:=q_ (HB9.o.trans (hs.below (b2h HG4.o.1)));have HSZ10:Q_ (wc.1.size <=(w9.setCell ⟨g,1,none⟩ (.slice A' (k+1) cp)).1.size):=q_ (by rw[hs.sz];exact HSZ9.o);refine hK.out _ _ trivial (λhHeld=>?_);clear hK K m1 z1 hm10 hs HM9 HO9 HK9 HB9 HSZ9
      try go_frame
      generalize w9.setCell ⟨g,1,none⟩ (.slice A' (k+1) cp)=w10 at *;refine b0m kr ?_ _
      try go_frame
      have HLN:Q_ (∃L' vL',L'.length=k+1 /\(∀v∈L',v.length=7)/\afu L' (jl (m-(k+1)) (b.drop (8+12*(k+1))))=jl m (b.drop 8)/\Blk w10 g [.int .i64 t0,vL']/\w10.ownsRow wc.1.size 162 7 vL' (k+1) (aft L')):=q_ ⟨L++[[x0,x1,x2,x3,x4,x5,x6]],(.slice A' (k+1) cp),by rw[e9,HL7.o.1];rfl,(λv hv=>by
       rcases b1z.1 hv with q|q
       ·exact HL7.o.2 v q
       ·rw[b2v.1 q];rfl),(by
       have e:=akc L N (b.drop (8+12*k)) (by rw[HR.o]);rw[HR.o,HL3.o,b10]at e;rw[show m-(k+1)=N from by have:=HN.o;omega,show 8+12*(k+1)=8+12*k+12 from by omega];exact e.symm),HM10.o,HO10.o⟩
      clear HM10 HO10 HL7 hHeld hHeld0 hS0;have HND:Q_ (12*(N+1)-12=12*(m-(k+1))):=q_ (by have:=HN.o;omega);have HDR:Q_ ((b.drop (8+12*k)).drop 12=b.drop (8+12*(k+1))):=q_ (by rw[b10,show 8+12*k+12=8+12*(k+1)from by omega]);have hcc:12*(m-(k+1))<=c'-12:=by have:=HN.o;omega
      by_cases h12:c'=12
      ·have HF2:=q_ (HNX.o o (.inr h12));rw[HDR.o]at HF2;subst h12;go_wp2_with fail
       go_roundg (m-(k+1))
       case measure=>omega
       case rel=>exact⟨k+1,by omega,by omega,o,0,by(rw[show 12*(m-(k+1))=0 from by omega]),hcc,HF2,HLN,HK10,HB10.o,HSZ10.o⟩
      ·have j1:¬(12:Int)=(c':Int):=by omega
       have j2:¬(12:Nat)=c':=by omega
       have HF2:=q_ (HNX.o (o+12) (.inl rfl));rw[HDR.o]at HF2;go_wp2_with fail
       go_roundg (m-(k+1))
       case measure=>omega
       case rel=>exact⟨k+1,by omega,by omega,o+12,c'-12,by rw[<- HND.o],hcc,HF2,HLN,HK10,HB10.o,HSZ10.o⟩
     ·rw[if_pos (by rfl)];go_step
      try go_frame
      refine hK.out _ _ trivial (λhHeld=>?_);clear hK K
      try go_frame
      refine rdB 1 65 rfl λK hK=>?_
      have m1:(w7.alloc (.cells #[.int .i64 x0,.int .i64 x1,.int .i64 x2,.int .i64 x3,.int .i64 x4,.int .i64 x5,.int .i64 x6] 162)).cell? ⟨g,1,none⟩=some vL:=(HM7.o.on (qa w7 _)).cell 1 rfl;go_step
      try go_frame
      refine hK.out _ _ trivial (λhHeld=>?_);clear hK K m1
      try go_frame
      obtain⟨v',w9,hrun,ho,hb9⟩:=aip (P:=prog) (t:=27) (ty:=27) (afa HO7.o (qa w7 (.cells #[.int .i64 x0,.int .i64 x1,.int .i64 x2,.int .i64 x3,.int .i64 x4,.int .i64 x5,.int .i64 x6] 162))) (p9 HSZ7.o (qa w7 _).size) HI.o underlying27 rfl dc (R:=λ_=>True) (some ⟨w7.1.size,0,none⟩) 1 1 (qt [x0,x1,x2,x3,x4,x5,x6]) rfl ((Blk.newL (qg w7 _ _) rfl).flat trivial) (amk _) (by unfold maxLen;omega) om;obtain⟨A',cp,hv',-,-,-⟩:=zt ho;subst hv';have HRUN:=q_ hrun;have HO9:=q_ ho;have HM9:=q_ ((HM7.o.on (qa w7 (.cells #[.int .i64 x0,.int .i64 x1,.int .i64 x2,.int .i64 x3,.int .i64 x4,.int .i64 x5,.int .i64 x6] 162))).below hb9 HG4.o.2);have HK9:=q_ ((HK7.o.on (qa w7 (.cells #[.int .i64 x0,.int .i64 x1,.int .i64 x2,.int .i64 x3,.int .i64 x4,.int .i64 x5,.int .i64 x6] 162))).below hb9 (b1b HG4.o.1 HG4.o.2));have HB9:Q_ (Below w.1.size w w9):=q_ ((qb HB7.o (qa w7 (.cells #[.int .i64 x0,.int .i64 x1,.int .i64 x2,.int .i64 x3,.int .i64 x4,.int .i64 x5,.int .i64 x6] 162))).trans (hb9.mono (b2h (b1b HG4.o.1 HG4.o.2))))
      have HSZ9:Q_ (wc.1.size<=w9.1.size):=q_ (p9 HSZ7.o (p9 (qa w7 (.cells #[.int .i64 x0,.int .i64 x1,.int .i64 x2,.int .i64 x3,.int .i64 x4,.int .i64 x5,.int .i64 x6] 162)).size hb9.size));clear hrun ho hb9 HM7 HO7 HK7 HB7 HSZ7;refine rdA 5 69 rfl λK hK=>?_
      refine ack rfl (.tmp 65) (.tmp 68) 27 rfl vL (.slice (some ⟨w7.1.size,0,none⟩) 1 1) (.slice A' (k+1) cp) rfl rfl HRUN.o ?_
      try go_frame
      refine hK.out _ _ trivial (λhHeld=>?_);clear hK K HRUN
      try go_frame
      refine tkA 6 70 rfl ?_;go_frame;have m1:=HM9.o.cell 1 (v:=vL) rfl;have z1:=HM9.o.fz 1;refine b1a (rs:=[7]) kr sm ?_;refine b0i (o:=⟨none,_,_,_,_,_⟩) rfl (λK hK=>?_) b01;rw[if_pos (by rfl)];go_step
      try go_frame
      obtain⟨hm10,hs⟩:=HM9.o.set (o:=1) sm (.slice A' (k+1) cp);have HM10:Q_ (Blk (w9.setCell ⟨g,1,none⟩ (.slice A' (k+1) cp)) g [.int .i64 t0,(.slice A' (k+1) cp)]):=q_ hm10;have HO10:Q_ ((w9.setCell ⟨g,1,none⟩ (.slice A' (k+1) cp)).ownsRow wc.1.size 162 7 (.slice A' (k+1) cp) (k+1) (aft (L++[[x0,x1,x2,x3,x4,x5,x6]]))):=q_ (by rw[akb];exact ala HO9.o HG4.o.2 (.slice A' (k+1) cp));have HK10:=q_ (HK9.o.far hs (b09 HG4.o.1));have HB10:=q_ (HB9.o.trans (hs.below (b2h HG4.o.1)));have HSZ10:Q_ (wc.1.size <=(w9.setCell ⟨g,1,none⟩ (.slice A' (k+1) cp)).1.size):=q_ (by rw[hs.sz];exact HSZ9.o);refine hK.out _ _ trivial (λhHeld=>?_);clear hK K m1 z1 hm10 hs HM9 HO9 HK9 HB9 HSZ9
      try go_frame
      generalize w9.setCell ⟨g,1,none⟩ (.slice A' (k+1) cp)=w10 at *;refine b0m kr ?_ _
      try go_frame
      have HLN:Q_ (∃L' vL',L'.length=k+1 /\(∀v∈L',v.length=7)/\afu L' (jl (m-(k+1)) (b.drop (8+12*(k+1))))=jl m (b.drop 8)/\Blk w10 g [.int .i64 t0,vL']/\w10.ownsRow wc.1.size 162 7 vL' (k+1) (aft L')):=q_ ⟨L++[[x0,x1,x2,x3,x4,x5,x6]],(.slice A' (k+1) cp),by rw[e9,HL7.o.1];rfl,(λv hv=>by
       rcases b1z.1 hv with q|q
       ·exact HL7.o.2 v q
       ·rw[b2v.1 q];rfl),(by
       have e:=akc L N (b.drop (8+12*k)) (by rw[HR.o]);rw[HR.o,HL3.o,b10]at e;rw[show m-(k+1)=N from by have:=HN.o;omega,show 8+12*(k+1)=8+12*k+12 from by omega];exact e.symm),HM10.o,HO10.o⟩
      clear HM10 HO10 HL7 hHeld hHeld0 hS0;have HND:Q_ (12*(N+1)-12=12*(m-(k+1))):=q_ (by have:=HN.o;omega);have HDR:Q_ ((b.drop (8+12*k)).drop 12=b.drop (8+12*(k+1))):=q_ (by rw[b10,show 8+12*k+12=8+12*(k+1)from by omega]);have hcc:12*(m-(k+1))<=c'-12:=by have:=HN.o;omega
      by_cases h12:c'=12
      ·have HF2:=q_ (HNX.o o (.inr h12));rw[HDR.o]at HF2;subst h12;go_wp2_with fail
       go_roundg (m-(k+1))
       case measure=>omega
       case rel=>exact⟨k+1,by omega,by omega,o,0,by(rw[show 12*(m-(k+1))=0 from by omega]),hcc,HF2,HLN,HK10,HB10.o,HSZ10.o⟩
      ·have j1:¬(12:Int)=(c':Int):=by omega
       have j2:¬(12:Nat)=c':=by omega
       have HF2:=q_ (HNX.o (o+12) (.inl rfl));rw[HDR.o]at HF2;go_wp2_with fail
       go_roundg (m-(k+1))
       case measure=>omega
       case rel=>exact⟨k+1,by omega,by omega,o+12,c'-12,by rw[<- HND.o],hcc,HF2,HLN,HK10,HB10.o,HSZ10.o⟩
   ·have hE2:(E != 0)=true:=by rw[b0r];exact hE
    have hE3:(E==0)=false:=by rw[l7];exact hE
    have HXF:Q_ (jl m (b.drop 8)=(E,[])):=q_ (by rw[<- HL3.o,a64 _ _ _ (by rw[HR.o];exact hE),HR.o]);have hre:=HRE2.o;rw[HXF.o,if_neg hE]at hre;subst hre;clear hE HVL HNX;go_upto_region 15 with fail
    try (apply b1q;intro K_ HK_)
    have hS0:Below wr.1.size wr wr.drew:=(n9 _ _).drew;refine t6 (S:=λw'=>Below wr.1.size wr w') kr hS0 (λhHeld0=>?_);refine tkA 1 55 rfl ?_;go_frame;refine tkA 2 56 rfl ?_;go_frame;refine rdB 0 54 rfl λK hK=>?_
    go_step;refine(HSH _).o.mono ?_;rintro e w5 ⟨A,c,rfl,hf,hb⟩;have HT:=HSK _ c _ _ (HB.o.1.trans (hHeld0.mono HB.o.1.size)) hf hb;have HS5:Q_ (Below wr.1.size wr w5):=q_ (hHeld0.trans (hb.mono hHeld0.size));clear hf hb HSK
    try go_frame
    refine hK.out _ _ (HS5.o) (λhHeld=>?_);clear hK K
    try go_frame
    refine rdB 3 57 rfl λK hK=>?_
    go_step;refine HT.o.mono ?_;rintro e w6 ⟨A3,c3,rfl,hf,hb⟩;have HFL:=q_ hf;have HS6:Q_ (Below wr.1.size wr w6):=q_ (HS5.o.trans (hb.mono HS5.o.size));clear hf hb HT HS5
    try go_frame
    refine hK.out _ _ (HS6.o) (λhHeld=>?_);clear hK K
    try go_frame
    refine tkA 4 53 rfl ?_;go_frame;refine tkA 5 58 rfl ?_;go_frame;refine tkA 6 59 rfl ?_;go_frame;refine tkA 7 9 rfl ?_;go_frame;refine tkA 8 10 rfl ?_;go_frame;refine b0m kr ?_ _
    try go_frame
    have HK6:=q_ (HK.o.on HS6.o);have HB6:=q_ (qb HB.o.1 HS6.o);clear hHeld hHeld0 hS0;have g0:=HK6.o.cell 0 (v:=.int .i64 0) rfl;have g1:=HK6.o.cell 1 (v:=.slice none 0 0) rfl;have z0:=HK6.o.fz 0;have z1:=HK6.o.fz 1;go_wp2_with fail;obtain⟨r1,r2,-⟩:=ahy HK6.o (.int .i64 0) (.slice none 0 0) HB6.o;exact b9 (v:=.tuple #[.agg #[.int .i64 0,.slice none 0 0],.int .i64 E]) (by rw[zj rfl];simp[asAddr,Result.andThen];rw[r1]) rfl ⟨none,0,rfl,qf.nil _ _ _,r2⟩
  ·obtain rfl:k=m:=by omega
   rw[b23]at hL3 ⊢;have hs0:afu L (jl 0 (b.drop (8+12*k)))=(0,L):=by unfold afu jl;rw[if_pos rfl,b0p]
   rw[hs0]at hL3;have hre:=HRE2.o;rw[<- hL3,if_pos rfl]at hre;subst hre;obtain⟨A,c,rfl,-,hfl,-⟩:=zt hL5;have HFL:=q_ (o3 hL1 hfl);have HM5:=q_ hL4;have m0:=hL4.cell 0 (v:=.int .i64 t0) rfl;have m1:=hL4.cell 1 (v:=.slice A k c) rfl;clear hL1 hL2 hL3 hL4 hL5 hfl hs0 HL HF;have g0:=HK.o.cell 0 (v:=.int .i64 0) rfl;have g1:=HK.o.cell 1 (v:=.slice none 0 0) rfl;have z0:=HK.o.fz 0;have z1:=HK.o.fz 1;go_wp2_with fail;obtain⟨r1,r2,r3⟩:=ahy HK.o (.int .i64 t0) (.slice A k c) HB.o.1;refine b9 (v:=.tuple #[.agg #[.int .i64 t0,.slice A k c],.int .i64 0]) (by rw[zj rfl];simp[asAddr,Result.andThen];rw[r1]) rfl ⟨A,c,by rw[HFL.o.1],?_,r2⟩;refine(HFL.o.2.keep λj hj=>r3 j (λe=>?_)).less λj hj=>⟨?_,by simpa using hj.2⟩
   ·have:=HG4.o;omega
   ·have:=HG4.o;omega
def ko:Nat->List UInt8->Int×List (Nat×Nat)
 | 0,b=>if b=[]then(0,[])else(7,[])
 | k+1,b=>if b=[]then(0,[])else if b.length<4 then(2,[])else
  if(jk (jg (b.take 4))).2=0 then(6,[])else if(b.drop 4).length<(jk (jg (b.take 4))).2 then(2,[])else
   if 2^(jk (jg (b.take 4))).1-1<jg ((b.drop 4).take (jk (jg (b.take 4))).2)then(5,[])else
    if(ko k ((b.drop 4).drop (jk (jg (b.take 4))).2)).1=0 then(0,(jg (b.take 4),jg ((b.drop 4).take (jk (jg (b.take 4))).2))::(ko k ((b.drop 4).drop (jk (jg (b.take 4))).2)).2)else((ko k ((b.drop 4).drop (jk (jg (b.take 4))).2)).1,[])
theorem bg9:∀(k:Nat) (b:List UInt8),(ko k b).1≠0 ->(ko k b).2=[]
 | 0,b,h=>by unfold ko at *;split<;>rfl
 | k+1,b,h=>by
  unfold ko at *
  by_cases h0:b=[]
  ·rw[if_pos h0]
  rw[if_neg h0]at h ⊢
  by_cases h1:b.length<4
  ·rw[if_pos h1]
  rw[if_neg h1]at h ⊢
  by_cases h2:(jk (jg (b.take 4))).2=0
  ·rw[if_pos h2]
  rw[if_neg h2]at h ⊢
  by_cases h3:(b.drop 4).length<(jk (jg (b.take 4))).2
  ·rw[if_pos h3]
  rw[if_neg h3]at h ⊢
  by_cases h4:2^(jk (jg (b.take 4))).1-1<jg ((b.drop 4).take (jk (jg (b.take 4))).2)
  ·rw[if_pos h4]
  rw[if_neg h4]at h ⊢
  by_cases h5:(ko k ((b.drop 4).drop (jk (jg (b.take 4))).2)).1=0
  ·rw[if_pos h5]at h;exact absurd rfl h
  ·rw[if_neg h5]
def as4 (L:List (Nat×Nat)) (r:Int×List (Nat×Nat)):Int×List (Nat×Nat):=if r.1=0 then(0,L++r.2)else(r.1,[])
theorem bco (k:Nat) (b:List UInt8):as4 [] (ko k b)=ko k b:=by
 unfold as4
 split
 ·rename_i h;rw[b0y,<- h]
 ·rename_i h;rw[<- bg9 k b h]
theorem bcn (L:List (Nat×Nat)) (k:Nat) (b:List UInt8) (h0:b≠[]) (h4:¬b.length<4) (hn:(jk (jg (b.take 4))).2≠0) (hl:¬(b.drop 4).length<(jk (jg (b.take 4))).2) (hv:¬2^(jk (jg (b.take 4))).1-1<jg ((b.drop 4).take (jk (jg (b.take 4))).2)) :
 as4 L (ko (k+1) b)=as4 (L++[(jg (b.take 4),jg ((b.drop 4).take (jk (jg (b.take 4))).2))]) (ko k ((b.drop 4).drop (jk (jg (b.take 4))).2)):=by
 unfold as4
 conv=>lhs;unfold ko
 rw[if_neg h0,if_neg h4,if_neg hn,if_neg hl,if_neg hv]
 by_cases h2:(ko k ((b.drop 4).drop (jk (jg (b.take 4))).2)).1=0
 ·rw[if_pos h2,if_pos rfl,if_pos h2];simp
 ·rw[if_neg h2,if_neg h2,if_neg h2]
theorem ah1 (L:List (Nat×Nat)) (r:Int×List (Nat×Nat)) (h:r.1≠0) (h2:r.2=[]):as4 L r=r:=by
 unfold as4;rw[if_neg h,<- h2]
def af0 (b:List UInt8):Int×Int×List (Nat×Nat):=
 if b.length<4 then(2,0,[])else if(xl ai9 (b.take 4)).1=0 then
  if(ko 32 (b.drop 4)).1=0 then(0,(xl ai9 (b.take 4)).2.getD 1 0,(ko 32 (b.drop 4)).2)else((ko 32 (b.drop 4)).1,0,[])
  else((xl ai9 (b.take 4)).1,0,[])
def afb (L:List (Nat×Nat)):List Value:=L.flatMap λp=>[.int .i64 p.1,.int .i64 p.2]
theorem a1f (L:List (Nat×Nat)) (p:Nat×Nat):afb (L++[p])=afb L++[.int .i64 p.1,.int .i64 p.2]:=by simp[afb]
def avg (x:Int×Int×List (Nat×Nat)) (w:World) (e:Ending) (w':World):Prop:=
 ∃A c,e=.returned (.tuple #[.agg #[.int .i64 x.2.1,.slice A x.2.2.length c],.int .i64 x.1])/\qf (λb=>w.1.size<=b/\b<w'.1.size) w' A (afb x.2.2)/\Below w.1.size w w'
theorem bgw:(prog.info? 164).map (λi=>(i.zero,i.size,i.bytes))=some (some (.agg #[.int .i64 0,.int .i64 0]),2,16):=by kernel_rfl
theorem ag0 {w1 w:World} {b:Nat} {x y:Value} (hk:Blk w1 b [x,y]) (p q:Value) (hb:Below b w w1) :
 (loadVar 36 ⟨b,0,none⟩).run prog ((w1.setCell ⟨b,0,none⟩ p).setCell ⟨b,1,none⟩ q)=.ok (.agg #[p,q]) ((w1.setCell ⟨b,0,none⟩ p).setCell ⟨b,1,none⟩ q)/\Below b w ((w1.setCell ⟨b,0,none⟩ p).setCell ⟨b,1,none⟩ q)/\∀k,k≠b ->((w1.setCell ⟨b,0,none⟩ p).setCell ⟨b,1,none⟩ q).heap[k]?=w1.heap[k]?:=by
 have hs:qq w1 ((w1.setCell ⟨b,0,none⟩ p).setCell ⟨b,1,none⟩ q) b 0 [p,q]:=qo (cs:=[p,q]) (hk.there 0 2 (a8 _));exact⟨t9 (P:=prog) _ b 0 36 [p,q] _ (hk.all hs rfl).rg underlying36 rfl kr,hb.trans (hs.below (a8 _)),hs.far⟩
theorem bha (k:Nat):ko k []=(0,[]):=by cases k<;>simp[ko]
structure VB (w:World) (B lo a g:Nat) (t0:Int) (vL:Value) (k:Nat) (L:List (Nat×Nat)) (W:World) (s:Option (List UInt8)):Prop where
 m:Blk W g [.int .i64 t0,vL]
 own:W.ownsRow B 164 2 vL k (afb L)
 rd:RdI (λj=>lo<=j/\j<B) W a s
 res:Blk W w.1.size [.int .i64 0,.slice none 0 0]
 bel:Below w.1.size w W
 sz:B<=W.1.size
theorem VB.on {w:World} {B lo a g:Nat} {t0:Int} {vL:Value} {k:Nat} {L:List (Nat×Nat)} {W W':World} {s:Option (List UInt8)} (h:VB w B lo a g t0 vL k L W s) (hb:Below W.1.size W W'):VB w B lo a g t0 vL k L W' s:=
 ⟨h.m.on hb,afa h.own hb,h.rd.below hb (λj q=>i9 q.2 h.sz),h.res.on hb,qb h.bel hb,p9 h.sz hb.size⟩
theorem VB.kept {w:World} {B lo a g:Nat} {t0:Int} {vL:Value} {k:Nat} {L:List (Nat×Nat)} {W W':World} {s s':Option (List UInt8)} (h:VB w B lo a g t0 vL k L W s) (hd:w.1.size<g/\g<lo/\lo<=a/\a<B) (hk:qi (λj=>j≠a) W W') (hr:RdI (λj=>lo<=j/\j<B) W' a s'):VB w B lo a g t0 vL k L W' s':=by
 refine⟨h.m.kept (hk.block g om) hk.size,⟨h.own.1,?_⟩,hr,h.res.kept (hk.block _ om) hk.size,h.bel.trans (hk.below (λj hj=>by omega)),p9 h.sz hk.size⟩;rcases h.own.2 with q|⟨g',cap,cur,h1,h2,h3,h4⟩
 ·exact .inl q
 ·exact .inr ⟨g',cap,cur,h1,h2,by rw[hk.block g' om];exact h3,h4⟩
theorem a3o {Q0:Nat->Prop} {w:World} (X:Option Addr) (d:Nat) (b:List UInt8) (hB:qf Q0 w X (bsV b)) (hm:b.length<=1100000) (hd:b.length<=d) :
 Calls prog 289 #[.slice X b.length d] w (avg (af0 b) w):=by
 have HK0:∀W,Below (w.alloc (.cells #[.int .i64 0,.slice none 0 0] 36)).1.size (w.alloc (.cells #[.int .i64 0,.slice none 0 0] 36)) W->Q_ (Blk W w.1.size [.int .i64 0,.slice none 0 0]):=λW hW=>q_ ((Blk.newL (qg w _ _) rfl).on hW)
 by_cases h8:b.length<4
 ·have e:af0 b=(2,0,[]):=by unfold af0;rw[if_pos h8]
  rw[e];have f1:(b.length:Int)<4:=by omega
  have HK1:=HK0 _ (n9 _ _);generalize b.length=L at *;clear hB e;have g0:=HK1.o.cell 0 (v:=.int .i64 0) rfl;have g1:=HK1.o.cell 1 (v:=.slice none 0 0) rfl;have z0:=HK1.o.fz 0;have z1:=HK1.o.fz 1;go_enter func289,ntmps289;go_wp2_with fail;refine b43 (b5o ?_ (λe a w h=>by cases e<;>first|exact h|exact h.elim));go_wp2_with fail;have HLD:=q_ (t9 (P:=prog) _ w.1.size 0 36 [.int .i64 0,.slice none 0 0] _ HK1.o.rg underlying36 rfl kr);exact b9 (v:=.tuple #[.agg #[.int .i64 0,.slice none 0 0],.int .i64 2]) (by rw[zj rfl];simp[asAddr,Result.andThen];rw[HLD.o]) rfl ⟨none,0,rfl,qf.nil _ _ _,qa _ _⟩
 obtain⟨bb,off,rfl,-,-⟩:=hB 0 (bV (b[0]'(by omega))) (v9 om);have h8l:(b.take 4).length=4:=by rw[l8];omega
 have HH:=λW=>q_ (ayh W)
 have HS:∀A c W1 W2,Below w.1.size w W1->qf (λb=>W1.1.size<=b/\b<W2.1.size) W2 A (acp ai9)->Below W1.1.size W1 W2->Q_ (Calls prog 91 #[.slice A ai9.length c,.slice (some ⟨bb,off,none⟩) 4 d] W2 (vc (xl ai9 (b.take 4)) W2)):=by
  have:=ais (Q0:=Q0) (w:=w) (fs:=ai9) (b:=b.take 4) (X:=some ⟨bb,off,none⟩) (d:=d) a8i dc (by have:=hB.first 4;rwa [ys]at this) om
  rwa [h8l]at this
 have HLN:Q_ ((xl ai9 (b.take 4)).1=0 ->(xl ai9 (b.take 4)).2.length=3):=q_ (λh=>aby h)
 have hT:af0 b=if(xl ai9 (b.take 4)).1=0 then
  if(ko 32 (b.drop 4)).1=0 then(0,(xl ai9 (b.take 4)).2.getD 1 0,(ko 32 (b.drop 4)).2)else((ko 32 (b.drop 4)).1,0,[])
  else((xl ai9 (b.take 4)).1,0,[]):=by unfold af0;rw[if_neg h8]
 rw[hT];clear hT h8l;obtain⟨⟨E,v⟩,hr⟩:∃r,xl ai9 (b.take 4)=r:=⟨_,rfl⟩;rw[hr]at HS HLN ⊢;unfold ac9 at HH;rw[show ai9.length=3 from rfl]at *;unfold vc at HS;dsimp only at *;have HBF:=q_ hB.lt;have f8:(4:Int) <=(b.length:Int):=by omega
 have f8d:(4:Int) <=(d:Int):=by omega
 have f80:¬(b.length:Int)<4:=by omega
 clear hr hB
 by_cases hE:E=0
 rotate_left
 ·have hE2:(E != 0)=true:=by rw[b0r];exact hE
  have hE3:(E==0)=false:=by rw[l7];exact hE
  rw[if_neg hE];clear hE HLN;go_enter func289,ntmps289;go_wp2_with fail;refine b43 (b5o ?_ (λe a w h=>by cases e<;>first|exact h|exact h.elim));go_upto_region 3 with fail;have HK1:=HK0 _ (n9 _ _);have HB1:Q_ (Below w.1.size w (w.alloc (.cells #[.int .i64 0,.slice none 0 0] 36))):=q_ (qa _ _);clear HK0;generalize w.alloc (.cells #[.int .i64 0,.slice none 0 0] 36)=W1 at *
  try (apply b1q;intro K_ HK_)
  have hS0:Below W1.1.size W1 W1.drew:=(n9 _ _).drew;refine t6 (S:=λw'=>Below W1.1.size W1 w') kr hS0 (λhHeld0=>?_);refine tkA 1 18 rfl ?_;go_frame;refine tkA 2 19 rfl ?_;go_frame;refine rdB 0 17 rfl λK hK=>?_
  go_step;refine(HH _).o.mono ?_;rintro e w2 ⟨A,c,rfl,hf,hb⟩;have HT:=HS _ c _ _ (hHeld0.mono HB1.o.size |> λq=>HB1.o.trans q) hf hb;have HS2:Q_ (Below W1.1.size W1 w2):=q_ (hHeld0.trans (hb.mono hHeld0.size));clear hf hb HS
  try go_frame
  refine hK.out _ _ (HS2.o) (λhHeld=>?_);clear hK K
  try go_frame
  refine rdB 3 20 rfl λK hK=>?_
  go_step;refine HT.o.mono ?_;rintro e w3 ⟨A3,c3,rfl,hf,hb⟩;have HFL:=q_ hf;have HS3:Q_ (Below W1.1.size W1 w3):=q_ (HS2.o.trans (hb.mono HS2.o.size));clear hf hb HT HS2
  try go_frame
  refine hK.out _ _ (HS3.o) (λhHeld=>?_);clear hK K
  try go_frame
  refine tkA 4 16 rfl ?_;go_frame;refine tkA 5 21 rfl ?_;go_frame;refine tkA 6 22 rfl ?_;go_frame;refine tkA 7 4 rfl ?_;go_frame;refine tkA 8 5 rfl ?_;go_frame;refine b0m kr ?_ _
  try go_frame
  have HK3:=q_ (HK1.o.on HS3.o);have HB3:=q_ (qb HB1.o HS3.o);clear hHeld hHeld0 hS0 HK1 HB1 HS3;have g0:=HK3.o.cell 0 (v:=.int .i64 0) rfl;have g1:=HK3.o.cell 1 (v:=.slice none 0 0) rfl;have z0:=HK3.o.fz 0;have z1:=HK3.o.fz 1;go_wp2_with fail;obtain⟨r1,r2,-⟩:=ag0 HK3.o (.int .i64 0) (.slice none 0 0) HB3.o;exact b9 (v:=.tuple #[.agg #[.int .i64 0,.slice none 0 0],.int .i64 E]) (by rw[zj rfl];simp[asAddr,Result.andThen];rw[r1]) rfl ⟨none,0,rfl,qf.nil _ _ _,r2⟩
 subst hE;rw[if_pos rfl];have hvl:=HLN.o rfl;simp only[hvl]at HS;clear HLN
 obtain⟨y0,t0,y2,rfl⟩:∃y0 t0 y2,v=[y0,t0,y2]:=by
  rcases v with _|⟨x0,_|⟨x1,_|⟨x2,_|⟨z,_⟩⟩⟩⟩<;>first|exact⟨_,_,_,rfl⟩|(simp at hvl)
 clear hvl;obtain⟨res,hres⟩:∃res,(if(ko 32 (b.drop 4)).1=0 then((0:Int),t0,(ko 32 (b.drop 4)).2)else((ko 32 (b.drop 4)).1,0,[]))=res:=⟨_,rfl⟩;show Calls prog _ _ w (avg (if(ko 32 (b.drop 4)).1=0 then((0:Int),t0,(ko 32 (b.drop 4)).2)else((ko 32 (b.drop 4)).1,0,[])) w);rw[hres];have HRES:=q_ hres;clear hres;go_enter func289,ntmps289;go_wp2_with fail;refine b43 (b5o ?_ (λe a w h=>by cases e<;>first|exact h|exact h.elim));go_upto_region 3 with fail;have HK1:=HK0 _ (n9 _ _);have HB1:Q_ (Below w.1.size w (w.alloc (.cells #[.int .i64 0,.slice none 0 0] 36))):=q_ (qa _ _);clear HK0;generalize w.alloc (.cells #[.int .i64 0,.slice none 0 0] 36)=W1 at *
 try (apply b1q;intro K_ HK_)
 have hS0:Below W1.1.size W1 W1.drew:=(n9 _ _).drew;refine t6 (S:=λw'=>Below W1.1.size W1 w') kr hS0 (λhHeld0=>?_);refine tkA 1 18 rfl ?_;go_frame;refine tkA 2 19 rfl ?_;go_frame;refine rdB 0 17 rfl λK hK=>?_
 go_step;refine(HH _).o.mono ?_;rintro e w2 ⟨A,c,rfl,hf,hb⟩;have HT:=HS _ c _ _ (hHeld0.mono HB1.o.size |> λq=>HB1.o.trans q) hf hb;have HS2:Q_ (Below W1.1.size W1 w2):=q_ (hHeld0.trans (hb.mono hHeld0.size));clear hf hb HS
 try go_frame
 refine hK.out _ _ (HS2.o) (λhHeld=>?_);clear hK K
 try go_frame
 refine rdB 3 20 rfl λK hK=>?_
 go_step;refine HT.o.mono ?_;rintro e w3 ⟨A3,c3,rfl,hf,hb⟩;have HFL:=q_ hf;have HS3:Q_ (Below W1.1.size W1 w3):=q_ (HS2.o.trans (hb.mono HS2.o.size));clear hf hb HT HS2
 try go_frame
 refine hK.out _ _ (HS3.o) (λhHeld=>?_);clear hK K
 try go_frame
 refine tkA 4 16 rfl ?_;go_frame;refine tkA 5 21 rfl ?_;go_frame;refine tkA 6 22 rfl ?_;go_frame;refine tkA 7 4 rfl ?_;go_frame;refine tkA 8 5 rfl ?_;go_frame;refine b0m kr ?_ _
 try go_frame
 have HK3:=q_ (HK1.o.on HS3.o);have HB3:=q_ (qb HB1.o HS3.o);clear hHeld hHeld0 hS0 HK1 HB1 HS3;obtain⟨ab,ao,rfl,-,hablt,hcell⟩:=afp HFL.o sm;have c1:w3.cell? ⟨ab,ao+1,none⟩=some (.int .i64 t0):=hcell 1 sm;clear hcell HFL;go_upto_region 7 with fail;have HM4:Q_ (Blk (w3.alloc (.cells #[.int .i64 t0,.slice none 0 0] 36)) w3.1.size [.int .i64 t0,.slice none 0 0]):=q_ (Blk.newL (qg _ _ _) rfl);have HK4:Q_ (Blk (w3.alloc (.cells #[.int .i64 t0,.slice none 0 0] 36)) w.1.size [.int .i64 0,.slice none 0 0]):=q_ (HK3.o.on (qa _ _));have HB4:Q_ (Below w.1.size w (w3.alloc (.cells #[.int .i64 t0,.slice none 0 0] 36))):=q_ (qb HB3.o (qa _ _));have hgl:w.1.size<w3.1.size:=HK3.o.lt;clear c1 hablt HK3 HB3;generalize w3.alloc (.cells #[.int .i64 t0,.slice none 0 0] 36)=W4 at *;generalize w3.1.size=g at *;have hRl:(b.drop 4).length=b.length-4:=n5 ..
 have HNW:∀o',(o'=off+4\/d=4)->Q_ (Calls prog 74 #[.slice (some ⟨bb,o',none⟩) (b.length-4) (d-4)] W4 λe w'=>∃g,e=.returned (.pointer (some ⟨g,0,none⟩))/\RdI (λb=>W4.1.size<=b/\b<w'.1.size) w' g (some (b.drop 4))/\Below W4.1.size W4 w'):=λo' ho=>q_ (by
  have h1:=aw1 (c:=d) HBF.o 4 om hd o' ho;have:=aj5 (some ⟨bb,o',none⟩) (b.drop 4) (d-4) W4 (h1.below HB4.o (λb q=>q.2)) (by rw[hRl];omega)
  rwa [hRl]at this)
 go_cut [7] (λs wx=>∃a,s=.pointer (some ⟨a,0,none⟩)/\Q_ (RdI (λj=>W4.1.size<=j/\j<wx.1.size) wx a (some (b.drop 4))/\Below W4.1.size W4 wx))
 case first=>
  by_cases hd8:d=4
  ·have HNX:=HNW off (.inr hd8);rw[show b.length-4=0 from by omega,show d-4=0 from by omega]at HNX;subst hd8;go_wp2_with fail;refine HNX.o.mono ?_;rintro e w5 ⟨a,rfl,hr,hb⟩;have HR5:=q_ (o3 hr hb);clear hr hb;go_wp2_with fail
   go_meet
   exact⟨a,rfl,HR5⟩
  ·have HNX:=HNW (off+4) (.inl rfl);have f1:¬(4:Int)=(d:Int):=by omega
   have f2:¬(4:Nat)=d:=by omega
   go_wp2_with fail;refine HNX.o.mono ?_;rintro e w5 ⟨a,rfl,hr,hb⟩;have HR5:=q_ (o3 hr hb);clear hr hb;go_wp2_with fail
   go_meet
   exact⟨a,rfl,HR5⟩
 case rest=>
 obtain⟨a,rfl,HRC⟩:=hcut;have HM5:=q_ (HM4.o.on HRC.o.2);have HK5:=q_ (HK4.o.on HRC.o.2);have HB5:=q_ (qb HB4.o HRC.o.2);have HG5:Q_ (w.1.size<g/\g<W4.1.size/\W4.1.size<=a/\a<wc.1.size):=q_ ⟨hgl,HM4.o.lt,HRC.o.1.1.1,HRC.o.1.1.2⟩;have HR5:=q_ HRC.o.1;have HO5:Q_ (wc.ownsRow wc.1.size 164 2 (.slice none 0 0) 0 (afb [])):=q_ (b2p _ _ _ _);obtain⟨i0,hi,hz0,hz1,hz2⟩:=kq bgw;have HI:=q_ (o3 hi (o3 hz0 (o3 hz1 hz2)));clear hi hz0 hz1 hz2 HRC HM4 HK4 HB4 hgl HNW hRl HBF HH f8 f8d f80 h8;go_wp2_with fail;refine wp_label ?_;go_wp2_with fail
 go_loopg [5] 33 (λh s5 wr=>s5=.int .i64 0/\∃k:Nat,k<=32/\32-k<h/\Q_ (∃L vL R,L.length=k/\as4 L (ko (32-k) R)=ko 32 (b.drop 4)/\R.length<=1100000/\VB w wc.1.size W4.1.size a g t0 vL k L wr (some R)))
 case atStart=>exact⟨rfl,0,by omega,by omega,⟨[],.slice none 0 0,b.drop 4,rfl,bco _ _,(by rw[n5];omega),HM5.o,HO5.o,HR5.o,HK5.o,HB5.o,a8 _⟩⟩
 case round=>
  obtain⟨rfl,k,hk,hh,HL⟩:=hrel;obtain⟨L,vL,R,hL1,hL2,hRm,hV⟩:=HL.o;obtain⟨A,cp,rfl,-,-,-⟩:=zt hV.own;have HLF:=q_ (ak8 hV.rd);have HV:=q_ hV;have HL1:=q_ hL1;have HL2:=q_ hL2;have m0:=hV.m.cell 0 (v:=.int .i64 t0) rfl;have m1:=hV.m.cell 1 (v:=.slice A k cp) rfl;clear HL hL1 hL2 hV
  by_cases hR0:R=[]
  ·subst hR0
   have hs0:ko 32 (b.drop 4)=(0,L):=by
    rw[<- HL2.o,bha];unfold as4;rw[if_pos rfl,b0p]
   have hre:=HRES.o;rw[hs0,if_pos rfl]at hre;subst hre
   have HFL:Q_ (qf (λj=>wc.1.size<=j/\j<wr.1.size) wr A (afb L)):=q_ (by
    obtain⟨A',c',e1,-,h2,-⟩:=zt HV.o.own;injection e1 with e1 _ _;subst e1
    exact h2)
   have HK:=q_ HV.o.res;have HB:=q_ HV.o.bel;clear hs0;have g0:=HK.o.cell 0 (v:=.int .i64 0) rfl;have g1:=HK.o.cell 1 (v:=.slice none 0 0) rfl;have z0:=HK.o.fz 0;have z1:=HK.o.fz 1;go_wp2_with (refine HLF.o.mono ?_;rintro e w' ⟨rfl,rfl⟩);obtain⟨r1,r2,r3⟩:=ag0 HK.o (.int .i64 t0) (.slice A k cp) HB.o;refine b9 (v:=.tuple #[.agg #[.int .i64 t0,.slice A k cp],.int .i64 0]) (by rw[zj rfl];simp[asAddr,Result.andThen];rw[r1]) rfl ⟨A,cp,by rw[HL1.o],?_,r2⟩;have hg:=HG5.o;exact(HFL.o.keep λj hj=>r3 j (λe=>by omega)).less λj hj=>⟨by omega,by simpa using hj.2⟩
  have hRl:0<R.length:=b2q.2 hR0;have i1:(0:Int)<(R.length:Int):=by omega
  by_cases hk32:k=32
  ·subst hk32
   have hs0:ko 32 (b.drop 4)=(7,[]):=by
    have e:ko 0 R=(7,[]):=by
     unfold ko;rw[if_neg hR0]
    rw[<- HL2.o,show 32-32=0 from rfl,e,ah1 _ _ dc rfl]
   have hre:=HRES.o;rw[hs0,if_neg dc]at hre;subst hre;clear hs0;have g0:=HV.o.res.cell 0 (v:=.int .i64 0) rfl;have g1:=HV.o.res.cell 1 (v:=.slice none 0 0) rfl;have z0:=HV.o.res.fz 0;have z1:=HV.o.res.fz 1;go_wp2_with (refine HLF.o.mono ?_;rintro e w' ⟨rfl,rfl⟩);obtain⟨r1,r2,-⟩:=ag0 HV.o.res (.int .i64 0) (.slice none 0 0) HV.o.bel;exact b9 (v:=.tuple #[.agg #[.int .i64 0,.slice none 0 0],.int .i64 7]) (by rw[zj rfl];simp[asAddr,Result.andThen];rw[r1]) rfl ⟨none,0,rfl,qf.nil _ _ _,r2⟩
  have i2:((k:Int)==32)=false:=by rw[l7];omega
  have i2':¬(k:Int)=32:=by omega
  obtain⟨N,hN⟩:∃N,32-k=N+1:=⟨32-k-1,by omega⟩;have HN:=q_ hN;rw[hN]at HL2;clear hN
  by_cases h4:R.length<4
  ·have HU:=q_ (bgi (w:=wr) 4 HV.o.rd dc dc (λl q=>by injection q with q;subst q;exact h4));have HSZ:=λW=>q_ (an1 0 W dc)
   rw[show (jk 0).2=0 from rfl]at HSZ
   have hs0:ko 32 (b.drop 4)=(2,[]):=by
    have e:ko (N+1) R=(2,[]):=by
     unfold ko;rw[if_neg hR0,if_pos h4]
    rw[<- HL2.o,e,ah1 _ _ dc rfl]
   have hre:=HRES.o;rw[hs0,if_neg dc]at hre;subst hre;clear hs0;go_wp2_with (refine HLF.o.mono ?_;rintro e w' ⟨rfl,rfl⟩);refine HU.o.mono ?_;rintro e w1 ⟨rfl,hr,hk1⟩;have HV1:=q_ (HV.o.kept HG5.o hk1 hr);clear hr hk1;go_wp2_with fail;refine((HSZ _).o).mono ?_;rintro e w2 ⟨rfl,hb⟩;have HV2:=q_ (HV1.o.on hb);have HFA:=q_ (ak9 HV2.o.rd);clear hb;have g0:=HV2.o.res.cell 0 (v:=.int .i64 0) rfl;have g1:=HV2.o.res.cell 1 (v:=.slice none 0 0) rfl;have z0:=HV2.o.res.fz 0;have z1:=HV2.o.res.fz 1;go_wp2_with (refine HFA.o.mono ?_;rintro e w' ⟨rfl,rfl⟩);obtain⟨r1,r2,-⟩:=ag0 HV2.o.res (.int .i64 0) (.slice none 0 0) HV2.o.bel;exact b9 (v:=.tuple #[.agg #[.int .i64 0,.slice none 0 0],.int .i64 2]) (by rw[zj rfl];simp[asAddr,Result.andThen];rw[r1]) rfl ⟨none,0,rfl,qf.nil _ _ _,r2⟩
  have HU:=q_ (acs (w:=wr) 4 HV.o.rd dc dc om)
  have hkey:jg (R.take 4)<4294967296:=by
   have:=aio (R.take 4);rw[l8,b1m om]at this;exact this
  have HSZ:=λW=>q_ (an1 (jg (R.take 4)) W hkey)
  have HMO:=λW=>q_ (a3l (jg (R.take 4)) W hkey)
  have hkl:=aqk (jg (R.take 4));have hRd:(R.drop 4).length=R.length-4:=n5 ..;have hvlt:∀n,n<=8->jg ((R.drop 4).take n)<18446744073709551616:=λn hn=>bgh _ (by rw[l8];omega)
  have hML:2^(jk (jg (R.take 4))).1<=2^63:=b06 dc hkl.1;have hM0:0<2^(jk (jg (R.take 4))).1:=b3x dc;obtain⟨K,hK⟩:∃K,jg (R.take 4)=K:=⟨_,rfl⟩;obtain⟨n,hn⟩:∃n,(jk K).2=n:=⟨_,rfl⟩;obtain⟨M,hM⟩:∃M,2^(jk K).1-1=M:=⟨_,rfl⟩;rw[hK]at hML hM0 hkl hkey HU;simp only[hK]at HSZ HMO;simp only[hn]at HSZ;simp only[hM]at HMO;have hM63:M<9223372036854775808:=by omega
  have hn8:n<=8:=by have:=hkl.2;rw[hn]at this;exact this
  have i3:IntKind.i64.wrap (K:Int)=(K:Int):=b05 _ om;have i4:IntKind.u64.wrap (M:Int)=(M:Int):=b3w _ om;have HKN:=q_ (o3 hK (o3 hn hM));clear hML hM0 hkl hM hn hK;go_wp2_with (refine HLF.o.mono ?_;rintro e w' ⟨rfl,rfl⟩);refine HU.o.mono ?_;rintro e w1 ⟨rfl,hr,hk1⟩;have HV1:=q_ (HV.o.kept HG5.o hk1 hr);clear hr hk1 m0 m1;go_wp2_with fail;refine((HSZ _).o).mono ?_;rintro e w2 ⟨rfl,hb⟩;have HV2:=q_ (HV1.o.on hb);have HFA:=q_ (ak9 HV2.o.rd);have HLF2:=q_ (ak8 HV2.o.rd);rw[hRd]at HLF2;clear hb HV1 HU HLF
  by_cases hn0:n=0
  ·have d0:decide (0<n)=false:=o7 om
   have hs0:ko 32 (b.drop 4)=(6,[]):=by
    have e:ko (N+1) R=(6,[]):=by
     unfold ko;rw[if_neg hR0,if_neg h4,HKN.o.1,HKN.o.2.1,if_pos hn0]
    rw[<- HL2.o,e,ah1 _ _ dc rfl]
   have hre:=HRES.o;rw[hs0,if_neg dc]at hre;subst hre;clear hs0;have g0:=HV2.o.res.cell 0 (v:=.int .i64 0) rfl;have g1:=HV2.o.res.cell 1 (v:=.slice none 0 0) rfl;have z0:=HV2.o.res.fz 0;have z1:=HV2.o.res.fz 1;go_wp2_with (refine HFA.o.mono ?_;rintro e w' ⟨rfl,rfl⟩);obtain⟨r1,r2,-⟩:=ag0 HV2.o.res (.int .i64 0) (.slice none 0 0) HV2.o.bel;exact b9 (v:=.tuple #[.agg #[.int .i64 0,.slice none 0 0],.int .i64 6]) (by rw[zj rfl];simp[asAddr,Result.andThen];rw[r1]) rfl ⟨none,0,rfl,qf.nil _ _ _,r2⟩
  have d1:decide (0<n)=true:=t8 om
  by_cases hl:R.length-4<n
  ·have j1:((R.length-4:Nat):Int)<(n:Int):=by omega
   have hs0:ko 32 (b.drop 4)=(2,[]):=by
    have e:ko (N+1) R=(2,[]):=by
     unfold ko;rw[if_neg hR0,if_neg h4,HKN.o.1,HKN.o.2.1,if_neg hn0,if_pos (by rw[hRd];exact hl)]
    rw[<- HL2.o,e,ah1 _ _ dc rfl]
   have hre:=HRES.o;rw[hs0,if_neg dc]at hre;subst hre;clear hs0;have g0:=HV2.o.res.cell 0 (v:=.int .i64 0) rfl;have g1:=HV2.o.res.cell 1 (v:=.slice none 0 0) rfl;have z0:=HV2.o.res.fz 0;have z1:=HV2.o.res.fz 1;go_wp2_with (first|(refine HFA.o.mono ?_;rintro e w' ⟨rfl,rfl⟩)|(refine HLF2.o.mono ?_;rintro e w' ⟨rfl,rfl⟩));obtain⟨r1,r2,-⟩:=ag0 HV2.o.res (.int .i64 0) (.slice none 0 0) HV2.o.bel;exact b9 (v:=.tuple #[.agg #[.int .i64 0,.slice none 0 0],.int .i64 2]) (by rw[zj rfl];simp[asAddr,Result.andThen];rw[r1]) rfl ⟨none,0,rfl,qf.nil _ _ _,r2⟩
  have j1:¬((R.length-4:Nat):Int)<(n:Int):=by omega
  have HU2:=q_ (acs (w:=w2) n HV2.o.rd om hn8 om);have hv8:=hvlt n hn8;obtain⟨v,hv⟩:∃v,jg ((R.drop 4).take n)=v:=⟨_,rfl⟩;rw[hv]at HU2 hv8;have HVV:=q_ hv;clear hv;go_wp2_with (first|(refine HFA.o.mono ?_;rintro e w' ⟨rfl,rfl⟩)|(refine HLF2.o.mono ?_;rintro e w' ⟨rfl,rfl⟩));refine HU2.o.mono ?_;rintro e w3 ⟨rfl,hr,hk1⟩;have HV3:=q_ (HV2.o.kept HG5.o hk1 hr);clear hr hk1 HU2 HV2 HFA HLF2;go_wp2_with fail;refine((HMO _).o).mono ?_;rintro e w4 ⟨rfl,hb⟩;have HV4:=q_ (HV3.o.on hb);clear hb HV3
  by_cases hvm:M<v
  ·have j2:(M:Int)<(v:Int):=by omega
   have hs0:ko 32 (b.drop 4)=(5,[]):=by
    have e:ko (N+1) R=(5,[]):=by
     unfold ko;rw[if_neg hR0,if_neg h4,HKN.o.1,HKN.o.2.1,HKN.o.2.2,HVV.o,if_neg hn0,if_neg (by rw[hRd];exact hl),if_pos hvm]
    rw[<- HL2.o,e,ah1 _ _ dc rfl]
   have hre:=HRES.o;rw[hs0,if_neg dc]at hre;subst hre;clear hs0;have g0:=HV4.o.res.cell 0 (v:=.int .i64 0) rfl;have g1:=HV4.o.res.cell 1 (v:=.slice none 0 0) rfl;have z0:=HV4.o.res.fz 0;have z1:=HV4.o.res.fz 1;go_wp2_with fail;obtain⟨r1,r2,-⟩:=ag0 HV4.o.res (.int .i64 0) (.slice none 0 0) HV4.o.bel;exact b9 (v:=.tuple #[.agg #[.int .i64 0,.slice none 0 0],.int .i64 5]) (by rw[zj rfl];simp[asAddr,Result.andThen];rw[r1]) rfl ⟨none,0,rfl,qf.nil _ _ _,r2⟩
  have j2:¬(M:Int)<(v:Int):=by omega
  have i5:IntKind.i64.wrap (v:Int)=(v:Int):=b05 _ om;obtain⟨v',w6,hrun,ho,hb9⟩:=aip (P:=prog) (t:=34) (ty:=34) (afa HV4.o.own (qa w4 (.cells #[.int .i64 (K:Int),.int .i64 (v:Int)] 164))) (p9 HV4.o.sz (qa w4 _).size) HI.o underlying34 rfl dc (R:=λ_=>True) (some ⟨w4.1.size,0,none⟩) 1 1 [.int .i64 (K:Int),.int .i64 (v:Int)] rfl ((Blk.newL (qg w4 _ _) rfl).flat trivial) (λu hu=>by simp only[b03,b2o,b4u]at hu;rcases hu with rfl|rfl<;>rfl) (by unfold maxLen;omega) om;obtain⟨A',cp',hv',-,-,-⟩:=zt ho;subst hv';have HRUN:=q_ hrun
  have HV6:Q_ (VB w wc.1.size W4.1.size a g t0 (.slice A' (k+1) cp') (k+1) (L++[(K,v)]) (w6.setCell ⟨g,1,none⟩ (.slice A' (k+1) cp')) (some ((R.drop 4).drop n))):=q_ (by
   have h4:=HV4.o.on (qa w4 (.cells #[.int .i64 (K:Int),.int .i64 (v:Int)] 164));have hd:=HG5.o;obtain⟨q1,q2⟩:=(h4.m.below hb9 om).set (o:=1) sm (.slice A' (k+1) cp');refine⟨q1,?_,?_,(h4.res.below hb9 om).far q2 om,(h4.bel.trans (hb9.mono om)).trans (q2.below om),by rw[q2.sz];exact p9 h4.sz hb9.size⟩
   ·rw[a1f];exact ala ho om _
   ·exact h4.rd.keep (λj hj=>(q2.far j om).trans (hb9.block j hj.2)) (by rw[q2.sz];exact hb9.size))
  have m9:=((HV4.o.on (qa w4 (.cells #[.int .i64 (K:Int),.int .i64 (v:Int)] 164))).m.below hb9 (by have:=HG5.o;omega)).cell 1 (v:=.slice A k cp) rfl;have z9:=((HV4.o.on (qa w4 (.cells #[.int .i64 (K:Int),.int .i64 (v:Int)] 164))).m.below hb9 (by have:=HG5.o;omega)).fz 1;have m4:=HV4.o.m.cell 1 (v:=.slice A k cp) rfl;clear hrun ho hb9;go_wp2_with (at_builtin;refine q9 rfl _ _ 34 rfl _ _ _ rfl rfl HRUN.o ?_)
  have HLN:Q_ (∃L' vL R',L'.length=k+1/\as4 L' (ko (32-(k+1)) R')=ko 32 (b.drop 4)/\R'.length<=1100000/\VB w wc.1.size W4.1.size a g t0 vL (k+1) L' (w6.setCell ⟨g,1,none⟩ (.slice A' (k+1) cp')) (some R')):=q_ ⟨L++[(K,v)],_,(R.drop 4).drop n,by rw[e9,HL1.o];rfl,(by
   have e:=bcn L N R hR0 h4 (by rw[HKN.o.1,HKN.o.2.1];exact hn0) (by rw[HKN.o.1,HKN.o.2.1,hRd];exact hl) (by rw[HKN.o.1,HKN.o.2.1,HKN.o.2.2,HVV.o];exact hvm);rw[HL2.o,HKN.o.1,HKN.o.2.1,HVV.o]at e;rw[show 32-(k+1)=N from by have:=HN.o;omega];exact e.symm),(by rw[n5,n5];omega),HV6.o⟩
  go_roundg (32-k)
  case measure=>omega
  case rel=>exact⟨rfl,k+1,by omega,by omega,HLN⟩
