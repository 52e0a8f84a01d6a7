/- Layer 30: Encode over plain messages, knows. Printed by gennmc.py. -/
import Derived.Test.YtdkhlkfleggbaaaGreatP46
import Derived.Test.YtdkhlkfleggbaaaGreatP47
import Derived.Deep.QuietTactic
import Derived.BigQuiet
namespace Go.Proofs.YtdkhlkfleggbaaaGreat
set_option maxHeartbeats 2000000
set_option maxRecDepth 8000
open Lib (hid)
set_option linter.unusedVariables false
open Go.RowKit
theorem a1q {t:ByteArray} {m:NmD} (h1:m.s.ids.length≤1000000) (h2:m.u.L.length≤1000000):(yw t m).s.ids.length≤1000000 ∧(yw t m).u.L.length≤1000000:=by
 have e1:kz.ids.length≤1000000:=by decide
 have e2:ku.L.length≤1000000:=by decide
 unfold yw
 split
 ·exact⟨e1,e2⟩
 split
 ·exact⟨e1,e2⟩
 split
 ·exact⟨h1,e2⟩
 split
 ·exact⟨e1,e2⟩
 split
 ·exact⟨e1,h2⟩
 ·exact⟨e1,e2⟩
theorem a1p (t y:ByteArray) (fs:List ByteArray):(ac0 t y fs).1.s.ids.length≤1000000 ∧(ac0 t y fs).1.u.L.length≤1000000:=by
 unfold ac0
 split
 ·exact a1q (amu y fs).1 (amu y fs).2
 ·exact⟨Nat.zero_le _,Nat.zero_le _⟩
theorem a6y (t:ByteArray):(vy t).1.s.ids.length≤1000000 ∧(vy t).1.u.L.length≤1000000:=by
 unfold vy
 split
 ·exact a1p _ _ _
 ·exact⟨Nat.zero_le _,Nat.zero_le _⟩
theorem a1j (u:adr):ay0 u u=true:=by simp[ay0]
theorem a27 (u:af8):bag u u=true:=by simp[bag]
def aya (x:ItD):Prop:=x.N.s.ids.length≤1000000∧x.N.u.L.length≤1000000
theorem adk:aya adq:=⟨Nat.zero_le _,Nat.zero_le _⟩
theorem a85 (l:List UInt8):aya (kx l).x:=by
 have hd:∀p,aya (adm p l).1:=fun p=>by
  unfold adm
  split
  ·exact adk
  split
  ·exact a6y _
  ·exact adk
 cases l with
 | nil=>exact adk
 | cons x l=>
  rw[v5]
  split
  ·exact adk
  ·unfold afv
   split
   ·split
    ·exact hd _
    ·exact adk
   ·split<;>exact adk
theorem a87 {Q R:Nat→Prop} {w:World} {L M:List Value} {x:ItD} (h:ItM Q w L x) (h':ItM R w M x) (hq:∀b,Q b→b<w.heap.size) (hr:∀b,R b→b<w.heap.size) (hi:aya x) :
 Calls Tryz.prog 14 #[.agg L.toArray,.agg M.toArray] w fun e w'=>e=.returned (.bool true)∧Below w.heap.size w w':=by
 obtain⟨U,N,T,rfl,h1,h2,h3⟩:=h
 obtain⟨U',N',T',rfl,k1,k2,k3⟩:=h'
 have hu:=h1.toV hq
 have hu':=k1.toV hr
 have hn:=h2.toV hq
 have hn':=k2.toV hr
 have ht:=h3.toV hq
 have ht':=k3.toV hr
 have:=a3a (w:=w) (pr:=x.pr) (prq:=x.pr) (od:=x.od) (odq:=x.od) (b0:=true) (b1:=true) (b2:=true) (b3:=true) (b4:=true) (hid h1.len) (hid k1.len) (hid h2.len) (hid k2.len) (hid h3.len) (hid k3.len) (hid (by simp)) (hid (by simp))
  (hid fun W hb=>by have:=azj (hu.on hb) (hu'.on hb);rwa [a1j]at this)
  (hid fun W hb=>avs (hn.on hb) (hn'.on hb) hi.1 hi.2)
  (hid fun W hb=>by have:=azm (ht.on hb) (ht'.on hb);rwa [a27]at this)
 exact this
theorem arw (w:World):(Instr.build 64 #[]).run Tryz.prog w=.ok (.agg aaa.toArray) w:=by kernel_rfl
theorem ab8 {W:World} {b:Nat} {d p n e:Int} {L:List Value} (h:Blk W b (veL d p n e L)):W.cell? ⟨b,0,none⟩=some (.int .i64 d)∧W.cell? ⟨b,1,none⟩=some (.int .i64 p)∧W.cell? ⟨b,2,none⟩=some (.int .i64 n)∧W.cell? ⟨b,3,none⟩=some (.int .i64 e)∧W.rangeAt b 4 L:=
 ⟨h.cell 0 rfl,h.cell 1 rfl,h.cell 2 rfl,h.cell 3 rfl,fun j v hv=>h.cell (4+j) (by rw[show 4+j=j+1+1+1+1 from by omega];exact hv)⟩
theorem aq6 {P:Program} {o:Oper} {a:Act} {w W:World} {Q:Exit→Act→World→Prop} {K:Act→World→Prop} {v:Value} (hex:(execOp a.eval o).run P w=.ok (.value v) W) (h:K (a.put o.dst v) W):o.wp P a w K Q:=by
 unfold Oper.wp
 rw[hex]
 exact h
theorem ah5 {P:Program} {o:Oper} {a:Act} {w:World} {t:TypeId} (ho:o.op=.build t #[]) {v:Value} (hr:(Instr.build t #[]).run P w=.ok v w):(execOp a.eval o).run P w=.ok (.value v) w:=by
 unfold execOp;rw[ho];simp[hr]
theorem aoi {w:World} (A:Option Addr) (c:Nat) (l:List UInt8) (h:qf (fun b=>b<w.heap.size) w A (bsV l)) (hl:l.length≤1100) (hc:l.length≤c) (hd:(kx l).d=2) :
 Calls Tryz.prog 4 #[.slice A l.length c] w fun e w'=>e=.returned (.bool true)∧Below w.heap.size w w':=by
 have HK:=fun W=>hid (aab W)
 have HA:∀W,Below w.heap.size w W→Hid (Calls Tryz.prog 10 #[.slice A l.length c] W (ach (kx l) W)):=fun W hW=>hid (acu A c l (h.below hW (fun b q=>q)) (by omega) hc)
 have HZ:=fun W=>hid (abo W)
 obtain⟨t1,t2,t3,t4,t5⟩:=a7y l hd
 have h0:0<l.length:=by omega
 have hp:=a2p l l[0] (List.getElem?_eq_getElem h0)
 have HPR:∀W,Hid (Calls Tryz.prog 13 #[.int .u8 (l[0].toNat:Int)] W fun e w'=>e=.returned (.int .i64 (kx l).p)∧W=w'):=fun W=>hid (by have:=aeo l[0] W;rwa [← hp]at this)
 obtain⟨b,off,rfl,hb,hc0⟩:=h 0 _ (vu h0)
 have HC:∀W,Below w.heap.size w W→Hid (W.cell? ⟨b,off,none⟩=some (.int .u8 (l[0].toNat:Int))):=fun W hW=>hid ((hW.cell (p:=⟨b,off+0,none⟩) hb).trans hc0)
 unfold ach at HA
 generalize (l[0].toNat:Int)=x0 at *
 generalize kx l=v at *
 obtain⟨d,p,n,e,x⟩:=v
 dsimp only at *
 subst hd
 have i1:(l.length:Int)≤1100:=by omega
 have i2:(8:Int) ≤(n:Int):=by omega
 have i3:(n:Int)≤1024:=by omega
 have i4:(n:Int) ≤(l.length:Int):=by omega
 have i5:(0:Int)<(l.length:Int):=by omega
 have HPX:=hid t4
 clear h hl hc hp t1 t2 t3 t4 t5 hb hc0 h0
 generalize l.length=ln at *
 go_enter Tryz.func4,Tryz.ntmps4
 go_wp2_with fail
 refine(HK _).out.mono ?_
 rintro e1 w1 ⟨rfl,hb⟩
 have HB1:=hid hb
 clear hb
 go_wp2_with fail
 refine(HA _ HB1.out).out.mono ?_
 rintro e2 w2 ⟨L,rfl,hit,hb⟩
 have HB2:=hid (qb HB1.out hb)
 have HVL:=hid (acs (d:=2) (p:=p) (n:=n) (e:=e) hit.len)
 have HVO:=hid (abp (d:=2) (p:=p) (n:=n) (e:=e) hit.ones)
 have HVS:=hid (aca HVL.out)
 obtain⟨R,hR,-⟩:=hit.proto
 have HR:=hid hR
 clear hb HB1 HA hit hR
 go_upto_region 4 with(first
  | (refine qc rfl 66 rfl (veA 0 0 0 0) (HZ _).out ?_;intro W3 hW;have HV3:=hid (Blk.newL (L:=veL 0 0 0 0 aaa) hW rfl);have HB3:=hid (qb HB2.out hW.bel);clear hW)
  | (refine qe rfl 66 _ _ rfl w2.heap.size 0 (veL 2 p n e L).toArray rfl rfl (jq HV3.out HVL.out) HVS.out HVO.out ?_;intro W4 hs;have HV4:=hid (ye HV3.out HVL.out hs);have HB4:=hid (HB3.out.trans (hs.below HB2.out.size));clear hs))
 obtain⟨c0,c1,c2,-,c4⟩:=ab8 HV4.out
 rw[HR.out]at c4
 have c4:W4.cell? ⟨w2.heap.size,4,none⟩=some (.int .i64 x.pr):=c4 0 _ rfl
 rw[HPX.out]at c4
 have cb:=(HC _ HB4.out).out
 clear HR HPX HC HV4 HV3 HB3 HB2 HVL HVO HVS HZ HK
 go_wp2_with fail
 go_quiet ((go_at_call 13;exact Calls.quiet_of_same ((HPR _).out.mono fun _ _ h=>⟨h.1,h.2.symm⟩)))
 go_wp2_with fail
 go_ret
 exact⟨rfl,v4 HB4.out _⟩
theorem ats {w:World} (A:Option Addr) (c:Nat) (l:List UInt8) (h:qf (fun b=>b<w.heap.size) w A (bsV l)) (hl:l.length≤1100) (hc:l.length≤c) (hd:(kx l).d≠2) :
 Calls Tryz.prog 4 #[.slice A l.length c] w fun e w'=>e=.returned (.bool true)∧Below w.heap.size w w':=by
 have HK:=fun W=>hid (aab W)
 have HA:∀W,Below w.heap.size w W→Hid (Calls Tryz.prog 10 #[.slice A l.length c] W (ach (kx l) W)):=fun W hW=>hid (acu A c l (h.below hW (fun b q=>q)) (by omega) hc)
 have HZ:=fun W=>hid (abo W)
 obtain⟨t1,t2⟩:=bd9 l hd
 have t3:=bgw l
 have t4:=a6o l
 unfold ach at HA
 generalize kx l=v at *
 obtain⟨d,p,n,e,x⟩:=v
 dsimp only at *
 subst t1 t2
 have i1:(l.length:Int)≤1100:=by omega
 have hd2:(d==2)=false:=by rw[beq_eq_false_iff_ne];exact hd
 clear h hc hl
 generalize l.length=ln at *
 go_enter Tryz.func4,Tryz.ntmps4
 go_wp2_with fail
 refine(HK _).out.mono ?_
 rintro e1 w1 ⟨rfl,hb⟩
 have HB1:=hid hb
 clear hb
 go_wp2_with fail
 refine(HA _ HB1.out).out.mono ?_
 rintro e2 w2 ⟨L,rfl,hit,hb⟩
 have HB2:=hid (qb HB1.out hb)
 have HVL:=hid (acs (d:=d) (p:=p) (n:=(0:Nat)) (e:=e) hit.len)
 have HVO:=hid (abp (d:=d) (p:=p) (n:=(0:Nat)) (e:=e) hit.ones)
 have HVS:=hid (aca HVL.out)
 have HIT:=hid hit
 clear hb HB1 HA hit
 go_upto_region 4 with(first
  | (refine qc rfl 66 rfl (veA 0 0 0 0) (HZ _).out ?_;intro W3 hW;have HV3:=hid (Blk.newL (L:=veL 0 0 0 0 aaa) hW rfl);have HB3:=hid (qb HB2.out hW.bel);have HP3:=hid (fun b (q:b<w2.heap.size)=>hW.bel.block b q);have HZ3:=hid hW.sz;clear hW)
  | (refine qe rfl 66 _ _ rfl w2.heap.size 0 (veL d p 0 e L).toArray rfl rfl (jq HV3.out HVL.out) HVS.out HVO.out ?_;intro W4 hs;have HV4:=hid (ye HV3.out HVL.out hs);have HB4:=hid (HB3.out.trans (hs.below HB2.out.size));have HI4:Hid (ItM (fun b=>b<W4.heap.size) W4 L adq):=hid ((HIT.out.keep fun b q=>(hs.far b (Nat.ne_of_lt q.2)).trans (HP3.out b q.2)).less fun b q=>by have:=q.2;have:=hs.sz;have:=HZ3.out;omega);clear hs))
 obtain⟨c0,-,c2,-,c4⟩:=ab8 HV4.out
 have HC4:=hid c4
 have HLN:=hid HI4.out.len
 have HSM:∀W,Below W4.heap.size W4 W→Hid (Calls Tryz.prog 14 #[.agg L.toArray,.agg aaa.toArray] W fun e w'=>e=.returned (.bool true)∧Below W.heap.size W w'):=fun W hW=>hid (a87 (Q:=fun b=>b<W4.heap.size) (R:=fun b=>b<W.heap.size) (HI4.out.keep fun b q=>hW.block b q) (ItM.zero _ _) (fun b q=>Nat.lt_of_lt_of_le q hW.size) (fun b q=>q) adk)
 clear c4 HV4 HV3 HB3 HB2 HVL HVO HVS HZ HK HI4
 have c2:W4.cell? ⟨w2.heap.size,2,none⟩=some (.int .i64 0):=c2
 have hdd:d=0∨d=1:=by
  rcases t3 with q|q|q
  ·exact .inl q
  ·exact .inr q
  ·exact absurd q hd
 have HD0:=hid t4
 clear t3 t4 hd
 rcases hdd with rfl|rfl
 ·have hw:=HD0.out rfl
  have i6:(ln:Int)<1024:=by omega
  clear HD0 hw
  try dsimp only
  repeat (fail_if_success (with_reducible show Oper.wp _ ⟨some 69,_,_,_,_,_⟩ _ _ _ _)
          first|go_values|go_skip|go_guarded|go_step|go_upon)
  refine wp_load_mid _ _ rfl w2.heap.size 4 rfl L _ HC4.out Tryz.underlying64 rfl (by rw[HLN.out];kernel_rfl) ?_
  go_step
  go_simp
  go_guarded
  refine aq6 (v:=.agg aaa.toArray) (ah5 rfl (arw _)) ?_
  go_wp2_with fail
  refine(HSM _ (Below.refl _ _)).out.mono ?_
  rintro e w5 ⟨rfl,hb⟩
  have HB5:=hid (qb HB4.out hb)
  clear hb
  go_wp2_with fail
  go_ret
  exact⟨rfl,HB5.out⟩
 ·try dsimp only
  repeat (fail_if_success (with_reducible show Oper.wp _ ⟨some 69,_,_,_,_,_⟩ _ _ _ _)
          first|go_values|go_skip|go_guarded|go_step|go_upon)
  refine wp_load_mid _ _ rfl w2.heap.size 4 rfl L _ HC4.out Tryz.underlying64 rfl (by rw[HLN.out];kernel_rfl) ?_
  go_step
  go_simp
  go_guarded
  refine aq6 (v:=.agg aaa.toArray) (ah5 rfl (arw _)) ?_
  go_wp2_with fail
  refine(HSM _ (Below.refl _ _)).out.mono ?_
  rintro e w5 ⟨rfl,hb⟩
  have HB5:=hid (qb HB4.out hb)
  clear hb
  go_wp2_with fail
  go_ret
  exact⟨rfl,HB5.out⟩
theorem probeFull_any (A:Option Addr) (c:Nat) (l:List UInt8) (w:World) (hn:l.length≤maxLen) (hc:l.length≤c) (_:A=none→c=0) (h:qf (fun b=>b<w.heap.size) w A (bsV l)) :
 Calls Tryz.prog 4 #[.slice A l.length c] w fun e w'=>e=.returned (.bool true)∧Below w.heap.size w w':=by
 by_cases hl:l.length≤1100
 ·by_cases hd:(kx l).d=2
  ·exact aoi A c l h hl hc hd
  ·exact ats A c l h hl hc hd
 ·have hl2:1100<(l.length:Int):=by omega
  unfold maxLen at hn
  generalize l.length=n at *
  clear h hl
  go_enter Tryz.func4,Tryz.ntmps4
  go_wp2_with fail
  refine(aab _).mono ?_
  rintro e w' ⟨rfl,hb⟩
  have HB:=hid hb
  clear hb
  go_wp2_with fail
  go_ret
  exact⟨rfl,HB.out⟩
theorem apc {Q R:Nat→Prop} {w:World} (g:Nat) (A B:Option Addr) (xs ys:List UInt8) (c d:Nat) (hA:qf Q w A (bsV xs)) (hB:qf R w B (bsV ys)) (hq:∀b,R b→b<w.heap.size) (hx:xs.length≤100000) (hy:ys.length≤100000) :
 ∃v1 w1,(Builtin.append_ #[22,22] 22 #[.slice (some ⟨g,0,none⟩) 0 0,.slice A xs.length c]).run Tryz.prog w=.ok v1 w1∧Below w.heap.size w w1 ∧
  ∃C k w2,(Builtin.append_ #[22,22] 22 #[v1,.slice B ys.length d]).run Tryz.prog w1=.ok (.slice C (xs.length+ys.length) k) w2∧Below w.heap.size w w2∧qf (fun b=>b<w2.heap.size) w2 C (bsV (xs++ys))∧xs.length+ys.length≤k:=by
 obtain⟨i0,hi,hz0,hz1,hz2⟩:=jo a9j
 have hE:qf (fun _=>True) w (some ⟨g,0,none⟩) []:=qf.nil _ _ _
 obtain⟨B1,c1,w1,hr1,hg1,hc1,h1⟩:=afs (P:=Tryz.prog) w 22 22 5 i0 _ 1 1 Tryz.underlying22 hi hz0 hz1 hz2 rfl (by decide) (some ⟨g,0,none⟩) 0 0 [] (fun q=>by cases q) (Nat.le_refl _) rfl hE A xs.length c (bsV xs) (by rw[ab6,Nat.mul_one]) hA (aju xs) (by omega) (by unfold maxLen;omega) (by omega)
 rw[Nat.zero_add]at hr1 hc1
 have hb1:Below w.heap.size w w1:=⟨hg1.os,hg1.tape,hg1.output,hg1.size,fun k hk=>hg1.block k hk (by simp)⟩
 have hB1:qf R w1 B (bsV ys):=hB.below hb1 hq
 refine⟨_,w1,hr1,hb1,?_⟩
 rcases h1 with⟨hm,rfl,rfl,rfl⟩|⟨hm,ho⟩
 ·have hn:xs=[]:=List.eq_nil_of_length_eq_zero hm
  subst hn
  obtain⟨B2,c2,w2,hr2,hg2,hc2,h2⟩:=afs (P:=Tryz.prog) w1 22 22 5 i0 _ 1 1 Tryz.underlying22 hi hz0 hz1 hz2 rfl (by decide) (some ⟨g,0,none⟩) 0 0 [] (fun q=>by cases q) (Nat.le_refl _) rfl hE B ys.length d (bsV ys) (by rw[ab6,Nat.mul_one]) hB1 (aju ys) (by omega) (by unfold maxLen;omega) (by omega)
  have hb2:Below w1.heap.size w1 w2:=⟨hg2.os,hg2.tape,hg2.output,hg2.size,fun k hk=>hg2.block k hk (by simp)⟩
  refine⟨B2,c2,w2,hr2,hb2,?_,hc2⟩
  rcases h2 with⟨hm2,rfl,rfl,rfl⟩|⟨hm2,ho2⟩
  ·have hn:ys=[]:=List.eq_nil_of_length_eq_zero hm2
   subst hn
   exact qf.nil _ _ _
  ·obtain⟨A2,k2,e2,-,hf2,-⟩:=xk ho2
   injection e2 with e2 _ _
   subst e2
   exact hf2.less fun b q=>q.2
 ·rw[Nat.zero_add]at ho
  obtain⟨v2,w2,hr2,ho2,hg2,-⟩:=j6 (P:=Tryz.prog) w1 22 22 5 i0 _ 1 1 Tryz.underlying22 hi hz0 hz1 hz2 rfl (by decide) w.heap.size _ _ _ ho B ys.length d (bsV ys) (by rw[ab6,Nat.mul_one]) hB1 (aju ys) (by unfold maxLen;omega) (by omega) hb1.size
  obtain⟨A2,k2,rfl,hk2,hf2,-⟩:=xk ho2
  refine⟨A2,k2,w2,hr2,hb1.grown hg2 hb1.size (fun k hk=>?_),?_,hk2⟩
  ·rcases ho.2 with⟨q,-⟩|⟨g',cap',cur,q,hb',-⟩
   ·injection q with q _ _;subst q;cases hk
   ·injection q with q _ _;subst q
    simp only[Value.ownBlock,Option.some.injEq]at hk
    omega
  ·rw[ajs]
   exact hf2.less fun b q=>q.2
theorem axv (w:World):(zeroValue 69).run Tryz.prog w=.ok (.agg (veA 0 0 0 0)) w:=by kernel_rfl
theorem a7t {C:List Value} (h:C.length=124):(Tryz.prog.info? 69).map (·.size)=some C.toArray.size:=by
 rw[List.size_toArray,h];kernel_rfl
theorem a5g {L:List Value} (hl:L.length=120) (d p n e:Int) (w:World):(Instr.build 69 #[(0,.int .i64 d),(1,.int .i64 p),(2,.int .i64 n),(3,.int .i64 e),(4,.agg L.toArray)]).run Tryz.prog w=.ok (.agg (veL d p n e L).toArray) w:=by
 refine abx (z:=veA 0 0 0 0) (pl:=a5u) Tryz.underlying69 (axv w) (by kernel_rfl) ?_
 show Instr.fill _ (veA 0 0 0 0) ((0,.int .i64 d)::(1,.int .i64 p)::(2,.int .i64 n)::(3,.int .i64 e)::(4,.agg L.toArray)::[])=_
 rw[aag 0 _ (by decide),aag 1 _ (by decide),aag 2 _ (by decide),aag 3 _ (by decide)]
 exact asp _ _ _ _ hl
theorem a8t {W:World} {b:Nat} {C:List Value} (h:Blk W b C) (hl:C.length=124):(loadVar 69 ⟨b,0,none⟩).run Tryz.prog W=.ok (.agg C.toArray) W:=
 run_loadVar_mid (P:=Tryz.prog) W b 0 69 C _ h.rg Tryz.underlying69 (by simp) (by rw[hl];kernel_rfl)
theorem arp {w:World} {d p n e:Int} {L:List Value} (hl:L.length=120) (ho:∀v∈L,v.oneCell'=true):Calls Tryz.prog 12 #[.agg (veL d p n e L).toArray] w fun r w'=>r=.returned (.agg (veL d p n e L).toArray)∧Below w.heap.size w w':=by
 have HL:=hid hl
 have HVL:=hid (acs (d:=d) (p:=p) (n:=n) (e:=e) hl)
 have HVO:=hid (abp (d:=d) (p:=p) (n:=n) (e:=e) ho)
 have HRS:=hid (a7t HVL.out)
 have HZ:=fun W=>hid (axv W)
 have HB0:=fun W=>hid (a5g hl d p n e W)
 clear hl ho
 go_enter Tryz.func12,Tryz.ntmps12
 go_upto_region 1 with(first
  | (refine qr rfl _ _ rfl (veL d p n e L).toArray rfl ?_;intro W1 hW;have K1:=hid (Blk.newL (L:=veL d p n e L) hW List.toList_toArray);have HB1:=hid hW.bel;clear hW)
  | (refine qc rfl 69 rfl (veA 0 0 0 0) (HZ _).out ?_;intro W2 hW;have K2:=hid (Blk.newL (L:=veL 0 0 0 0 aaa) hW rfl);have KA:=hid (K1.out.on hW.bel);have HB2:=hid (qb HB1.out hW.bel);have HQ2:=hid K1.out.lt;clear hW))
 try go_frame
 obtain⟨c0,c1,c2,c3,c4⟩:=ab8 KA.out
 have HC4:=hid c4
 clear c4
 go_wp2_with (first
  | refine wpList_load_mid rfl 64 _ rfl w.heap.size 4 rfl L _ HC4.out Tryz.underlying64 (by simp) (by rw[HL.out];kernel_rfl) ?_
  | refine ah0 (u0:=.int .i64 d) (u1:=.int .i64 p) (u2:=.int .i64 n) (u3:=.int .i64 e) (u4:=.agg L.toArray) rfl 69 _ _ _ _ _ rfl rfl rfl rfl rfl rfl (HB0 _).out ?_
  | (refine qe rfl 69 _ _ rfl W1.heap.size 0 (veL d p n e L).toArray rfl rfl (jq K2.out HVL.out) HRS.out HVO.out ?_;intro W3 hs;have K3:=hid (ye K2.out HVL.out hs);have HB3:=hid (HB2.out.trans (hs.below HB1.out.size));clear hs))
 try go_frame
 have HLD:=hid (a8t K3.out HVL.out)
 exact bodyPost_ret (v:=.agg (veL d p n e L).toArray) (by rw[yg rfl];simp[asAddr,Result.andThen,HLD.out]) rfl ⟨rfl,HB3.out⟩
theorem avk {Q R:Nat→Prop} {w:World} {d p n e:Int} {L M:List Value} {x:ItD} (h:ItM Q w L x) (h':ItM R w M x) (hq:∀b,Q b→b<w.heap.size) (hr:∀b,R b→b<w.heap.size) (hi:aya x) :
 Calls Tryz.prog 11 #[.agg (veL d p n e L).toArray,.agg (veL d p n e M).toArray] w fun r w'=>r=.returned (.bool true)∧Below w.heap.size w w':=by
 have HS:∀W,Below w.heap.size w W→Hid (Calls Tryz.prog 14 #[.agg L.toArray,.agg M.toArray] W fun r w'=>r=.returned (.bool true)∧Below W.heap.size W w'):=fun W hW=>hid (a87 (h.keep fun b q=>hW.block b (hq b q)) (h'.keep fun b q=>hW.block b (hr b q)) (fun b q=>Nat.lt_of_lt_of_le (hq b q) hW.size) (fun b q=>Nat.lt_of_lt_of_le (hr b q) hW.size) hi)
 have HL:=hid h.len
 have HM:=hid h'.len
 clear h h' hq hr hi
 go_enter Tryz.func11,Tryz.ntmps11
 go_upto_region 1 with(first
  | (refine qr rfl _ _ rfl (veL d p n e L).toArray rfl ?_;intro W1 hW;have K1:=hid (Blk.newL (L:=veL d p n e L) hW List.toList_toArray);have HB1:=hid hW.bel;clear hW)
  | (refine qr rfl _ _ rfl (veL d p n e M).toArray rfl ?_;intro W2 hW;have K2:=hid (Blk.newL (L:=veL d p n e M) hW List.toList_toArray);have KA:=hid (K1.out.on hW.bel);have HB2:=hid (qb HB1.out hW.bel);clear hW))
 try go_frame
 obtain⟨c0,c1,c2,c3,c4⟩:=ab8 KA.out
 obtain⟨d0,d1,d2,d3,d4⟩:=ab8 K2.out
 have HC4:=hid c4
 have HD4:=hid d4
 clear c4 d4 K1 K2 KA
 repeat (fail_if_success (with_reducible show Oper.wp _ ⟨some 33,_,_,_,_,_⟩ _ _ _ _)
         first|go_values|go_skip|go_guarded|go_step|go_upon)
 refine wp_load_mid _ _ rfl w.heap.size 4 rfl L _ HC4.out Tryz.underlying64 (by simp) (by rw[HL.out];kernel_rfl) ?_
 repeat (fail_if_success (with_reducible show Oper.wp _ ⟨some 35,_,_,_,_,_⟩ _ _ _ _)
         first|go_values|go_skip|go_guarded|go_step|go_upon)
 refine wp_load_mid _ _ rfl W1.heap.size 4 rfl M _ HD4.out Tryz.underlying64 (by simp) (by rw[HM.out];kernel_rfl) ?_
 go_wp2_with fail
 refine(HS _ HB2.out).out.mono ?_
 rintro r w3 ⟨rfl,hb⟩
 have HB3:=hid (qb HB2.out hb)
 clear hb
 go_wp2_with fail
 go_ret
 exact⟨rfl,HB3.out⟩
theorem aj2 {w:World} (A B:Option Addr) (c d:Nat) (l m:List UInt8) (h:qf (fun b=>b<w.heap.size) w A (bsV l)) (h':qf (fun b=>b<w.heap.size) w B (bsV m)) (hl:l.length≤1100) (hm:m.length≤1100) (hc:l.length≤c) (hd:(kx l).d=0) :
 Calls Tryz.prog 3 #[.slice A l.length c,.slice B m.length d] w fun e w'=>e=.returned (.bool true)∧Below w.heap.size w w':=by
 have HK:=fun W=>hid (aab W)
 have HA:∀W,Below w.heap.size w W→Hid (Calls Tryz.prog 10 #[.slice A l.length c] W (ach (kx l) W)):=fun W hW=>hid (acu A c l (h.below hW (fun b q=>q)) (by omega) hc)
 have HA2:∀W C k,qf (fun b=>b<W.heap.size) W C (bsV (l++m))→l.length+m.length≤k→Hid (Calls Tryz.prog 10 #[.slice C (l.length+m.length) k] W (ach (kx (l++m)) W)):=fun W C k hf hk=>hid (by
  have:=acu C k (l++m) hf (by rw[List.length_append];omega) (by rw[List.length_append];exact hk)
  rwa [List.length_append]at this)
 have HAP:∀W,Below w.heap.size w W→∀g,Hid (∃v1 w1,(Builtin.append_ #[22,22] 22 #[.slice (some ⟨g,0,none⟩) 0 0,.slice A l.length c]).run Tryz.prog W=.ok v1 w1∧Below W.heap.size W w1 ∧
  ∃C k w2,(Builtin.append_ #[22,22] 22 #[v1,.slice B m.length d]).run Tryz.prog w1=.ok (.slice C (l.length+m.length) k) w2∧Below W.heap.size W w2∧qf (fun b=>b<w2.heap.size) w2 C (bsV (l++m))∧l.length+m.length≤k):=fun W hW g=>hid (apc g A B l m c d (h.below hW (fun b q=>q)) (h'.below hW (fun b q=>q)) (fun b q=>Nat.lt_of_lt_of_le q hW.size) (by omega) (by omega))
 have HZ:=fun W=>hid (abo W)
 unfold ach at HA HA2
 have hpp:l.length=0∨0<l.length ∧(kx (l++m)).p=(kx l).p:=by
  rcases Nat.eq_zero_or_pos l.length with q|q
  ·exact .inl q
  ·exact .inr ⟨q,by rw[a2p (l++m) l[0] (by rw[List.getElem?_append_left q,List.getElem?_eq_getElem q]),a2p l l[0] (List.getElem?_eq_getElem q)]⟩
 generalize kx (l++m)=u at *
 generalize kx l=v at *
 obtain⟨z,p,n,e,x⟩:=v
 obtain⟨z',p',n',e',x'⟩:=u
 dsimp only at *
 subst hd
 have i1:(l.length:Int)≤1100:=by omega
 have i2:(m.length:Int)≤1100:=by omega
 clear h h' hc hl hm
 generalize l.length=ln at *
 generalize m.length=mn at *
 go_enter Tryz.func3,Tryz.ntmps3
 go_wp2_with fail
 refine(HK _).out.mono ?_
 rintro e1 w1 ⟨rfl,hb⟩
 have HB1:=hid hb
 clear hb
 go_wp2_with fail
 refine(HA _ HB1.out).out.mono ?_
 rintro e2 w2 ⟨L,rfl,hit,hb⟩
 have HB2:=hid (qb HB1.out hb)
 have HVL:=hid (acs (d:=0) (p:=p) (n:=n) (e:=e) hit.len)
 have HVO:=hid (abp (d:=0) (p:=p) (n:=n) (e:=e) hit.ones)
 have HVS:=hid (aca HVL.out)
 have HIT:=hid hit
 clear hb HB1 HA hit
 go_upto_region 4 with(first
  | (refine qc rfl 66 rfl (veA 0 0 0 0) (HZ _).out ?_;intro W3 hW;have HV3:=hid (Blk.newL (L:=veL 0 0 0 0 aaa) hW rfl);have HB3:=hid (qb HB2.out hW.bel);have HP3:=hid (fun b (q:b<w2.heap.size)=>hW.bel.block b q);have HZ3:=hid hW.sz;clear hW)
  | (refine qe rfl 66 _ _ rfl w2.heap.size 0 (veL 0 p n e L).toArray rfl rfl (jq HV3.out HVL.out) HVS.out HVO.out ?_;intro W4 hs;have HV4:=hid (ye HV3.out HVL.out hs);have HB4:=hid (HB3.out.trans (hs.below HB2.out.size));have HI4:Hid (ItM (fun b=>b<W4.heap.size) W4 L x):=hid ((HIT.out.keep fun b q=>(hs.far b (Nat.ne_of_lt q.2)).trans (HP3.out b q.2)).less fun b q=>by have:=q.2;have:=hs.sz;have:=HZ3.out;omega);clear hs))
 try go_frame
 have hba:=qa W4 (.cells #[] 5)
 obtain⟨v1,w5,hr1,hb5,C,k,w6,hr2,hb6,hf6,hk6⟩:=(HAP _ (qb HB4.out hba) W4.heap.size).out
 have HR1:=hid hr1
 have HR2:=hid hr2
 have HB6:=hid (qb HB4.out (qb hba hb6))
 have HV6:=hid (HV4.out.on (qb hba hb6))
 have HI6:=hid ((HI4.out.keep fun b q=>(qb hba hb6).block b q).less (R:=fun b=>b<w6.heap.size) fun b q=>Nat.lt_of_lt_of_le q (qb hba hb6).size)
 have HAT:=HA2 w6 C k hf6 hk6
 have HZ6:=hid HV4.out.lt
 have HS6:=hid (qb hba hb6).size
 clear hba hr1 hr2 hb5 hb6 hf6 hk6 HA2 HAP HB2 HB3 HV3 HV4 HB4 HI4 HP3 HZ3 HIT
 go_wp2_with (at_builtin;first|refine qz rfl _ _ 22 rfl _ _ _ rfl rfl HR1.out ?_|refine qz rfl _ _ 22 rfl _ _ _ rfl rfl HR2.out ?_)
 refine HAT.out.mono ?_
 rintro e7 w7 ⟨M,rfl,hit,hb⟩
 have HB7:=hid (qb HB6.out hb)
 have HV7:=hid (HV6.out.on hb)
 have HI7:=hid ((HI6.out.keep fun b q=>hb.block b q).less (R:=fun b=>b<w7.heap.size) fun b q=>Nat.lt_of_lt_of_le q hb.size)
 have HML:=hid (acs (d:=z') (p:=p') (n:=n') (e:=e') hit.len)
 have HMO:=hid (abp (d:=z') (p:=p') (n:=n') (e:=e') hit.ones)
 have HMS:=hid (aca HML.out)
 have HJT:=hid hit
 have HZ7:Hid (w2.heap.size<w7.heap.size):=hid HV7.out.lt
 clear hb hit HAT HB6 HV6 HI6 HR1 HR2
 go_upto_region 5 with(first
  | (refine qc rfl 66 rfl (veA 0 0 0 0) (HZ _).out ?_;intro W8 hW;have HU8:=hid (Blk.newL (L:=veL 0 0 0 0 aaa) hW rfl);have HB8:=hid (qb HB7.out hW.bel);have HV8:=hid (HV7.out.on hW.bel);have HP8:=hid (fun b (q:b<w7.heap.size)=>hW.bel.block b q);have HZ8:=hid hW.sz;clear hW)
  | (refine qe rfl 66 _ _ rfl w7.heap.size 0 (veL z' p' n' e' M).toArray rfl rfl (jq HU8.out HML.out) HMS.out HMO.out ?_;intro W9 hs;have HU9:=hid (ye HU8.out HML.out hs);have HB9:=hid (HB8.out.trans (hs.below HB7.out.size));have HV9:=hid (HV8.out.far hs (Nat.ne_of_lt HZ7.out));have HZ9:Hid (w7.heap.size<W9.heap.size):=hid (by have:=hs.sz;have:=HZ8.out;omega);have HP9:=hid (fun b (q:b<w7.heap.size)=>(hs.far b (Nat.ne_of_lt q)).trans (HP8.out b q));clear hs))
 try go_frame
 obtain⟨c0,c1,-,-,-⟩:=ab8 HV9.out
 obtain⟨-,d1,-,-,-⟩:=ab8 HU9.out
 clear HV9 HU9 HU8 HV8 HV7 HI7 HJT HML HMO HMS HVL HVO HVS HP8 HP9 HZ HK HB7 HB8
 rcases hpp with hz|⟨hz,hpp⟩
 ·have i3:((ln:Int)==0)=true:=by rw[beq_iff_eq];omega
  clear hz
  go_wp2_with fail
  go_ret
  exact⟨rfl,HB9.out⟩
 ·have i3:((ln:Int)==0)=false:=by rw[beq_eq_false_iff_ne];omega
  clear hz
  subst hpp
  go_wp2_with fail
  go_ret
  exact⟨rfl,HB9.out⟩
theorem aj1 {w:World} (A B:Option Addr) (c d:Nat) (l m:List UInt8) (h:qf (fun b=>b<w.heap.size) w A (bsV l)) (h':qf (fun b=>b<w.heap.size) w B (bsV m)) (hl:l.length≤1100) (hm:m.length≤1100) (hc:l.length≤c) (hd:(kx l).d≠0) :
 Calls Tryz.prog 3 #[.slice A l.length c,.slice B m.length d] w fun e w'=>e=.returned (.bool true)∧Below w.heap.size w w':=by
 have HK:=fun W=>hid (aab W)
 have HA:∀W,Below w.heap.size w W→Hid (Calls Tryz.prog 10 #[.slice A l.length c] W (ach (kx l) W)):=fun W hW=>hid (acu A c l (h.below hW (fun b q=>q)) (by omega) hc)
 have HA2:∀W C k,qf (fun b=>b<W.heap.size) W C (bsV (l++m))→l.length+m.length≤k→Hid (Calls Tryz.prog 10 #[.slice C (l.length+m.length) k] W (ach (kx (l++m)) W)):=fun W C k hf hk=>hid (by
  have:=acu C k (l++m) hf (by rw[List.length_append];omega) (by rw[List.length_append];exact hk)
  rwa [List.length_append]at this)
 have HAP:∀W,Below w.heap.size w W→∀g,Hid (∃v1 w1,(Builtin.append_ #[22,22] 22 #[.slice (some ⟨g,0,none⟩) 0 0,.slice A l.length c]).run Tryz.prog W=.ok v1 w1∧Below W.heap.size W w1 ∧
  ∃C k w2,(Builtin.append_ #[22,22] 22 #[v1,.slice B m.length d]).run Tryz.prog w1=.ok (.slice C (l.length+m.length) k) w2∧Below W.heap.size W w2∧qf (fun b=>b<w2.heap.size) w2 C (bsV (l++m))∧l.length+m.length≤k):=fun W hW g=>hid (apc g A B l m c d (h.below hW (fun b q=>q)) (h'.below hW (fun b q=>q)) (fun b q=>Nat.lt_of_lt_of_le q hW.size) (by omega) (by omega))
 have HZ:=fun W=>hid (abo W)
 unfold ach at HA HA2
 have hids:=a85 l
 rw[a8a l m hd]at HA2
 generalize kx l=v at *
 obtain⟨z,p,n,e,x⟩:=v
 dsimp only at *
 have hz0:(z==0)=false:=by rw[beq_eq_false_iff_ne];exact hd
 have HIDS:=hid hids
 have i1:(l.length:Int)≤1100:=by omega
 have i2:(m.length:Int)≤1100:=by omega
 clear h h' hc hl hm hd hids
 generalize l.length=ln at *
 generalize m.length=mn at *
 go_enter Tryz.func3,Tryz.ntmps3
 go_wp2_with fail
 refine(HK _).out.mono ?_
 rintro e1 w1 ⟨rfl,hb⟩
 have HB1:=hid hb
 clear hb
 go_wp2_with fail
 refine(HA _ HB1.out).out.mono ?_
 rintro e2 w2 ⟨L,rfl,hit,hb⟩
 have HB2:=hid (qb HB1.out hb)
 have HVL:=hid (acs (d:=z) (p:=p) (n:=n) (e:=e) hit.len)
 have HVO:=hid (abp (d:=z) (p:=p) (n:=n) (e:=e) hit.ones)
 have HVS:=hid (aca HVL.out)
 have HIT:=hid hit
 clear hb HB1 HA hit
 go_upto_region 4 with(first
  | (refine qc rfl 66 rfl (veA 0 0 0 0) (HZ _).out ?_;intro W3 hW;have HV3:=hid (Blk.newL (L:=veL 0 0 0 0 aaa) hW rfl);have HB3:=hid (qb HB2.out hW.bel);have HP3:=hid (fun b (q:b<w2.heap.size)=>hW.bel.block b q);have HZ3:=hid hW.sz;clear hW)
  | (refine qe rfl 66 _ _ rfl w2.heap.size 0 (veL z p n e L).toArray rfl rfl (jq HV3.out HVL.out) HVS.out HVO.out ?_;intro W4 hs;have HV4:=hid (ye HV3.out HVL.out hs);have HB4:=hid (HB3.out.trans (hs.below HB2.out.size));have HI4:Hid (ItM (fun b=>b<W4.heap.size) W4 L x):=hid ((HIT.out.keep fun b q=>(hs.far b (Nat.ne_of_lt q.2)).trans (HP3.out b q.2)).less fun b q=>by have:=q.2;have:=hs.sz;have:=HZ3.out;omega);clear hs))
 try go_frame
 have hba:=qa W4 (.cells #[] 5)
 obtain⟨v1,w5,hr1,hb5,C,k,w6,hr2,hb6,hf6,hk6⟩:=(HAP _ (qb HB4.out hba) W4.heap.size).out
 have HR1:=hid hr1
 have HR2:=hid hr2
 have HB6:=hid (qb HB4.out (qb hba hb6))
 have HV6:=hid (HV4.out.on (qb hba hb6))
 have HI6:=hid ((HI4.out.keep fun b q=>(qb hba hb6).block b q).less (R:=fun b=>b<w6.heap.size) fun b q=>Nat.lt_of_lt_of_le q (qb hba hb6).size)
 have HAT:=HA2 w6 C k hf6 hk6
 have HZ6:=hid HV4.out.lt
 have HS6:=hid (qb hba hb6).size
 clear hba hr1 hr2 hb5 hb6 hf6 hk6 HA2 HAP HB2 HB3 HV3 HV4 HB4 HI4 HP3 HZ3 HIT
 go_wp2_with (at_builtin;first|refine qz rfl _ _ 22 rfl _ _ _ rfl rfl HR1.out ?_|refine qz rfl _ _ 22 rfl _ _ _ rfl rfl HR2.out ?_)
 refine HAT.out.mono ?_
 rintro e7 w7 ⟨M,rfl,hit,hb⟩
 have HB7:=hid (qb HB6.out hb)
 have HV7:=hid (HV6.out.on hb)
 have HI7:=hid ((HI6.out.keep fun b q=>hb.block b q).less (R:=fun b=>b<w7.heap.size) fun b q=>Nat.lt_of_lt_of_le q hb.size)
 have HML:=hid (acs (d:=z) (p:=p) (n:=n) (e:=e) hit.len)
 have HMO:=hid (abp (d:=z) (p:=p) (n:=n) (e:=e) hit.ones)
 have HMS:=hid (aca HML.out)
 have HJT:=hid hit
 have HZ7:Hid (w2.heap.size<w7.heap.size):=hid HV7.out.lt
 clear hb hit HAT HB6 HV6 HI6 HR1 HR2
 go_upto_region 5 with(first
  | (refine qc rfl 66 rfl (veA 0 0 0 0) (HZ _).out ?_;intro W8 hW;have HU8:=hid (Blk.newL (L:=veL 0 0 0 0 aaa) hW rfl);have HB8:=hid (qb HB7.out hW.bel);have HV8:=hid (HV7.out.on hW.bel);have HP8:=hid (fun b (q:b<w7.heap.size)=>hW.bel.block b q);have HZ8:=hid hW.sz;clear hW)
  | (refine qe rfl 66 _ _ rfl w7.heap.size 0 (veL z p n e M).toArray rfl rfl (jq HU8.out HML.out) HMS.out HMO.out ?_;intro W9 hs;have HU9:=hid (ye HU8.out HML.out hs);have HB9:=hid (HB8.out.trans (hs.below HB7.out.size));have HV9:=hid (HV8.out.far hs (Nat.ne_of_lt HZ7.out));have HZ9:Hid (w7.heap.size<W9.heap.size):=hid (by have:=hs.sz;have:=HZ8.out;omega);have HP9:=hid (fun b (q:b<w7.heap.size)=>(hs.far b (Nat.ne_of_lt q)).trans (HP8.out b q));clear hs))
 try go_frame
 obtain⟨c0,-,-,-,-⟩:=ab8 HV9.out
 have hJ9:ItM (fun b=>b<W9.heap.size) W9 M x:=(HJT.out.keep fun b q=>HP9.out b q.2).less fun b q=>Nat.lt_trans q.2 HZ9.out
 have hI9:ItM (fun b=>b<W9.heap.size) W9 L x:=(HI7.out.keep fun b q=>HP9.out b q).less fun b q=>Nat.lt_trans q HZ9.out
 have HO1:=fun W=>hid (arp (w:=W) (d:=z) (p:=p) (n:=n) (e:=e) hI9.len hI9.ones)
 have HO2:=fun W=>hid (arp (w:=W) (d:=z) (p:=p) (n:=n) (e:=e) hJ9.len hJ9.ones)
 have HAL:∀W,Below W9.heap.size W9 W→Hid (Calls Tryz.prog 11 #[.agg (veL z p n e L).toArray,.agg (veL z p n e M).toArray] W fun r w'=>r=.returned (.bool true)∧Below W.heap.size W w'):=fun W hW=>hid (avk (hI9.keep fun b q=>hW.block b q) (hJ9.keep fun b q=>hW.block b q) (fun b q=>Nat.lt_of_lt_of_le q hW.size) (fun b q=>Nat.lt_of_lt_of_le q hW.size) HIDS.out)
 clear hJ9 hI9 HU8 HV8 HV7 HI7 HJT HMO HMS HVO HVS HP8 HP9 HZ HK HB7 HB8
 go_upto_region 7 with fail
 clear c0
 have hS0:Below W9.heap.size W9 W9.drew:=(Below.refl _ _).drew
 refine wp_region_held_drew (S:=fun w'=>Below W9.heap.size W9 w') (by kernel_rfl) hS0 (fun hHeld0=>?_)
 refine tkQ (i:=0) (oi:=⟨some 41,_,_,_,_,_⟩) (v:=_) rfl (yieldsIf_load_mid (by rfl) 66 _ rfl w2.heap.size 0 rfl (veL z p n e L) _ (fun w' hSw=>(HV9.out.on hSw).rg) Tryz.underlying66 rfl (by rw[HVL.out];kernel_rfl)) ?_
 try go_frame
 refine tkQ (i:=2) (oi:=⟨some 43,_,_,_,_,_⟩) (v:=_) rfl (yieldsIf_load_mid (by rfl) 66 _ rfl w7.heap.size 0 rfl (veL z p n e M) _ (fun w' hSw=>(HU9.out.on hSw).rg) Tryz.underlying66 rfl (by rw[HML.out];kernel_rfl)) ?_
 try go_frame
 refine wpAnyH_ready (rs:=[1]) (by kernel_rfl) (by simp) ?_
 refine AllReadyH.cons (o:=⟨some 42,_,_,_,_,_⟩) rfl (fun K hK=>?_) AllReadyH.nil
 rw[if_pos (by rfl)]
 go_step
 refine(HO1 _).out.mono ?_
 rintro e10 w10 ⟨rfl,hb⟩
 have HS1:Hid (Below W9.heap.size W9 w10):=hid (hHeld0.trans (hb.mono hHeld0.size))
 clear hb
 try go_frame
 refine hK.out _ _ (HS1.out) (fun hHeld=>?_)
 clear hK K
 try go_frame
 refine wpAnyH_ready (rs:=[3]) (by kernel_rfl) (by simp) ?_
 refine AllReadyH.cons (o:=⟨some 44,_,_,_,_,_⟩) rfl (fun K hK=>?_) AllReadyH.nil
 rw[if_pos (by rfl)]
 go_step
 refine(HO2 _).out.mono ?_
 rintro e11 w11 ⟨rfl,hb⟩
 have HS2:Hid (Below W9.heap.size W9 w11):=hid (HS1.out.trans (hb.mono HS1.out.size))
 clear hb
 try go_frame
 refine hK.out _ _ (HS2.out) (fun hHeld=>?_)
 clear hK K
 try go_frame
 refine wpAnyH_ready (rs:=[4]) (by kernel_rfl) (by simp) ?_
 refine AllReadyH.cons (o:=⟨some 45,_,_,_,_,_⟩) rfl (fun K hK=>?_) AllReadyH.nil
 rw[if_pos (by rfl)]
 go_step
 refine(HAL _ HS2.out).out.mono ?_
 rintro e12 w12 ⟨rfl,hb⟩
 have HS3:Hid (Below W9.heap.size W9 w12):=hid (HS2.out.trans (hb.mono HS2.out.size))
 clear hb
 try go_frame
 refine hK.out _ _ (HS3.out) (fun hHeld=>?_)
 clear hK K
 try go_frame
 refine tkQ (i:=5) (oi:=⟨some 4,_,_,_,_,_⟩) (v:=?_) rfl (Or.inl ⟨by rfl,?_⟩) ?_
 rotate_left
 ·intro w' hSw
  go_simp
  try with_reducible rfl
 try go_frame
 refine wpAnyH_done (by kernel_rfl) ?_ _
 try go_frame
 go_wp2_with fail
 go_ret
 exact⟨rfl,HB9.out.trans (HS3.out.mono HB9.out.size)⟩
theorem probeSteady_any (A:Option Addr) (c:Nat) (l:List UInt8) (B:Option Addr) (d:Nat) (m:List UInt8) (w:World) (hn:l.length≤maxLen) (hc:l.length≤c) (_:A=none→c=0) (h:qf (fun b=>b<w.heap.size) w A (bsV l)) (hn':m.length≤maxLen) (_:m.length≤d) (_:B=none→d=0) (h':qf (fun b=>b<w.heap.size) w B (bsV m)) :
 Calls Tryz.prog 3 #[.slice A l.length c,.slice B m.length d] w fun e w'=>e=.returned (.bool true)∧Below w.heap.size w w':=by
 unfold maxLen at hn hn'
 by_cases hl:l.length≤1100
 ·by_cases hm:m.length≤1100
  ·by_cases hd:(kx l).d=0
   ·exact aj2 A B c d l m h h' hl hm hc hd
   ·exact aj1 A B c d l m h h' hl hm hc hd
  ·have i1:(l.length:Int)≤1100:=by omega
   have i2:1100<(m.length:Int):=by omega
   clear h h' hl hm
   generalize l.length=ln at *
   generalize m.length=mn at *
   go_enter Tryz.func3,Tryz.ntmps3
   go_wp2_with fail
   refine(aab _).mono ?_
   rintro e w' ⟨rfl,hb⟩
   have HB:=hid hb
   clear hb
   go_wp2_with fail
   go_ret
   exact⟨rfl,HB.out⟩
 ·have i1:1100<(l.length:Int):=by omega
  clear h h' hl
  generalize l.length=ln at *
  generalize m.length=mn at *
  go_enter Tryz.func3,Tryz.ntmps3
  go_wp2_with fail
  refine(aab _).mono ?_
  rintro e w' ⟨rfl,hb⟩
  have HB:=hid hb
  clear hb
  go_wp2_with fail
  go_ret
  exact⟨rfl,HB.out⟩
end Go.Proofs.YtdkhlkfleggbaaaGreat
