/- Parts. -/
import Derived.Test.YtdkhlkfleggbaaaGreatU33
namespace Go.Proofs.YtdkhlkfleggbaaaGreat
set_option maxHeartbeats 3000000
set_option maxRecDepth 8000
open Lib (hid)
open Tryz
set_option linter.unusedVariables false
open Go.RowKit
def NmQ (Q:Nat→Prop) (w:World) (L:List Value) (m:NmD):Prop:=∃x y,L=nmC m x y ∧(∃A c,x=.slice A m.s.ids.length c∧qf Q w A (m.s.ids.map (Value.int .i64)))∧∃A c,y=.slice A m.u.L.length c∧qf Q w A (vsC m.u.L)
theorem NmV.toQ {lo:Nat} {w:World} {C:Array Value} {m:NmD} (h:NmV lo w C m):NmQ (Bk lo w) w C.toList m:=by
 obtain⟨x,y,rfl,h1,h2⟩:=h;exact⟨x,y,rfl,h1,h2⟩
theorem NmQ.keep {Q:Nat→Prop} {w w':World} {L:List Value} {m:NmD} (h:NmQ Q w L m) (hk:∀b,Q b→w'.heap[b]?=w.heap[b]?):NmQ Q w' L m:=by
 obtain⟨x,y,h0,⟨A,c,h1,h2⟩,⟨B,d,h3,h4⟩⟩:=h;exact⟨x,y,h0,⟨A,c,h1,h2.keep hk⟩,⟨B,d,h3,h4.keep hk⟩⟩
theorem NmQ.less {Q R:Nat→Prop} {w:World} {L:List Value} {m:NmD} (h:NmQ Q w L m) (hr:∀b,Q b→R b):NmQ R w L m:=by
 obtain⟨x,y,h0,⟨A,c,h1,h2⟩,⟨B,d,h3,h4⟩⟩:=h;exact⟨x,y,h0,⟨A,c,h1,h2.less hr⟩,⟨B,d,h3,h4.less hr⟩⟩
theorem NmQ.toV {Q:Nat→Prop} {w:World} {L:List Value} {m:NmD} (h:NmQ Q w L m) (hq:∀b,Q b→b<w.1.size):NmV 0 w L.toArray m:=by
 obtain⟨x,y,rfl,h1,h2⟩:=h.less (R:=Bk 0 w) fun b q=>⟨b0c _,hq b q⟩
 exact⟨x,y,rfl,h1,h2⟩
theorem NmQ.len {Q:Nat→Prop} {w:World} {L:List Value} {m:NmD} (h:NmQ Q w L m):L.length=65:=by
 obtain⟨x,y,rfl,-⟩:=h;exact a74 _ _ _
theorem NmQ.ones {Q:Nat→Prop} {w:World} {L:List Value} {m:NmD} (h:NmQ Q w L m):∀v∈L,v.oneCell'=true:=by
 obtain⟨x,y,rfl,⟨A,c,rfl,-⟩,⟨B,d,rfl,-⟩⟩:=h;exact ya (aoe _) (aof _) (awo _ rfl) (aoi _) (axn _ rfl)
theorem NmQ.zero (Q:Nat→Prop) (w:World):NmQ Q w acj art:=⟨.slice none 0 0,.slice none 0 0,rfl,⟨none,0,rfl,qf.nil _ _ _⟩,⟨none,0,rfl,qf.nil _ _ _⟩⟩
theorem adw.zero (Q:Nat→Prop) (w:World):adw Q w jt aaq:=by
 refine⟨_,_,_,_,_,rfl,a43 (v:=List.replicate 32 0) rfl (ah9 32),vg,a42 (v:=List.replicate 8 0) rfl (ah9 8),a41 om om,vg⟩
def ItM (Q:Nat→Prop) (w:World) (L:List Value) (x:ItD):Prop:=∃U N T,L=itL x.pr x.od U N T∧adw Q w U x.U∧NmQ Q w N x.N∧aey Q w T x.T
theorem ItM.keep {Q:Nat→Prop} {w w':World} {L:List Value} {x:ItD} (h:ItM Q w L x) (hk:∀b,Q b→w'.heap[b]?=w.heap[b]?):ItM Q w' L x:=by
 obtain⟨U,N,T,h0,h1,h2,h3⟩:=h;exact⟨U,N,T,h0,h1.keep hk,h2.keep hk,h3.keep hk⟩
theorem ItM.less {Q R:Nat→Prop} {w:World} {L:List Value} {x:ItD} (h:ItM Q w L x) (hr:∀b,Q b→R b):ItM R w L x:=by
 obtain⟨U,N,T,h0,h1,h2,h3⟩:=h;exact⟨U,N,T,h0,h1.less hr,h2.less hr,h3.less hr⟩
theorem ItM.len {Q:Nat→Prop} {w:World} {L:List Value} {x:ItD} (h:ItM Q w L x):L.length=120:=by
 obtain⟨U,N,T,rfl,h1,h2,h3⟩:=h;simp[itL,h1.len,h2.len,h3.len]
theorem ItM.ones {Q:Nat→Prop} {w:World} {L:List Value} {x:ItD} (h:ItM Q w L x):∀v∈L,v.oneCell'=true:=by
 obtain⟨U,N,T,rfl,h1,h2,h3⟩:=h;intro v hv;simp only[itL,b0z,b1u]at hv;rcases hv with rfl|rfl|hv|hv|hv
 ·rfl
 ·rfl
 ·exact h1.ones v hv
 ·exact h2.ones v hv
 ·exact h3.ones v hv
theorem ItM.zero (Q:Nat→Prop) (w:World):ItM Q w adm aek:=⟨_,_,_,rfl,adw.zero Q w,NmQ.zero Q w,aey.zero Q w⟩
def acm (Q:Nat→Prop) (w:World) (Ls:List (List Value)) (X:List ItD):Prop:=Ls.length=X.length∧∀k (h:k<Ls.length) (h':k<X.length),ItM Q w Ls[k] X[k]
theorem acm.nil (Q:Nat→Prop) (w:World):acm Q w [] []:=⟨rfl,fun k h=>absurd h (b0v _)⟩
theorem acm.keep {Q:Nat→Prop} {w w':World} {Ls:List (List Value)} {X:List ItD} (h:acm Q w Ls X) (hk:∀b,Q b→w'.heap[b]?=w.heap[b]?):acm Q w' Ls X:=⟨h.1,fun k a b=>(h.2 k a b).keep hk⟩
theorem acm.less {Q R:Nat→Prop} {w:World} {Ls:List (List Value)} {X:List ItD} (h:acm Q w Ls X) (hr:∀b,Q b→R b):acm R w Ls X:=⟨h.1,fun k a b=>(h.2 k a b).less hr⟩
theorem acm.app {Q:Nat→Prop} {w:World} {Ls Ms:List (List Value)} {X Y:List ItD} (h:acm Q w Ls X) (h':acm Q w Ms Y):acm Q w (Ls++Ms) (X++Y):=by
 refine⟨by rw[d7,d7,h.1,h'.1],fun k a b=>?_⟩
 by_cases hk:k<Ls.length
 ·rw[b13 hk,b13 (by rw[← h.1];exact hk)];exact h.2 k hk _
 ·rw[b2i om,b2i (by rw[← h.1];omega)];simp only[h.1];exact h'.2 _ _ _
theorem acm.one {Q:Nat→Prop} {w:World} {L:List Value} {x:ItD} (h:ItM Q w L x):acm Q w [L] [x]:=⟨rfl,fun k a b=>by
 obtain rfl:k=0:=by simpa using a
 exact h⟩
theorem acm.flat_len {Q:Nat→Prop} {w:World} {Ls:List (List Value)} {X:List ItD} (h:acm Q w Ls X):Ls.flatten.length=X.length*120:=by
 obtain⟨h1,h2⟩:=h
 induction Ls generalizing X with
 | nil=>rw[b04]at h1;rw[← h1];rfl
 | cons L Ls ih=>
  cases X with
  | nil=>cases h1
  | cons x X=>
   have:=ih (X:=X) (by simpa using h1) (fun k a b=>h2 (k+1) (by simpa using a) (by simpa using b));have h0:L.length=120:=(h2 0 sm sm).len;rw[b30,d7,this,h0,n7];omega
theorem acm.ones {Q:Nat→Prop} {w:World} {Ls:List (List Value)} {X:List ItD} (h:acm Q w Ls X):∀v∈Ls.flatten,v.oneCell'=true:=by
 intro v hv;obtain⟨L,hL,hv⟩:=List.mem_flatten.1 hv;obtain⟨k,hk,rfl⟩:=b3c hL;exact(h.2 k hk (by rw[← h.1];exact hk)).ones v hv
theorem acm.at_ {Q:Nat→Prop} {w:World} {Ls:List (List Value)} {X:List ItD} (h:acm Q w Ls X) (k:Nat) (hk:k<X.length):∃A L D,Ls.flatten=A++L++D∧A.length=k*120∧ItM Q w L X[k]:=by
 have hk':k<Ls.length:=by rw[h.1];exact hk
 refine⟨(Ls.take k).flatten,Ls[k],(Ls.drop (k+1)).flatten,?_,?_,h.2 k hk' hk⟩
 ·have e:Ls=Ls.take k++Ls[k]::Ls.drop (k+1):=by rw[← b0n hk',b0p]
  conv=>lhs;rw[e]
  rw[b3a,b30,b0l]
 ·have:acm Q w (Ls.take k) (X.take k):=⟨by rw[l7,l7,h.1],fun j a b=>by
   rw[b33,b33];exact h.2 j _ _⟩
  rw[this.flat_len,l7,b1d (b14 hk)]
theorem ahb {Q:Nat→Prop} {w:World} {A:Option Addr} {l:List UInt8} (h:qf Q w A (bsV l)) (n c:Nat) (hn:l.length=n):(convert 22 9 (.slice A n c)).run prog w=.ok (.string (toS l)) w:=by
 subst hn;cases l with
 | nil=>
  cases A with
  | none=>exact run_convert_bytes_nil (P:=prog) w 22 5 underlying22 underlying5 0 c 9 underlying9
  | some a=>exact agh (P:=prog) w 22 9 5 a c [] underlying22 underlying5 underlying9 (fun j hj=>absurd hj (b0v _))
 | cons x r=>
  obtain⟨b,off,rfl,-,-⟩:=h 0 (bV x) rfl
  have e:∀l:List UInt8,l.map ((fun n:Int=>UInt8.ofNat n.toNat) ∘ fun y:UInt8=>(y.toNat:Int))=l:=fun l=>by
   induction l with
   | nil=>rfl
   | cons y l ih=>rw[b2l,ih];simp
  have:=agh (P:=prog) w 22 9 5 ⟨b,off,none⟩ c ((x::r).map fun y=>(y.toNat:Int)) underlying22 underlying5 underlying9 (fun j hj=>by
   have hj':j<(x::r).length:=by simpa using hj
   obtain⟨b',off',q,-,hc⟩:=h j _ (vz hj');injection q with q;injection q with q1 q2;subst q1 q2
   rw[adn,hc,b3d];rfl)
  rw[b0s,b5a,e]at this;exact this
def bk6:Array (Nat×Nat):=#[(0,1),(1,1),(2,48),(50,65),(115,5)]
theorem a84 {L:List Value} (hl:L.length=48) (w:World):(Instr.build 64 #[(2,.agg L.toArray)]).run prog w=.ok (.agg (itL 0 false L acj ac4).toArray) w:=by
 refine adx (z:=adl) (pl:=bk6) underlying64 (acy w) kr ?_;show Instr.fill _ adl ((2,.agg L.toArray)::[])=_;rw[aba (off:=2) (L:=L) rfl (by rw[hl];rfl) (by rw[hl];decide)];show some _=some _
 congr 2
 exact agm [Value.int .i64 0,.bool false] jt (acj++ac4) L (by rw[hl];rfl)
theorem a82 {L:List Value} (hl:L.length=65) (w:World):(Instr.build 64 #[(3,.agg L.toArray)]).run prog w=.ok (.agg (itL 0 false jt L ac4).toArray) w:=by
 refine adx (z:=adl) (pl:=bk6) underlying64 (acy w) kr ?_;show Instr.fill _ adl ((3,.agg L.toArray)::[])=_;rw[aba (off:=50) (L:=L) rfl (by rw[hl];rfl) (by rw[hl];decide)];show some _=some _
 congr 2
 exact agm (Value.int .i64 0::.bool false::jt) acj ac4 L (by rw[hl];rfl)
theorem a83 {L:List Value} (hl:L.length=5) (w:World):(Instr.build 64 #[(4,.agg L.toArray)]).run prog w=.ok (.agg (itL 0 false jt acj L).toArray) w:=by
 refine adx (z:=adl) (pl:=bk6) underlying64 (acy w) kr ?_;show Instr.fill _ adl ((4,.agg L.toArray)::[])=_;rw[aba (off:=115) (L:=L) rfl (by rw[hl];rfl) (by rw[hl];decide)];show some _=some _
 congr 2
 have:=agm (Value.int .i64 0::.bool false::(jt++acj)) ac4 [] L (by rw[hl];rfl);simp only[b0k]at this;exact this
theorem akv {L:List Value} {Q:Nat→Prop} {w:World} {x:ItD} (h:ItM Q w L x):L.toArray.all (·.oneCell')=true:=vm fun v hv=>h.ones v (by simpa using hv)
theorem akw {L:List Value} (h:L.length=120):(prog.info? 64).map (·.size)=some L.toArray.size:=by
 rw[o6,h];kernel_rfl
theorem aa6 {W:World} {b:Nat} {L0 C:List Value} (h:Blk W b L0) (hl:C.length=L0.length):W.there b 0 C.toArray.size:=by
 rw[o6,hl];exact h.there 0 _ om
theorem adc {W W':World} {b:Nat} {L0 C:List Value} (h:Blk W b L0) (hl:C.length=L0.length) (hs:qp W W' b 0 C.toArray.toList):Blk W' b C:=h.all (by simpa using hs) hl
theorem ap5 {W:World} {b:Nat} {C:List Value} (h:Blk W b C) (hl:C.length=120):(loadVar 64 ⟨b,0,none⟩).run prog W=.ok (.agg C.toArray) W:=
 t6 (P:=prog) W b 0 64 C _ h.rg underlying64 sm (by rw[hl];kernel_rfl)
def ax7 (r:ItD×Nat×Int) (w:World) (e:Ending) (w':World):Prop:=∃L,e=.returned (.tuple #[.agg L.toArray,.int .i64 r.2.1,.int .i64 r.2.2])∧ItM (Bk w.1.size w') w' L r.1∧Below w.1.size w w'
theorem a5l {w:World} {V:Value} (x:Int×Nat×ael) (HF:∀W,Below w.1.size w W→Hid (Calls prog 42 #[V] W (a3j x W))) :
 Calls prog 41 #[V] w (ax7 ({aek with U:=x.2.2},x.2.1,x.1) w):=by
 have HZ:=fun W=>hid (acy W)
 have HZU:=fun W=>hid (aft W)
 obtain⟨E,n,u⟩:=x;unfold a3j at HF;dsimp only at *;go_enter func41,ntmps41;go_wp2_with (refine qc rfl 64 rfl adl (HZ _).out ?_;intro W1 hW1;have HK1:=hid (Blk.newL (L:=adm) hW1 rfl);have HB1:=hid hW1.bel;have HS1:=hid hW1.sz;clear hW1);refine(HF _ HB1.out).out.mono ?_;rintro e w1 ⟨L,rfl,hq,hb⟩;have HQ1:=hid hq;have HL:=hid hq.len;have HK2:=hid (HK1.out.on hb);have HB2:=hid (qb HB1.out hb);have HLT:=hid hb.size;have HB0:=fun W=>hid (a84 HL.out W)
 have HON:=hid (vm (C:=L.toArray) (fun v hv=>hq.ones v (by simpa using hv)));have HSZ:=hid (aln HL.out);have hit:∀W,(∀b,W1.1.size≤b∧b<w1.1.size→W.heap[b]?=w1.heap[b]?)→ItM (fun b=>W1.1.size≤b∧b<w1.1.size) W (itL 0 false L acj ac4) {aek with U:=u}:=fun W hk=>⟨_,_,_,rfl,hq.keep hk,NmQ.zero _ _,aey.zero _ _⟩
 have HIT:=hid hit;have HION:=hid (akv (hit w1 fun _ _=>rfl));have HISZ:=hid (akw (hit w1 fun _ _=>rfl).len);have HILN:=hid (hit w1 fun _ _=>rfl).len;generalize hC:itL 0 false L acj ac4=C at *;have HCC:=hid hC;clear hb HB1 HK1 HF hq hit hC
 go_wp2_with (first
  | (refine qc rfl 38 rfl aaw (HZU _).out ?_;intro W2 hW2;have HU2:=hid (Blk.newL (L:=jt) hW2 rfl);have HK3:=hid (HK2.out.on hW2.bel);have HB3:=hid (qb HB2.out hW2.bel);have HP2:=hid (fun b (q:b<w1.1.size)=>hW2.bel.block b q);clear hW2)
  | (refine qe rfl 38 _ _ rfl w1.1.size 0 L.toArray rfl rfl (afn HU2.out rfl HL.out) HSZ.out HON.out ?_;intro W3 hs;have HU3:=hid (alm HU2.out hs HL.out);have HK4:=hid (HK3.out.far hs (by have:=HK2.out.lt;omega));have HB4:=hid (HB3.out.trans (hs.below HB2.out.size));have HP3:=hid (fun b (q:b<w1.1.size)=>(hs.far b (b0y q)).trans (HP2.out b q));clear hs)
  | refine b0i rfl 38 _ rfl w1.1.size 0 rfl L _ HU3.out.rg underlying38 sm (by rw[HL.out];kernel_rfl) ?_
  | refine zh (u:=.agg L.toArray) rfl 64 2 _ rfl rfl (HB0 _).out ?_
  | (refine qe rfl 64 _ _ rfl w.1.size 0 C.toArray rfl rfl (aa6 HK4.out HILN.out) HISZ.out HION.out ?_;intro W5 hs;have HK5:=hid (adc HK4.out HILN.out hs);have HB5:=hid (HB4.out.trans (hs.below (a8 _)));have HP5:=hid (o4 hs.sz (fun b (q:W1.1.size≤b∧b<w1.1.size)=>(hs.far b (by have:=HS1.out;omega)).trans (HP3.out b q.2)));have HZ3:=hid (HU3.out.lt);clear hs))
 have HLD:=hid (ap5 HK5.out HILN.out);refine b9 (v:=.tuple #[.agg C.toArray,.int .i64 n,.int .i64 E]) (by rw[zl rfl];simp[asAddr,Result.andThen,HLD.out]) rfl ⟨C,rfl,?_,HB5.out⟩;exact(HIT.out W5 HP5.out.2).less fun b q=>⟨by have:=HS1.out;omega,by rw[HP5.out.1];exact b05 q.2 HZ3.out⟩
theorem bfj {L:List Value} (h:L.length=5):(prog.info? 62).map (·.size)=some L.toArray.size:=by
 rw[o6,h];kernel_rfl
theorem be0 {L:List Value} (h:L.length=65):(prog.info? 58).map (·.size)=some L.toArray.size:=by
 rw[o6,h];kernel_rfl
theorem a7j (w:World):(zeroValue 58).run prog w=.ok (.agg acj.toArray) w:=by kernel_rfl
theorem a5k {w:World} {V:Value} (x:Int×Nat×aha) (HF:∀W,Below w.1.size w W→Hid (Calls prog 46 #[V] W (acn x W))) :
 Calls prog 45 #[V] w (ax7 ({aek with T:=x.2.2},x.2.1,x.1) w):=by
 have HZ:=fun W=>hid (acy W)
 have HZU:=fun W=>hid (ac0 W)
 obtain⟨E,n,u⟩:=x;unfold acn at HF;dsimp only at *;go_enter func45,ntmps45;go_wp2_with (refine qc rfl 64 rfl adl (HZ _).out ?_;intro W1 hW1;have HK1:=hid (Blk.newL (L:=adm) hW1 rfl);have HB1:=hid hW1.bel;have HS1:=hid hW1.sz;clear hW1);refine(HF _ HB1.out).out.mono ?_;rintro e w1 ⟨L,rfl,hq,hb⟩;have HQ1:=hid hq;have HL:=hid hq.len;have HK2:=hid (HK1.out.on hb);have HB2:=hid (qb HB1.out hb);have HLT:=hid hb.size;have HB0:=fun W=>hid (a83 HL.out W)
 have HON:=hid (vm (C:=L.toArray) (fun v hv=>hq.ones v (by simpa using hv)));have HSZ:=hid (bfj HL.out);have hit:∀W,(∀b,W1.1.size≤b∧b<w1.1.size→W.heap[b]?=w1.heap[b]?)→ItM (fun b=>W1.1.size≤b∧b<w1.1.size) W (itL 0 false jt acj L) {aek with T:=u}:=fun W hk=>⟨_,_,_,rfl,adw.zero _ _,NmQ.zero _ _,hq.keep hk⟩
 have HIT:=hid hit;have HION:=hid (akv (hit w1 fun _ _=>rfl));have HISZ:=hid (akw (hit w1 fun _ _=>rfl).len);have HILN:=hid (hit w1 fun _ _=>rfl).len;generalize hC:itL 0 false jt acj L=C at *;have HCC:=hid hC;clear hb HB1 HK1 HF hq hit hC
 go_wp2_with (first
  | (refine qc rfl 62 rfl pkA (HZU _).out ?_;intro W2 hW2;have HU2:=hid (Blk.newL (L:=pkA.toList) hW2 rfl);have HK3:=hid (HK2.out.on hW2.bel);have HB3:=hid (qb HB2.out hW2.bel);have HP2:=hid (fun b (q:b<w1.1.size)=>hW2.bel.block b q);clear hW2)
  | (refine qe rfl 62 _ _ rfl w1.1.size 0 L.toArray rfl rfl (aa6 HU2.out HL.out) HSZ.out HON.out ?_;intro W3 hs;have HU3:=hid (adc HU2.out HL.out hs);have HK4:=hid (HK3.out.far hs (by have:=HK2.out.lt;omega));have HB4:=hid (HB3.out.trans (hs.below HB2.out.size));have HP3:=hid (fun b (q:b<w1.1.size)=>(hs.far b (b0y q)).trans (HP2.out b q));clear hs)
  | refine b0i rfl 62 _ rfl w1.1.size 0 rfl L _ HU3.out.rg underlying62 sm (by rw[HL.out];kernel_rfl) ?_
  | refine zh (u:=.agg L.toArray) rfl 64 4 _ rfl rfl (HB0 _).out ?_
  | (refine qe rfl 64 _ _ rfl w.1.size 0 C.toArray rfl rfl (aa6 HK4.out HILN.out) HISZ.out HION.out ?_;intro W5 hs;have HK5:=hid (adc HK4.out HILN.out hs);have HB5:=hid (HB4.out.trans (hs.below (a8 _)));have HP5:=hid (o4 hs.sz (fun b (q:W1.1.size≤b∧b<w1.1.size)=>(hs.far b (by have:=HS1.out;omega)).trans (HP3.out b q.2)));have HZ3:=hid (HU3.out.lt);clear hs))
 have HLD:=hid (ap5 HK5.out HILN.out);refine b9 (v:=.tuple #[.agg C.toArray,.int .i64 n,.int .i64 E]) (by rw[zl rfl];simp[asAddr,Result.andThen,HLD.out]) rfl ⟨C,rfl,?_,HB5.out⟩;exact(HIT.out W5 HP5.out.2).less fun b q=>⟨by have:=HS1.out;omega,by rw[HP5.out.1];exact b05 q.2 HZ3.out⟩
theorem bas {w:World} (A:Option Addr) (c:Nat) (l:List UInt8) (hA:qf (fun _=>True) w A (bsV l)) (hll:l.length≤1000000) (hlc:l.length≤c) (x:NmD×Nat×Int) (HF:∀W,Below w.1.size w W→Hid (Calls prog 44 #[.string (adh l)] W (a25 x W))) :
 Calls prog 43 #[.slice A l.length c] w (ax7 ({aek with N:=x.1},x.2.1,x.2.2) w):=by
 have HZ:=fun W=>hid (acy W)
 have HZU:=fun W=>hid (a7j W)
 obtain⟨u,n,E⟩:=x;unfold a25 at HF;dsimp only at *;obtain⟨k,hk⟩:∃k:Nat,min (l.length:Int) 82=(k:Int):=⟨min l.length 82,by omega⟩;have hk1:(k:Int) ≤(l.length:Int):=by omega
 have hk0:(0:Int) ≤(k:Int):=n8 _;have hkc:(k:Int) ≤(c:Int):=by omega
 have hkl:(l.take 82).length=k:=by rw[l7];omega
 have HCV:∀W,Below w.1.size w W→Hid (∀d,(convert 22 9 (.slice A k d)).run prog W=.ok (.string (adh l)) W):=fun W hW=>hid fun d=>ahb (by have:=(hA.lt.below hW (fun b q=>q.2)).first 82;rwa [v6]at this) k d hkl
 generalize adh l=t at *;generalize l.length=ln at *;clear hkl hA;go_enter func43,ntmps43;go_upto_region 1 with(refine qc rfl 64 rfl adl (HZ _).out ?_;intro W1 hW1;have HK1:=hid (Blk.newL (L:=adm) hW1 rfl);have HB1:=hid hW1.bel;have HS1:=hid hW1.sz;clear hW1)
 have hcv:=(HCV W1 HB1.out).out;go_wp2_with fail;refine(HF _ HB1.out).out.mono ?_;rintro e w1 ⟨Ca,rfl,hqv,hb⟩;obtain⟨L,rfl⟩:∃L:List Value,Ca=L.toArray:=⟨Ca.toList,by simp⟩;have hq:NmQ (fun b=>W1.1.size≤b∧b<w1.1.size) w1 L u:=by have:=hqv.toQ;rwa [b1i]at this
 clear hqv hcv HCV;have HQ1:=hid hq;have HL:=hid hq.len;have HK2:=hid (HK1.out.on hb);have HB2:=hid (qb HB1.out hb);have HLT:=hid hb.size;have HB0:=fun W=>hid (a82 HL.out W)
 have HON:=hid (vm (C:=L.toArray) (fun v hv=>hq.ones v (by simpa using hv)));have HSZ:=hid (be0 HL.out);have hit:∀W,(∀b,W1.1.size≤b∧b<w1.1.size→W.heap[b]?=w1.heap[b]?)→ItM (fun b=>W1.1.size≤b∧b<w1.1.size) W (itL 0 false jt L ac4) {aek with N:=u}:=fun W hk=>⟨_,_,_,rfl,adw.zero _ _,hq.keep hk,aey.zero _ _⟩
 have HIT:=hid hit;have HION:=hid (akv (hit w1 fun _ _=>rfl));have HISZ:=hid (akw (hit w1 fun _ _=>rfl).len);have HILN:=hid (hit w1 fun _ _=>rfl).len;generalize hC:itL 0 false jt L ac4=C at *;have HCC:=hid hC;clear hb HB1 HK1 HF hq hit hC
 go_wp2_with (first
  | (refine qc rfl 58 rfl acj.toArray (HZU _).out ?_;intro W2 hW2;have HU2:=hid (Blk.newL (L:=acj) hW2 rfl);have HK3:=hid (HK2.out.on hW2.bel);have HB3:=hid (qb HB2.out hW2.bel);have HP2:=hid (fun b (q:b<w1.1.size)=>hW2.bel.block b q);clear hW2)
  | (refine qe rfl 58 _ _ rfl w1.1.size 0 L.toArray rfl rfl (aa6 HU2.out HL.out) HSZ.out HON.out ?_;intro W3 hs;have HU3:=hid (adc HU2.out HL.out hs);have HK4:=hid (HK3.out.far hs (by have:=HK2.out.lt;omega));have HB4:=hid (HB3.out.trans (hs.below HB2.out.size));have HP3:=hid (fun b (q:b<w1.1.size)=>(hs.far b (b0y q)).trans (HP2.out b q));clear hs)
  | refine b0i rfl 58 _ rfl w1.1.size 0 rfl L _ HU3.out.rg underlying58 sm (by rw[HL.out];kernel_rfl) ?_
  | refine zh (u:=.agg L.toArray) rfl 64 3 _ rfl rfl (HB0 _).out ?_
  | (refine qe rfl 64 _ _ rfl w.1.size 0 C.toArray rfl rfl (aa6 HK4.out HILN.out) HISZ.out HION.out ?_;intro W5 hs;have HK5:=hid (adc HK4.out HILN.out hs);have HB5:=hid (HB4.out.trans (hs.below (a8 _)));have HP5:=hid (o4 hs.sz (fun b (q:W1.1.size≤b∧b<w1.1.size)=>(hs.far b (by have:=HS1.out;omega)).trans (HP3.out b q.2)));have HZ3:=hid (HU3.out.lt);clear hs))
 have HLD:=hid (ap5 HK5.out HILN.out);refine b9 (v:=.tuple #[.agg C.toArray,.int .i64 n,.int .i64 E]) (by rw[zl rfl];simp[asAddr,Result.andThen,HLD.out]) rfl ⟨C,rfl,?_,HB5.out⟩;exact(HIT.out W5 HP5.out.2).less fun b q=>⟨by have:=HS1.out;omega,by rw[HP5.out.1];exact b05 q.2 HZ3.out⟩
def a3l (v:VeD) (w:World) (e:Ending) (w':World):Prop:=∃L,e=.returned (.agg (veL v.d v.p v.n v.e L).toArray)∧ItM (Bk w.1.size w') w' L v.x∧Below w.1.size w w'
def bgo:Array (Nat×Nat):=#[(0,1),(1,1),(2,1),(3,1),(4,120)]
theorem a7y (d p n e:Int) {L:List Value} (hl:L.length=120):Instr.fill (fun i=>bgo[i]?) (veA d p n e) [(4,.agg L.toArray)]=some (veL d p n e L).toArray:=by
 rw[aba (off:=4) (L:=L) rfl (by rw[hl];rfl) (by rw[hl];show 4+120≤124;omega)];show some _=some _
 congr 2
 have:=agm [Value.int .i64 d,.int .i64 p,.int .i64 n,.int .i64 e] adm [] L (by rw[hl];rfl);simp only[b0k]at this;exact this
theorem ad1 {d p n e:Int} (k:Nat) (x:Int) (hk:k<4) (r:List (Nat×Value)):Instr.fill (fun i=>bgo[i]?) (veA d p n e) ((k,.int .i64 x)::r)=Instr.fill (fun i=>bgo[i]?) (veA (if k=0 then x else d) (if k=1 then x else p) (if k=2 then x else n) (if k=3 then x else e)) r:=by
 have:k=0∨k=1∨k=2∨k=3:=by omega
 rcases this with rfl|rfl|rfl|rfl
 ·rw[aba (off:=0) (L:=[.int .i64 x]) rfl rfl (by show 0+1≤124;omega)];rfl
 ·rw[aba (off:=1) (L:=[.int .i64 x]) rfl rfl (by show 1+1≤124;omega)];rfl
 ·rw[aba (off:=2) (L:=[.int .i64 x]) rfl rfl (by show 2+1≤124;omega)];rfl
 ·rw[aba (off:=3) (L:=[.int .i64 x]) rfl rfl (by show 3+1≤124;omega)];rfl
theorem a3u {L:List Value} (hl:L.length=120) (p n:Int) (w:World):(Instr.build 66 #[(0,.int .i64 2),(1,.int .i64 p),(2,.int .i64 n),(4,.agg L.toArray)]).run prog w=.ok (.agg (veL 2 p n 0 L).toArray) w:=by
 refine adx (z:=veA 0 0 0 0) (pl:=bgo) underlying66 (aex w) kr ?_;show Instr.fill _ (veA 0 0 0 0) ((0,.int .i64 2)::(1,.int .i64 p)::(2,.int .i64 n)::(4,.agg L.toArray)::[])=_;rw[ad1 0 _ dc,ad1 1 _ dc,ad1 2 _ dc];exact a7y _ _ _ _ hl
theorem ayl {L:List Value} (hl:L.length=120) (p n e:Int) (w:World):(Instr.build 66 #[(0,.int .i64 2),(1,.int .i64 p),(2,.int .i64 n),(3,.int .i64 e),(4,.agg L.toArray)]).run prog w=.ok (.agg (veL 2 p n e L).toArray) w:=by
 refine adx (z:=veA 0 0 0 0) (pl:=bgo) underlying66 (aex w) kr ?_;show Instr.fill _ (veA 0 0 0 0) ((0,.int .i64 2)::(1,.int .i64 p)::(2,.int .i64 n)::(3,.int .i64 e)::(4,.agg L.toArray)::[])=_;rw[ad1 0 _ dc,ad1 1 _ dc,ad1 2 _ dc,ad1 3 _ dc];exact a7y _ _ _ _ hl
theorem ayk (p:Int) (w:World):(Instr.build 64 #[(0,.int .i64 p),(1,.bool true)]).run prog w=.ok (.agg (itL p true jt acj ac4).toArray) w:=by kernel_rfl
theorem as0 {P:Program} {ops:Array Oper} {rest:List Oper} {o:Oper} {a:Act} {w:World} {Q:Exit→Act→World→Prop} (hgd:o.guard=none) (t:TypeId) (x0 x1 x2 x3 x4:Operand) (ho:o.op=.build t #[(0,x0),(1,x1),(2,x2),(3,x3),(4,x4)]) {u0 u1 u2 u3 u4 v:Value} (h0:a.eval x0=u0) (h1:a.eval x1=u1) (h2:a.eval x2=u2) (h3:a.eval x3=u3) (h4:a.eval x4=u4) (hr:(Instr.build t #[(0,u0),(1,u1),(2,u2),(3,u3),(4,u4)]).run P w=.ok v w)
 (h:wpList P ops Q rest (a.put o.dst v) w):wpList P ops Q (o::rest) a w:=abd hgd t _ ho #[(0,u0),(1,u1),(2,u2),(3,u3),(4,u4)] (by simp[h0,h1,h2,h3,h4]) hr h
theorem asz {P:Program} {ops:Array Oper} {rest:List Oper} {o:Oper} {a:Act} {w:World} {Q:Exit→Act→World→Prop} (hgd:o.guard=none) (t:TypeId) (x0 x1 x2 x4:Operand) (ho:o.op=.build t #[(0,x0),(1,x1),(2,x2),(4,x4)]) {u0 u1 u2 u4 v:Value} (h0:a.eval x0=u0) (h1:a.eval x1=u1) (h2:a.eval x2=u2) (h4:a.eval x4=u4) (hr:(Instr.build t #[(0,u0),(1,u1),(2,u2),(4,u4)]).run P w=.ok v w)
 (h:wpList P ops Q rest (a.put o.dst v) w):wpList P ops Q (o::rest) a w:=abd hgd t _ ho #[(0,u0),(1,u1),(2,u2),(4,u4)] (by simp[h0,h1,h2,h4]) hr h
theorem axs {d p n e:Int} {L:List Value} (h:L.length=120):(veL d p n e L).length=124:=by simp[veL,h]
theorem a8e {W:World} {b:Nat} {C:List Value} (h:Blk W b C) (hl:C.length=124):(loadVar 66 ⟨b,0,none⟩).run prog W=.ok (.agg C.toArray) W:=
 t6 (P:=prog) W b 0 66 C _ h.rg underlying66 sm (by rw[hl];kernel_rfl)
theorem arg {d p n e:Int} {L:List Value} (h:∀v∈L,v.oneCell'=true):(veL d p n e L).toArray.all (·.oneCell')=true:=vm fun v hv=>by
 simp only[veL,b0z]at hv;rcases hv with rfl|rfl|rfl|rfl|hv
 ·rfl
 ·rfl
 ·rfl
 ·rfl
 ·exact h v hv
theorem arh {C:List Value} (h:C.length=124):(prog.info? 66).map (·.size)=some C.toArray.size:=by
 rw[o6,h];kernel_rfl
theorem ItM.odd (Q:Nat→Prop) (w:World) (p:Int):ItM Q w (itL p true jt acj ac4) {aek with pr:=p,od:=true}:=⟨_,_,_,rfl,adw.zero Q w,NmQ.zero Q w,aey.zero Q w⟩
theorem ItM.proto {Q:Nat→Prop} {w:World} {L:List Value} {x:ItD} (h:ItM Q w L x):∃R,L=.int .i64 x.pr::R∧∀p w',(∀b,Q b→w'.heap[b]?=w.heap[b]?)→ItM Q w' (.int .i64 p::R) {x with pr:=p}:=by
 obtain⟨U,N,T,rfl,h1,h2,h3⟩:=h;exact⟨_,rfl,fun p w' hk=>⟨U,N,T,rfl,h1.keep hk,h2.keep hk,h3.keep hk⟩⟩
theorem bfn {Q:Nat→Prop} {w:World} (A:Option Addr) (c:Nat) (x:UInt8) (l:List UInt8) (p:Int) (r:ItD×Nat×Int) (h:qf Q w A (bsV (x::l))) (hp:xr x=p) (hp0:p≠0) (hm:(x::l).length≤1000000) (hn1:r.2.1≤1000000)
 (HF:∀W,Below w.1.size w W→Hid (Calls prog (aqc p) #[.slice A (x::l).length c] W (ax7 r W))) :
 Calls prog 10 #[.slice A (x::l).length c] w (a3l (ag3 p r) w):=by
 have HZ:=fun W=>hid (aex W)
 have HZI:=fun W=>hid (acy W)
 have HP:∀W,Hid (Calls prog 13 #[.int .u8 (x.toNat:Int)] W fun e w'=>e=.returned (.int .i64 p)∧W=w'):=fun W=>hid (by have:=aii x W;rw[hp]at this;exact this)
 have HO:∀W,Hid (Calls prog 26 #[.int .i64 p] W fun e w'=>e=.returned (.agg #[.func (Fn.func (aqc p)) #[] #[]])∧Below W.1.size W w'):=fun W=>hid (atx p W)
 obtain⟨b,off,rfl,-,hc⟩:=h 0 (bV x) rfl;have hb:=aa3 hc;have HC:∀W,Below w.1.size w W→Hid (W.cell? ⟨b,off,none⟩=some (.int .u8 (x.toNat:Int))):=fun W hW=>hid ((hW.cell (p:=⟨b,off+0,none⟩) hb).trans hc)
 have hl:(0:Int)<((x::l).length:Int):=by simp only[n7];omega
 obtain⟨y,n,E⟩:=r;have HE:=hid (show ag3 p (y,n,E)=if 0<n then(if E=0 then⟨2,p,n,0,{y with pr:=p}⟩else⟨2,p,n,E,{aek with pr:=p,od:=true}⟩)else if E=2 then⟨0,p,0,0,aek⟩else⟨1,p,0,E,aek⟩from rfl);generalize ag3 p (y,n,E)=res at *;generalize (x::l).length=L at *;have HCL:=fun x W=>bdj p x W
 generalize aqc p=F at *;have hl0:((L:Int)==0)=false:=by rw[l6];omega
 have hpb:(p==0)=false:=by rw[l6];exact hp0
 unfold ax7 at HF;dsimp only at *;clear hc hb hp h hp0;have HFD:=fun W=>atd F W
 go_enter func10,ntmps10;go_upto_region 3 with(refine qc rfl 66 rfl (veA 0 0 0 0) (HZ _).out ?_;intro W1 hW1;have HK1:=hid (Blk.newL (L:=veL 0 0 0 0 adm) hW1 rfl);have HBB1:=hid hW1.bel;clear hW1)
 have c0:=(HC _ HBB1.out).out;go_wp2_with (refine(HP _).out.mono ?_;rintro e w' ⟨rfl,rfl⟩);refine(HO _).out.mono ?_;rintro e w2 ⟨rfl,hb⟩;have HK2:=hid (HK1.out.on hb);have HBB2:=hid (qb HBB1.out hb);clear hb HK1 HBB1 c0 HO;go_wp2_with fail;refine(HF _ HBB2.out).out.mono ?_;rintro e w3 ⟨I,rfl,hit,hb⟩;have HK3:=hid (HK2.out.on hb);have HBB3:=hid (qb HBB2.out hb);have HIL:=hid hit.len;have HION:=hid (akv hit);have HISZ:=hid (akw hit.len);obtain⟨R,hR,hpr⟩:=hit.proto;have HPR:=hid hpr;have HRI:=hid hR;have HW23:=hid (o4 HK2.out.lt hb.size);clear hb HK2 HBB2 HF hit hR hpr
 go_upto_region 7 with(first
  | (refine qc rfl 64 rfl adl (HZI _).out ?_;intro W4 hW;have HI4:=hid (Blk.newL (L:=adm) hW rfl);have HK4:=hid (HK3.out.on hW.bel);have HBB4:=hid (qb HBB3.out hW.bel);have HP4:=hid (fun b (q:b<w3.1.size)=>hW.bel.block b q);clear hW)
  | (refine qe rfl 64 _ _ rfl w3.1.size 0 I.toArray rfl rfl (aa6 HI4.out HIL.out) HISZ.out HION.out ?_;intro W5 hs;have HI5:=hid (adc HI4.out HIL.out hs);have HK5:=hid (HK4.out.far hs (by have:=HK3.out.lt;omega));have HBB5:=hid (HBB4.out.trans (hs.below HBB3.out.size));have HP5:=hid (fun b (q:b<w3.1.size)=>(hs.far b (b0y q)).trans (HP4.out b q));clear hs))
 have hi5:=HI5.out;rw[HRI.out]at hi5;have i0:=hi5.cell 0 (v:=.int .i64 y.pr) rfl;have j0:=HI5.out.fz 0;have hst:qp W5 (W5.setCell ⟨w3.1.size,0,none⟩ (.int .i64 p)) w3.1.size 0 [.int .i64 p]:=ze (HI5.out.there 0 1 (by rw[HIL.out];omega));have HK6:Hid (Blk (W5.setCell ⟨w3.1.size,0,none⟩ (.int .i64 p)) w.1.size (veL 0 0 0 0 adm)):=hid (HK5.out.far hst (by have:=HK3.out.lt;omega));have HBB6:Hid (Below w.1.size w (W5.setCell ⟨w3.1.size,0,none⟩ (.int .i64 p))):=hid (HBB5.out.trans (hst.below HBB3.out.size))
 have HI6:Hid (Blk (W5.setCell ⟨w3.1.size,0,none⟩ (.int .i64 p)) w3.1.size (.int .i64 p::R)):=hid (by
  have:=Blk.put (A:=[]) (M:=[Value.int .i64 y.pr]) (D:=R) hi5 hst rfl rfl
  simpa using this)
 have HP6:=hid (fun b (q:b<w3.1.size)=>(hst.far b (b0y q)).trans (HP5.out b q));have HRL:Hid (R.length=119):=hid (by have:=HIL.out;rw[HRI.out]at this;simpa using this);clear hst HK5 HBB5 HBB4 HK4 HI4 hi5 HP4 HP5;go_upto_region 8 with fail;clear i0 j0 HI5;generalize W5.setCell ⟨w3.1.size,0,none⟩ (.int .i64 p)=W6 at *
 by_cases hn:0<n
 ·have hnI:(0:Int)<(n:Int):=by omega
  by_cases hE:E=0
  ·subst hE;have hre:=HE.out;rw[if_pos hn,if_pos rfl]at hre;have HRE:=hid hre;have HIT:=hid (HPR.out p W6 (fun b q=>HP6.out b q.2));have HI7:=hid (HIT.out.len);have HB0:=fun W=>hid (a3u HI7.out p n W)
   have HVL:=hid (axs (d:=2) (p:=p) (n:=n) (e:=0) HI7.out);have HVO:=hid (arg (d:=2) (p:=p) (n:=n) (e:=0) HIT.out.ones);have HVS:=hid (arh HVL.out);clear hre hn
   go_wp2_with (first
    | refine b0i rfl 64 _ rfl w3.1.size 0 rfl (.int .i64 p::R) _ HI6.out.rg underlying64 sm (by rw[HI7.out];kernel_rfl) ?_
    | refine asz (u0:=.int .i64 2) (u1:=.int .i64 p) (u2:=.int .i64 n) (u4:=.agg (Value.int .i64 p::R).toArray) rfl 66 _ _ _ _ rfl rfl rfl rfl rfl (HB0 _).out ?_
    | (refine qe rfl 66 _ _ rfl w.1.size 0 (veL 2 p n 0 (.int .i64 p::R)).toArray rfl rfl (aa6 HK6.out HVL.out) HVS.out HVO.out ?_;intro W7 hs;have HK7:=hid (adc HK6.out HVL.out hs);have HB7:=hid (HBB6.out.trans (hs.below (a8 _)));have HP7:=hid (o4 hs.sz hs.far);clear hs))
   try go_frame
   have HLD:=hid (a8e HK7.out HVL.out);have HLT:=hid HI6.out.lt;refine b9 (v:=.agg (veL 2 p n 0 (.int .i64 p::R)).toArray) (by rw[yk rfl];simp[asAddr,Result.andThen,HLD.out]) rfl ?_;rw[HRE.out];refine⟨_,rfl,(HIT.out.keep fun b q=>HP7.out.2 b (by have:=HW23.out;have:=q.1;omega)).less fun b q=>⟨by have:=HW23.out;have:=q.1;omega,?_⟩,HB7.out⟩;rw[HP7.out.1];have:=q.2;have:=HLT.out;omega
  ·have heb:(E != 0)=true:=by rw[b0g];exact hE
   have hre:=HE.out;rw[if_pos hn,if_neg hE]at hre;have HRE:=hid hre;have HIT:=hid (ItM.odd (fun _=>False) W6 p);have HI7:=hid (HIT.out.len);have HB0:=fun W=>hid (ayl HI7.out p n E W)
   have HB1:=fun W=>hid (ayk p W)
   have HVL:=hid (axs (d:=2) (p:=p) (n:=n) (e:=E) HI7.out);have HVO:=hid (arg (d:=2) (p:=p) (n:=n) (e:=E) HIT.out.ones);have HVS:=hid (arh HVL.out);clear hre hn hE
   go_wp2_with (first
    | refine acx (u:=.int .i64 p) (u':=.bool true) rfl 64 0 1 _ _ rfl rfl rfl (HB1 _).out ?_
    | refine as0 (u0:=.int .i64 2) (u1:=.int .i64 p) (u2:=.int .i64 n) (u3:=.int .i64 E) (u4:=.agg (itL p true jt acj ac4).toArray) rfl 66 _ _ _ _ _ rfl rfl rfl rfl rfl rfl (HB0 _).out ?_
    | (refine qe rfl 66 _ _ rfl w.1.size 0 (veL 2 p n E (itL p true jt acj ac4)).toArray rfl rfl (aa6 HK6.out HVL.out) HVS.out HVO.out ?_;intro W7 hs;have HK7:=hid (adc HK6.out HVL.out hs);have HB7:=hid (HBB6.out.trans (hs.below (a8 _)));clear hs))
   try go_frame
   have HLD:=hid (a8e HK7.out HVL.out);refine b9 (v:=.agg (veL 2 p n E (itL p true jt acj ac4)).toArray) (by rw[yk rfl];simp[asAddr,Result.andThen,HLD.out]) rfl ?_;rw[HRE.out];exact⟨_,rfl,ItM.odd _ _ p,HB7.out⟩
 ·obtain rfl:n=0:=by omega
  have HB1:=fun W=>hid (apm 0 p W)
  have HB2:=fun W=>hid (amu 1 p E W)
  have hre:=HE.out;rw[if_neg hn]at hre;clear hn
  by_cases h2:E=2
  ·subst h2;rw[if_pos rfl]at hre;have HRE:=hid hre;clear hre
   go_wp2_with (first
    | refine acx (u:=.int .i64 0) (u':=.int .i64 p) rfl 66 0 1 _ _ rfl rfl rfl (HB1 _).out ?_
    | (refine qe rfl 66 _ _ rfl w.1.size 0 (veA 0 p 0 0) rfl rfl (HK6.out.there 0 124 (a8 _)) (ags _ _ _ _) (agr _ _ _ _) ?_;intro W7 hs;have HK7:=hid (HK6.out.all hs rfl);have HB7:=hid (HBB6.out.trans (hs.below (a8 _)));clear hs))
   try go_frame
   have HLD:=hid (t6 (P:=prog) W7 w.1.size 0 66 (veA 0 p 0 0).toList _ HK7.out.rg underlying66 rfl kr);refine b9 (v:=.agg (veA 0 p 0 0)) (by rw[yk rfl];simp[asAddr,Result.andThen,HLD.out]) rfl ?_;rw[HRE.out];exact⟨adm,rfl,ItM.zero _ _,HB7.out⟩
  ·have he2:(E==2)=false:=by rw[l6];exact h2
   rw[if_neg h2]at hre;have HRE:=hid hre;clear hre h2
   go_wp2_with (first
    | refine ajl (u:=.int .i64 1) (u':=.int .i64 p) (u'':=.int .i64 E) rfl 66 0 1 3 _ _ _ rfl rfl rfl rfl (HB2 _).out ?_
    | (refine qe rfl 66 _ _ rfl w.1.size 0 (veA 1 p 0 E) rfl rfl (HK6.out.there 0 124 (a8 _)) (ags _ _ _ _) (agr _ _ _ _) ?_;intro W7 hs;have HK7:=hid (HK6.out.all hs rfl);have HB7:=hid (HBB6.out.trans (hs.below (a8 _)));clear hs))
   try go_frame
   have HLD:=hid (t6 (P:=prog) W7 w.1.size 0 66 (veA 1 p 0 E).toList _ HK7.out.rg underlying66 rfl kr);refine b9 (v:=.agg (veA 1 p 0 E)) (by rw[yk rfl];simp[asAddr,Result.andThen,HLD.out]) rfl ?_;rw[HRE.out];exact⟨adm,rfl,ItM.zero _ _,HB7.out⟩
theorem ax7.of {r r':ItD×Nat×Int} {w:World} {e:Ending} {w':World} (h:ax7 r w e w') (hr:r=r'):ax7 r' w e w':=hr▸h
theorem baq {Q:Nat→Prop} {w:World} (A:Option Addr) (c:Nat) (l:List UInt8) (h:qf Q w A (bsV l)) (hm:l.length≤1000000) (hc:l.length≤c):Calls prog 10 #[.slice A l.length c] w (a3l (jn l) w):=by
 cases l with
 | nil=>
  refine(bar A c w).mono ?_;rintro e w' ⟨rfl,hb⟩;exact⟨adm,rfl,ItM.zero _ _,hb⟩
 | cons x l=>
  by_cases hp:xr x=0
  ·rw[vv,if_pos hp];refine(a5j A c x l h hp (by unfold maxLen;omega)).mono ?_;rintro e w' ⟨rfl,hb⟩;exact⟨adm,rfl,ItM.zero _ _,hb⟩
  ·rw[vv,if_neg hp];have hfl:=fun W (hW:Below w.1.size w W)=>h.lt.below hW (fun b q=>q.2)
   have hsz:=(alv (xr x) (x::l)).1
   refine bfn A c x l _ _ h rfl hp hm (by
    rcases b4q (adz (xr x) (x::l)).2.1 with q|q
    ·omega
    ·have:=hsz q;omega) fun W hW=>hid ?_
   rcases aij x with q|q|q|q
   ·exact absurd q hp
   ·rw[q];refine(a5l (agq (x::l)) fun W' hW'=>hid (asu A c (x::l) (hfl W' (qb hW hW')) hm hc)).mono fun e w' hd=>hd.of ?_
    unfold adz;rw[if_pos rfl]
   ·rw[q];refine(bas A c (x::l) ((hfl W hW).less fun _ _=>trivial) hm hc (yp (adh (x::l))) fun W' hW'=>hid (avx (by rw[atr];omega))).mono fun e w' hd=>hd.of ?_
    unfold adz;rw[if_neg dc,if_pos rfl]
   ·rw[q];refine(a5k (ab1 (x::l)) fun W' hW'=>hid (a2b A c (x::l) (hfl W' (qb hW hW')) hm hc)).mono fun e w' hd=>hd.of ?_
    unfold adz;rw[if_neg dc,if_neg dc]
theorem bgp {W:World} {b:Nat} {d p n e:Int} {L:List Value} (h:Blk W b (veL d p n e L)):W.cell? ⟨b,0,none⟩=some (.int .i64 d)∧W.cell? ⟨b,1,none⟩=some (.int .i64 p)∧W.cell? ⟨b,2,none⟩=some (.int .i64 n)∧W.cell? ⟨b,3,none⟩=some (.int .i64 e)∧W.rangeAt b 4 L:=
 ⟨h.cell 0 rfl,h.cell 1 rfl,h.cell 2 rfl,h.cell 3 rfl,fun j v hv=>h.cell (4+j) (by rw[show 4+j=j+1+1+1+1 from by omega];exact hv)⟩
def abo (C:List Int) (N:Int):Prop:=∀k,0≤C.getD k 0∧C.getD k 0≤N
theorem a99 {Q:Nat→Prop} {w:World} {L:List Value} {x:ItD} (h:ItM Q w L x):∃R,L=.int .i64 x.pr::.bool x.od::R:=by
 obtain⟨U,N,T,rfl,-⟩:=h;exact⟨_,rfl⟩
def bhq (x:ItD):Nat:=if x.od then 5+x.pr.toNat else 1+x.pr.toNat
theorem awm {Q:Nat→Prop} {W:World} {g b:Nat} {C:List Int} {l:List UInt8} {I:List Value} {x:ItD} (h:zz W g b C l) (hI:ItM Q W I x) (hp:x.pr=1∨x.pr=2∨x.pr=3) (hC:abo C 1000000000) :
 Calls prog 58 #[.pointer (some ⟨g,0,none⟩),.agg I.toArray] W fun e w'=>e=.returned (.tuple #[])∧zz w' g b (q6 C (bhq x) 1) l∧qj (fun j=>j<W.1.size∧j≠g) W w':=by
 obtain⟨R,hR⟩:=a99 hI;have HIL:=hid hI.len;have HD:=hid h;unfold bhq;obtain⟨pr,od,U0,N0,T0⟩:=x;dsimp only at *;have HRI:=hid hR;clear hI h hR;obtain⟨k,hk⟩:∃k,(if od=true then 5+pr.toNat else 1+pr.toNat)=k:=⟨_,rfl⟩;rw[hk];have hk13:k<13:=by rw[← hk];split<;>omega
 obtain⟨n,hn⟩:∃n,C.getD k 0=n:=⟨_,rfl⟩;have hn0:=(hC k).1;have hn1:=(hC k).2;rw[hn]at hn0 hn1
 have HCK:∀W1,Below W.1.size W W1→Hid (W1.cell? ⟨g,k+1,none⟩=some (.int .i64 n)∧W1.frozen? ⟨g,k+1,none⟩=false):=fun W1 hb=>hid (by
  have:=(HD.out.on hb).cd k hk13;rw[hn]at this;exact⟨this,(HD.out.on hb).blk.fz _⟩)
 have HFIN:∀W1,Below W.1.size W W1→Hid (zz (W1.setCell ⟨g,k+1,none⟩ (.int .i64 (n+1))) g b (q6 C k 1) l∧qj (fun j=>j<W.1.size∧j≠g) W (W1.setCell ⟨g,k+1,none⟩ (.int .i64 (n+1)))):=fun W1 hb=>hid (by
  have hd:=(HD.out.on hb).set k (n+1) hk13;rw[← hn]at hd ⊢;exact⟨hd,(qj.of_below hb fun j q=>q.1).set (fun q=>q.2 rfl) _ _⟩)
 clear hC hk13 hn;cases od<;>rcases hp with rfl|rfl|rfl
 all_goals
  have hk':=hk.symm;simp only[b22,b4z,if_true,Int.reduceToNat,Nat.reduceAdd]at hk';subst hk';clear hk;simp only[Nat.reduceAdd]at HCK HFIN;go_enter func58,ntmps58;go_upto_region 1 with(refine qu rfl _ _ rfl I.toArray rfl ?_;intro W1 hW;have K1:=hid (Blk.newL (L:=I) hW b1i);have HB1:=hid hW.bel;clear hW)
  have hk1:=K1.out;rw[HRI.out]at hk1;have i0:=hk1.cell 0 rfl;have i1:=hk1.cell 1 rfl;obtain⟨ck,zk⟩:=(HCK W1 HB1.out).out;have HF1:=HFIN W1 HB1.out;clear hk1 K1 HCK HFIN;go_wp2_with fail
  go_region
  go_wp2_with fail
  first
   | exact b4n (v:=.tuple #[]) (by simp[results,results58,go_sem]) rfl ⟨rfl,HF1.out.1.drew,HF1.out.2.drew⟩
   | exact b9 (v:=.tuple #[]) (by simp[results,results58,go_sem]) rfl ⟨rfl,HF1.out.1.drew,HF1.out.2.drew⟩
theorem ars {P:Program} {a:Act} {w:World} {Q:Exit→Act→World→Prop} {first stuff:Code} (l:Nat) (J:Act→World→Prop) (μ:Act→World→Nat) (hf:findLabel (Code.seq first (Code.seq (Code.label l) stuff)) l=some (Code.seq Code.skip stuff)) (h0:first.wp P (Exit.then J (fun _ _ _=>False)) a w)
 (pass:∀a w,J a w→stuff.wp P (Exit.jump l (fun a' w'=>J a' w'∧μ a' w'<μ a w) Q) a w):(Code.scope (Code.seq first (Code.seq (Code.label l) stuff))).wp P Q a w:=
 wp_scope_jumps l J μ hf (wp_seq (b5h h0 fun e a w h=>by
  cases e with
  | normal=>
   exact wp_seq (wp_label (b5h (pass a w h) fun e a' w' h=>by
    cases e with
    | goto l'=>exact⟨h.1,h.2.1⟩
    | normal=>exact h
    | exit id=>exact h
    | ret=>exact h
    | _=>exact h))
  | _=>exact h.elim)) fun a w h=>wp_seq (wp_skip (pass a w h))
theorem a9f {C:List Int} {N:Int} (h:abo C N) (k:Nat):abo (q6 C k 1) (N+1):=fun j=>by
 have h1:=h j;unfold q6
 by_cases e:j=k
 ·subst e;rw[l9,List.getElem?_set_self'];rw[l9]at h1;cases hc:C[j]? with
  | none=>rw[hc]at h1;simp at h1 ⊢;omega
  | some z=>
   rw[hc]at h1;rw[l9,hc];simp at h1 ⊢;omega
 ·rw[l9,b39 (fun q=>e q.symm),← l9];omega
theorem af4 {N:Int}:∀(V:List VeD) {C:List Int},abo C N→abo (jp C V) (N+V.length)
 | [],C,h=>by simpa [jp]using h
 | v::V,C,h=>by
  have:=af4 (N:=N+1) V (C:=ajr C v) (a9f h _);show abo (jp (ajr C v) V) _;rw[n7];rw[show N +((V.length+1:Nat):Int)=N+1 +(V.length:Int)from by omega];exact this
theorem bfh {w w':World} {B:Nat} {e:TypeId} {size:Nat} {v:Value} {n:Nat} {xs:List Value} (h:w.ownsRow B e size v n xs) (hk:∀k,B≤k→k<w.1.size→w'.heap[k]?=w.heap[k]?):w'.ownsRow B e size v n xs:=by
 refine⟨h.1,?_⟩;rcases h.2 with q|⟨g,cap,cur,h1,h2,h3,h4⟩
 ·exact .inl q
 ·exact .inr ⟨g,cap,cur,h1,h2,by rw[hk g h2 (o9.1 h3).1];exact h3,h4⟩
def j6 (B:Nat) (v:Value) (X:List ItD) (w:World):Prop:=∃Ls,w.ownsRow B 64 120 v X.length Ls.flatten∧acm (fun k=>B≤k∧k<w.1.size∧some k≠v.ownBlock) w Ls X
theorem j6.nil (B:Nat) (w:World):j6 B (.slice none 0 0) [] w:=⟨[],b2q _ _ _ _,acm.nil _ _⟩
theorem j6.kept {B:Nat} {v:Value} {X:List ItD} {w w':World} (h:j6 B v X w) (hk:∀k,B≤k→k<w.1.size→w'.heap[k]?=w.heap[k]?) (hz:w.1.size≤w'.1.size):j6 B v X w':=by
 obtain⟨Ls,h1,h2⟩:=h;exact⟨Ls,bfh h1 hk,(h2.keep fun k q=>hk k q.1 q.2.1).less fun k q=>⟨q.1,e9 q.2.1 hz,q.2.2⟩⟩
theorem j6.slice {B:Nat} {v:Value} {X:List ItD} {w:World} (h:j6 B v X w):∃A c,v=.slice A X.length c∧X.length≤c:=by
 obtain⟨Ls,h1,-⟩:=h;obtain⟨A,c,h2,h3,-⟩:=xx h1;exact⟨A,c,h2,h3⟩
theorem bfi {w:World} {B:Nat} {e:TypeId} {size:Nat} {v:Value} {n:Nat} {xs:List Value} (h:w.ownsRow B e size v n xs) {k:Nat} (hk:v.ownBlock=some k):B≤k∧k<w.1.size:=by
 rcases h.2 with⟨q,-⟩|⟨g,cap,cur,q,hb,h3,-⟩
 ·subst q;cases hk
 ·subst q;simp only[Value.ownBlock,b2e]at hk;subst hk;exact⟨hb,(o9.1 h3).1⟩
theorem j6.own {B:Nat} {v:Value} {X:List ItD} {w:World} (h:j6 B v X w) {k:Nat} (hk:v.ownBlock=some k):B≤k∧k<w.1.size:=by
 obtain⟨Ls,h1,-⟩:=h;exact bfi h1 hk
theorem a4z:(prog.info? 64).map (fun i=>(i.zero,i.size,decide (i.bytes≤2000)))=some (some (.agg adl),120,true):=by kernel_rfl
theorem atm:∃i z,prog.info? 64=some i∧i.zero=some z∧i.size=120∧z.cells.size=120∧i.bytes≤2000:=by
 have h:=a4z;cases hi:prog.info? 64 with
 | none=>rw[hi]at h;cases h
 | some i=>
  rw[hi,b3t,b2e,b41,b41]at h;exact⟨i,_,rfl,h.1,h.2.1,rfl,b07 h.2.2⟩
theorem j6.app {B:Nat} {v:Value} {X Y:List ItD} {w:World} (h:j6 B v X w) (hB:B≤w.1.size) (A:Option Addr) (c:Nat) (Ms:List (List Value)) {R:Nat→Prop} (hf:qf R w A Ms.flatten) (hm:acm (fun k=>B≤k∧k<w.1.size∧some k≠v.ownBlock) w Ms Y) (hn:X.length+Y.length≤20000000) :
 ∃v' w',(Builtin.append_ #[75,75] 75 #[v,.slice A Y.length c]).run prog w=.ok v' w'∧j6 B v' (X++Y) w'∧Below B w w' ∧(∀k,k<w.1.size→some k≠v.ownBlock→w'.heap[k]?=w.heap[k]?) ∧(v'.ownBlock=v.ownBlock∨v'.ownBlock=some w.1.size):=by
 obtain⟨Ls,h1,h2⟩:=h;obtain⟨i0,z0,i1,i2,i3,i4,i5⟩:=atm;have hbytes:(X.length+Y.length)*i0.bytes≤140737488355328:=o8 (b34 hn i5) dc;obtain⟨v',w',q1,q2,q3,q4⟩:=kq (P:=prog) w 75 75 64 i0 z0 120 i0.bytes underlying75 i1 i2 i3 rfl i4 dc B v X.length Ls.flatten h1 A Y.length c Ms.flatten (by rw[hm.flat_len]) hf (hm.ones) (by unfold maxLen;omega) hbytes hB;have hk:∀k,B≤k∧k<w.1.size∧some k≠v.ownBlock→w'.heap[k]?=w.heap[k]?:=fun k q=>q3.block k q.2.1 q.2.2
 refine⟨v',w',q1,⟨Ls++Ms,by rw[b3a,d7];exact q2,?_⟩,(n6 B w).grown q3 hB (fun k hk=>(bfi h1 hk).1),fun k r1 r2=>q3.block k r1 r2,q4⟩;refine((h2.app hm).keep hk).less fun k q=>⟨q.1,e9 q.2.1 q3.size,?_⟩
 rcases q4 with e|e
 ·rw[e];exact q.2.2
 ·rw[e];intro r;injection r with r;have:=q.2.1;omega
theorem zz.moved2 {W W':World} {g b B:Nat} {C:List Int} {l:List UInt8} (h:zz W g b C l) (hk:qj (fun j=>j<B) W W') (hb:b<B∧g<B):zz W' g b C l:=⟨h.blk.kept (hk.block g hb.2) hk.size,h.len,h.win.kept (hk.block b hb.1) hk.size,h.ne⟩
structure ae9 (W:World) (g b:Nat) (C:List Int) (l:List UInt8) (V:List VeD) (r:List UInt8) (v:Value) (w:World):Prop where
 sc:q9 l=(V ++(q9 r).1,(q9 r).2)
 len:V.length+r.length≤l.length
 dec:zz w g b (jp C V) r
 its:j6 W.1.size v (zg V) w
 kept:qj (fun j=>j<W.1.size∧j≠b∧j≠g) W w
theorem ae9.start {W:World} {g b:Nat} {C:List Int} {l:List UInt8} (h:zz W g b C l):ae9 W g b C l [] l (.slice none 0 0) W:=⟨rfl,by simp,h,j6.nil _ _,qj.refl _ _⟩
theorem ae9.mv {W:World} {g b:Nat} {C:List Int} {l:List UInt8} {V V':List VeD} {r r':List UInt8} {v:Value} {w w':World} (h:ae9 W g b C l V r v w) (hbg:b<W.1.size∧g<W.1.size) (hk:qj (fun j=>j<w.1.size∧j≠b∧j≠g) w w') (hd:zz w' g b (jp C V') r')
 (hsc:q9 l=(V' ++(q9 r').1,(q9 r').2)) (hl:V'.length+r'.length≤l.length) (hit:zg V'=zg V):ae9 W g b C l V' r' v w':=
 ⟨hsc,hl,hd,by rw[hit];exact h.its.kept (fun k q r=>hk.block k ⟨r,by omega,by omega⟩) hk.size,h.kept.trans (hk.less fun j q=>⟨e9 q.1 h.kept.size,q.2⟩)⟩
theorem ae9.on {W:World} {g b:Nat} {C:List Int} {l:List UInt8} {V:List VeD} {r:List UInt8} {v:Value} {w w':World} (h:ae9 W g b C l V r v w) (hbg:b<W.1.size∧g<W.1.size) (hb:Below w.1.size w w'):ae9 W g b C l V r v w':=
 h.mv hbg (qj.of_below hb fun j q=>q.1) (h.dec.on hb) h.sc h.len rfl
def a3e (W:World) (g b:Nat) (C:List Int) (l:List UInt8) (e:Ending) (w':World):Prop:=∃v,e=.returned v∧ae9 W g b C l (q9 l).1 (q9 l).2 v w'
theorem ae9.stop {W:World} {g b:Nat} {C:List Int} {l:List UInt8} {V:List VeD} {r:List UInt8} {v:Value} {w:World} (h:ae9 W g b C l V r v w) (hr:(jn r).d=0):a3e W g b C l (.returned v) w:=by
 have e:=h.sc;rw[acq hr,b0k]at e;refine⟨v,rfl,?_⟩;rw[e];have h':=h;rw[show ae9 W g b C l V r v w↔ae9 W g b C l V r v w from Iff.rfl]at h';exact h'
theorem ap3 (V:List VeD) (v:VeD):zg (V++[v])=if v.d=2 then zg V++[v.x]else zg V:=by
 rw[agc];unfold zg
 by_cases h:v.d=2<;>simp[h]
theorem bbb {l:List UInt8} {V:List VeD} {r:List UInt8} (h:q9 l=(V ++(q9 r).1,(q9 r).2)) (hr:(jn r).d≠0):q9 l=((V++[jn r]) ++(q9 (r.drop (aa4 (jn r)))).1,(q9 (r.drop (aa4 (jn r)))).2):=by
 rw[h,acp hr];simp
theorem bbc {l:List UInt8} {V:List VeD} {r:List UInt8} (h:q9 l=(V ++(q9 r).1,(q9 r).2)):q9 l=((V++List.replicate (r.length-(zd r).length) akr) ++(q9 (zd r)).1,(q9 (zd r)).2):=by
 rw[h,awr r];simp
def bmi (W:World) (g b:Nat) (C:List Int) (l:List UInt8) (a:Act) (w:World):Prop:=
 ∃v u2 u4 u5 u6 u7 u8 u9 u10 u11 u12 u13 u14 u15 u16 u17 u18 u19 u20 u21 u22 u23 u24 u25 u26 u27 u28 u29 u30 u31 u32 u33 u34 u35 u36 u37 u38 u39 u40 u41 u42 u43 u44 u45 u46 u47 u48 u49 u50 u51 u52 u53 u54 u55 u56 u57 u58 u59 u60 u61 u62,a={tmps:=#[.pointer (some ⟨g,0,none⟩),undef,u2,v,u4,u5,u6,u7,u8,u9,u10,u11,u12,u13,u14,u15,u16,u17,u18,u19,u20,u21,u22,u23,u24,u25,u26,u27,u28,u29,u30,u31,u32,u33,u34,u35,u36,u37,u38,u39,u40,u41,u42,u43,u44,u45,u46,u47,u48,u49,u50,u51,u52,u53,u54,u55,u56,u57,u58,u59,u60,u61,u62],defers:=[]}∧∃V r,ae9 W g b C l V r v w
theorem a2x {P:Program} {ops:Array Oper} {rest:List Oper} {o:Oper} {a:Act} {w W:World} {Q:Exit→Act→World→Prop} (hgd:o.guard=none) (t:TypeId) (x:Operand) (ho:o.op=.buildSlice t 1 #[(0,x)]) {u v:Value} (hx:a.eval x=u) (hr:(Instr.buildSlice t 1 #[(0,u)]).run P w=.ok v W)
 (h:wpList P ops Q rest (a.put o.dst v) W):wpList P ops Q (o::rest) a w:=
 ab7 hgd (by unfold execOp;rw[ho];simp[hx,hr]) h
theorem a3w {I:List Value} (hl:I.length=120) (w:World):(Instr.buildSlice 75 1 #[(0,.agg I.toArray)]).run prog w=.ok (.slice (some ⟨w.1.size,0,none⟩) 1 1) (w.alloc (.cells I.toArray 64)):=by
 obtain⟨i,z,h1,h2,h3,h4,-⟩:=atm;have hu:=b24 (P:=prog) underlying75 w;have hz:(sizeOf 64).run prog w=.ok 120 w:=by simp[sizeOf,typeInfo,h1,h3]
 have hf:∀Z:Array Value,Z.size=120→Instr.fill (fun k=>some (k*120,120)) Z [(0,.agg I.toArray)]=some I.toArray:=fun Z hZ=>by
  rw[aba (off:=0) (L:=I) rfl (by rw[hl]) (by rw[hl,hZ];omega)]
  have e:jg Z.toList 0 I=I:=by
   unfold jg;rw[b10,b03,b0e,b1x (by rw[hl];simp[hZ]),b0k]
  rw[e];rfl
 unfold Instr.buildSlice;have hzero:(zeroValue 64).run prog w=.ok (.agg adl) w:=acy w;simp only[b1k,hu,b1f,hz];simp[hzero,hf,newRow]
theorem a5z {W:World} {g b:Nat} {C:List Int} {l:List UInt8} (h:zz W g b C l) (hC:abo C 900000000):Calls prog 39 #[.pointer (some ⟨g,0,none⟩)] W (a3e W g b C l):=by
 have hbg:b<W.1.size∧g<W.1.size:=⟨h.win.lt,h.blk.lt⟩;have hmax:l.length≤1024:=by obtain⟨D,a,q⟩:=h.win;exact q.max
 have H0:Hid (bmi W g b C l {tmps:=#[.pointer (some ⟨g,0,none⟩),undef,.slice none 0 0,.slice none 0 0,undef,undef,undef,undef,undef,undef,undef,undef,undef,undef,undef,undef,undef,undef,undef,undef,undef,undef,undef,undef,undef,undef,undef,undef,undef,undef,undef,undef,undef,undef,undef,undef,undef,undef,undef,undef,undef,undef,undef,undef,undef,undef,undef,undef,undef,undef,undef,undef,undef,undef,undef,undef,undef,undef,undef,undef,undef,undef,undef],defers:=[]} W):=hid ⟨_,_,_,_,_,_,_,_,_,_,_,_,_,_,_,_,_,_,_,_,_,_,_,_,_,_,_,_,_,_,_,_,_,_,_,_,_,_,_,_,_,_,_,_,_,_,_,_,_,_,_,_,_,_,_,_,_,_,_,_,_,rfl,[],l,ae9.start h⟩;have HBG:=hid hbg;have HCC:=hid (o4 hC (o4 hmax h.len));have HZ:=fun W=>hid (aex W)
 clear h hbg hmax hC;go_enter func39,ntmps39;go_wp2_with fail;refine ars 0 (bmi W g b C l) (fun _ w=>ag9 b w) rfl ?_ ?_
 ·go_wp2_with fail;exact H0.out
 rintro a w ⟨v,u2,u4,u5,u6,u7,u8,u9,u10,u11,u12,u13,u14,u15,u16,u17,u18,u19,u20,u21,u22,u23,u24,u25,u26,u27,u28,u29,u30,u31,u32,u33,u34,u35,u36,u37,u38,u39,u40,u41,u42,u43,u44,u45,u46,u47,u48,u49,u50,u51,u52,u53,u54,u55,u56,u57,u58,u59,u60,u61,u62,rfl,V,r,hs⟩;have HS:=hid hs;clear hs H0;have HV:=hid (af4 V HCC.out.1);have HL:=hid HS.out.len;go_wp2_with fail;refine(ahr HS.out.dec (hid ⟨(HV.out 9).1,by have:=(HV.out 9).2;have:=HL.out;have:=HCC.out.2;omega⟩)).mono ?_;rintro e w1 ⟨rfl,hd,hk⟩;have hrl:=anh r;have hcl:(jp C V).length=13:=by rw[alt];exact HCC.out.2.2
 have HS1:Hid (ae9 W g b C l (V++List.replicate (r.length-(zd r).length) akr) (zd r) v w1):=hid (HS.out.mv HBG.out (hk.less fun j q=>q.2) (by
  rw[ado,ayy _ _ om];rw[show ((r.length-(zd r).length:Nat):Int)=(r.length:Int)-((zd r).length:Int)from by omega];exact hd) (bbc HS.out.sc) (by have:=HS.out.len;rw[d7,b1h];omega) (by rw[agc,avu,b0k]))
 have HRL:=hid (o4 hrl (ahx HS.out.dec.win));clear hd hk hrl hcl HS HV HL;generalize V++List.replicate (r.length-(zd r).length) akr=V1 at *;rcases hsk:zd r with _|⟨x,t⟩
 ·rw[hsk]at HS1;go_wp2_with fail;simp only[Exit.jump];go_ret;exact HS1.out.stop rfl
 have HRX:Hid ((x::t).length≤r.length∧ag9 b w=r.length):=hid (by rw[← hsk];exact HRL.out);rw[hsk]at HS1;clear hsk HRL;have c0:=HS1.out.dec.c0;go_wp2_with fail;refine(ah6 HS1.out.dec.win).mono ?_;rintro e w2 ⟨rfl,hbk,-,hb,hsz⟩;have HS2:=hid (HS1.out.on HBG.out hb);have HK2:=hid hbk;have HD2:Hid (W.1.size≤w1.1.size∧w1.1.size<w2.1.size):=hid ⟨HS1.out.kept.size,by omega⟩;have HOB:Hid (v.ownBlock≠some w1.1.size):=hid (fun q=>Nat.lt_irrefl _ (HS1.out.its.own q).2);clear hb hbk hsz HS1 c0;generalize w1.1.size=d at *
 have HXL:Hid ((x::t).length≤1024∧0<(x::t).length):=hid (by
  obtain⟨D,a,q⟩:=HS2.out.dec.win;exact⟨q.max,by simp⟩)
 generalize (x::t)=s0 at *;generalize hsn:s0.length=sn at *;have HSN:=hid hsn;clear hsn;go_wp2_with fail
 go_loopg [3,4] (sn+1) (fun gk s3 s4 wr=>∃V2 r2 X c,s4=.slice X r2.length c∧r2.length<gk∧r2.length≤c∧Hid (qf (fun k=>k=d) wr X (bsV r2))∧Hid (ae9 W g b C l V2 r2 s3 wr)∧Hid (r2.length≤sn∧d<wr.1.size∧s3.ownBlock≠some d))
 case atStart=>exact⟨V1,s0,_,sn,by rw[HSN.out],by rw[HSN.out];omega,by rw[HSN.out];exact a8 _,HK2.out.flat rfl,HS2.out,by rw[HSN.out];exact⟨a8 _,HD2.out.2,HOB.out⟩⟩
 case round=>
  obtain⟨V2,r2,X,c,rfl,hgk,hrc,HF,HS,HD⟩:=hrel;clear HK2 HS2;rcases r2 with _|⟨y,t2⟩
  ·go_wp2_with fail
   try simp only[Exit.jump]
   try go_step3
   refine⟨rfl,⟨_,_,_,_,_,_,_,_,_,_,_,_,_,_,_,_,_,_,_,_,_,_,_,_,_,_,_,_,_,_,_,_,_,_,_,_,_,_,_,_,_,_,_,_,_,_,_,_,_,_,_,_,_,_,_,_,_,_,_,_,_,rfl,V2,[],HS.out⟩,?_⟩;show ag9 b wr<ag9 b w;rw[ahx HS.out.dec.win,HRX.out.2];have:=HRX.out.1;have:=HXL.out.2;have:=HSN.out;simp only[b04];omega
  obtain⟨bd,off,rfl,hbd,-⟩:=HF.out 0 (bV y) rfl;have hbd:bd=d:=hbd;subst hbd;have hyl:0<(y::t2).length:=by simp
  have hproto:(jn (y::t2)).p=0 ∨(jn (y::t2)).p=1 ∨(jn (y::t2)).p=2 ∨(jn (y::t2)).p=3:=by
   rw[bgt (y::t2) y rfl];exact aij y
  have HDT:=hid (o4 (bgq (y::t2)) (o4 (amo (y::t2)) (o4 (axt (y::t2)) hproto)));have HMORE:=hid (fun hr=>bbb (r:=y::t2) HS.out.sc hr);have HSTOP:=hid (fun(h0:(jn (y::t2)).d=0)=>h0);have HAT:=fun W' (hW:Below wr.1.size wr W')=>hid (baq (some ⟨bd,off,none⟩) c (y::t2) ((HF.out.lt.below hW (fun k q=>q.2)).less (R:=fun _=>True) fun _ _=>trivial) (by have:=HD.out.1;have:=HXL.out.1;have:=HSN.out;omega) hrc)
  unfold a3l at HAT;clear hproto;generalize hvv:jn (y::t2)=ver at *;have HVV:=hid hvv;clear hvv;generalize hr3:y::t2=r3 at *;clear hr3;obtain⟨rn,hrn⟩:∃rn,r3.length=rn:=⟨_,rfl⟩;have HRN:=hid hrn;rw[hrn]at hgk hrc hyl HAT ⊢;clear hrn;obtain⟨vd,vp,vn,ve,vx⟩:=ver;dsimp only at *;have hrp:(0:Int)<(rn:Int):=by omega
  go_wp2_with fail;refine(HAT wr (n6 _ _)).out.mono ?_;rintro e w3 ⟨I,rfl,hit,hb⟩;have HS3:=hid (HS.out.on HBG.out hb);have HF3:=hid ((HF.out.lt.below hb (fun k q=>q.2)).less (R:=fun k=>k=bd) fun k q=>q.1);have HVL:=hid (axs (d:=vd) (p:=vp) (n:=vn) (e:=ve) hit.len);have HVO:=hid (arg (d:=vd) (p:=vp) (n:=vn) (e:=ve) hit.ones);have HVS:=hid (arh HVL.out);have HIT:=hid hit;have HD3:Hid (W.1.size≤bd∧bd<wr.1.size∧wr.1.size≤w3.1.size∧W.1.size≤wr.1.size):=hid ⟨HD2.out.1,HD.out.2.1,hb.size,HS.out.kept.size⟩;have HOW:Hid (∀k,u3.ownBlock=some k→W.1.size≤k∧k<wr.1.size):=hid (fun k q=>HS.out.its.own q);clear hb hit HAT HS HF
  go_upto_region 7 with(first
   | (refine qc rfl 66 rfl (veA 0 0 0 0) (HZ _).out ?_;intro W4 hW;have HV4:=hid (Blk.newL (L:=veL 0 0 0 0 adm) hW rfl);have HS4:=hid (HS3.out.on HBG.out hW.bel);have HP4:=hid (fun k (q:k<w3.1.size)=>hW.bel.block k q);have HZ4:=hid hW.sz;have HKP4:=hid (qj.of_below (S:=fun j=>j<w3.1.size) hW.bel fun j q=>q);clear hW)
   | (refine qe rfl 66 _ _ rfl w3.1.size 0 (veL vd vp vn ve I).toArray rfl rfl (aa6 HV4.out HVL.out) HVS.out HVO.out ?_;intro W5 hs;have HV5:=hid (adc HV4.out HVL.out hs);have HZ5:Hid (W5.1.size=w3.1.size+1):=hid (hs.sz.trans HZ4.out);have HP5:=hid (fun k (q:k<w3.1.size)=>(hs.far k (b0y q)).trans (HP4.out k q));have HKP5:=hid (HKP4.out.stored hs (fun q=>Nat.lt_irrefl _ q));clear hs))
  try go_frame
  have hk35:qj (fun j=>j<w3.1.size) w3 W5:=HKP5.out;have HS5:=hid (HS3.out.mv HBG.out (hk35.less fun j q=>q.1) (HS3.out.dec.moved2 hk35 (by have:=HS3.out.kept.size;have:=HBG.out;omega)) HS3.out.sc HS3.out.len rfl);have HF5:=hid (HF3.out.keep fun k (q:k=bd)=>HP5.out k (by rw[q];have:=HD3.out;omega));have HI5:=hid (HIT.out.keep fun k q=>HP5.out k q.2);obtain⟨e0,e1,e2,-,e4⟩:=bgp HV5.out;have HE4:=hid e4;have HQ5:Hid (w3.1.size<W5.1.size):=hid (by rw[HZ5.out];exact b38 _);clear hk35 e4 HV4 HS4 HP4 HZ4 HS3 HF3 HIT HP5 HVL HVO HVS;have HVB:Hid (wr.1.size≤w3.1.size∧W.1.size≤w3.1.size):=hid ⟨HD3.out.2.2.1,o8 HD3.out.2.2.2 HD3.out.2.2.1⟩;generalize hvbe:w3.1.size=vb at *;have HVE:=hid hvbe;clear hvbe;rcases HDT.out.1 with hd0|hd1|hd2
  ·have hd0:vd=0:=hd0;subst hd0;go_wp2_with fail
   try simp only[Exit.jump]
   go_ret;exact HS5.out.stop (by rw[HVV.out])
  ·have hd1:vd=1:=hd1;subst hd1;obtain⟨hn0,hx0⟩:=HDT.out.2.2.1 dc;have hn0:vn=0:=hn0;subst hn0;have hpp:=HDT.out.2.2.2;obtain⟨k,hk⟩:∃k,9+vp.toNat=k:=⟨_,rfl⟩;have hk13:k<13:=by rw[← hk];omega
   have hvl:=HS5.out.len;have hcn:=af4 V2 HCC.out.1 k;have hl24:=HCC.out.2.1;obtain⟨cn,hcn2⟩:∃cn,(jp C V2).getD k 0=cn:=⟨_,rfl⟩;rw[hcn2]at hcn;have hc0:0≤cn:=hcn.1;have hc1:cn≤1000000000:=by omega
   have hck:=HS5.out.dec.cd k hk13;rw[hcn2]at hck;have hzk:=HS5.out.dec.blk.fz (k+1);have hd6:=HS5.out.dec.set k (cn+1) hk13;have hst6:=HS5.out.dec.keptS k (cn+1)
   have HD6:Hid (zz (W5.setCell ⟨g,k+1,none⟩ (.int .i64 (cn+1))).drew g b (q6 (jp C V2) k 1) r3∧qj (fun j=>j≠b∧j≠g) W5 (W5.setCell ⟨g,k+1,none⟩ (.int .i64 (cn+1))).drew):=hid ⟨by
    rw[← hcn2]at hd6 ⊢;exact hd6.drew,hst6.drew⟩
   have hcv:jp C (V2++[⟨1,vp,0,ve,vx⟩])=q6 (jp C V2) k 1:=by
    rw[ado];show q6 (jp C V2) (ayw ⟨1,vp,0,ve,vx⟩) 1=_;rw[show ayw ⟨1,vp,0,ve,vx⟩=k from hk]
   have HEND:Hid (∀W7,vy W7 b (r3.drop 1)→qj (fun j=>j≠b) (W5.setCell ⟨g,k+1,none⟩ (.int .i64 (cn+1))).drew W7→ae9 W g b C l (V2++[⟨1,vp,0,ve,vx⟩]) (r3.drop 1) u3 W7∧ag9 b W7<ag9 b w):=hid fun W7 hw hk7=>by
    have hr:=HS5.out.mv (V':=V2++[⟨1,vp,0,ve,vx⟩]) (r':=r3.drop 1) HBG.out ((HD6.out.2.trans (hk7.less fun j q=>q.1)).less fun j q=>q.2) (by rw[hcv];exact HD6.out.1.moved hw hk7) (HMORE.out dc) (by rw[d7,l8,HRN.out];have:=HRN.out;simp only[n7,b04];omega) (by rw[ap3];rfl);refine⟨hr,?_⟩;rw[ahx hr.dec.win,HRX.out.2,l8,HRN.out];have:=HRX.out.1;have:=HSN.out;have h9:=HD.out.1;rw[HRN.out]at h9;omega
   clear hcn hcn2 hd6 hst6 hcv hx0 hvl hl24 HMORE HSTOP HDT HI5 HF5 HE4 HV5 HS5 HVV;have hk':=hk.symm;rcases hpp with rfl|rfl|rfl|rfl
   all_goals
    simp only[Int.reduceToNat,Nat.reduceAdd,Int.toNat_zero]at hk';subst hk';clear hk hk13;simp only[Nat.reduceAdd]at hck hzk HD6 HEND;go_upto_region 11 with fail
    go_region
    clear hck hzk;generalize W5.setCell ⟨g,_,none⟩ (.int .i64 (cn+1))=W6 at *;have g0:=HD6.out.1.c0;go_wp2_with fail;refine(ah4 1 HD6.out.1.win om).mono ?_;rintro e W7 ⟨rfl,hw,hk⟩;rw[show (max 0 (min (1:Int) (r3.length:Int))).toNat=1 from by rw[HRN.out];omega]at hw ⊢;have HE7:=hid (HEND.out W7 hw hk);clear hw hk HD6 g0;go_wp2_with fail
    try simp only[Exit.jump]
    try go_step3
    exact⟨rfl,⟨_,_,_,_,_,_,_,_,_,_,_,_,_,_,_,_,_,_,_,_,_,_,_,_,_,_,_,_,_,_,_,_,_,_,_,_,_,_,_,_,_,_,_,_,_,_,_,_,_,_,_,_,_,_,_,_,_,_,_,_,_,rfl,_,_,HE7.out.1⟩,HE7.out.2⟩
  ·have hd2:vd=2:=hd2;subst hd2;have ht:=HDT.out.2.1 rfl
   have hpr:vx.pr=1∨vx.pr=2∨vx.pr=3:=by
    have h4:vx.pr=vp:=ht.2.2.2.1;rw[h4];exact ht.2.2.2.2
   have htn:8≤vn∧vn≤1024∧vn≤rn:=by have:=HRN.out;have h1:=ht.1;have h2:=ht.2.1;have h3:=ht.2.2.1;exact⟨h1,h2,by rw[← this];exact h3⟩
   have hvl:=HS5.out.len;have hl24:=HCC.out.2.1
   have hcok:abo (jp C V2) 1000000000:=fun k=>by
    have:=af4 V2 HCC.out.1 k;exact⟨this.1,by omega⟩
   have hck:bhq vx=ayw ⟨2,vp,vn,ve,vx⟩:=by
    have h4:vx.pr=vp:=ht.2.2.2.1;unfold bhq ayw;rw[h4];rfl
   have HCT:=hid (awm HS5.out.dec HI5.out hpr hcok);have HIL:=hid HI5.out.len;have HIX:Hid (V2.length≤1024):=hid om;have hVN:=htn;have HTN:=hid htn;have HCK:=hid hck;clear ht hpr htn hvl hl24 hcok hck HDT;go_wp2_with (refine b0i rfl 64 _ rfl vb 4 rfl I _ HE4.out underlying64 sm (by rw[HIL.out];kernel_rfl) ?_);refine HCT.out.mono ?_;rintro e W6 ⟨rfl,hd6,hk6⟩;have HD6:=hid hd6;have HK6:=hid hk6;have HE6:=hid (aec HE4.out (hk6.block vb ⟨HQ5.out,by have:=HD3.out;have:=HBG.out;have:=HVB.out;omega⟩));have HI6:=hid (HI5.out.keep fun k q=>hk6.block k ⟨by have:=q.2;have:=HQ5.out;have:=HVE.out;omega,by have:=q.1;have:=HD3.out;have:=HBG.out;omega⟩);have HR6:=hid (HS5.out.its.kept (w':=W6) (fun k q r=>hk6.block k ⟨r,by have:=HBG.out;omega⟩) hk6.size);have HF6:=hid (HF5.out.keep fun k (q:k=bd)=>hk6.block k ⟨by rw[q];have:=HD3.out;have:=HQ5.out;have:=HVB.out;omega,by rw[q];have:=HD3.out;have:=HBG.out;omega⟩)
   have HKA:=hid (HS5.out.kept.trans (hk6.less fun j q=>⟨e9 q.1 HS5.out.kept.size,q.2.2⟩));have HQ6:Hid (vb<W6.1.size):=hid (e9 HQ5.out hk6.size);have he2:=(b0q (a:=⟨vb,2,none⟩) (hk6.block vb ⟨HQ5.out,by have:=HD3.out;have:=HBG.out;have:=HVB.out;omega⟩)).trans e2;have HE2:=hid he2;clear hd6 hk6 HCT HE4 HI5 HF5 e0 e1 e2 he2 HV5;go_upto_region 14 with fail;have hba:=qa W6 (.cells I.toArray 64);have hrow:=HR6.out.kept (fun k _ r=>hba.block k r) hba.size;have hblk:Blk (W6.alloc (.cells I.toArray 64)) W6.1.size I:=Blk.newL (qg W6 _ _) b1i
   have hfl:qf (fun _=>True) (W6.alloc (.cells I.toArray 64)) (some ⟨W6.1.size,0,none⟩) [I].flatten:=by
    rw[show [I].flatten=I from by simp];exact hblk.flat trivial
   have hits:acm (fun k=>W.1.size≤k∧k<(W6.alloc (.cells I.toArray 64)).1.size∧some k≠u3.ownBlock) (W6.alloc (.cells I.toArray 64)) [I] [vx]:=acm.one ((HI6.out.keep fun k q=>hba.block k (by have:=q.2;have:=HQ6.out;have:=HVB.out;have:=HVE.out;omega)).less fun k q=>⟨by have:=q.1;have:=HD3.out;omega,by have:=q.2;have:=HQ6.out;have:=hba.size;have:=HVB.out;have:=HVE.out;omega,fun r=>by have:=(HOW.out k r.symm).2;have:=q.1;omega⟩)
   have hnx:(zg V2).length+[vx].length≤20000000:=by
    have h1:(zg V2).length≤V2.length:=by unfold zg;rw[b0s];exact b3l _ _
    have:=HIX.out;simp only[n7,b04];omega
   obtain⟨v8,W8,hrun,hr8,hb8,hx8,ho8⟩:=hrow.app (by have:=HR6.out;have:=hba.size;have:=HD3.out;have:=HQ6.out;have:=HVB.out;omega) (some ⟨W6.1.size,0,none⟩) 1 [I] hfl hits hnx;have HRUN:=hid hrun;have HSL:=hid (a3w HIL.out W6);have hfar:∀k,k<W6.1.size→some k≠u3.ownBlock→W8.heap[k]?=W6.heap[k]?:=fun k r1 r2=>(hx8 k (e9 r1 hba.size) r2).trans (hba.block k r1)
   have hbd:some bd≠u3.ownBlock:=fun q=>HD.out.2.2 q.symm
   have hvb:some vb≠u3.ownBlock:=fun q=>by have:=(HOW.out vb q.symm).2;have:=HD3.out;have:=HVB.out;omega
   have hkb:qj (fun j=>j<W.1.size) W6 W8:=(qj.of_below hba (fun j (q:j<W.1.size)=>by have:=HD3.out;have:=HQ6.out;have:=HVB.out;omega)).trans (qj.of_below hb8 fun j q=>q);have HD8:=hid (HD6.out.moved2 hkb HBG.out);have HR8:Hid (j6 W.1.size v8 (zg (V2++[⟨2,vp,vn,ve,vx⟩])) W8):=hid (by rw[ap3];exact hr8);have HE8:=hid ((b0q (a:=⟨vb,2,none⟩) (hfar vb HQ6.out hvb)).trans HE2.out);have HF8:=hid (HF6.out.keep fun k (q:k=bd)=>hfar k (by rw[q];have:=HD3.out;have:=HQ6.out;have:=HVB.out;omega) (by rw[q];exact hbd));have HKB:=hid (HKA.out.trans (hkb.less fun j q=>q.1))
   have HO8:Hid (v8.ownBlock≠some bd∧W6.1.size≤W8.1.size):=hid ⟨by
    rcases ho8 with q|q
    ·rw[q];exact fun r=>hbd r.symm
    ·rw[q];intro r;injection r with r;have:=HD3.out;have:=HQ6.out;have:=HVB.out;have:=hba.size;omega,hkb.size⟩
   have HQ6b:=hid HQ6.out;clear hba hrow hblk hfl hits hnx hrun hr8 hb8 hx8 ho8 hfar hbd hvb hkb HD6 HK6 HI6 HR6 HF6 HKA HE2
   go_wp2_with (first
    | refine b0i rfl 64 _ rfl vb 4 rfl I _ HE6.out underlying64 sm (by rw[HIL.out];kernel_rfl) ?_
    | refine a2x (u:=.agg I.toArray) rfl 75 _ rfl rfl HSL.out ?_
    | (at_builtin;refine qw rfl _ _ 75 rfl _ _ _ rfl rfl HRUN.out ?_))
   have hHDR:=ah4 (vn:Int) HD8.out.drew.win (by have:=HTN.out;omega);rw[show (max 0 (min (vn:Int) (r3.length:Int))).toNat=vn from by rw[HRN.out];have:=HTN.out;omega]at hHDR;have HDR:=hid hHDR
   have HEND:Hid (∀W9,vy W9 b (r3.drop vn)→qj (fun j=>j≠b) W8 W9→ae9 W g b C l (V2++[⟨2,vp,vn,ve,vx⟩]) (r3.drop vn) v8 W9∧qf (fun k=>k=bd) W9 (some ⟨bd,off+vn,none⟩) (bsV (r3.drop vn))∧W8.1.size≤W9.1.size):=hid fun W9 hw hk9=>by
    have hst:aa4 ⟨2,vp,vn,ve,vx⟩=vn:=by show max vn 1=vn;have:=HTN.out;omega
    have hsc:=HMORE.out dc;rw[hst]at hsc;refine⟨⟨hsc,?_,?_,HR8.out.kept (fun k q _=>hk9.block k (by have:=HBG.out;omega)) hk9.size,HKB.out.trans (hk9.less fun j q=>q.2.1)⟩,?_,hk9.size⟩
    ·have h1:=HRN.out;have h2:=HTN.out;have h3:=HS5.out.len;rw[d7,l8];simp only[n7,b04];omega
    ·rw[ado];show zz W9 g b (q6 (jp C V2) (ayw ⟨2,vp,vn,ve,vx⟩) 1) _;rw[← HCK.out];exact HD8.out.moved hw hk9
    ·have:=(HF8.out.keep fun k (q:k=bd)=>hk9.block k (by rw[q];have:=HD3.out;have:=HBG.out;omega)).part vn
     rwa [abp]at this
   have HGB:Hid (g≠b∧vb≠b):=hid ⟨fun q=>HD8.out.ne q.symm,fun q=>by have:=HVB.out;have:=HBG.out;omega⟩;have hv0:(0:Int) ≤(vn:Int):=by omega
   have hv1:(vn:Int) ≤(rn:Int):=by have:=HTN.out;omega
   have hv2:(rn:Int) ≤(c:Int):=by omega
   have hDL:(r3.drop vn).length=rn-vn:=by rw[l8,HRN.out]
   have HDL:=hid hDL;clear hHDR hDL HF8 HKB HR8 HE6 HIL HIX HSL HRUN HQ6 HMORE hVN HCK HVV HSTOP HS5 HOW;rcases b01 vn c with hlt|hge
   ·have hv3:(vn:Int)<(c:Int):=by omega
    have hS0:qj (fun j=>j≠b) W8 W8.drew:=(qj.refl _ _).drew;refine o7 (S:=fun w'=>qj (fun j=>j≠b) W8 w') kr hS0 (fun hHeld0=>?_);refine tkA 0 54 rfl ?_;go_frame;refine tkA 1 55 rfl ?_;go_frame;refine tkA 2 56 rfl ?_;go_frame;refine tkA 3 57 rfl ?_;go_frame;refine tkQ (i:=4) (oi:=⟨some 58,_,_,_,_,_⟩) (v:=?_) rfl (Or.inl ⟨by rfl,?_⟩) ?_;rotate_left
    ·intro w' hSw;have g0:w'.cell? ⟨g,0,none⟩=some (.pointer (some ⟨b,0,none⟩)):=(hSw.cell (b:=g) (o:=0) HGB.out.1).trans HD8.out.c0;go_simp
     try with_reducible rfl
    try go_frame
    refine tkA 5 59 rfl ?_;go_frame;refine tkQ (i:=6) (oi:=⟨some 60,_,_,_,_,_⟩) (v:=?_) rfl (Or.inl ⟨by rfl,?_⟩) ?_;rotate_left
    ·intro w' hSw;have g2:w'.cell? ⟨vb,2,none⟩=some (.int .i64 (vn:Int)):=(hSw.cell (b:=vb) (o:=2) HGB.out.2).trans HE8.out;go_simp
     try with_reducible rfl
    try go_frame
    refine rdB 7 61 rfl fun K hK=>?_
    go_step;refine HDR.out.mono ?_;rintro e W9 ⟨rfl,hw9,hk9⟩;have HW9:Hid (vy W9 b (r3.drop vn)∧qj (fun j=>j≠b) W8 W9):=hid ⟨hw9,hHeld0.trans hk9⟩;clear hw9 hk9
    try go_frame
    refine hK.out _ _ (HW9.out.2) (fun hHeld=>?_);clear hK K
    try go_frame
    refine tkA 8 62 rfl ?_;go_frame;refine tkA 9 4 rfl ?_;go_frame;refine b0j kr ?_ _
    try go_frame
    go_wp2_with fail
    go_roundg rn
    case measure=>omega
    case rel=>
     obtain⟨q1,q2,q3⟩:=HEND.out _ HW9.out.1 HW9.out.2;exact⟨_,r3.drop vn,_,c-vn,by rw[HDL.out],by rw[HDL.out];have:=HTN.out;omega,by rw[HDL.out];omega,q2,q1,by rw[HDL.out];have:=HD.out.1;rw[HRN.out]at this;omega,by have:=HO8.out.2;have:=HQ6b.out;have:=HD3.out;omega,HO8.out.1⟩
   ·obtain rfl:c=vn:=by have:=HTN.out;omega
    obtain rfl:rn=c:=by have:=HTN.out;omega
    have hS0:qj (fun j=>j≠b) W8 W8.drew:=(qj.refl _ _).drew;refine o7 (S:=fun w'=>qj (fun j=>j≠b) W8 w') kr hS0 (fun hHeld0=>?_);refine tkA 0 54 rfl ?_;go_frame;refine tkA 1 55 rfl ?_;go_frame;refine tkA 2 56 rfl ?_;go_frame;refine tkA 3 57 rfl ?_;go_frame;refine tkQ (i:=4) (oi:=⟨some 58,_,_,_,_,_⟩) (v:=?_) rfl (Or.inl ⟨by rfl,?_⟩) ?_;rotate_left
    ·intro w' hSw;have g0:w'.cell? ⟨g,0,none⟩=some (.pointer (some ⟨b,0,none⟩)):=(hSw.cell (b:=g) (o:=0) HGB.out.1).trans HD8.out.c0;go_simp
     try with_reducible rfl
    try go_frame
    refine tkA 5 59 rfl ?_;go_frame;refine tkQ (i:=6) (oi:=⟨some 60,_,_,_,_,_⟩) (v:=?_) rfl (Or.inl ⟨by rfl,?_⟩) ?_;rotate_left
    ·intro w' hSw;have g2:w'.cell? ⟨vb,2,none⟩=some (.int .i64 (rn:Int)):=(hSw.cell (b:=vb) (o:=2) HGB.out.2).trans HE8.out;go_simp
     try with_reducible rfl
    try go_frame
    refine rdB 7 61 rfl fun K hK=>?_
    go_step;refine HDR.out.mono ?_;rintro e W9 ⟨rfl,hw9,hk9⟩;have HW9:Hid (vy W9 b (r3.drop rn)∧qj (fun j=>j≠b) W8 W9):=hid ⟨hw9,hHeld0.trans hk9⟩;clear hw9 hk9
    try go_frame
    refine hK.out _ _ (HW9.out.2) (fun hHeld=>?_);clear hK K
    try go_frame
    refine tkA 8 62 rfl ?_;go_frame;refine tkA 9 4 rfl ?_;go_frame;refine b0j kr ?_ _
    try go_frame
    go_wp2_with fail
    go_roundg rn
    case measure=>omega
    case rel=>
     obtain⟨q1,q2,q3⟩:=HEND.out _ HW9.out.1 HW9.out.2;have e0:r3.drop rn=[]:=b0f (by rw[HDL.out];omega);rw[e0]at q1;exact⟨_,[],_,0,rfl,by simp;omega,a8 _,qf.nil _ _ _,q1,b0c _,by have:=HO8.out.2;have:=HQ6b.out;have:=HD3.out;omega,HO8.out.1⟩
theorem ajq {C:List Int} {N n:Int} (h:abo C N) (k:Nat) (hn:0≤n):abo (q6 C k n) (N+n):=fun j=>by
 have h1:=h j;unfold q6
 by_cases e:j=k
 ·subst e;rw[l9,List.getElem?_set_self'];rw[l9]at h1;cases hc:C[j]? with
  | none=>rw[hc]at h1;simp at h1 ⊢;omega
  | some z=>
   rw[hc]at h1;rw[l9,hc];simp at h1 ⊢;omega
 ·rw[l9,b39 (fun q=>e q.symm),← l9];omega
theorem abo.le {C:List Int} {N M:Int} (h:abo C N) (hm:N≤M):abo C M:=fun k=>⟨(h k).1,Int.le_trans (h k).2 hm⟩
theorem ac2 (l:List UInt8):(q9 l).1.length +(q9 l).2.length≤l.length:=by
 refine alb (P:=fun l=>(q9 l).1.length +(q9 l).2.length≤l.length) ?_ ?_ l
 ·intro l h;rw[acq h];simp
 ·intro l h ih;rw[acp h];have h1:=ard h;have h2:=aip (jn l);rw[l8]at ih;simp only[n7];omega
structure a7p (W:World) (g b:Nat) (C:List Int) (s:List UInt8) (v:Value) (w:World):Prop where
 dec:zz w g b (jp C (q9 s).1) (q9 s).2
 its:j6 W.1.size v (zg (q9 s).1) w
 kept:qj (fun j=>j<W.1.size∧j≠b∧j≠g) W w
def bg5 (W:World) (g b:Nat) (C:List Int) (s:List UInt8) (e:Ending) (w':World):Prop:=∃v,e=.returned v∧a7p W g b C s v w'
theorem a39 {W W1:World} {g b:Nat} {C:List Int} {l:List UInt8} (h:zz W1 g b C l) (hd:(jn l).d=0) (hk:qj (fun j=>j<W.1.size∧j≠b∧j≠g) W W1):a7p W g b C l (.slice none 0 0) W1:=by
 refine⟨?_,?_,hk⟩
 ·rw[acq hd];exact h
 ·rw[acq hd];exact j6.nil _ _
theorem ane {W:World} {g b:Nat} {C:List Int} {l bs:List UInt8} (A:Option Addr) (c:Nat) (h:zz W g b C l) (hst:(jn l).d=0) (hbs:qf (fun k=>k<W.1.size∧k≠b∧k≠g) W A (bsV bs)) (hn:bs.length≤4000000) (hc:bs.length≤c) (hC:abo C 400000000) :
 Calls prog 22 #[.pointer (some ⟨g,0,none⟩),.slice A bs.length c] W (bg5 W g b (q6 C 0 bs.length) (l++bs)):=by
 have hbg:b<W.1.size∧g<W.1.size:=⟨h.win.lt,h.blk.lt⟩;have HBG:=hid hbg;have c1:W.cell? ⟨g,1,none⟩=some (.int .i64 (C.getD 0 0)):=h.cd 0 om;have z1:=h.blk.fz 1;have HT:=hid h;have hs:zz (W.setCell ⟨g,1,none⟩ (.int .i64 (C.getD 0 0+bs.length))) g b (q6 C 0 bs.length) l:=h.set 0 _ om;have hst2:qp W (W.setCell ⟨g,1,none⟩ (.int .i64 (C.getD 0 0+bs.length))) g 1 [.int .i64 (C.getD 0 0+bs.length)]:=ze (h.blk.there 1 1 (by rw[apr,h.len];omega));have HK0:=hid ((qj.refl (fun j=>j<W.1.size∧j≠b∧j≠g) W).stored hst2 (fun q=>q.2.2 rfl));have HF0:=hid (hbs.kept HK0.out fun k q=>q);have hb1:=(hC 0).1;have hb2:=(hC 0).2;have HCO:=hid (ajq hC 0 (n:=(bs.length:Int)) (n8 _));have HMX:Hid (l.length<1024):=hid (aui l hst);have HFS:=hid (a39 hs hst HK0.out);generalize C.getD 0 0=In at *;generalize hC1:q6 C 0 bs.length=C1 at *;have hbl:(bs.length:Int)≤4000000:=by omega
 have HL:=hid (o4 hn hc);clear hs hst2 h hC hbs hst hC1 hbg hn hc;generalize hnn:bs.length=n at *;have HNN:=hid hnn;clear hnn;go_enter func22,ntmps22;go_wp2_with (refine(ace HT.out).mono ?_;rintro e w' ⟨rfl,rfl⟩);generalize W.setCell ⟨g,1,none⟩ (.int .i64 (In +(n:Int)))=W1 at *;clear c1 z1
 go_loopg [1,5] (n+1) (fun gk s1 s5 wr=>∃p q X k,s1=.slice X q.length k∧q.length<gk∧q.length≤k∧Hid (bs=p++q)∧Hid (qf (fun j=>j<W.1.size∧j≠b∧j≠g) wr X (bsV q))∧Hid (a7p W g b C1 (l++p) s5 wr))
 case atStart=>exact⟨[],bs,A,c,by rw[HNN.out],by rw[HNN.out];omega,by rw[HNN.out];exact HL.out.2,rfl,HF0.out,by rw[b0k];exact HFS.out⟩
 case round=>
  obtain⟨p,q,X,k,rfl,hgk,hqk,HB,HF,HS⟩:=hrel;clear HFS HF0 HK0
  by_cases hq0:q=[]
  ·subst hq0;go_wp2_with fail;go_ret;refine⟨_,rfl,?_⟩;have e:=HB.out;rw[b0k]at e;rw[e];exact HS.out
  ·have hql:0<q.length:=b2f.2 hq0;have hrr:=amd (l++p);have HRL:Hid ((q9 (l++p)).2.length<1024):=hid hrr.2.1;have hpb:p.length+q.length=n:=by rw[← HNN.out,HB.out,d7]
   have hsl:=ac2 (l++p)
   have HCK:Hid (abo (jp C1 (q9 (l++p)).1) 900000000):=hid ((af4 _ HCO.out).le (by
    have:=HMX.out;rw[d7]at hsl;omega))
   obtain⟨m,hm⟩:∃m,min q.length (1024-(q9 (l++p)).2.length)=m:=⟨_,rfl⟩;have hm1:1≤m:=by have:=HRL.out;omega
   have hm2:m≤q.length:=by omega
   have HSC:=hid (ala (l++p) (q.take m));have HPT:=hid (arp (bs:=q) X k HS.out.dec.win (HF.out.less fun j r=>r.2.1) (by unfold maxLen;omega) hqk);rw[hm]at HPT;have HQ2:Hid (bs=(p++q.take m)++q.drop m):=hid (by rw[b0l,b0p];exact HB.out);have HDL:Hid ((q.drop m).length=q.length-m):=hid l8;have c0:=HS.out.dec.c0
   have HQS:Hid (∀j u,(bsV q)[j]?=some u→∃b' off,X=some ⟨b',off,none⟩):=hid fun j u hu=>by
    obtain⟨b',off,e,-⟩:=HF.out j u hu;exact⟨b',off,e⟩
   obtain⟨x0,hx0⟩:∃x0,(bsV q)[0]?=some x0:=⟨_,c8 (by rw[xl];exact hql)⟩;obtain⟨bx,ox,rfl⟩:=HQS.out 0 x0 hx0;have hqI:(0:Int)<(q.length:Int):=by omega
   have hmI:(m:Int) ≤(q.length:Int):=by omega
   have hm0:(0:Int) ≤(m:Int):=by omega
   have hkI:(q.length:Int) ≤(k:Int):=by omega
   have HPB:=hid hpb;clear hm hrr hsl hx0 HQS hpb;have HFQ:=HF;generalize hqn:q.length=qn at *;have HQN:=hid hqn;clear hqn hq0
   have HEND:∀w2,vy w2 b ((q9 (l++p)).2++q.take m)→qj (fun j=>j≠b) wr w2→Hid (Calls prog 39 #[.pointer (some ⟨g,0,none⟩)] w2 (a3e w2 g b (jp C1 (q9 (l++p)).1) ((q9 (l++p)).2++q.take m))∧qf (fun j=>j<W.1.size∧j≠b∧j≠g) w2 (some ⟨bx,ox+m,none⟩) (bsV (q.drop m))∧j6 W.1.size u5 (zg (q9 (l++p)).1) w2∧qj (fun j=>j<W.1.size∧j≠b∧j≠g) W w2∧W.1.size≤w2.1.size):=fun w2 hw hk=>hid ⟨a5z (HS.out.dec.moved hw hk) HCK.out,by
    have:=(HF.out.kept hk fun j r=>r.2.1).part m
    rwa [abp]at this,HS.out.its.kept (fun j r _=>hk.block j (by have:=HBG.out;omega)) hk.size,HS.out.kept.trans (hk.less fun j r=>r.2.1),o8 HS.out.kept.size hk.size⟩
   have HLP:Hid ((q9 (l++p)).1.length≤5000000 ∧(q9 ((q9 (l++p)).2++q.take m)).1.length≤5000000):=hid (by
    have h1:=ac2 (l++p);have h2:=ac2 ((q9 (l++p)).2++q.take m);have h3:=HMX.out;have h4:=HRL.out;have h5:=HQN.out;have h6:=HPB.out;rw[d7]at h1 h2;rw[l7]at h2;omega)
   have HXD:Hid (m=k→q.drop m=[]):=hid fun e=>b0f (by rw[HDL.out];omega)
   have HXE:Hid (l ++(p++q.take m)=(l++p)++q.take m):=hid (b0l _ _ _).symm;generalize q.drop m=q2 at *;generalize q.take m=q1 at *;generalize hV1:(q9 (l++p)).1=V1 at *;generalize hR1:(q9 (l++p)).2=R1 at *;clear hV1 hR1 HS HF HFQ HRL HCK HB;go_wp2_with fail;refine HPT.out.mono ?_;rintro e w2 ⟨rfl,hw,hk⟩;have HE2:=HEND w2 hw hk;clear hw hk HEND HPT c0
   have HTAIL:∀v3 w3,ae9 w2 g b (jp C1 V1) (R1++q1) (q9 (R1++q1)).1 (q9 (R1++q1)).2 v3 w3→Hid (∃v4 w4,(Builtin.append_ #[75,75] 75 #[u5,v3]).run prog w3=.ok v4 w4∧a7p W g b C1 (l ++(p++q1)) v4 w4∧∀X2,(m=k∨X2=some ⟨bx,ox+m,none⟩)→qf (fun j=>j<W.1.size∧j≠b∧j≠g) w4 X2 (bsV q2)):=fun v3 w3 hr=>hid (by
    obtain⟨-,hf2,hi2,hk2,hz2⟩:=HE2.out;have hi3:j6 W.1.size u5 (zg V1) w3:=hi2.kept (fun j r1 r2=>hr.kept.block j ⟨r2,by have:=HBG.out;omega,by have:=HBG.out;omega⟩) hr.kept.size;obtain⟨Ls,ho3,hq3⟩:=hr.its;obtain⟨A3,c3,rfl,-,hfl3,-⟩:=xx ho3;have hl1:(zg V1).length≤V1.length:=by unfold zg;rw[b0s];exact b3l _ _
    have hl2:(zg (q9 (R1++q1)).1).length ≤(q9 (R1++q1)).1.length:=by unfold zg;rw[b0s];exact b3l _ _
    have hlp:=HLP.out;have hz3:=hr.kept.size;obtain⟨v4,w4,h1,h2,h3,-,-⟩:=hi3.app om A3 c3 Ls hfl3 (hq3.less fun j r=>⟨by have:=r.1;omega,r.2.1,fun q=>by have:=(hi2.own q.symm).2;have:=r.1;omega⟩) om;have hk4:qj (fun j=>j<W.1.size) w3 w4:=qj.of_below h3 fun j q=>q
    refine⟨v4,w4,h1,⟨?_,?_,hk2.trans ((hr.kept.less fun j r=>⟨by have:=r.1;omega,r.2⟩).trans (hk4.less fun j r=>r.1))⟩,fun X2 hX=>?_⟩
    ·rw[HXE.out,HSC.out,ado];exact hr.dec.moved2 hk4 HBG.out
    ·rw[HXE.out,HSC.out,agc];exact h2
    ·rcases hX with e|rfl
     ·rw[HXD.out e];exact qf.nil _ _ _
     ·exact(hf2.keep fun j r=>hr.kept.block j ⟨by have:=r.1;omega,r.2⟩).keep fun j r=>hk4.block j r.1)
   rcases b01 m k with hmk|hmk
   ·have hmk2:(m:Int)<(k:Int):=by omega
    go_wp2_with fail;refine HE2.out.1.mono ?_;rintro e w3 ⟨v3,rfl,hr⟩;obtain⟨v4,w4,hrun,hfs,hfl⟩:=(HTAIL v3 w3 hr).out;have HRUN:=hid hrun;have HFS:=hid (o4 hfs (hfl (some ⟨bx,ox+m,none⟩) (.inr rfl)));clear hr hrun hfs hfl HTAIL HE2;go_wp2_with (at_builtin;refine qw rfl _ _ 75 rfl _ _ _ rfl rfl HRUN.out ?_)
    go_roundg qn
    case measure=>omega
    case rel=>exact⟨p++q1,q2,_,k-m,by rw[HDL.out],by rw[HDL.out];omega,by rw[HDL.out];omega,HQ2.out,HFS.out.2,HFS.out.1⟩
   ·obtain rfl:k=m:=by omega
    obtain rfl:qn=k:=by omega
    go_wp2_with fail;refine HE2.out.1.mono ?_;rintro e w3 ⟨v3,rfl,hr⟩;obtain⟨v4,w4,hrun,hfs,hfl⟩:=(HTAIL v3 w3 hr).out;have HRUN:=hid hrun;have HFS:=hid (o4 hfs (hfl (some ⟨bx,ox,none⟩) sm));clear hr hrun hfs hfl HTAIL HE2;go_wp2_with (at_builtin;refine qw rfl _ _ 75 rfl _ _ _ rfl rfl HRUN.out ?_)
    go_roundg qn
    case measure=>omega
    case rel=>exact⟨p++q1,q2,_,0,by rw[HDL.out,b2p],by rw[HDL.out];omega,by rw[HDL.out];omega,HQ2.out,HFS.out.2,HFS.out.1⟩
theorem bk2 (w:World):(binOp .eql 76 (.agg z4A) (.agg z4A)).run prog w=.ok (.bool true) w:=by kernel_rfl
theorem bky (x y:Operand) (w:World):(eqGuard .eql 76 x y (.agg z4A) (.agg z4A)).run prog w=.ok () w:=by kernel_rfl
theorem zz.rgB {W:World} {g b:Nat} {l:List UInt8} (h:zz W g b z13 l):W.rangeAt g 10 z4A.toList:=by
 have:=h.rgC;exact((World.rangeAt_append (l:=(List.replicate 9 (0:Int)).map (Value.int .i64)) (m:=z4A.toList)).1 this).2
theorem aqr {W:World} {g b:Nat} {l:List UInt8} (h:zz W g b z13 l) :
 Calls prog 24 #[.pointer (some ⟨g,0,none⟩)] W fun e w'=>e=.returned (.agg (abh z13))∧zz w' g b z13 l∧Below W.1.size W w':=by
 have HZ:=fun W=>hid (a2y W)
 have HZA:=fun W=>hid (a8j W)
 have HBC:=fun W=>hid (a3s W)
 have H:=hid h;clear h;go_enter func24,ntmps24
 go_upto_region 2 with(first
  | (refine qc rfl 78 rfl (abh z13) (HZ _).out ?_;intro W1 hW;have HC1:=hid (Blk.newL (L:=z13.map (Value.int .i64)) hW rfl);have H1:=hid (H.out.on hW.bel);have HB1:=hid hW.bel;have HS1:=hid hW.sz;clear hW)
  | (refine qc rfl 76 rfl z4A (HZA _).out ?_;intro W2 hW;have HC2:=hid (HC1.out.on hW.bel);have HN2:=hid (Blk.newL (L:=z4A.toList) hW rfl);have H2:=hid (H1.out.on hW.bel);have HB2:=hid (qb HB1.out hW.bel);clear hW))
 try (apply b1e;intro K_ HK_)
 have hS0:Below W2.1.size W2 W2.drew:=(n6 _ _).drew;refine o7 (S:=fun w'=>Below W2.1.size W2 w') kr hS0 (fun hHeld0=>?_);refine tkA 0 4 rfl ?_;go_frame;refine rdB 1 5 rfl fun K hK=>?_
 go_step;refine(ace (H2.out.on hHeld0)).mono ?_;rintro e W' ⟨rfl,rfl⟩
 try go_frame
 refine hK.out _ _ (hHeld0) (fun hHeld=>?_);clear hK K
 try go_frame
 refine tkA 2 6 rfl ?_;go_frame;refine tkA 3 7 rfl ?_;go_frame;refine tkA 4 8 rfl ?_;go_frame;refine tkA 5 9 rfl ?_;go_frame;refine tkA 6 10 rfl ?_;go_frame;refine tkA 7 11 rfl ?_;go_frame;refine tkQ (i:=8) (oi:=⟨some 12,_,_,_,_,_⟩) (v:=?_) rfl (Or.inl ⟨by rfl,?_⟩) ?_;rotate_left
 ·intro w' hSw;have c1:w'.cell? ⟨g,1,none⟩=some (.int .i64 0):=(H2.out.on hSw).cd 0 dc;go_simp
  try with_reducible rfl
 try go_frame
 refine tkA 9 13 rfl ?_;go_frame;refine tkA 10 14 rfl ?_;go_frame;refine tkA 11 15 rfl ?_;go_frame;refine tkA 12 16 rfl ?_;go_frame;refine tkA 13 17 rfl ?_;go_frame;refine tkA 14 18 rfl ?_;go_frame;refine tkQ (i:=15) (oi:=⟨some 19,_,_,_,_,_⟩) (v:=.agg z4A) rfl (n9 (by rfl) 76 _ rfl g 10 rfl z4A.toList _ (fun w' hSw=>(H2.out.on hSw).rgB) underlying76 rfl kr) ?_;go_frame;refine tkQ (i:=16) (oi:=⟨some 20,_,_,_,_,_⟩) (v:=.agg z4A) rfl (n9 (by rfl) 76 _ rfl W1.1.size 0 rfl z4A.toList _ (fun w' hSw=>(HN2.out.on hSw).rg) underlying76 rfl kr) ?_;go_frame;refine tkQ (i:=17) (oi:=⟨some 21,_,_,_,_,_⟩) (v:=.bool true) rfl (aci (by rfl) .eql 76 (.tmp 19) (.tmp 20) 76 rfl (u:=.agg z4A) (v:=.agg z4A) kr kr (fun W=>bky _ _ W) (fun W=>bk2 W)) ?_;go_frame;refine tkA 18 22 rfl ?_;go_frame;refine tkA 19 23 rfl ?_;go_frame;refine b0j kr ?_ _
 try go_frame
 have HC3:Hid (Blk _ W.1.size (z13.map (Value.int .i64))):=hid (HC2.out.on hHeld0);have H3:=hid (H2.out.on hHeld0);have HB3:=hid (qb HB2.out hHeld0);clear HC2 H2 HB2 HC1 H1 HB1 HN2
 go_wp2_with (first
  | refine zo rfl 78 rfl (HBC _).out ?_
  | (refine qe rfl 78 _ _ rfl W.1.size 0 (abh z13) rfl rfl (HC3.out.there 0 13 dc) (akp rfl) (ayz _) ?_;intro W4 hs;have HC4:=hid (HC3.out.all hs rfl);have H4:=hid (H3.out.kept2 hs (by have:=H.out.blk.lt;omega) (by have:=H.out.win.lt;omega));have HB4:=hid (HB3.out.trans (hs.below (a8 _)));clear hs))
 try go_frame
 have HLD:=hid (t6 (P:=prog) W4 W.1.size 0 78 (abh z13).toList _ HC4.out.rg underlying78 rfl (by rw[b1j];exact akp rfl));refine b9 (v:=.agg (abh z13)) (by rw[yk rfl];simp[asAddr,Result.andThen,HLD.out]) rfl ⟨rfl,H4.out,HB4.out⟩
def bjm (Q:Nat→Prop) (w:World) (v:Value) (p:List UInt8):Prop:=∃X c,v=.slice X p.length c∧p.length≤c∧qf Q w X (bsV p)
def ag5 (Q:Nat→Prop) (w:World) (A:Option Addr) (ps:List (List UInt8)):Prop:=∃V,qf Q w A V∧∀(j:Nat) p,ps[j]?=some p→∃v,V[j]?=some v∧bjm Q w v p
theorem ag5.get {Q:Nat→Prop} {w:World} {A:Option Addr} {ps:List (List UInt8)} (h:ag5 Q w A ps) {k:Nat} {p:List UInt8} (hp:ps[k]?=some p):∃b off X c,A=some ⟨b,off,none⟩∧Q b∧w.cell? ⟨b,off+k,none⟩=some (.slice X p.length c)∧p.length≤c∧qf Q w X (bsV p):=by
 obtain⟨V,h1,h2⟩:=h;obtain⟨v,hv,X,c,rfl,hc,hf⟩:=h2 k p hp;obtain⟨b,off,e,hq,hcell⟩:=h1 k _ hv;exact⟨b,off,X,c,e,hq,hcell,hc,hf⟩
def ahe (ps:List (List UInt8)):Nat:=(ps.map fun p=>min p.length 4000).sum
def a4a (ps:List (List UInt8)):Bool:=decide (ps.length≤60∧ahe ps≤4000)
theorem azc (a b:List (List UInt8)):ahe (a++b)=ahe a+ahe b:=by unfold ahe;rw[b1y,b3j]
theorem a9p {ps:List (List UInt8)} {k:Nat} {p:List UInt8} (hk:ps[k]?=some p):ahe (ps.take (k+1))=ahe (ps.take k)+min p.length 4000:=by
 rw[List.take_add_one,hk,azc];simp[ahe]
theorem bhy (ps:List (List UInt8)) (k:Nat):ahe (ps.take k)≤ahe ps:=by
 have h:=azc (ps.take k) (ps.drop k);rw[b0p]at h;omega
theorem bed (z:Nat):min (z:Int) 4000=((min z 4000:Nat):Int):=by omega
theorem aqt {Q:Nat→Prop} {w:World} (A:Option Addr) (ps:List (List UInt8)) (c:Nat) (h:ag5 Q w A ps) (hm:ps.length≤maxLen) (hb:∀p∈ps,p.length≤maxLen) :
 Calls prog 19 #[.slice A ps.length c] w fun e w'=>e=.returned (.bool (a4a ps))∧w=w':=by
 unfold maxLen at hm;have HI:=hid h;have HE:Hid (ahe (ps.take ps.length)=ahe ps):=hid (by rw[b0o])
 have HD:Hid (∀b:Bool,(b=true↔ps.length≤60∧ahe ps≤4000)→b=a4a ps):=hid fun b hb=>by
  unfold a4a;rw[b4c,hb];simp
 have HB:=hid hb;generalize hL:ps.length=n at *;have HL:=hid hL;clear h hb hL;go_enter func19,ntmps19
 by_cases h60:60<n
 ·have i60:(60:Int)<(n:Int):=by omega
  go_wp2_with fail;go_ret;exact⟨by rw[HD.out false (by constructor<;>intro q;(· cases q);omega)];rfl,rfl⟩
 have i60:(n:Int)≤60:=by omega
 go_wp2_with fail
 go_loopg [3,4] n (fun g s3 s4 wr=>∃k:Nat,k≤n∧n-k≤g∧s4=.int .i64 k∧s3=.int .i64 (ahe (ps.take k):Int)∧ahe (ps.take k)≤4000∧wr=w)
 case atStart=>exact⟨0,b0c _,by omega,rfl,rfl,by simp[ahe],rfl⟩
 case round=>
  obtain⟨k,hk,hg,rfl,rfl,hf,rfl⟩:=hrel
  by_cases hlt:k<n
  ·have hkl:k<ps.length:=by rw[HL.out];exact hlt
   obtain⟨b',o',X,c',rfl,-,hc,-,-⟩:=HI.out.get (c8 hkl);have HSN:=hid (a9p (c8 hkl));have hpl:=HB.out _ (b1c hkl);have hle:=bhy ps (k+1);have HLE:=hid hle;have HSF:=hid hf;unfold maxLen at hpl;clear hle;generalize ps[k].length=x at *;generalize ahe (ps.take k)=m at *;have i1:(k:Int)<n:=by omega
   have i2:(0:Int) ≤(k:Int):=n8 _;have eM:=bed x;have hM:min x 4000≤4000:=Nat.min_le_right _ _;generalize min x 4000=M at *;have i7:(0:Int) ≤(m:Int)+M:=by omega
   have i8:(m:Int)+M≤8000:=by omega
   clear hM
   by_cases hs:m+M≤4000
   ·have i5:(m:Int)+M≤4000:=by omega
    clear hs hf hpl;go_wp2_with fail
    go_roundg (n-(k+1))
    case measure=>omega
    case rel=>exact⟨k+1,by omega,by omega,by simp,by rw[HSN.out];simp,by rw[HSN.out];omega,rfl⟩
   ·have i5:4000<(m:Int)+M:=by omega
    have HS:=hid hs;clear hs hf hpl;go_wp2_with fail;go_ret;exact⟨by rw[HD.out false (by have:=HSN.out;have:=HLE.out;have:=HS.out;constructor<;>intro q;(· cases q);omega)];rfl,rfl⟩
  ·obtain rfl:k=n:=by omega
   go_wp2_with fail;go_ret;exact⟨by rw[HD.out true (by have:=HE.out;simp;omega)];rfl,rfl⟩
theorem bgl:(prog.info? 5).map (fun i=>(i.zero,i.size,i.bytes))=some (some (.int .u8 0),1,1):=by kernel_rfl
theorem bjd:∃i z,prog.info? 5=some i∧i.zero=some z∧i.size=1∧i.bytes=1∧z.cells.size=1:=by
 have h:=bgl;cases hi:prog.info? 5 with
 | none=>rw[hi]at h;cases h
 | some i=>
  rw[hi,b3t,b2e,b41,b41]at h;exact⟨i,_,rfl,h.1,h.2.1,h.2.2,rfl⟩
theorem atf {ps:List (List UInt8)} {k:Nat} {p:List UInt8} (hk:ps[k]?=some p):(ps.take (k+1)).flatten=(ps.take k).flatten++p:=by
 rw[List.take_add_one,hk,b3a];simp
theorem a7z {ps:List (List UInt8)} (k:Nat):(ps.take k).flatten.length≤ps.flatten.length:=by
 have h:((ps.take k).flatten ++(ps.drop k).flatten).length=ps.flatten.length:=by rw[← b3a,b0p]
 rw[d7]at h;omega
theorem ash {w:World} (A:Option Addr) (ps:List (List UInt8)) (c:Nat) (h:ag5 (fun b=>b<w.1.size) w A ps) (hm:ps.length≤maxLen) (hj:ps.flatten.length≤4000000) :
 Calls prog 23 #[.slice A ps.length c] w fun e w'=>∃v,e=.returned v∧aax w 5 1 v ps.flatten.length (bsV ps.flatten) w':=by
 unfold maxLen at hm;have HI:=hid h;have HJ:=hid hj;have HE:Hid ((ps.take ps.length).flatten=ps.flatten):=hid (by rw[b0o]);generalize hL:ps.length=n at *;have HL:=hid hL;clear h hj hL;obtain⟨iu,zu,hu1,hu2,hu3,hu4,hu5⟩:=bjd;have HU:=hid (o4 hu1 (o4 hu2 (o4 hu3 hu4)));clear hu1 hu2 hu3 hu4;go_enter func23,ntmps23;go_wp2_with fail
 go_loopg [3,4] n (fun g s3 s4 wr=>∃k:Nat,k≤n∧n-k≤g∧s4=.int .i64 k∧Hid (aax w 5 1 s3 (ps.take k).flatten.length (bsV (ps.take k).flatten) wr))
 case atStart=>exact⟨0,b0c _,by omega,rfl,aax.nil _ _ _ (n6 _ _)⟩
 case round=>
  obtain⟨k,hk,hg,rfl,HO⟩:=hrel
  by_cases hlt:k<n
  ·have hkl:k<ps.length:=by rw[HL.out];exact hlt
   obtain⟨b',o',X,c',rfl,hq,hc,-,hf⟩:=HI.out.get (c8 hkl);have hc':wr.cell? ⟨b',o'+k,none⟩=some (.slice X ps[k].length c'):=(HO.out.2.cell (p:=⟨b',o'+k,none⟩) hq).trans hc;have hf':qf (fun b=>b<w.1.size) wr X (bsV ps[k]):=hf.keep fun b q=>HO.out.2.block b q
   have e1:=atf (c8 hkl)
   have e2:(ps.take k).flatten.length+ps[k].length≤4000000:=by
    have:=a7z (ps:=ps) (k+1);rw[e1,d7]at this;exact o8 this HJ.out
   obtain⟨v',w',hrun,ho,hb⟩:=aih (P:=prog) (t:=22) (ty:=22) HO.out.1 HO.out.2.size HU.out underlying22 hu5 dc X ps[k].length c' (bsV ps[k]) (by rw[xl];omega) hf' (af0 _) (by unfold maxLen;omega) om
   have HN:Hid (aax w 5 1 v' (ps.take (k+1)).flatten.length (bsV (ps.take (k+1)).flatten) w'):=hid (by
    rw[e1,ade,d7];exact⟨ho,HO.out.2.trans hb⟩)
   have HRUN:=hid hrun;have hpl:ps[k].length≤4000000:=by omega
   clear hrun ho hb hc hf hf' e1 e2 HO;generalize ps[k].length=x at *;have i1:(k:Int)<n:=by omega
   have i2:(0:Int) ≤(k:Int):=n8 _;go_wp2_with (at_builtin;refine qw rfl _ _ 22 rfl _ _ _ rfl rfl HRUN.out ?_)
   go_roundg (n-(k+1))
   case measure=>omega
   case rel=>exact⟨k+1,by omega,by omega,by simp,HN⟩
  ·obtain rfl:k=n:=by omega
   go_wp2_with fail;go_ret;exact⟨_,rfl,by rw[← HE.out];exact HO.out⟩
theorem al4 (V:List VeD):(zg V).length≤V.length:=by
 unfold zg;rw[b0s];exact b3l _ _
theorem a7t (l:List UInt8) (hl:l.length≤4000000):abo (aez l) 400000000:=by
 have h0:abo [0,0,0,0,0,0,0,0,0,0,0,0,0] 0:=fun k=>by
  have:([0,0,0,0,0,0,0,0,0,0,0,0,0]:List Int).getD k 0=0:=by
   rcases b01 k 13 with q|q
   ·match k,q with
    | 0,_=>rfl
    | 1,_=>rfl
    | 2,_=>rfl
    | 3,_=>rfl
    | 4,_=>rfl
    | 5,_=>rfl
    | 6,_=>rfl
    | 7,_=>rfl
    | 8,_=>rfl
    | 9,_=>rfl
    | 10,_=>rfl
    | 11,_=>rfl
    | 12,_=>rfl
   ·rw[l9,t9 (by exact q)];rfl
  omega
 have h1:=ac2 l;have h2:=ajq (af4 (q9 l).1 h0) 0 (n:=(l.length:Int)) (n8 _);exact h2.le om
theorem ag5.below {w w':World} {A:Option Addr} {ps:List (List UInt8)} (h:ag5 (fun b=>b<w.1.size) w A ps) (hb:Below w.1.size w w'):ag5 (fun b=>b<w'.1.size) w' A ps:=by
 obtain⟨V,h1,h2⟩:=h;refine⟨V,(h1.keep fun b q=>hb.block b q).less fun b q=>e9 q hb.size,fun j p hp=>?_⟩;obtain⟨v,hv,X,c,e,hc,hf⟩:=h2 j p hp;exact⟨v,hv,X,c,e,hc,(hf.keep fun b q=>hb.block b q).less fun b q=>e9 q hb.size⟩
theorem ahq {W:World} {g b:Nat} {l r:List UInt8} (h:zz W g b (aez l) r) :
 Calls prog 24 #[.pointer (some ⟨g,0,none⟩)] W fun e w'=>e=.returned (.agg (abh (aez l)))∧zz w' g b (aez l) r∧Below W.1.size W w':=by
 by_cases hl:l=[]
 ·subst hl;exact aqr h
 ·refine ajb h ?_;have hp:0<l.length:=b2f.2 hl;have e:=(ay0 (q9 l).1 [0,0,0,0,0,0,0,0,0,0,0,0,0] rfl (bf2 l)).1;unfold aez;rw[as9 (by rw[alt];decide),e,if_pos rfl];simp;omega
