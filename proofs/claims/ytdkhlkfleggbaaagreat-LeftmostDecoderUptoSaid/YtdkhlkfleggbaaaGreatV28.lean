/- Parts. -/
import Derived.Test.YtdkhlkfleggbaaaGreatV27
namespace Go.Proofs.YtdkhlkfleggbaaaGreat
set_option maxHeartbeats 3000000
set_option maxRecDepth 8000
open Tryz
set_option linter.unusedVariables false
open Go.RowKit
theorem bgr {L:List Value} (h:L.length=5):(prog.info? 62).map (·.size)=some L.toArray.size:=by
 rw[o6,h];kernel_rfl
theorem bga {L:List Value} (h:L.length=65):(prog.info? 58).map (·.size)=some L.toArray.size:=by
 rw[o6,h];kernel_rfl
theorem a8q (w:World):(zeroValue 58).run prog w=.ok (.agg acm.toArray) w:=by kernel_rfl
theorem a6n {w:World} {V:Value} (x:Int×Nat×ahh) (HF:∀W,Below w.1.size w W->Q_ (Calls prog 46 #[V] W (acq x W))) :
 Calls prog 45 #[V] w (ayu ({aeq with T:=x.2.2},x.2.1,x.1) w):=by
 have HZ:=λW=>q_ (adr W)
 have HZU:=λW=>q_ (ac2 W)
 obtain⟨E,n,u⟩:=x;unfold acq at HF;dsimp only at *;go_enter func45,ntmps45;go_wp2_with (refine qc rfl 64 rfl al3 (HZ _).o ?_;intro W1 hW1;have HK1:=q_ (Blk.newL (L:=ac7) hW1 rfl);have HB1:=q_ hW1.bel;have HS1:=q_ hW1.sz;clear hW1);refine(HF _ HB1.o).o.mono ?_;rintro e w1 ⟨L,rfl,hq,hb⟩;have HQ1:=q_ hq;have HL:=q_ hq.len;have HK2:=q_ (HK1.o.on hb);have HB2:=q_ (qb HB1.o hb);have HLT:=q_ hb.size;have HB0:=λW=>q_ (bac HL.o W)
 have HON:=q_ (kf (C:=L.toArray) (λv hv=>hq.ones v (by simpa using hv)));have HSZ:=q_ (bgr HL.o);have hit:∀W,(∀b,W1.1.size<=b/\b<w1.1.size->W.heap[b]?=w1.heap[b]?)->ItM (λb=>W1.1.size<=b/\b<w1.1.size) W (itL 0 false ki acm L) {aeq with T:=u}:=λW hk=>⟨_,_,_,rfl,ad3.zero _ _,NmQ.zero _ _,hq.keep hk⟩
 have HIT:=q_ hit;have HION:=q_ (ak0 (hit w1 λ_ _=>rfl));have HISZ:=q_ (ak1 (hit w1 λ_ _=>rfl).len);have HILN:=q_ (hit w1 λ_ _=>rfl).len;generalize hC:itL 0 false ki acm L=C at *;have HCC:=q_ hC;clear hb HB1 HK1 HF hq hit hC
 go_wp2_with (first
  | (refine qc rfl 62 rfl pkA (HZU _).o ?_;intro W2 hW2;have HU2:=q_ (Blk.newL (L:=pkA.toList) hW2 rfl);have HK3:=q_ (HK2.o.on hW2.bel);have HB3:=q_ (qb HB2.o hW2.bel);have HP2:=q_ (λb (q:b<w1.1.size)=>hW2.bel.block b q);clear hW2)
  | (refine qe rfl 62 _ _ rfl w1.1.size 0 L.toArray rfl rfl (yr HU2.o HL.o) HSZ.o HON.o ?_;intro W3 hs;have HU3:=q_ (ace HU2.o HL.o hs);have HK4:=q_ (HK3.o.far hs (by have:=HK2.o.lt;omega));have HB4:=q_ (HB3.o.trans (hs.below HB2.o.size));have HP3:=q_ (λb (q:b<w1.1.size)=>(hs.far b (b09 q)).trans (HP2.o b q));clear hs)
  | refine b0q rfl 62 _ rfl w1.1.size 0 rfl L _ HU3.o.rg underlying62 sm (by rw[HL.o];kernel_rfl) ?_
  | refine zf (u:=.agg L.toArray) rfl 64 4 _ rfl rfl (HB0 _).o ?_
  | (refine qe rfl 64 _ _ rfl w.1.size 0 C.toArray rfl rfl (yr HK4.o HILN.o) HISZ.o HION.o ?_;intro W5 hs;have HK5:=q_ (ace HK4.o HILN.o hs);have HB5:=q_ (HB4.o.trans (hs.below (a8 _)));have HP5:=q_ (o3 hs.sz (λb (q:W1.1.size<=b/\b<w1.1.size)=>(hs.far b (by have:=HS1.o;omega)).trans (HP3.o b q.2)));have HZ3:=q_ (HU3.o.lt);clear hs))
 have HLD:=q_ (aqj HK5.o HILN.o);refine b9 (v:=.tuple #[.agg C.toArray,.int .i64 n,.int .i64 E]) (by rw[zq rfl];simp[asAddr,Result.andThen,HLD.o]) rfl ⟨C,rfl,?_,HB5.o⟩;exact(HIT.o W5 HP5.o.2).less λb q=>⟨by have:=HS1.o;omega,by rw[HP5.o.1];exact b1b q.2 HZ3.o⟩
theorem bb1 {w:World} (A:Option Addr) (c:Nat) (l:List UInt8) (hA:qf (λ_=>True) w A (bsV l)) (hll:l.length<=1100000) (hlc:l.length<=c) (x:NmD×Nat×Int) (HF:∀W,Below w.1.size w W->Q_ (Calls prog 44 #[.string (adl l)] W (a33 x W))) :
 Calls prog 43 #[.slice A l.length c] w (ayu ({aeq with N:=x.1},x.2.1,x.2.2) w):=by
 have HZ:=λW=>q_ (adr W)
 have HZU:=λW=>q_ (a8q W)
 obtain⟨u,n,E⟩:=x;unfold a33 at HF;dsimp only at *;obtain⟨k,hk⟩:∃k:Nat,min (l.length:Int) 82=(k:Int):=⟨min l.length 82,by omega⟩;have hk1:(k:Int) <=(l.length:Int):=by omega
 have hk0:(0:Int) <=(k:Int):=o5 _;have hkc:(k:Int) <=(c:Int):=by omega
 have hkl:(l.take 82).length=k:=by rw[l8];omega
 have HCV:∀W,Below w.1.size w W->Q_ (∀d,(convert 22 9 (.slice A k d)).run prog W=.ok (.string (adl l)) W):=λW hW=>q_ λd=>be0 (by have:=(hA.lt.below hW (λb q=>q.2)).first 82;rwa [ys]at this) k d hkl
 generalize adl l=t at *;generalize l.length=ln at *;clear hkl hA;go_enter func43,ntmps43;go_upto_region 1 with(refine qc rfl 64 rfl al3 (HZ _).o ?_;intro W1 hW1;have HK1:=q_ (Blk.newL (L:=ac7) hW1 rfl);have HB1:=q_ hW1.bel;have HS1:=q_ hW1.sz;clear hW1)
 have hcv:=(HCV W1 HB1.o).o;go_wp2_with fail;refine(HF _ HB1.o).o.mono ?_;rintro e w1 ⟨Ca,rfl,hqv,hb⟩;obtain⟨L,rfl⟩:∃L:List Value,Ca=L.toArray:=⟨Ca.toList,by simp⟩;have hq:NmQ (λb=>W1.1.size<=b/\b<w1.1.size) w1 L u:=by have:=hqv.toQ;rwa [b1d]at this
 clear hqv hcv HCV;have HQ1:=q_ hq;have HL:=q_ hq.len;have HK2:=q_ (HK1.o.on hb);have HB2:=q_ (qb HB1.o hb);have HLT:=q_ hb.size;have HB0:=λW=>q_ (bab HL.o W)
 have HON:=q_ (kf (C:=L.toArray) (λv hv=>hq.ones v (by simpa using hv)));have HSZ:=q_ (bga HL.o);have hit:∀W,(∀b,W1.1.size<=b/\b<w1.1.size->W.heap[b]?=w1.heap[b]?)->ItM (λb=>W1.1.size<=b/\b<w1.1.size) W (itL 0 false ki L ac8) {aeq with N:=u}:=λW hk=>⟨_,_,_,rfl,ad3.zero _ _,hq.keep hk,ae6.zero _ _⟩
 have HIT:=q_ hit;have HION:=q_ (ak0 (hit w1 λ_ _=>rfl));have HISZ:=q_ (ak1 (hit w1 λ_ _=>rfl).len);have HILN:=q_ (hit w1 λ_ _=>rfl).len;generalize hC:itL 0 false ki L ac8=C at *;have HCC:=q_ hC;clear hb HB1 HK1 HF hq hit hC
 go_wp2_with (first
  | (refine qc rfl 58 rfl acm.toArray (HZU _).o ?_;intro W2 hW2;have HU2:=q_ (Blk.newL (L:=acm) hW2 rfl);have HK3:=q_ (HK2.o.on hW2.bel);have HB3:=q_ (qb HB2.o hW2.bel);have HP2:=q_ (λb (q:b<w1.1.size)=>hW2.bel.block b q);clear hW2)
  | (refine qe rfl 58 _ _ rfl w1.1.size 0 L.toArray rfl rfl (yr HU2.o HL.o) HSZ.o HON.o ?_;intro W3 hs;have HU3:=q_ (ace HU2.o HL.o hs);have HK4:=q_ (HK3.o.far hs (by have:=HK2.o.lt;omega));have HB4:=q_ (HB3.o.trans (hs.below HB2.o.size));have HP3:=q_ (λb (q:b<w1.1.size)=>(hs.far b (b09 q)).trans (HP2.o b q));clear hs)
  | refine b0q rfl 58 _ rfl w1.1.size 0 rfl L _ HU3.o.rg underlying58 sm (by rw[HL.o];kernel_rfl) ?_
  | refine zf (u:=.agg L.toArray) rfl 64 3 _ rfl rfl (HB0 _).o ?_
  | (refine qe rfl 64 _ _ rfl w.1.size 0 C.toArray rfl rfl (yr HK4.o HILN.o) HISZ.o HION.o ?_;intro W5 hs;have HK5:=q_ (ace HK4.o HILN.o hs);have HB5:=q_ (HB4.o.trans (hs.below (a8 _)));have HP5:=q_ (o3 hs.sz (λb (q:W1.1.size<=b/\b<w1.1.size)=>(hs.far b (by have:=HS1.o;omega)).trans (HP3.o b q.2)));have HZ3:=q_ (HU3.o.lt);clear hs))
 have HLD:=q_ (aqj HK5.o HILN.o);refine b9 (v:=.tuple #[.agg C.toArray,.int .i64 n,.int .i64 E]) (by rw[zq rfl];simp[asAddr,Result.andThen,HLD.o]) rfl ⟨C,rfl,?_,HB5.o⟩;exact(HIT.o W5 HP5.o.2).less λb q=>⟨by have:=HS1.o;omega,by rw[HP5.o.1];exact b1b q.2 HZ3.o⟩
def avf (v:VeD) (w:World) (e:Ending) (w':World):Prop:=∃L,e=.returned (.agg (veL v.d v.p v.n v.e L).toArray)/\ItM (Bk w.1.size w') w' L v.x/\Below w.1.size w w'
def bhy:Array (Nat×Nat):=#[(0,1),(1,1),(2,1),(3,1),(4,120)]
theorem a85 (d p n e:Int) {L:List Value} (hl:L.length=120):Instr.fill (λi=>bhy[i]?) (veA d p n e) [(4,.agg L.toArray)]=some (veL d p n e L).toArray:=by
 rw[yu (off:=4) (L:=L) rfl (by rw[hl];rfl) (by rw[hl];show 4+120<=124;omega)];show some _=some _
 congr 2
 have:=acu [Value.int .i64 d,.int .i64 p,.int .i64 n,.int .i64 e] ac7 [] L (by rw[hl];rfl);simp only[b0p]at this;exact this
theorem ad7 {d p n e:Int} (k:Nat) (x:Int) (hk:k<4) (r:List (Nat×Value)):Instr.fill (λi=>bhy[i]?) (veA d p n e) ((k,.int .i64 x)::r)=Instr.fill (λi=>bhy[i]?) (veA (if k=0 then x else d) (if k=1 then x else p) (if k=2 then x else n) (if k=3 then x else e)) r:=by
 have:k=0\/k=1\/k=2\/k=3:=by omega
 rcases this with rfl|rfl|rfl|rfl
 ·rw[yu (off:=0) (L:=[.int .i64 x]) rfl rfl (by show 0+1<=124;omega)];rfl
 ·rw[yu (off:=1) (L:=[.int .i64 x]) rfl rfl (by show 1+1<=124;omega)];rfl
 ·rw[yu (off:=2) (L:=[.int .i64 x]) rfl rfl (by show 2+1<=124;omega)];rfl
 ·rw[yu (off:=3) (L:=[.int .i64 x]) rfl rfl (by show 3+1<=124;omega)];rfl
theorem a4s {L:List Value} (hl:L.length=120) (p n:Int) (w:World):(Instr.build 66 #[(0,.int .i64 2),(1,.int .i64 p),(2,.int .i64 n),(4,.agg L.toArray)]).run prog w=.ok (.agg (veL 2 p n 0 L).toArray) w:=by
 refine acr (z:=veA 0 0 0 0) (pl:=bhy) underlying66 (ag3 w) kr ?_;show Instr.fill _ (veA 0 0 0 0) ((0,.int .i64 2)::(1,.int .i64 p)::(2,.int .i64 n)::(4,.agg L.toArray)::[])=_;rw[ad7 0 _ dc,ad7 1 _ dc,ad7 2 _ dc];exact a85 _ _ _ _ hl
theorem azc {L:List Value} (hl:L.length=120) (p n e:Int) (w:World):(Instr.build 66 #[(0,.int .i64 2),(1,.int .i64 p),(2,.int .i64 n),(3,.int .i64 e),(4,.agg L.toArray)]).run prog w=.ok (.agg (veL 2 p n e L).toArray) w:=by
 refine acr (z:=veA 0 0 0 0) (pl:=bhy) underlying66 (ag3 w) kr ?_;show Instr.fill _ (veA 0 0 0 0) ((0,.int .i64 2)::(1,.int .i64 p)::(2,.int .i64 n)::(3,.int .i64 e)::(4,.agg L.toArray)::[])=_;rw[ad7 0 _ dc,ad7 1 _ dc,ad7 2 _ dc,ad7 3 _ dc];exact a85 _ _ _ _ hl
theorem aza (p:Int) (w:World):(Instr.build 64 #[(0,.int .i64 p),(1,.bool true)]).run prog w=.ok (.agg (itL p true ki acm ac8).toArray) w:=by kernel_rfl
theorem atg {P:Program} {ops:Array Oper} {rest:List Oper} {o:Oper} {a:Act} {w:World} {Q:Exit->Act->World->Prop} (hgd:o.guard=none) (t:TypeId) (x0 x1 x2 x3 x4:Operand) (ho:o.op=.build t #[(0,x0),(1,x1),(2,x2),(3,x3),(4,x4)]) {u0 u1 u2 u3 u4 v:Value} (h0:a.eval x0=u0) (h1:a.eval x1=u1) (h2:a.eval x2=u2) (h3:a.eval x3=u3) (h4:a.eval x4=u4) (hr:(Instr.build t #[(0,u0),(1,u1),(2,u2),(3,u3),(4,u4)]).run P w=.ok v w)
 (h:wpList P ops Q rest (a.put o.dst v) w):wpList P ops Q (o::rest) a w:=abi hgd t _ ho #[(0,u0),(1,u1),(2,u2),(3,u3),(4,u4)] (by simp[h0,h1,h2,h3,h4]) hr h
theorem atf {P:Program} {ops:Array Oper} {rest:List Oper} {o:Oper} {a:Act} {w:World} {Q:Exit->Act->World->Prop} (hgd:o.guard=none) (t:TypeId) (x0 x1 x2 x4:Operand) (ho:o.op=.build t #[(0,x0),(1,x1),(2,x2),(4,x4)]) {u0 u1 u2 u4 v:Value} (h0:a.eval x0=u0) (h1:a.eval x1=u1) (h2:a.eval x2=u2) (h4:a.eval x4=u4) (hr:(Instr.build t #[(0,u0),(1,u1),(2,u2),(4,u4)]).run P w=.ok v w)
 (h:wpList P ops Q rest (a.put o.dst v) w):wpList P ops Q (o::rest) a w:=abi hgd t _ ho #[(0,u0),(1,u1),(2,u2),(4,u4)] (by simp[h0,h1,h2,h4]) hr h
theorem ae4 {d p n e:Int} {L:List Value} (h:L.length=120):(veL d p n e L).length=124:=by simp[veL,h]
theorem a9k {W:World} {b:Nat} {C:List Value} (h:Blk W b C) (hl:C.length=124):(loadVar 66 ⟨b,0,none⟩).run prog W=.ok (.agg C.toArray) W:=
 t9 (P:=prog) W b 0 66 C _ h.rg underlying66 sm (by rw[hl];kernel_rfl)
theorem alw {d p n e:Int} {L:List Value} (h:∀v∈L,v.oneCell'=true):(veL d p n e L).toArray.all (·.oneCell')=true:=kf λv hv=>by
 simp only[veL,b03]at hv;rcases hv with rfl|rfl|rfl|rfl|hv
 ·rfl
 ·rfl
 ·rfl
 ·rfl
 ·exact h v hv
theorem alx {C:List Value} (h:C.length=124):(prog.info? 66).map (·.size)=some C.toArray.size:=by
 rw[o6,h];kernel_rfl
theorem ItM.odd (Q:Nat->Prop) (w:World) (p:Int):ItM Q w (itL p true ki acm ac8) {aeq with pr:=p,od:=true}:=⟨_,_,_,rfl,ad3.zero Q w,NmQ.zero Q w,ae6.zero Q w⟩
theorem ItM.proto {Q:Nat->Prop} {w:World} {L:List Value} {x:ItD} (h:ItM Q w L x):∃R,L=.int .i64 x.pr::R/\∀p w',(∀b,Q b->w'.heap[b]?=w.heap[b]?)->ItM Q w' (.int .i64 p::R) {x with pr:=p}:=by
 obtain⟨U,N,T,rfl,h1,h2,h3⟩:=h;exact⟨_,rfl,λp w' hk=>⟨U,N,T,rfl,h1.keep hk,h2.keep hk,h3.keep hk⟩⟩
theorem bgv {Q:Nat->Prop} {w:World} (A:Option Addr) (c:Nat) (x:UInt8) (l:List UInt8) (p:Int) (r:ItD×Nat×Int) (h:qf Q w A (bsV (x::l))) (hp:xz x=p) (hp0:p≠0) (hm:(x::l).length<=1100000) (hn1:r.2.1<=1100000)
 (HF:∀W,Below w.1.size w W->Q_ (Calls prog (a1c p) #[.slice A (x::l).length c] W (ayu r W))) :
 Calls prog 10 #[.slice A (x::l).length c] w (avf (aha p r) w):=by
 have HZ:=λW=>q_ (ag3 W)
 have HZI:=λW=>q_ (adr W)
 have HP:∀W,Q_ (Calls prog 13 #[.int .u8 (x.toNat:Int)] W λe w'=>e=.returned (.int .i64 p)/\W=w'):=λW=>q_ (by have:=amp x W;rw[hp]at this;exact this)
 have HO:∀W,Q_ (Calls prog 26 #[.int .i64 p] W λe w'=>e=.returned (.agg #[.func (Fn.func (a1c p)) #[] #[]])/\Below W.1.size W w'):=λW=>q_ (bb2 p W)
 obtain⟨b,off,rfl,-,hc⟩:=h 0 (bV x) rfl;have hb:=ab6 hc;have HC:∀W,Below w.1.size w W->Q_ (W.cell? ⟨b,off,none⟩=some (.int .u8 (x.toNat:Int))):=λW hW=>q_ ((hW.cell (p:=⟨b,off+0,none⟩) hb).trans hc)
 have hl:(0:Int)<((x::l).length:Int):=by simp only[n6];omega
 obtain⟨y,n,E⟩:=r;have HE:=q_ (show aha p (y,n,E)=if 0<n then(if E=0 then⟨2,p,n,0,{y with pr:=p}⟩else⟨2,p,n,E,{aeq with pr:=p,od:=true}⟩)else if E=2 then⟨0,p,0,0,aeq⟩else⟨1,p,0,E,aeq⟩from rfl);generalize aha p (y,n,E)=res at *;generalize (x::l).length=L at *;have HCL:=λx W=>bl8 p x W
 generalize a1c p=F at *;have hl0:((L:Int)==0)=false:=by rw[l7];omega
 have hpb:(p==0)=false:=by rw[l7];exact hp0
 unfold ayu at HF;dsimp only at *;clear hc hb hp h hp0;have HFD:=λW=>baw F W
 go_enter func10,ntmps10;go_upto_region 3 with(refine qc rfl 66 rfl (veA 0 0 0 0) (HZ _).o ?_;intro W1 hW1;have HK1:=q_ (Blk.newL (L:=veL 0 0 0 0 ac7) hW1 rfl);have HBB1:=q_ hW1.bel;clear hW1)
 have c0:=(HC _ HBB1.o).o;go_wp2_with (refine(HP _).o.mono ?_;rintro e w' ⟨rfl,rfl⟩);refine(HO _).o.mono ?_;rintro e w2 ⟨rfl,hb⟩;have HK2:=q_ (HK1.o.on hb);have HBB2:=q_ (qb HBB1.o hb);clear hb HK1 HBB1 c0 HO;go_wp2_with fail;refine(HF _ HBB2.o).o.mono ?_;rintro e w3 ⟨I,rfl,hit,hb⟩;have HK3:=q_ (HK2.o.on hb);have HBB3:=q_ (qb HBB2.o hb);have HIL:=q_ hit.len;have HION:=q_ (ak0 hit);have HISZ:=q_ (ak1 hit.len);obtain⟨R,hR,hpr⟩:=hit.proto;have HPR:=q_ hpr;have HRI:=q_ hR;have HW23:=q_ (o3 HK2.o.lt hb.size);clear hb HK2 HBB2 HF hit hR hpr
 go_upto_region 7 with(first
  | (refine qc rfl 64 rfl al3 (HZI _).o ?_;intro W4 hW;have HI4:=q_ (Blk.newL (L:=ac7) hW rfl);have HK4:=q_ (HK3.o.on hW.bel);have HBB4:=q_ (qb HBB3.o hW.bel);have HP4:=q_ (λb (q:b<w3.1.size)=>hW.bel.block b q);clear hW)
  | (refine qe rfl 64 _ _ rfl w3.1.size 0 I.toArray rfl rfl (yr HI4.o HIL.o) HISZ.o HION.o ?_;intro W5 hs;have HI5:=q_ (ace HI4.o HIL.o hs);have HK5:=q_ (HK4.o.far hs (by have:=HK3.o.lt;omega));have HBB5:=q_ (HBB4.o.trans (hs.below HBB3.o.size));have HP5:=q_ (λb (q:b<w3.1.size)=>(hs.far b (b09 q)).trans (HP4.o b q));clear hs))
 have hi5:=HI5.o;rw[HRI.o]at hi5;have i0:=hi5.cell 0 (v:=.int .i64 y.pr) rfl;have j0:=HI5.o.fz 0;have hst:qq W5 (W5.setCell ⟨w3.1.size,0,none⟩ (.int .i64 p)) w3.1.size 0 [.int .i64 p]:=zm (HI5.o.there 0 1 (by rw[HIL.o];omega));have HK6:Q_ (Blk (W5.setCell ⟨w3.1.size,0,none⟩ (.int .i64 p)) w.1.size (veL 0 0 0 0 ac7)):=q_ (HK5.o.far hst (by have:=HK3.o.lt;omega));have HBB6:Q_ (Below w.1.size w (W5.setCell ⟨w3.1.size,0,none⟩ (.int .i64 p))):=q_ (HBB5.o.trans (hst.below HBB3.o.size))
 have HI6:Q_ (Blk (W5.setCell ⟨w3.1.size,0,none⟩ (.int .i64 p)) w3.1.size (.int .i64 p::R)):=q_ (by
  have:=Blk.put (A:=[]) (M:=[Value.int .i64 y.pr]) (D:=R) hi5 hst rfl rfl
  simpa using this)
 have HP6:=q_ (λb (q:b<w3.1.size)=>(hst.far b (b09 q)).trans (HP5.o b q));have HRL:Q_ (R.length=119):=q_ (by have:=HIL.o;rw[HRI.o]at this;simpa using this);clear hst HK5 HBB5 HBB4 HK4 HI4 hi5 HP4 HP5;go_upto_region 8 with fail;clear i0 j0 HI5;generalize W5.setCell ⟨w3.1.size,0,none⟩ (.int .i64 p)=W6 at *
 by_cases hn:0<n
 ·have hnI:(0:Int)<(n:Int):=by omega
  by_cases hE:E=0
  ·subst hE;have hre:=HE.o;rw[if_pos hn,if_pos rfl]at hre;have HRE:=q_ hre;have HIT:=q_ (HPR.o p W6 (λb q=>HP6.o b q.2));have HI7:=q_ (HIT.o.len);have HB0:=λW=>q_ (a4s HI7.o p n W)
   have HVL:=q_ (ae4 (d:=2) (p:=p) (n:=n) (e:=0) HI7.o);have HVO:=q_ (alw (d:=2) (p:=p) (n:=n) (e:=0) HIT.o.ones);have HVS:=q_ (alx HVL.o);clear hre hn
   go_wp2_with (first
    | refine b0q rfl 64 _ rfl w3.1.size 0 rfl (.int .i64 p::R) _ HI6.o.rg underlying64 sm (by rw[HI7.o];kernel_rfl) ?_
    | refine atf (u0:=.int .i64 2) (u1:=.int .i64 p) (u2:=.int .i64 n) (u4:=.agg (Value.int .i64 p::R).toArray) rfl 66 _ _ _ _ rfl rfl rfl rfl rfl (HB0 _).o ?_
    | (refine qe rfl 66 _ _ rfl w.1.size 0 (veL 2 p n 0 (.int .i64 p::R)).toArray rfl rfl (yr HK6.o HVL.o) HVS.o HVO.o ?_;intro W7 hs;have HK7:=q_ (ace HK6.o HVL.o hs);have HB7:=q_ (HBB6.o.trans (hs.below (a8 _)));have HP7:=q_ (o3 hs.sz hs.far);clear hs))
   try go_frame
   have HLD:=q_ (a9k HK7.o HVL.o);have HLT:=q_ HI6.o.lt;refine b9 (v:=.agg (veL 2 p n 0 (.int .i64 p::R)).toArray) (by rw[aa7 rfl];simp[asAddr,Result.andThen,HLD.o]) rfl ?_;rw[HRE.o];refine⟨_,rfl,(HIT.o.keep λb q=>HP7.o.2 b (by have:=HW23.o;have:=q.1;omega)).less λb q=>⟨by have:=HW23.o;have:=q.1;omega,?_⟩,HB7.o⟩;rw[HP7.o.1];have:=q.2;have:=HLT.o;omega
  ·have heb:(E != 0)=true:=by rw[b0r];exact hE
   have hre:=HE.o;rw[if_pos hn,if_neg hE]at hre;have HRE:=q_ hre;have HIT:=q_ (ItM.odd (λ_=>False) W6 p);have HI7:=q_ (HIT.o.len);have HB0:=λW=>q_ (azc HI7.o p n E W)
   have HB1:=λW=>q_ (aza p W)
   have HVL:=q_ (ae4 (d:=2) (p:=p) (n:=n) (e:=E) HI7.o);have HVO:=q_ (alw (d:=2) (p:=p) (n:=n) (e:=E) HIT.o.ones);have HVS:=q_ (alx HVL.o);clear hre hn hE
   go_wp2_with (first
    | refine aff (u:=.int .i64 p) (u':=.bool true) rfl 64 0 1 _ _ rfl rfl rfl (HB1 _).o ?_
    | refine atg (u0:=.int .i64 2) (u1:=.int .i64 p) (u2:=.int .i64 n) (u3:=.int .i64 E) (u4:=.agg (itL p true ki acm ac8).toArray) rfl 66 _ _ _ _ _ rfl rfl rfl rfl rfl rfl (HB0 _).o ?_
    | (refine qe rfl 66 _ _ rfl w.1.size 0 (veL 2 p n E (itL p true ki acm ac8)).toArray rfl rfl (yr HK6.o HVL.o) HVS.o HVO.o ?_;intro W7 hs;have HK7:=q_ (ace HK6.o HVL.o hs);have HB7:=q_ (HBB6.o.trans (hs.below (a8 _)));clear hs))
   try go_frame
   have HLD:=q_ (a9k HK7.o HVL.o);refine b9 (v:=.agg (veL 2 p n E (itL p true ki acm ac8)).toArray) (by rw[aa7 rfl];simp[asAddr,Result.andThen,HLD.o]) rfl ?_;rw[HRE.o];exact⟨_,rfl,ItM.odd _ _ p,HB7.o⟩
 ·obtain rfl:n=0:=by omega
  have HB1:=λW=>q_ (a4q 0 p W)
  have HB2:=λW=>q_ (azb 1 p E W)
  have hre:=HE.o;rw[if_neg hn]at hre;clear hn
  by_cases h2:E=2
  ·subst h2;rw[if_pos rfl]at hre;have HRE:=q_ hre;clear hre
   go_wp2_with (first
    | refine aff (u:=.int .i64 0) (u':=.int .i64 p) rfl 66 0 1 _ _ rfl rfl rfl (HB1 _).o ?_
    | (refine qe rfl 66 _ _ rfl w.1.size 0 (veA 0 p 0 0) rfl rfl (HK6.o.there 0 124 (a8 _)) (ao2 _ _ _ _) (ao1 _ _ _ _) ?_;intro W7 hs;have HK7:=q_ (HK6.o.all hs rfl);have HB7:=q_ (HBB6.o.trans (hs.below (a8 _)));clear hs))
   try go_frame
   have HLD:=q_ (t9 (P:=prog) W7 w.1.size 0 66 (veA 0 p 0 0).toList _ HK7.o.rg underlying66 rfl kr);refine b9 (v:=.agg (veA 0 p 0 0)) (by rw[aa7 rfl];simp[asAddr,Result.andThen,HLD.o]) rfl ?_;rw[HRE.o];exact⟨ac7,rfl,ItM.zero _ _,HB7.o⟩
  ·have he2:(E==2)=false:=by rw[l7];exact h2
   rw[if_neg h2]at hre;have HRE:=q_ hre;clear hre h2
   go_wp2_with (first
    | refine ate (u:=.int .i64 1) (u':=.int .i64 p) (u'':=.int .i64 E) rfl 66 0 1 3 _ _ _ rfl rfl rfl rfl (HB2 _).o ?_
    | (refine qe rfl 66 _ _ rfl w.1.size 0 (veA 1 p 0 E) rfl rfl (HK6.o.there 0 124 (a8 _)) (ao2 _ _ _ _) (ao1 _ _ _ _) ?_;intro W7 hs;have HK7:=q_ (HK6.o.all hs rfl);have HB7:=q_ (HBB6.o.trans (hs.below (a8 _)));clear hs))
   try go_frame
   have HLD:=q_ (t9 (P:=prog) W7 w.1.size 0 66 (veA 1 p 0 E).toList _ HK7.o.rg underlying66 rfl kr);refine b9 (v:=.agg (veA 1 p 0 E)) (by rw[aa7 rfl];simp[asAddr,Result.andThen,HLD.o]) rfl ?_;rw[HRE.o];exact⟨ac7,rfl,ItM.zero _ _,HB7.o⟩
theorem ayu.of {r r':ItD×Nat×Int} {w:World} {e:Ending} {w':World} (h:ayu r w e w') (hr:r=r'):ayu r' w e w':=hr▸h
theorem aug {Q:Nat->Prop} {w:World} (A:Option Addr) (c:Nat) (l:List UInt8) (h:qf Q w A (bsV l)) (hm:l.length<=1100000) (hc:l.length<=c):Calls prog 10 #[.slice A l.length c] w (avf (zg l) w):=by
 cases l with
 | nil=>
  refine(bb0 A c w).mono ?_;rintro e w' ⟨rfl,hb⟩;exact⟨ac7,rfl,ItM.zero _ _,hb⟩
 | cons x l=>
  by_cases hp:xz x=0
  ·rw[vz,if_pos hp];refine(a6m A c x l h hp (by unfold maxLen;omega)).mono ?_;rintro e w' ⟨rfl,hb⟩;exact⟨ac7,rfl,ItM.zero _ _,hb⟩
  ·rw[vz,if_neg hp];have hfl:=λW (hW:Below w.1.size w W)=>h.lt.below hW (λb q=>q.2)
   have hsz:=(amb (xz x) (x::l)).1
   refine bgv A c x l _ _ h rfl hp hm (by
    rcases b4x (ad5 (xz x) (x::l)).2.1 with q|q
    ·omega
    ·have:=hsz q;omega) λW hW=>q_ ?_
   rcases aiq x with q|q|q|q
   ·exact absurd q hp
   ·rw[q];refine(a6o (agy (x::l)) λW' hW'=>q_ (as9 A c (x::l) (hfl W' (qb hW hW')) hm hc)).mono λe w' hd=>hd.of ?_
    unfold ad5;rw[if_pos rfl]
   ·rw[q];refine(bb1 A c (x::l) ((hfl W hW).less λ_ _=>trivial) hm hc (yt (adl (x::l))) λW' hW'=>q_ (awl (by rw[at9];omega))).mono λe w' hd=>hd.of ?_
    unfold ad5;rw[if_neg dc,if_pos rfl]
   ·rw[q];refine(a6n (ab3 (x::l)) λW' hW'=>q_ (a29 A c (x::l) (hfl W' (qb hW hW')) hm hc)).mono λe w' hd=>hd.of ?_
    unfold ad5;rw[if_neg dc,if_neg dc]
theorem aru {W:World} {b:Nat} {d p n e:Int} {L:List Value} (h:Blk W b (veL d p n e L)):W.cell? ⟨b,0,none⟩=some (.int .i64 d)/\W.cell? ⟨b,1,none⟩=some (.int .i64 p)/\W.cell? ⟨b,2,none⟩=some (.int .i64 n)/\W.cell? ⟨b,3,none⟩=some (.int .i64 e)/\W.rangeAt b 4 L:=
 ⟨h.cell 0 rfl,h.cell 1 rfl,h.cell 2 rfl,h.cell 3 rfl,λj v hv=>h.cell (4+j) (by rw[show 4+j=j+1+1+1+1 from by omega];exact hv)⟩
def v5 (C:List Int) (N:Int):Prop:=∀k,0<=C.getD k 0/\C.getD k 0<=N
theorem at4 {Q:Nat->Prop} {w:World} {L:List Value} {x:ItD} (h:ItM Q w L x):∃R,L=.int .i64 x.pr::.bool x.od::R:=by
 obtain⟨U,N,T,rfl,-⟩:=h;exact⟨_,rfl⟩
def biz (x:ItD):Nat:=if x.od then 5+x.pr.toNat else 1+x.pr.toNat
theorem axb {Q:Nat->Prop} {W:World} {g b:Nat} {C:List Int} {l:List UInt8} {I:List Value} {x:ItD} (h:jr W g b C l) (hI:ItM Q W I x) (hp:x.pr=1\/x.pr=2\/x.pr=3) (hC:v5 C 1000000000) :
 Calls prog 58 #[.pointer (some ⟨g,0,none⟩),.agg I.toArray] W λe w'=>e=.returned (.tuple #[])/\jr w' g b (q7 C (biz x) 1) l/\qi (λj=>j<W.1.size/\j≠g) W w':=by
 obtain⟨R,hR⟩:=at4 hI;have HIL:=q_ hI.len;have HD:=q_ h;unfold biz;obtain⟨pr,od,U0,N0,T0⟩:=x;dsimp only at *;have HRI:=q_ hR;clear hI h hR;obtain⟨k,hk⟩:∃k,(if od=true then 5+pr.toNat else 1+pr.toNat)=k:=⟨_,rfl⟩;rw[hk];have hk13:k<13:=by rw[<- hk];split<;>omega
 obtain⟨n,hn⟩:∃n,C.getD k 0=n:=⟨_,rfl⟩;have hn0:=(hC k).1;have hn1:=(hC k).2;rw[hn]at hn0 hn1
 have HCK:∀W1,Below W.1.size W W1->Q_ (W1.cell? ⟨g,k+1,none⟩=some (.int .i64 n)/\W1.frozen? ⟨g,k+1,none⟩=false):=λW1 hb=>q_ (by
  have:=(HD.o.on hb).cd k hk13;rw[hn]at this;exact⟨this,(HD.o.on hb).blk.fz _⟩)
 have HFIN:∀W1,Below W.1.size W W1->Q_ (jr (W1.setCell ⟨g,k+1,none⟩ (.int .i64 (n+1))) g b (q7 C k 1) l/\qi (λj=>j<W.1.size/\j≠g) W (W1.setCell ⟨g,k+1,none⟩ (.int .i64 (n+1)))):=λW1 hb=>q_ (by
  have hd:=(HD.o.on hb).set k (n+1) hk13;rw[<- hn]at hd ⊢;exact⟨hd,(qi.of_below hb λj q=>q.1).set (λq=>q.2 rfl) _ _⟩)
 clear hC hk13 hn;cases od<;>rcases hp with rfl|rfl|rfl
 all_goals
  have hk':=hk.symm;simp only[b2w,b4v,b5p,Int.reduceToNat,Nat.reduceAdd]at hk';subst hk';clear hk;simp only[Nat.reduceAdd]at HCK HFIN;go_enter func58,ntmps58;go_upto_region 1 with(refine qr rfl _ _ rfl I.toArray rfl ?_;intro W1 hW;have K1:=q_ (Blk.newL (L:=I) hW b1d);have HB1:=q_ hW.bel;clear hW)
  have hk1:=K1.o;rw[HRI.o]at hk1;have i0:=hk1.cell 0 rfl;have i1:=hk1.cell 1 rfl;obtain⟨ck,zk⟩:=(HCK W1 HB1.o).o;have HF1:=HFIN W1 HB1.o;clear hk1 K1 HCK HFIN;go_wp2_with fail
  go_region
  go_wp2_with fail
  first
   | exact b4t (v:=.tuple #[]) (by simp[results,results58,go_sem]) rfl ⟨rfl,HF1.o.1.drew,HF1.o.2.drew⟩
   | exact b9 (v:=.tuple #[]) (by simp[results,results58,go_sem]) rfl ⟨rfl,HF1.o.1.drew,HF1.o.2.drew⟩
theorem ar3 {P:Program} {a:Act} {w:World} {Q:Exit->Act->World->Prop} {first stuff:Code} (l:Nat) (J:Act->World->Prop) (μ:Act->World->Nat) (hf:findLabel (Code.seq first (Code.seq (Code.label l) stuff)) l=some (Code.seq Code.skip stuff)) (h0:first.wp P (Exit.then J (λ_ _ _=>False)) a w)
 (pass:∀a w,J a w->stuff.wp P (Exit.jump l (λa' w'=>J a' w'/\μ a' w'<μ a w) Q) a w):(Code.scope (Code.seq first (Code.seq (Code.label l) stuff))).wp P Q a w:=
 wp_scope_jumps l J μ hf (wp_seq (b5o h0 λe a w h=>by
  cases e with
  | normal=>
   exact wp_seq (wp_label (b5o (pass a w h) λe a' w' h=>by
    cases e with
    | goto l'=>exact⟨h.1,h.2.1⟩
    | normal=>exact h
    | exit id=>exact h
    | ret=>exact h
    | _=>exact h))
  | _=>exact h.elim)) λa w h=>wp_seq (wp_skip (pass a w h))
theorem al8 {C:List Int} {N:Int} (h:v5 C N) (k:Nat):v5 (q7 C k 1) (N+1):=λj=>by
 have h1:=h j;unfold q7
 by_cases e:j=k
 ·subst e;rw[l9,List.getElem?_set_self'];rw[l9]at h1;cases hc:C[j]? with
  | none=>rw[hc]at h1;simp at h1 ⊢;omega
  | some z=>
   rw[hc]at h1;rw[l9,hc];simp at h1 ⊢;omega
 ·rw[l9,b4f (λq=>e q.symm),<- l9];omega
theorem agf {N:Int}:∀(V:List VeD) {C:List Int},v5 C N->v5 (jp C V) (N+V.length)
 | [],C,h=>by simpa [jp]using h
 | v::V,C,h=>by
  have:=agf (N:=N+1) V (C:=aco C v) (al8 h _);show v5 (jp (aco C v) V) _;rw[n6];rw[show N +((V.length+1:Nat):Int)=N+1 +(V.length:Int)from by omega];exact this
theorem ac5 {w w':World} {B:Nat} {e:TypeId} {size:Nat} {v:Value} {n:Nat} {xs:List Value} (h:w.ownsRow B e size v n xs) (hk:∀k,B<=k->k<w.1.size->w'.heap[k]?=w.heap[k]?):w'.ownsRow B e size v n xs:=by
 refine⟨h.1,?_⟩;rcases h.2 with q|⟨g,cap,cur,h1,h2,h3,h4⟩
 ·exact .inl q
 ·exact .inr ⟨g,cap,cur,h1,h2,by rw[hk g h2 (o8.1 h3).1];exact h3,h4⟩
def xt (B:Nat) (v:Value) (X:List ItD) (w:World):Prop:=∃Ls,w.ownsRow B 64 120 v X.length Ls.flatten/\acd (λk=>B<=k/\k<w.1.size/\some k≠v.ownBlock) w Ls X
theorem xt.nil (B:Nat) (w:World):xt B (.slice none 0 0) [] w:=⟨[],b2p _ _ _ _,acd.nil _ _⟩
theorem xt.kept {B:Nat} {v:Value} {X:List ItD} {w w':World} (h:xt B v X w) (hk:∀k,B<=k->k<w.1.size->w'.heap[k]?=w.heap[k]?) (hz:w.1.size<=w'.1.size):xt B v X w':=by
 obtain⟨Ls,h1,h2⟩:=h;exact⟨Ls,ac5 h1 hk,(h2.keep λk q=>hk k q.1 q.2.1).less λk q=>⟨q.1,i9 q.2.1 hz,q.2.2⟩⟩
theorem xt.slice {B:Nat} {v:Value} {X:List ItD} {w:World} (h:xt B v X w):∃A c,v=.slice A X.length c/\X.length<=c:=by
 obtain⟨Ls,h1,-⟩:=h;obtain⟨A,c,h2,h3,-⟩:=zt h1;exact⟨A,c,h2,h3⟩
theorem a6e {w:World} {B:Nat} {e:TypeId} {size:Nat} {v:Value} {n:Nat} {xs:List Value} (h:w.ownsRow B e size v n xs) {k:Nat} (hk:v.ownBlock=some k):B<=k/\k<w.1.size:=by
 rcases h.2 with⟨q,-⟩|⟨g,cap,cur,q,hb,h3,-⟩
 ·subst q;cases hk
 ·subst q;simp only[Value.ownBlock,b2e]at hk;subst hk;exact⟨hb,(o8.1 h3).1⟩
theorem xt.own {B:Nat} {v:Value} {X:List ItD} {w:World} (h:xt B v X w) {k:Nat} (hk:v.ownBlock=some k):B<=k/\k<w.1.size:=by
 obtain⟨Ls,h1,-⟩:=h;exact a6e h1 hk
theorem a5w:(prog.info? 64).map (λi=>(i.zero,i.size,decide (i.bytes<=2000)))=some (some (.agg al3),120,true):=by kernel_rfl
theorem at3:∃i z,prog.info? 64=some i/\i.zero=some z/\i.size=120/\z.cells.size=120/\i.bytes<=2000:=by
 have h:=a5w;cases hi:prog.info? 64 with
 | none=>rw[hi]at h;cases h
 | some i=>
  rw[hi,b26,b2e,b35,b35]at h;exact⟨i,_,rfl,h.1,h.2.1,rfl,b1g h.2.2⟩
theorem xt.app {B:Nat} {v:Value} {X Y:List ItD} {w:World} (h:xt B v X w) (hB:B<=w.1.size) (A:Option Addr) (c:Nat) (Ms:List (List Value)) {R:Nat->Prop} (hf:qf R w A Ms.flatten) (hm:acd (λk=>B<=k/\k<w.1.size/\some k≠v.ownBlock) w Ms Y) (hn:X.length+Y.length<=20000000) :
 ∃v' w',(Builtin.append_ #[75,75] 75 #[v,.slice A Y.length c]).run prog w=.ok v' w'/\xt B v' (X++Y) w'/\Below B w w' /\(∀k,k<w.1.size->some k≠v.ownBlock->w'.heap[k]?=w.heap[k]?) /\(v'.ownBlock=v.ownBlock\/v'.ownBlock=some w.1.size):=by
 obtain⟨Ls,h1,h2⟩:=h;obtain⟨i0,z0,i1,i2,i3,i4,i5⟩:=at3;have hbytes:(X.length+Y.length)*i0.bytes<=140737488355328:=p9 (b4b hn i5) dc;obtain⟨v',w',q1,q2,q3,q4⟩:=j6 (P:=prog) w 75 75 64 i0 z0 120 i0.bytes underlying75 i1 i2 i3 rfl i4 dc B v X.length Ls.flatten h1 A Y.length c Ms.flatten (by rw[hm.flat_len]) hf (hm.ones) (by unfold maxLen;omega) hbytes hB;have hk:∀k,B<=k/\k<w.1.size/\some k≠v.ownBlock->w'.heap[k]?=w.heap[k]?:=λk q=>q3.block k q.2.1 q.2.2
 refine⟨v',w',q1,⟨Ls++Ms,by rw[b3j,e9];exact q2,?_⟩,(n9 B w).grown q3 hB (λk hk=>(a6e h1 hk).1),λk r1 r2=>q3.block k r1 r2,q4⟩;refine((h2.app hm).keep hk).less λk q=>⟨q.1,i9 q.2.1 q3.size,?_⟩
 rcases q4 with e|e
 ·rw[e];exact q.2.2
 ·rw[e];intro r;injection r with r;have:=q.2.1;omega
theorem jr.moved2 {W W':World} {g b B:Nat} {C:List Int} {l:List UInt8} (h:jr W g b C l) (hk:qi (λj=>j<B) W W') (hb:b<B/\g<B):jr W' g b C l:=⟨h.blk.kept (hk.block g hb.2) hk.size,h.len,h.win.kept (hk.block b hb.1) hk.size,h.ne⟩
structure afi (W:World) (g b:Nat) (C:List Int) (l:List UInt8) (V:List VeD) (r:List UInt8) (v:Value) (w:World):Prop where
 sc:qp l=(V ++(qp r).1,(qp r).2)
 len:V.length+r.length<=l.length
 dec:jr w g b (jp C V) r
 its:xt W.1.size v (q6 V) w
 kept:qi (λj=>j<W.1.size/\j≠b/\j≠g) W w
theorem afi.start {W:World} {g b:Nat} {C:List Int} {l:List UInt8} (h:jr W g b C l):afi W g b C l [] l (.slice none 0 0) W:=⟨rfl,by simp,h,xt.nil _ _,qi.refl _ _⟩
theorem afi.mv {W:World} {g b:Nat} {C:List Int} {l:List UInt8} {V V':List VeD} {r r':List UInt8} {v:Value} {w w':World} (h:afi W g b C l V r v w) (hbg:b<W.1.size/\g<W.1.size) (hk:qi (λj=>j<w.1.size/\j≠b/\j≠g) w w') (hd:jr w' g b (jp C V') r')
 (hsc:qp l=(V' ++(qp r').1,(qp r').2)) (hl:V'.length+r'.length<=l.length) (hit:q6 V'=q6 V):afi W g b C l V' r' v w':=
 ⟨hsc,hl,hd,by rw[hit];exact h.its.kept (λk q r=>hk.block k ⟨r,by omega,by omega⟩) hk.size,h.kept.trans (hk.less λj q=>⟨i9 q.1 h.kept.size,q.2⟩)⟩
theorem afi.on {W:World} {g b:Nat} {C:List Int} {l:List UInt8} {V:List VeD} {r:List UInt8} {v:Value} {w w':World} (h:afi W g b C l V r v w) (hbg:b<W.1.size/\g<W.1.size) (hb:Below w.1.size w w'):afi W g b C l V r v w':=
 h.mv hbg (qi.of_below hb λj q=>q.1) (h.dec.on hb) h.sc h.len rfl
def a4b (W:World) (g b:Nat) (C:List Int) (l:List UInt8) (e:Ending) (w':World):Prop:=∃v,e=.returned v/\afi W g b C l (qp l).1 (qp l).2 v w'
theorem afi.stop {W:World} {g b:Nat} {C:List Int} {l:List UInt8} {V:List VeD} {r:List UInt8} {v:Value} {w:World} (h:afi W g b C l V r v w) (hr:(zg r).d=0):a4b W g b C l (.returned v) w:=by
 have e:=h.sc;rw[ab8 hr,b0p]at e;refine⟨v,rfl,?_⟩;rw[e];have h':=h;rw[show afi W g b C l V r v w↔afi W g b C l V r v w from Iff.rfl]at h';exact h'
theorem ad8 (V:List VeD) (v:VeD):q6 (V++[v])=if v.d=2 then q6 V++[v.x]else q6 V:=by
 rw[ago];unfold q6
 by_cases h:v.d=2<;>simp[h]
theorem auo {l:List UInt8} {V:List VeD} {r:List UInt8} (h:qp l=(V ++(qp r).1,(qp r).2)) (hr:(zg r).d≠0):qp l=((V++[zg r]) ++(qp (r.drop (yo (zg r)))).1,(qp (r.drop (yo (zg r)))).2):=by
 rw[h,abg hr];simp
theorem bcj {l:List UInt8} {V:List VeD} {r:List UInt8} (h:qp l=(V ++(qp r).1,(qp r).2)):qp l=((V++List.replicate (r.length-(ja r).length) afn) ++(qp (ja r)).1,(qp (ja r)).2):=by
 rw[h,axf r];simp
def bnv (W:World) (g b:Nat) (C:List Int) (l:List UInt8) (a:Act) (w:World):Prop:=
 ∃v u2 u4 u5 u6 u7 u8 u9 u10 u11 u12 u13 u14 u15 u16 u17 u18 u19 u20 u21 u22 u23 u24 u25 u26 u27 u28 u29 u30 u31 u32 u33 u34 u35 u36 u37 u38 u39 u40 u41 u42 u43 u44 u45 u46 u47 u48 u49 u50 u51 u52 u53 u54 u55 u56 u57 u58 u59 u60 u61 u62,a={tmps:=#[.pointer (some ⟨g,0,none⟩),undef,u2,v,u4,u5,u6,u7,u8,u9,u10,u11,u12,u13,u14,u15,u16,u17,u18,u19,u20,u21,u22,u23,u24,u25,u26,u27,u28,u29,u30,u31,u32,u33,u34,u35,u36,u37,u38,u39,u40,u41,u42,u43,u44,u45,u46,u47,u48,u49,u50,u51,u52,u53,u54,u55,u56,u57,u58,u59,u60,u61,u62],defers:=[]}/\∃V r,afi W g b C l V r v w
theorem a3v {P:Program} {ops:Array Oper} {rest:List Oper} {o:Oper} {a:Act} {w W:World} {Q:Exit->Act->World->Prop} (hgd:o.guard=none) (t:TypeId) (x:Operand) (ho:o.op=.buildSlice t 1 #[(0,x)]) {u v:Value} (hx:a.eval x=u) (hr:(Instr.buildSlice t 1 #[(0,u)]).run P w=.ok v W)
 (h:wpList P ops Q rest (a.put o.dst v) W):wpList P ops Q (o::rest) a w:=
 aba hgd (by unfold execOp;rw[ho];simp[hx,hr]) h
theorem ajw {I:List Value} (hl:I.length=120) (w:World):(Instr.buildSlice 75 1 #[(0,.agg I.toArray)]).run prog w=.ok (.slice (some ⟨w.1.size,0,none⟩) 1 1) (w.alloc (.cells I.toArray 64)):=by
 obtain⟨i,z,h1,h2,h3,h4,-⟩:=at3;have hu:=b3f (P:=prog) underlying75 w;have hz:(sizeOf 64).run prog w=.ok 120 w:=by simp[sizeOf,typeInfo,h1,h3]
 have hf:∀Z:Array Value,Z.size=120->Instr.fill (λk=>some (k*120,120)) Z [(0,.agg I.toArray)]=some I.toArray:=λZ hZ=>by
  rw[yu (off:=0) (L:=I) rfl (by rw[hl]) (by rw[hl,hZ];omega)]
  have e:xv Z.toList 0 I=I:=by
   unfold xv;rw[b2b,b0y,b0j,b19 (by rw[hl];simp[hZ]),b0p]
  rw[e];rfl
 unfold Instr.buildSlice;have hzero:(zeroValue 64).run prog w=.ok (.agg al3) w:=adr w;simp only[b1k,hu,b1f,hz];simp[hzero,hf,newRow]
theorem a63 {W:World} {g b:Nat} {C:List Int} {l:List UInt8} (h:jr W g b C l) (hC:v5 C 900000000):Calls prog 39 #[.pointer (some ⟨g,0,none⟩)] W (a4b W g b C l):=by
 have hbg:b<W.1.size/\g<W.1.size:=⟨h.win.lt,h.blk.lt⟩;have hmax:l.length<=1024:=by obtain⟨D,a,q⟩:=h.win;exact q.max
 have H0:Q_ (bnv W g b C l {tmps:=#[.pointer (some ⟨g,0,none⟩),undef,.slice none 0 0,.slice none 0 0,undef,undef,undef,undef,undef,undef,undef,undef,undef,undef,undef,undef,undef,undef,undef,undef,undef,undef,undef,undef,undef,undef,undef,undef,undef,undef,undef,undef,undef,undef,undef,undef,undef,undef,undef,undef,undef,undef,undef,undef,undef,undef,undef,undef,undef,undef,undef,undef,undef,undef,undef,undef,undef,undef,undef,undef,undef,undef,undef],defers:=[]} W):=q_ ⟨_,_,_,_,_,_,_,_,_,_,_,_,_,_,_,_,_,_,_,_,_,_,_,_,_,_,_,_,_,_,_,_,_,_,_,_,_,_,_,_,_,_,_,_,_,_,_,_,_,_,_,_,_,_,_,_,_,_,_,_,_,rfl,[],l,afi.start h⟩;have HBG:=q_ hbg;have HCC:=q_ (o3 hC (o3 hmax h.len));have HZ:=λW=>q_ (ag3 W)
 clear h hbg hmax hC;go_enter func39,ntmps39;go_wp2_with fail;refine ar3 0 (bnv W g b C l) (λ_ w=>ahg b w) rfl ?_ ?_
 ·go_wp2_with fail;exact H0.o
 rintro a w ⟨v,u2,u4,u5,u6,u7,u8,u9,u10,u11,u12,u13,u14,u15,u16,u17,u18,u19,u20,u21,u22,u23,u24,u25,u26,u27,u28,u29,u30,u31,u32,u33,u34,u35,u36,u37,u38,u39,u40,u41,u42,u43,u44,u45,u46,u47,u48,u49,u50,u51,u52,u53,u54,u55,u56,u57,u58,u59,u60,u61,u62,rfl,V,r,hs⟩;have HS:=q_ hs;clear hs H0;have HV:=q_ (agf V HCC.o.1);have HL:=q_ HS.o.len;go_wp2_with fail;refine(a16 HS.o.dec (q_ ⟨(HV.o 9).1,by have:=(HV.o 9).2;have:=HL.o;have:=HCC.o.2;omega⟩)).mono ?_;rintro e w1 ⟨rfl,hd,hk⟩;have hrl:=anw r;have hcl:(jp C V).length=13:=by rw[aii];exact HCC.o.2.2
 have HS1:Q_ (afi W g b C l (V++List.replicate (r.length-(ja r).length) afn) (ja r) v w1):=q_ (HS.o.mv HBG.o (hk.less λj q=>q.2) (by
  rw[adt,azo _ _ om];rw[show ((r.length-(ja r).length:Nat):Int)=(r.length:Int)-((ja r).length:Int)from by omega];exact hd) (bcj HS.o.sc) (by have:=HS.o.len;rw[e9,b1r];omega) (by rw[ago,awi,b0p]))
 have HRL:=q_ (o3 hrl (ah3 HS.o.dec.win));clear hd hk hrl hcl HS HV HL;generalize V++List.replicate (r.length-(ja r).length) afn=V1 at *;rcases hsk:ja r with _|⟨x,t⟩
 ·rw[hsk]at HS1;go_wp2_with fail;simp only[Exit.jump];go_ret;exact HS1.o.stop rfl
 have HRX:Q_ ((x::t).length<=r.length/\ahg b w=r.length):=q_ (by rw[<- hsk];exact HRL.o);rw[hsk]at HS1;clear hsk HRL;have c0:=HS1.o.dec.c0;go_wp2_with fail;refine(an3 HS1.o.dec.win).mono ?_;rintro e w2 ⟨rfl,hbk,-,hb,hsz⟩;have HS2:=q_ (HS1.o.on HBG.o hb);have HK2:=q_ hbk;have HD2:Q_ (W.1.size<=w1.1.size/\w1.1.size<w2.1.size):=q_ ⟨HS1.o.kept.size,by omega⟩;have HOB:Q_ (v.ownBlock≠some w1.1.size):=q_ (λq=>Nat.lt_irrefl _ (HS1.o.its.own q).2);clear hb hbk hsz HS1 c0;generalize w1.1.size=d at *
 have HXL:Q_ ((x::t).length<=1024/\0<(x::t).length):=q_ (by
  obtain⟨D,a,q⟩:=HS2.o.dec.win;exact⟨q.max,by simp⟩)
 generalize (x::t)=s0 at *;generalize hsn:s0.length=sn at *;have HSN:=q_ hsn;clear hsn;go_wp2_with fail
 go_loopg [3,4] (sn+1) (λgk s3 s4 wr=>∃V2 r2 X c,s4=.slice X r2.length c/\r2.length<gk/\r2.length<=c/\Q_ (qf (λk=>k=d) wr X (bsV r2))/\Q_ (afi W g b C l V2 r2 s3 wr)/\Q_ (r2.length<=sn/\d<wr.1.size/\s3.ownBlock≠some d))
 case atStart=>exact⟨V1,s0,_,sn,by rw[HSN.o],by rw[HSN.o];omega,by rw[HSN.o];exact a8 _,HK2.o.flat rfl,HS2.o,by rw[HSN.o];exact⟨a8 _,HD2.o.2,HOB.o⟩⟩
 case round=>
  obtain⟨V2,r2,X,c,rfl,hgk,hrc,HF,HS,HD⟩:=hrel;clear HK2 HS2;rcases r2 with _|⟨y,t2⟩
  ·go_wp2_with fail
   try simp only[Exit.jump]
   try go_step3
   refine⟨rfl,⟨_,_,_,_,_,_,_,_,_,_,_,_,_,_,_,_,_,_,_,_,_,_,_,_,_,_,_,_,_,_,_,_,_,_,_,_,_,_,_,_,_,_,_,_,_,_,_,_,_,_,_,_,_,_,_,_,_,_,_,_,_,rfl,V2,[],HS.o⟩,?_⟩;show ahg b wr<ahg b w;rw[ah3 HS.o.dec.win,HRX.o.2];have:=HRX.o.1;have:=HXL.o.2;have:=HSN.o;simp only[b0z];omega
  obtain⟨bd,off,rfl,hbd,-⟩:=HF.o 0 (bV y) rfl;have hbd:bd=d:=hbd;subst hbd;have hyl:0<(y::t2).length:=by simp
  have hproto:(zg (y::t2)).p=0 \/(zg (y::t2)).p=1 \/(zg (y::t2)).p=2 \/(zg (y::t2)).p=3:=by
   rw[bh1 (y::t2) y rfl];exact aiq y
  have HDT:=q_ (o3 (bhz (y::t2)) (o3 (ai2 (y::t2)) (o3 (ayf (y::t2)) hproto)));have HMORE:=q_ (λhr=>auo (r:=y::t2) HS.o.sc hr);have HSTOP:=q_ (fun(h0:(zg (y::t2)).d=0)=>h0);have HAT:=λW' (hW:Below wr.1.size wr W')=>q_ (aug (some ⟨bd,off,none⟩) c (y::t2) ((HF.o.lt.below hW (λk q=>q.2)).less (R:=λ_=>True) λ_ _=>trivial) (by have:=HD.o.1;have:=HXL.o.1;have:=HSN.o;omega) hrc)
  unfold avf at HAT;clear hproto;generalize hvv:zg (y::t2)=ver at *;have HVV:=q_ hvv;clear hvv;generalize hr3:y::t2=r3 at *;clear hr3;obtain⟨rn,hrn⟩:∃rn,r3.length=rn:=⟨_,rfl⟩;have HRN:=q_ hrn;rw[hrn]at hgk hrc hyl HAT ⊢;clear hrn;obtain⟨vd,vp,vn,ve,vx⟩:=ver;dsimp only at *;have hrp:(0:Int)<(rn:Int):=by omega
  go_wp2_with fail;refine(HAT wr (n9 _ _)).o.mono ?_;rintro e w3 ⟨I,rfl,hit,hb⟩;have HS3:=q_ (HS.o.on HBG.o hb);have HF3:=q_ ((HF.o.lt.below hb (λk q=>q.2)).less (R:=λk=>k=bd) λk q=>q.1);have HVL:=q_ (ae4 (d:=vd) (p:=vp) (n:=vn) (e:=ve) hit.len);have HVO:=q_ (alw (d:=vd) (p:=vp) (n:=vn) (e:=ve) hit.ones);have HVS:=q_ (alx HVL.o);have HIT:=q_ hit;have HD3:Q_ (W.1.size<=bd/\bd<wr.1.size/\wr.1.size<=w3.1.size/\W.1.size<=wr.1.size):=q_ ⟨HD2.o.1,HD.o.2.1,hb.size,HS.o.kept.size⟩;have HOW:Q_ (∀k,u3.ownBlock=some k->W.1.size<=k/\k<wr.1.size):=q_ (λk q=>HS.o.its.own q);clear hb hit HAT HS HF
  go_upto_region 7 with(first
   | (refine qc rfl 66 rfl (veA 0 0 0 0) (HZ _).o ?_;intro W4 hW;have HV4:=q_ (Blk.newL (L:=veL 0 0 0 0 ac7) hW rfl);have HS4:=q_ (HS3.o.on HBG.o hW.bel);have HP4:=q_ (λk (q:k<w3.1.size)=>hW.bel.block k q);have HZ4:=q_ hW.sz;have HKP4:=q_ (qi.of_below (S:=λj=>j<w3.1.size) hW.bel λj q=>q);clear hW)
   | (refine qe rfl 66 _ _ rfl w3.1.size 0 (veL vd vp vn ve I).toArray rfl rfl (yr HV4.o HVL.o) HVS.o HVO.o ?_;intro W5 hs;have HV5:=q_ (ace HV4.o HVL.o hs);have HZ5:Q_ (W5.1.size=w3.1.size+1):=q_ (hs.sz.trans HZ4.o);have HP5:=q_ (λk (q:k<w3.1.size)=>(hs.far k (b09 q)).trans (HP4.o k q));have HKP5:=q_ (HKP4.o.stored hs (λq=>Nat.lt_irrefl _ q));clear hs))
  try go_frame
  have hk35:qi (λj=>j<w3.1.size) w3 W5:=HKP5.o;have HS5:=q_ (HS3.o.mv HBG.o (hk35.less λj q=>q.1) (HS3.o.dec.moved2 hk35 (by have:=HS3.o.kept.size;have:=HBG.o;omega)) HS3.o.sc HS3.o.len rfl);have HF5:=q_ (HF3.o.keep λk (q:k=bd)=>HP5.o k (by rw[q];have:=HD3.o;omega));have HI5:=q_ (HIT.o.keep λk q=>HP5.o k q.2);obtain⟨e0,e1,e2,-,e4⟩:=aru HV5.o;have HE4:=q_ e4;have HQ5:Q_ (w3.1.size<W5.1.size):=q_ (by rw[HZ5.o];exact b4e _);clear hk35 e4 HV4 HS4 HP4 HZ4 HS3 HF3 HIT HP5 HVL HVO HVS;have HVB:Q_ (wr.1.size<=w3.1.size/\W.1.size<=w3.1.size):=q_ ⟨HD3.o.2.2.1,p9 HD3.o.2.2.2 HD3.o.2.2.1⟩;generalize hvbe:w3.1.size=vb at *;have HVE:=q_ hvbe;clear hvbe;rcases HDT.o.1 with hd0|hd1|hd2
  ·have hd0:vd=0:=hd0;subst hd0;go_wp2_with fail
   try simp only[Exit.jump]
   go_ret;exact HS5.o.stop (by rw[HVV.o])
  ·have hd1:vd=1:=hd1;subst hd1;obtain⟨hn0,hx0⟩:=HDT.o.2.2.1 dc;have hn0:vn=0:=hn0;subst hn0;have hpp:=HDT.o.2.2.2;obtain⟨k,hk⟩:∃k,9+vp.toNat=k:=⟨_,rfl⟩;have hk13:k<13:=by rw[<- hk];omega
   have hvl:=HS5.o.len;have hcn:=agf V2 HCC.o.1 k;have hl24:=HCC.o.2.1;obtain⟨cn,hcn2⟩:∃cn,(jp C V2).getD k 0=cn:=⟨_,rfl⟩;rw[hcn2]at hcn;have hc0:0<=cn:=hcn.1;have hc1:cn<=1000000000:=by omega
   have hck:=HS5.o.dec.cd k hk13;rw[hcn2]at hck;have hzk:=HS5.o.dec.blk.fz (k+1);have hd6:=HS5.o.dec.set k (cn+1) hk13;have hst6:=HS5.o.dec.keptS k (cn+1)
   have HD6:Q_ (jr (W5.setCell ⟨g,k+1,none⟩ (.int .i64 (cn+1))).drew g b (q7 (jp C V2) k 1) r3/\qi (λj=>j≠b/\j≠g) W5 (W5.setCell ⟨g,k+1,none⟩ (.int .i64 (cn+1))).drew):=q_ ⟨by
    rw[<- hcn2]at hd6 ⊢;exact hd6.drew,hst6.drew⟩
   have hcv:jp C (V2++[⟨1,vp,0,ve,vx⟩])=q7 (jp C V2) k 1:=by
    rw[adt];show q7 (jp C V2) (ash ⟨1,vp,0,ve,vx⟩) 1=_;rw[show ash ⟨1,vp,0,ve,vx⟩=k from hk]
   have HEND:Q_ (∀W7,v7 W7 b (r3.drop 1)->qi (λj=>j≠b) (W5.setCell ⟨g,k+1,none⟩ (.int .i64 (cn+1))).drew W7->afi W g b C l (V2++[⟨1,vp,0,ve,vx⟩]) (r3.drop 1) u3 W7/\ahg b W7<ahg b w):=q_ λW7 hw hk7=>by
    have hr:=HS5.o.mv (V':=V2++[⟨1,vp,0,ve,vx⟩]) (r':=r3.drop 1) HBG.o ((HD6.o.2.trans (hk7.less λj q=>q.1)).less λj q=>q.2) (by rw[hcv];exact HD6.o.1.moved hw hk7) (HMORE.o dc) (by rw[e9,n5,HRN.o];have:=HRN.o;simp only[n6,b0z];omega) (by rw[ad8];rfl);refine⟨hr,?_⟩;rw[ah3 hr.dec.win,HRX.o.2,n5,HRN.o];have:=HRX.o.1;have:=HSN.o;have h9:=HD.o.1;rw[HRN.o]at h9;omega
   clear hcn hcn2 hd6 hst6 hcv hx0 hvl hl24 HMORE HSTOP HDT HI5 HF5 HE4 HV5 HS5 HVV;have hk':=hk.symm;rcases hpp with rfl|rfl|rfl|rfl
   all_goals
    simp only[Int.reduceToNat,Nat.reduceAdd,Int.toNat_zero]at hk';subst hk';clear hk hk13;simp only[Nat.reduceAdd]at hck hzk HD6 HEND;go_upto_region 11 with fail
    go_region
    clear hck hzk;generalize W5.setCell ⟨g,_,none⟩ (.int .i64 (cn+1))=W6 at *;have g0:=HD6.o.1.c0;go_wp2_with fail;refine(aia 1 HD6.o.1.win om).mono ?_;rintro e W7 ⟨rfl,hw,hk⟩;rw[show (max 0 (min (1:Int) (r3.length:Int))).toNat=1 from by rw[HRN.o];omega]at hw ⊢;have HE7:=q_ (HEND.o W7 hw hk);clear hw hk HD6 g0;go_wp2_with fail
    try simp only[Exit.jump]
    try go_step3
    exact⟨rfl,⟨_,_,_,_,_,_,_,_,_,_,_,_,_,_,_,_,_,_,_,_,_,_,_,_,_,_,_,_,_,_,_,_,_,_,_,_,_,_,_,_,_,_,_,_,_,_,_,_,_,_,_,_,_,_,_,_,_,_,_,_,_,rfl,_,_,HE7.o.1⟩,HE7.o.2⟩
  ·have hd2:vd=2:=hd2;subst hd2;have ht:=HDT.o.2.1 rfl
   have hpr:vx.pr=1\/vx.pr=2\/vx.pr=3:=by
    have h4:vx.pr=vp:=ht.2.2.2.1;rw[h4];exact ht.2.2.2.2
   have htn:8<=vn/\vn<=1024/\vn<=rn:=by have:=HRN.o;have h1:=ht.1;have h2:=ht.2.1;have h3:=ht.2.2.1;exact⟨h1,h2,by rw[<- this];exact h3⟩
   have hvl:=HS5.o.len;have hl24:=HCC.o.2.1
   have hcok:v5 (jp C V2) 1000000000:=λk=>by
    have:=agf V2 HCC.o.1 k;exact⟨this.1,by omega⟩
   have hck:biz vx=ash ⟨2,vp,vn,ve,vx⟩:=by
    have h4:vx.pr=vp:=ht.2.2.2.1;unfold biz ash;rw[h4];rfl
   have HCT:=q_ (axb HS5.o.dec HI5.o hpr hcok);have HIL:=q_ HI5.o.len;have HIX:Q_ (V2.length<=1024):=q_ om;have hVN:=htn;have HTN:=q_ htn;have HCK:=q_ hck;clear ht hpr htn hvl hl24 hcok hck HDT;go_wp2_with (refine b0q rfl 64 _ rfl vb 4 rfl I _ HE4.o underlying64 sm (by rw[HIL.o];kernel_rfl) ?_);refine HCT.o.mono ?_;rintro e W6 ⟨rfl,hd6,hk6⟩;have HD6:=q_ hd6;have HK6:=q_ hk6;have HE6:=q_ (aa6 HE4.o (hk6.block vb ⟨HQ5.o,by have:=HD3.o;have:=HBG.o;have:=HVB.o;omega⟩));have HI6:=q_ (HI5.o.keep λk q=>hk6.block k ⟨by have:=q.2;have:=HQ5.o;have:=HVE.o;omega,by have:=q.1;have:=HD3.o;have:=HBG.o;omega⟩);have HR6:=q_ (HS5.o.its.kept (w':=W6) (λk q r=>hk6.block k ⟨r,by have:=HBG.o;omega⟩) hk6.size);have HF6:=q_ (HF5.o.keep λk (q:k=bd)=>hk6.block k ⟨by rw[q];have:=HD3.o;have:=HQ5.o;have:=HVB.o;omega,by rw[q];have:=HD3.o;have:=HBG.o;omega⟩)
   have HKA:=q_ (HS5.o.kept.trans (hk6.less λj q=>⟨i9 q.1 HS5.o.kept.size,q.2.2⟩));have HQ6:Q_ (vb<W6.1.size):=q_ (i9 HQ5.o hk6.size);have he2:=(t7 (a:=⟨vb,2,none⟩) (hk6.block vb ⟨HQ5.o,by have:=HD3.o;have:=HBG.o;have:=HVB.o;omega⟩)).trans e2;have HE2:=q_ he2;clear hd6 hk6 HCT HE4 HI5 HF5 e0 e1 e2 he2 HV5;go_upto_region 14 with fail;have hba:=qa W6 (.cells I.toArray 64);have hrow:=HR6.o.kept (λk _ r=>hba.block k r) hba.size;have hblk:Blk (W6.alloc (.cells I.toArray 64)) W6.1.size I:=Blk.newL (qg W6 _ _) b1d
   have hfl:qf (λ_=>True) (W6.alloc (.cells I.toArray 64)) (some ⟨W6.1.size,0,none⟩) [I].flatten:=by
    rw[show [I].flatten=I from by simp];exact hblk.flat trivial
   have hits:acd (λk=>W.1.size<=k/\k<(W6.alloc (.cells I.toArray 64)).1.size/\some k≠u3.ownBlock) (W6.alloc (.cells I.toArray 64)) [I] [vx]:=acd.one ((HI6.o.keep λk q=>hba.block k (by have:=q.2;have:=HQ6.o;have:=HVB.o;have:=HVE.o;omega)).less λk q=>⟨by have:=q.1;have:=HD3.o;omega,by have:=q.2;have:=HQ6.o;have:=hba.size;have:=HVB.o;have:=HVE.o;omega,λr=>by have:=(HOW.o k r.symm).2;have:=q.1;omega⟩)
   have hnx:(q6 V2).length+[vx].length<=20000000:=by
    have h1:(q6 V2).length<=V2.length:=by unfold q6;rw[b0o];exact b2u _ _
    have:=HIX.o;simp only[n6,b0z];omega
   obtain⟨v8,W8,hrun,hr8,hb8,hx8,ho8⟩:=hrow.app (by have:=HR6.o;have:=hba.size;have:=HD3.o;have:=HQ6.o;have:=HVB.o;omega) (some ⟨W6.1.size,0,none⟩) 1 [I] hfl hits hnx;have HRUN:=q_ hrun;have HSL:=q_ (ajw HIL.o W6);have hfar:∀k,k<W6.1.size->some k≠u3.ownBlock->W8.heap[k]?=W6.heap[k]?:=λk r1 r2=>(hx8 k (i9 r1 hba.size) r2).trans (hba.block k r1)
   have hbd:some bd≠u3.ownBlock:=λq=>HD.o.2.2 q.symm
   have hvb:some vb≠u3.ownBlock:=λq=>by have:=(HOW.o vb q.symm).2;have:=HD3.o;have:=HVB.o;omega
   have hkb:qi (λj=>j<W.1.size) W6 W8:=(qi.of_below hba (λj (q:j<W.1.size)=>by have:=HD3.o;have:=HQ6.o;have:=HVB.o;omega)).trans (qi.of_below hb8 λj q=>q);have HD8:=q_ (HD6.o.moved2 hkb HBG.o);have HR8:Q_ (xt W.1.size v8 (q6 (V2++[⟨2,vp,vn,ve,vx⟩])) W8):=q_ (by rw[ad8];exact hr8);have HE8:=q_ ((t7 (a:=⟨vb,2,none⟩) (hfar vb HQ6.o hvb)).trans HE2.o);have HF8:=q_ (HF6.o.keep λk (q:k=bd)=>hfar k (by rw[q];have:=HD3.o;have:=HQ6.o;have:=HVB.o;omega) (by rw[q];exact hbd));have HKB:=q_ (HKA.o.trans (hkb.less λj q=>q.1))
   have HO8:Q_ (v8.ownBlock≠some bd/\W6.1.size<=W8.1.size):=q_ ⟨by
    rcases ho8 with q|q
    ·rw[q];exact λr=>hbd r.symm
    ·rw[q];intro r;injection r with r;have:=HD3.o;have:=HQ6.o;have:=HVB.o;have:=hba.size;omega,hkb.size⟩
   have HQ6b:=q_ HQ6.o;clear hba hrow hblk hfl hits hnx hrun hr8 hb8 hx8 ho8 hfar hbd hvb hkb HD6 HK6 HI6 HR6 HF6 HKA HE2
   go_wp2_with (first
    | refine b0q rfl 64 _ rfl vb 4 rfl I _ HE6.o underlying64 sm (by rw[HIL.o];kernel_rfl) ?_
    | refine a3v (u:=.agg I.toArray) rfl 75 _ rfl rfl HSL.o ?_
    | (at_builtin;refine q9 rfl _ _ 75 rfl _ _ _ rfl rfl HRUN.o ?_))
   have hHDR:=aia (vn:Int) HD8.o.drew.win (by have:=HTN.o;omega);rw[show (max 0 (min (vn:Int) (r3.length:Int))).toNat=vn from by rw[HRN.o];have:=HTN.o;omega]at hHDR;have HDR:=q_ hHDR
   have HEND:Q_ (∀W9,v7 W9 b (r3.drop vn)->qi (λj=>j≠b) W8 W9->afi W g b C l (V2++[⟨2,vp,vn,ve,vx⟩]) (r3.drop vn) v8 W9/\qf (λk=>k=bd) W9 (some ⟨bd,off+vn,none⟩) (bsV (r3.drop vn))/\W8.1.size<=W9.1.size):=q_ λW9 hw hk9=>by
    have hst:yo ⟨2,vp,vn,ve,vx⟩=vn:=by show max vn 1=vn;have:=HTN.o;omega
    have hsc:=HMORE.o dc;rw[hst]at hsc;refine⟨⟨hsc,?_,?_,HR8.o.kept (λk q _=>hk9.block k (by have:=HBG.o;omega)) hk9.size,HKB.o.trans (hk9.less λj q=>q.2.1)⟩,?_,hk9.size⟩
    ·have h1:=HRN.o;have h2:=HTN.o;have h3:=HS5.o.len;rw[e9,n5];simp only[n6,b0z];omega
    ·rw[adt];show jr W9 g b (q7 (jp C V2) (ash ⟨2,vp,vn,ve,vx⟩) 1) _;rw[<- HCK.o];exact HD8.o.moved hw hk9
    ·have:=(HF8.o.keep λk (q:k=bd)=>hk9.block k (by rw[q];have:=HD3.o;have:=HBG.o;omega)).part vn
     rwa [abs]at this
   have HGB:Q_ (g≠b/\vb≠b):=q_ ⟨λq=>HD8.o.ne q.symm,λq=>by have:=HVB.o;have:=HBG.o;omega⟩;have hv0:(0:Int) <=(vn:Int):=by omega
   have hv1:(vn:Int) <=(rn:Int):=by have:=HTN.o;omega
   have hv2:(rn:Int) <=(c:Int):=by omega
   have hDL:(r3.drop vn).length=rn-vn:=by rw[n5,HRN.o]
   have HDL:=q_ hDL;clear hHDR hDL HF8 HKB HR8 HE6 HIL HIX HSL HRUN HQ6 HMORE hVN HCK HVV HSTOP HS5 HOW;rcases b08 vn c with hlt|hge
   ·have hv3:(vn:Int)<(c:Int):=by omega
    have hS0:qi (λj=>j≠b) W8 W8.drew:=(qi.refl _ _).drew;refine t6 (S:=λw'=>qi (λj=>j≠b) W8 w') kr hS0 (λhHeld0=>?_);refine tkA 0 54 rfl ?_;go_frame;refine tkA 1 55 rfl ?_;go_frame;refine tkA 2 56 rfl ?_;go_frame;refine tkA 3 57 rfl ?_;go_frame;refine tkQ (i:=4) (oi:=⟨some 58,_,_,_,_,_⟩) (v:=?_) rfl (Or.inl ⟨by rfl,?_⟩) ?_;rotate_left
    ·intro w' hSw;have g0:w'.cell? ⟨g,0,none⟩=some (.pointer (some ⟨b,0,none⟩)):=(hSw.cell (b:=g) (o:=0) HGB.o.1).trans HD8.o.c0;go_simp
     try with_reducible rfl
    try go_frame
    refine tkA 5 59 rfl ?_;go_frame;refine tkQ (i:=6) (oi:=⟨some 60,_,_,_,_,_⟩) (v:=?_) rfl (Or.inl ⟨by rfl,?_⟩) ?_;rotate_left
    ·intro w' hSw;have g2:w'.cell? ⟨vb,2,none⟩=some (.int .i64 (vn:Int)):=(hSw.cell (b:=vb) (o:=2) HGB.o.2).trans HE8.o;go_simp
     try with_reducible rfl
    try go_frame
    refine rdB 7 61 rfl λK hK=>?_
    go_step;refine HDR.o.mono ?_;rintro e W9 ⟨rfl,hw9,hk9⟩;have HW9:Q_ (v7 W9 b (r3.drop vn)/\qi (λj=>j≠b) W8 W9):=q_ ⟨hw9,hHeld0.trans hk9⟩;clear hw9 hk9
    try go_frame
    refine hK.out _ _ (HW9.o.2) (λhHeld=>?_);clear hK K
    try go_frame
    refine tkA 8 62 rfl ?_;go_frame;refine tkA 9 4 rfl ?_;go_frame;refine b0m kr ?_ _
    try go_frame
    go_wp2_with fail
    go_roundg rn
    case measure=>omega
    case rel=>
     obtain⟨q1,q2,q3⟩:=HEND.o _ HW9.o.1 HW9.o.2;exact⟨_,r3.drop vn,_,c-vn,by rw[HDL.o],by rw[HDL.o];have:=HTN.o;omega,by rw[HDL.o];omega,q2,q1,by rw[HDL.o];have:=HD.o.1;rw[HRN.o]at this;omega,by have:=HO8.o.2;have:=HQ6b.o;have:=HD3.o;omega,HO8.o.1⟩
   ·obtain rfl:c=vn:=by have:=HTN.o;omega
    obtain rfl:rn=c:=by have:=HTN.o;omega
    have hS0:qi (λj=>j≠b) W8 W8.drew:=(qi.refl _ _).drew;refine t6 (S:=λw'=>qi (λj=>j≠b) W8 w') kr hS0 (λhHeld0=>?_);refine tkA 0 54 rfl ?_;go_frame;refine tkA 1 55 rfl ?_;go_frame;refine tkA 2 56 rfl ?_;go_frame;refine tkA 3 57 rfl ?_;go_frame;refine tkQ (i:=4) (oi:=⟨some 58,_,_,_,_,_⟩) (v:=?_) rfl (Or.inl ⟨by rfl,?_⟩) ?_;rotate_left
    ·intro w' hSw;have g0:w'.cell? ⟨g,0,none⟩=some (.pointer (some ⟨b,0,none⟩)):=(hSw.cell (b:=g) (o:=0) HGB.o.1).trans HD8.o.c0;go_simp
     try with_reducible rfl
    try go_frame
    refine tkA 5 59 rfl ?_;go_frame;refine tkQ (i:=6) (oi:=⟨some 60,_,_,_,_,_⟩) (v:=?_) rfl (Or.inl ⟨by rfl,?_⟩) ?_;rotate_left
    ·intro w' hSw;have g2:w'.cell? ⟨vb,2,none⟩=some (.int .i64 (rn:Int)):=(hSw.cell (b:=vb) (o:=2) HGB.o.2).trans HE8.o;go_simp
     try with_reducible rfl
    try go_frame
    refine rdB 7 61 rfl λK hK=>?_
    go_step;refine HDR.o.mono ?_;rintro e W9 ⟨rfl,hw9,hk9⟩;have HW9:Q_ (v7 W9 b (r3.drop rn)/\qi (λj=>j≠b) W8 W9):=q_ ⟨hw9,hHeld0.trans hk9⟩;clear hw9 hk9
    try go_frame
    refine hK.out _ _ (HW9.o.2) (λhHeld=>?_);clear hK K
    try go_frame
    refine tkA 8 62 rfl ?_;go_frame;refine tkA 9 4 rfl ?_;go_frame;refine b0m kr ?_ _
    try go_frame
    go_wp2_with fail
    go_roundg rn
    case measure=>omega
    case rel=>
     obtain⟨q1,q2,q3⟩:=HEND.o _ HW9.o.1 HW9.o.2;have e0:r3.drop rn=[]:=b0k (by rw[HDL.o];omega);rw[e0]at q1;exact⟨_,[],_,0,rfl,by simp;omega,a8 _,qf.nil _ _ _,q1,b0d _,by have:=HO8.o.2;have:=HQ6b.o;have:=HD3.o;omega,HO8.o.1⟩
theorem ajy {C:List Int} {N n:Int} (h:v5 C N) (k:Nat) (hn:0<=n):v5 (q7 C k n) (N+n):=λj=>by
 have h1:=h j;unfold q7
 by_cases e:j=k
 ·subst e;rw[l9,List.getElem?_set_self'];rw[l9]at h1;cases hc:C[j]? with
  | none=>rw[hc]at h1;simp at h1 ⊢;omega
  | some z=>
   rw[hc]at h1;rw[l9,hc];simp at h1 ⊢;omega
 ·rw[l9,b4f (λq=>e q.symm),<- l9];omega
theorem v5.le {C:List Int} {N M:Int} (h:v5 C N) (hm:N<=M):v5 C M:=λk=>⟨(h k).1,Int.le_trans (h k).2 hm⟩
theorem aa8 (l:List UInt8):(qp l).1.length +(qp l).2.length<=l.length:=by
 refine alh (P:=λl=>(qp l).1.length +(qp l).2.length<=l.length) ?_ ?_ l
 ·intro l h;rw[ab8 h];simp
 ·intro l h ih;rw[abg h];have h1:=aln h;have h2:=aiw (zg l);rw[n5]at ih;simp only[n6];omega
structure a8w (W:World) (g b:Nat) (C:List Int) (s:List UInt8) (v:Value) (w:World):Prop where
 dec:jr w g b (jp C (qp s).1) (qp s).2
 its:xt W.1.size v (q6 (qp s).1) w
 kept:qi (λj=>j<W.1.size/\j≠b/\j≠g) W w
def bid (W:World) (g b:Nat) (C:List Int) (s:List UInt8) (e:Ending) (w':World):Prop:=∃v,e=.returned v/\a8w W g b C s v w'
theorem a46 {W W1:World} {g b:Nat} {C:List Int} {l:List UInt8} (h:jr W1 g b C l) (hd:(zg l).d=0) (hk:qi (λj=>j<W.1.size/\j≠b/\j≠g) W W1):a8w W g b C l (.slice none 0 0) W1:=by
 refine⟨?_,?_,hk⟩
 ·rw[ab8 hd];exact h
 ·rw[ab8 hd];exact xt.nil _ _
theorem a14 {W:World} {g b:Nat} {C:List Int} {l bs:List UInt8} (A:Option Addr) (c:Nat) (h:jr W g b C l) (hst:(zg l).d=0) (hbs:qf (λk=>k<W.1.size/\k≠b/\k≠g) W A (bsV bs)) (hn:bs.length<=4000000) (hc:bs.length<=c) (hC:v5 C 400000000) :
 Calls prog 22 #[.pointer (some ⟨g,0,none⟩),.slice A bs.length c] W (bid W g b (q7 C 0 bs.length) (l++bs)):=by
 have hbg:b<W.1.size/\g<W.1.size:=⟨h.win.lt,h.blk.lt⟩;have HBG:=q_ hbg;have c1:W.cell? ⟨g,1,none⟩=some (.int .i64 (C.getD 0 0)):=h.cd 0 om;have z1:=h.blk.fz 1;have HT:=q_ h;have hs:jr (W.setCell ⟨g,1,none⟩ (.int .i64 (C.getD 0 0+bs.length))) g b (q7 C 0 bs.length) l:=h.set 0 _ om;have hst2:qq W (W.setCell ⟨g,1,none⟩ (.int .i64 (C.getD 0 0+bs.length))) g 1 [.int .i64 (C.getD 0 0+bs.length)]:=zm (h.blk.there 1 1 (by rw[azu,h.len];omega));have HK0:=q_ ((qi.refl (λj=>j<W.1.size/\j≠b/\j≠g) W).stored hst2 (λq=>q.2.2 rfl));have HF0:=q_ (hbs.kept HK0.o λk q=>q);have hb1:=(hC 0).1;have hb2:=(hC 0).2;have HCO:=q_ (ajy hC 0 (n:=(bs.length:Int)) (o5 _));have HMX:Q_ (l.length<1024):=q_ (au4 l hst);have HFS:=q_ (a46 hs hst HK0.o);generalize C.getD 0 0=In at *;generalize hC1:q7 C 0 bs.length=C1 at *;have hbl:(bs.length:Int)<=4000000:=by omega
 have HL:=q_ (o3 hn hc);clear hs hst2 h hC hbs hst hC1 hbg hn hc;generalize hnn:bs.length=n at *;have HNN:=q_ hnn;clear hnn;go_enter func22,ntmps22;go_wp2_with (refine(adn HT.o).mono ?_;rintro e w' ⟨rfl,rfl⟩);generalize W.setCell ⟨g,1,none⟩ (.int .i64 (In +(n:Int)))=W1 at *;clear c1 z1
 go_loopg [1,5] (n+1) (λgk s1 s5 wr=>∃p q X k,s1=.slice X q.length k/\q.length<gk/\q.length<=k/\Q_ (bs=p++q)/\Q_ (qf (λj=>j<W.1.size/\j≠b/\j≠g) wr X (bsV q))/\Q_ (a8w W g b C1 (l++p) s5 wr))
 case atStart=>exact⟨[],bs,A,c,by rw[HNN.o],by rw[HNN.o];omega,by rw[HNN.o];exact HL.o.2,rfl,HF0.o,by rw[b0p];exact HFS.o⟩
 case round=>
  obtain⟨p,q,X,k,rfl,hgk,hqk,HB,HF,HS⟩:=hrel;clear HFS HF0 HK0
  by_cases hq0:q=[]
  ·subst hq0;go_wp2_with fail;go_ret;refine⟨_,rfl,?_⟩;have e:=HB.o;rw[b0p]at e;rw[e];exact HS.o
  ·have hql:0<q.length:=b2q.2 hq0;have hrr:=adz (l++p);have HRL:Q_ ((qp (l++p)).2.length<1024):=q_ hrr.2.1;have hpb:p.length+q.length=n:=by rw[<- HNN.o,HB.o,e9]
   have hsl:=aa8 (l++p)
   have HCK:Q_ (v5 (jp C1 (qp (l++p)).1) 900000000):=q_ ((agf _ HCO.o).le (by
    have:=HMX.o;rw[e9]at hsl;omega))
   obtain⟨m,hm⟩:∃m,min q.length (1024-(qp (l++p)).2.length)=m:=⟨_,rfl⟩;have hm1:1<=m:=by have:=HRL.o;omega
   have hm2:m<=q.length:=by omega
   have HSC:=q_ (alg (l++p) (q.take m));have HPT:=q_ (a8o (bs:=q) X k HS.o.dec.win (HF.o.less λj r=>r.2.1) (by unfold maxLen;omega) hqk);rw[hm]at HPT;have HQ2:Q_ (bs=(p++q.take m)++q.drop m):=q_ (by rw[b0s,b0t];exact HB.o);have HDL:Q_ ((q.drop m).length=q.length-m):=q_ n5;have c0:=HS.o.dec.c0
   have HQS:Q_ (∀j u,(bsV q)[j]?=some u->∃b' off,X=some ⟨b',off,none⟩):=q_ λj u hu=>by
    obtain⟨b',off,e,-⟩:=HF.o j u hu;exact⟨b',off,e⟩
   obtain⟨x0,hx0⟩:∃x0,(bsV q)[0]?=some x0:=⟨_,d7 (by rw[xm];exact hql)⟩;obtain⟨bx,ox,rfl⟩:=HQS.o 0 x0 hx0;have hqI:(0:Int)<(q.length:Int):=by omega
   have hmI:(m:Int) <=(q.length:Int):=by omega
   have hm0:(0:Int) <=(m:Int):=by omega
   have hkI:(q.length:Int) <=(k:Int):=by omega
   have HPB:=q_ hpb;clear hm hrr hsl hx0 HQS hpb;have HFQ:=HF;generalize hqn:q.length=qn at *;have HQN:=q_ hqn;clear hqn hq0
   have HEND:∀w2,v7 w2 b ((qp (l++p)).2++q.take m)->qi (λj=>j≠b) wr w2->Q_ (Calls prog 39 #[.pointer (some ⟨g,0,none⟩)] w2 (a4b w2 g b (jp C1 (qp (l++p)).1) ((qp (l++p)).2++q.take m))/\qf (λj=>j<W.1.size/\j≠b/\j≠g) w2 (some ⟨bx,ox+m,none⟩) (bsV (q.drop m))/\xt W.1.size u5 (q6 (qp (l++p)).1) w2/\qi (λj=>j<W.1.size/\j≠b/\j≠g) W w2/\W.1.size<=w2.1.size):=λw2 hw hk=>q_ ⟨a63 (HS.o.dec.moved hw hk) HCK.o,by
    have:=(HF.o.kept hk λj r=>r.2.1).part m
    rwa [abs]at this,HS.o.its.kept (λj r _=>hk.block j (by have:=HBG.o;omega)) hk.size,HS.o.kept.trans (hk.less λj r=>r.2.1),p9 HS.o.kept.size hk.size⟩
   have HLP:Q_ ((qp (l++p)).1.length<=5000000 /\(qp ((qp (l++p)).2++q.take m)).1.length<=5000000):=q_ (by
    have h1:=aa8 (l++p);have h2:=aa8 ((qp (l++p)).2++q.take m);have h3:=HMX.o;have h4:=HRL.o;have h5:=HQN.o;have h6:=HPB.o;rw[e9]at h1 h2;rw[l8]at h2;omega)
   have HXD:Q_ (m=k->q.drop m=[]):=q_ λe=>b0k (by rw[HDL.o];omega)
   have HXE:Q_ (l ++(p++q.take m)=(l++p)++q.take m):=q_ (b0s _ _ _).symm;generalize q.drop m=q2 at *;generalize q.take m=q1 at *;generalize hV1:(qp (l++p)).1=V1 at *;generalize hR1:(qp (l++p)).2=R1 at *;clear hV1 hR1 HS HF HFQ HRL HCK HB;go_wp2_with fail;refine HPT.o.mono ?_;rintro e w2 ⟨rfl,hw,hk⟩;have HE2:=HEND w2 hw hk;clear hw hk HEND HPT c0
   have HTAIL:∀v3 w3,afi w2 g b (jp C1 V1) (R1++q1) (qp (R1++q1)).1 (qp (R1++q1)).2 v3 w3->Q_ (∃v4 w4,(Builtin.append_ #[75,75] 75 #[u5,v3]).run prog w3=.ok v4 w4/\a8w W g b C1 (l ++(p++q1)) v4 w4/\∀X2,(m=k\/X2=some ⟨bx,ox+m,none⟩)->qf (λj=>j<W.1.size/\j≠b/\j≠g) w4 X2 (bsV q2)):=λv3 w3 hr=>q_ (by
    obtain⟨-,hf2,hi2,hk2,hz2⟩:=HE2.o;have hi3:xt W.1.size u5 (q6 V1) w3:=hi2.kept (λj r1 r2=>hr.kept.block j ⟨r2,by have:=HBG.o;omega,by have:=HBG.o;omega⟩) hr.kept.size;obtain⟨Ls,ho3,hq3⟩:=hr.its;obtain⟨A3,c3,rfl,-,hfl3,-⟩:=zt ho3;have hl1:(q6 V1).length<=V1.length:=by unfold q6;rw[b0o];exact b2u _ _
    have hl2:(q6 (qp (R1++q1)).1).length <=(qp (R1++q1)).1.length:=by unfold q6;rw[b0o];exact b2u _ _
    have hlp:=HLP.o;have hz3:=hr.kept.size;obtain⟨v4,w4,h1,h2,h3,-,-⟩:=hi3.app om A3 c3 Ls hfl3 (hq3.less λj r=>⟨by have:=r.1;omega,r.2.1,λq=>by have:=(hi2.own q.symm).2;have:=r.1;omega⟩) om;have hk4:qi (λj=>j<W.1.size) w3 w4:=qi.of_below h3 λj q=>q
    refine⟨v4,w4,h1,⟨?_,?_,hk2.trans ((hr.kept.less λj r=>⟨by have:=r.1;omega,r.2⟩).trans (hk4.less λj r=>r.1))⟩,λX2 hX=>?_⟩
    ·rw[HXE.o,HSC.o,adt];exact hr.dec.moved2 hk4 HBG.o
    ·rw[HXE.o,HSC.o,ago];exact h2
    ·rcases hX with e|rfl
     ·rw[HXD.o e];exact qf.nil _ _ _
     ·exact(hf2.keep λj r=>hr.kept.block j ⟨by have:=r.1;omega,r.2⟩).keep λj r=>hk4.block j r.1)
   rcases b08 m k with hmk|hmk
   ·have hmk2:(m:Int)<(k:Int):=by omega
    go_wp2_with fail;refine HE2.o.1.mono ?_;rintro e w3 ⟨v3,rfl,hr⟩;obtain⟨v4,w4,hrun,hfs,hfl⟩:=(HTAIL v3 w3 hr).o;have HRUN:=q_ hrun;have HFS:=q_ (o3 hfs (hfl (some ⟨bx,ox+m,none⟩) (.inr rfl)));clear hr hrun hfs hfl HTAIL HE2;go_wp2_with (at_builtin;refine q9 rfl _ _ 75 rfl _ _ _ rfl rfl HRUN.o ?_)
    go_roundg qn
    case measure=>omega
    case rel=>exact⟨p++q1,q2,_,k-m,by rw[HDL.o],by rw[HDL.o];omega,by rw[HDL.o];omega,HQ2.o,HFS.o.2,HFS.o.1⟩
   ·obtain rfl:k=m:=by omega
    obtain rfl:qn=k:=by omega
    go_wp2_with fail;refine HE2.o.1.mono ?_;rintro e w3 ⟨v3,rfl,hr⟩;obtain⟨v4,w4,hrun,hfs,hfl⟩:=(HTAIL v3 w3 hr).o;have HRUN:=q_ hrun;have HFS:=q_ (o3 hfs (hfl (some ⟨bx,ox,none⟩) sm));clear hr hrun hfs hfl HTAIL HE2;go_wp2_with (at_builtin;refine q9 rfl _ _ 75 rfl _ _ _ rfl rfl HRUN.o ?_)
    go_roundg qn
    case measure=>omega
    case rel=>exact⟨p++q1,q2,_,0,by rw[HDL.o,b23],by rw[HDL.o];omega,by rw[HDL.o];omega,HQ2.o,HFS.o.2,HFS.o.1⟩
theorem bme (w:World):(binOp .eql 76 (.agg z4A) (.agg z4A)).run prog w=.ok (.bool true) w:=by kernel_rfl
theorem bma (x y:Operand) (w:World):(eqGuard .eql 76 x y (.agg z4A) (.agg z4A)).run prog w=.ok () w:=by kernel_rfl
theorem jr.rgB {W:World} {g b:Nat} {l:List UInt8} (h:jr W g b z13 l):W.rangeAt g 10 z4A.toList:=by
 have:=h.rgC;exact((World.rangeAt_append (l:=(List.replicate 9 (0:Int)).map (Value.int .i64)) (m:=z4A.toList)).1 this).2
theorem aq4 {W:World} {g b:Nat} {l:List UInt8} (h:jr W g b z13 l) :
 Calls prog 24 #[.pointer (some ⟨g,0,none⟩)] W λe w'=>e=.returned (.agg (yp z13))/\jr w' g b z13 l/\Below W.1.size W w':=by
 have HZ:=λW=>q_ (al4 W)
 have HZA:=λW=>q_ (a9p W)
 have HBC:=λW=>q_ (a4o W)
 have H:=q_ h;clear h;go_enter func24,ntmps24
 go_upto_region 2 with(first
  | (refine qc rfl 78 rfl (yp z13) (HZ _).o ?_;intro W1 hW;have HC1:=q_ (Blk.newL (L:=z13.map (Value.int .i64)) hW rfl);have H1:=q_ (H.o.on hW.bel);have HB1:=q_ hW.bel;have HS1:=q_ hW.sz;clear hW)
  | (refine qc rfl 76 rfl z4A (HZA _).o ?_;intro W2 hW;have HC2:=q_ (HC1.o.on hW.bel);have HN2:=q_ (Blk.newL (L:=z4A.toList) hW rfl);have H2:=q_ (H1.o.on hW.bel);have HB2:=q_ (qb HB1.o hW.bel);clear hW))
 try (apply b1q;intro K_ HK_)
 have hS0:Below W2.1.size W2 W2.drew:=(n9 _ _).drew;refine t6 (S:=λw'=>Below W2.1.size W2 w') kr hS0 (λhHeld0=>?_);refine tkA 0 4 rfl ?_;go_frame;refine rdB 1 5 rfl λK hK=>?_
 go_step;refine(adn (H2.o.on hHeld0)).mono ?_;rintro e W' ⟨rfl,rfl⟩
 try go_frame
 refine hK.out _ _ (hHeld0) (λhHeld=>?_);clear hK K
 try go_frame
 refine tkA 2 6 rfl ?_;go_frame;refine tkA 3 7 rfl ?_;go_frame;refine tkA 4 8 rfl ?_;go_frame;refine tkA 5 9 rfl ?_;go_frame;refine tkA 6 10 rfl ?_;go_frame;refine tkA 7 11 rfl ?_;go_frame;refine tkQ (i:=8) (oi:=⟨some 12,_,_,_,_,_⟩) (v:=?_) rfl (Or.inl ⟨by rfl,?_⟩) ?_;rotate_left
 ·intro w' hSw;have c1:w'.cell? ⟨g,1,none⟩=some (.int .i64 0):=(H2.o.on hSw).cd 0 dc;go_simp
  try with_reducible rfl
 try go_frame
 refine tkA 9 13 rfl ?_;go_frame;refine tkA 10 14 rfl ?_;go_frame;refine tkA 11 15 rfl ?_;go_frame;refine tkA 12 16 rfl ?_;go_frame;refine tkA 13 17 rfl ?_;go_frame;refine tkA 14 18 rfl ?_;go_frame;refine tkQ (i:=15) (oi:=⟨some 19,_,_,_,_,_⟩) (v:=.agg z4A) rfl (o4 (by rfl) 76 _ rfl g 10 rfl z4A.toList _ (λw' hSw=>(H2.o.on hSw).rgB) underlying76 rfl kr) ?_;go_frame;refine tkQ (i:=16) (oi:=⟨some 20,_,_,_,_,_⟩) (v:=.agg z4A) rfl (o4 (by rfl) 76 _ rfl W1.1.size 0 rfl z4A.toList _ (λw' hSw=>(HN2.o.on hSw).rg) underlying76 rfl kr) ?_;go_frame;refine tkQ (i:=17) (oi:=⟨some 21,_,_,_,_,_⟩) (v:=.bool true) rfl (aic (by rfl) .eql 76 (.tmp 19) (.tmp 20) 76 rfl (u:=.agg z4A) (v:=.agg z4A) kr kr (λW=>bma _ _ W) (λW=>bme W)) ?_;go_frame;refine tkA 18 22 rfl ?_;go_frame;refine tkA 19 23 rfl ?_;go_frame;refine b0m kr ?_ _
 try go_frame
 have HC3:Q_ (Blk _ W.1.size (z13.map (Value.int .i64))):=q_ (HC2.o.on hHeld0);have H3:=q_ (H2.o.on hHeld0);have HB3:=q_ (qb HB2.o hHeld0);clear HC2 H2 HB2 HC1 H1 HB1 HN2
 go_wp2_with (first
  | refine zo rfl 78 rfl (HBC _).o ?_
  | (refine qe rfl 78 _ _ rfl W.1.size 0 (yp z13) rfl rfl (HC3.o.there 0 13 dc) (ac3 rfl) (ahj _) ?_;intro W4 hs;have HC4:=q_ (HC3.o.all hs rfl);have H4:=q_ (H3.o.kept2 hs (by have:=H.o.blk.lt;omega) (by have:=H.o.win.lt;omega));have HB4:=q_ (HB3.o.trans (hs.below (a8 _)));clear hs))
 try go_frame
 have HLD:=q_ (t9 (P:=prog) W4 W.1.size 0 78 (yp z13).toList _ HC4.o.rg underlying78 rfl (by rw[b0h];exact ac3 rfl));refine b9 (v:=.agg (yp z13)) (by rw[aa7 rfl];simp[asAddr,Result.andThen,HLD.o]) rfl ⟨rfl,H4.o,HB4.o⟩
def bkw (Q:Nat->Prop) (w:World) (v:Value) (p:List UInt8):Prop:=∃X c,v=.slice X p.length c/\p.length<=c/\qf Q w X (bsV p)
def ahc (Q:Nat->Prop) (w:World) (A:Option Addr) (ps:List (List UInt8)):Prop:=∃V,qf Q w A V/\∀(j:Nat) p,ps[j]?=some p->∃v,V[j]?=some v/\bkw Q w v p
theorem ahc.get {Q:Nat->Prop} {w:World} {A:Option Addr} {ps:List (List UInt8)} (h:ahc Q w A ps) {k:Nat} {p:List UInt8} (hp:ps[k]?=some p):∃b off X c,A=some ⟨b,off,none⟩/\Q b/\w.cell? ⟨b,off+k,none⟩=some (.slice X p.length c)/\p.length<=c/\qf Q w X (bsV p):=by
 obtain⟨V,h1,h2⟩:=h;obtain⟨v,hv,X,c,rfl,hc,hf⟩:=h2 k p hp;obtain⟨b,off,e,hq,hcell⟩:=h1 k _ hv;exact⟨b,off,X,c,e,hq,hcell,hc,hf⟩
def ahm (ps:List (List UInt8)):Nat:=(ps.map λp=>min p.length 4000).sum
def a47 (ps:List (List UInt8)):Bool:=decide (ps.length<=60/\ahm ps<=4000)
theorem az2 (a b:List (List UInt8)):ahm (a++b)=ahm a+ahm b:=by unfold ahm;rw[b17,b3s]
theorem bav {ps:List (List UInt8)} {k:Nat} {p:List UInt8} (hk:ps[k]?=some p):ahm (ps.take (k+1))=ahm (ps.take k)+min p.length 4000:=by
 rw[List.take_add_one,hk,az2];simp[ahm]
theorem bi9 (ps:List (List UInt8)) (k:Nat):ahm (ps.take k)<=ahm ps:=by
 have h:=az2 (ps.take k) (ps.drop k);rw[b0t]at h;omega
theorem bfo (z:Nat):min (z:Int) 4000=((min z 4000:Nat):Int):=by omega
theorem aq5 {Q:Nat->Prop} {w:World} (A:Option Addr) (ps:List (List UInt8)) (c:Nat) (h:ahc Q w A ps) (hm:ps.length<=maxLen) (hb:∀p∈ps,p.length<=maxLen) :
 Calls prog 19 #[.slice A ps.length c] w λe w'=>e=.returned (.bool (a47 ps))/\w=w':=by
 unfold maxLen at hm;have HI:=q_ h;have HE:Q_ (ahm (ps.take ps.length)=ahm ps):=q_ (by rw[b0v])
 have HD:Q_ (∀b:Bool,(b=true↔ps.length<=60/\ahm ps<=4000)->b=a47 ps):=q_ λb hb=>by
  unfold a47;rw[b4i,hb];simp
 have HB:=q_ hb;generalize hL:ps.length=n at *;have HL:=q_ hL;clear h hb hL;go_enter func19,ntmps19
 by_cases h60:60<n
 ·have i60:(60:Int)<(n:Int):=by omega
  go_wp2_with fail;go_ret;exact⟨by rw[HD.o false (by constructor<;>intro q;(· cases q);omega)];rfl,rfl⟩
 have i60:(n:Int)<=60:=by omega
 go_wp2_with fail
 go_loopg [3,4] n (λg s3 s4 wr=>∃k:Nat,k<=n/\n-k<=g/\s4=.int .i64 k/\s3=.int .i64 (ahm (ps.take k):Int)/\ahm (ps.take k)<=4000/\wr=w)
 case atStart=>exact⟨0,b0d _,by omega,rfl,rfl,by simp[ahm],rfl⟩
 case round=>
  obtain⟨k,hk,hg,rfl,rfl,hf,rfl⟩:=hrel
  by_cases hlt:k<n
  ·have hkl:k<ps.length:=by rw[HL.o];exact hlt
   obtain⟨b',o',X,c',rfl,-,hc,-,-⟩:=HI.o.get (d7 hkl);have HSN:=q_ (bav (d7 hkl));have hpl:=HB.o _ (b1j hkl);have hle:=bi9 ps (k+1);have HLE:=q_ hle;have HSF:=q_ hf;unfold maxLen at hpl;clear hle;generalize ps[k].length=x at *;generalize ahm (ps.take k)=m at *;have i1:(k:Int)<n:=by omega
   have i2:(0:Int) <=(k:Int):=o5 _;have eM:=bfo x;have hM:min x 4000<=4000:=Nat.min_le_right _ _;generalize min x 4000=M at *;have i7:(0:Int) <=(m:Int)+M:=by omega
   have i8:(m:Int)+M<=8000:=by omega
   clear hM
   by_cases hs:m+M<=4000
   ·have i5:(m:Int)+M<=4000:=by omega
    clear hs hf hpl;go_wp2_with fail
    go_roundg (n-(k+1))
    case measure=>omega
    case rel=>exact⟨k+1,by omega,by omega,by simp,by rw[HSN.o];simp,by rw[HSN.o];omega,rfl⟩
   ·have i5:4000<(m:Int)+M:=by omega
    have HS:=q_ hs;clear hs hf hpl;go_wp2_with fail;go_ret;exact⟨by rw[HD.o false (by have:=HSN.o;have:=HLE.o;have:=HS.o;constructor<;>intro q;(· cases q);omega)];rfl,rfl⟩
  ·obtain rfl:k=n:=by omega
   go_wp2_with fail;go_ret;exact⟨by rw[HD.o true (by have:=HE.o;simp;omega)];rfl,rfl⟩
theorem bhv:(prog.info? 5).map (λi=>(i.zero,i.size,i.bytes))=some (some (.int .u8 0),1,1):=by kernel_rfl
theorem bkn:∃i z,prog.info? 5=some i/\i.zero=some z/\i.size=1/\i.bytes=1/\z.cells.size=1:=by
 have h:=bhv;cases hi:prog.info? 5 with
 | none=>rw[hi]at h;cases h
 | some i=>
  rw[hi,b26,b2e,b35,b35]at h;exact⟨i,_,rfl,h.1,h.2.1,h.2.2,rfl⟩
theorem atw {ps:List (List UInt8)} {k:Nat} {p:List UInt8} (hk:ps[k]?=some p):(ps.take (k+1)).flatten=(ps.take k).flatten++p:=by
 rw[List.take_add_one,hk,b3j];simp
theorem a86 {ps:List (List UInt8)} (k:Nat):(ps.take k).flatten.length<=ps.flatten.length:=by
 have h:((ps.take k).flatten ++(ps.drop k).flatten).length=ps.flatten.length:=by rw[<- b3j,b0t]
 rw[e9]at h;omega
theorem asw {w:World} (A:Option Addr) (ps:List (List UInt8)) (c:Nat) (h:ahc (λb=>b<w.1.size) w A ps) (hm:ps.length<=maxLen) (hj:ps.flatten.length<=4000000) :
 Calls prog 23 #[.slice A ps.length c] w λe w'=>∃v,e=.returned v/\aa0 w 5 1 v ps.flatten.length (bsV ps.flatten) w':=by
 unfold maxLen at hm;have HI:=q_ h;have HJ:=q_ hj;have HE:Q_ ((ps.take ps.length).flatten=ps.flatten):=q_ (by rw[b0v]);generalize hL:ps.length=n at *;have HL:=q_ hL;clear h hj hL;obtain⟨iu,zu,hu1,hu2,hu3,hu4,hu5⟩:=bkn;have HU:=q_ (o3 hu1 (o3 hu2 (o3 hu3 hu4)));clear hu1 hu2 hu3 hu4;go_enter func23,ntmps23;go_wp2_with fail
 go_loopg [3,4] n (λg s3 s4 wr=>∃k:Nat,k<=n/\n-k<=g/\s4=.int .i64 k/\Q_ (aa0 w 5 1 s3 (ps.take k).flatten.length (bsV (ps.take k).flatten) wr))
 case atStart=>exact⟨0,b0d _,by omega,rfl,aa0.nil _ _ _ (n9 _ _)⟩
 case round=>
  obtain⟨k,hk,hg,rfl,HO⟩:=hrel
  by_cases hlt:k<n
  ·have hkl:k<ps.length:=by rw[HL.o];exact hlt
   obtain⟨b',o',X,c',rfl,hq,hc,-,hf⟩:=HI.o.get (d7 hkl);have hc':wr.cell? ⟨b',o'+k,none⟩=some (.slice X ps[k].length c'):=(HO.o.2.cell (p:=⟨b',o'+k,none⟩) hq).trans hc;have hf':qf (λb=>b<w.1.size) wr X (bsV ps[k]):=hf.keep λb q=>HO.o.2.block b q
   have e1:=atw (d7 hkl)
   have e2:(ps.take k).flatten.length+ps[k].length<=4000000:=by
    have:=a86 (ps:=ps) (k+1);rw[e1,e9]at this;exact p9 this HJ.o
   obtain⟨v',w',hrun,ho,hb⟩:=aip (P:=prog) (t:=22) (ty:=22) HO.o.1 HO.o.2.size HU.o underlying22 hu5 dc X ps[k].length c' (bsV ps[k]) (by rw[xm];omega) hf' (agc _) (by unfold maxLen;omega) om
   have HN:Q_ (aa0 w 5 1 v' (ps.take (k+1)).flatten.length (bsV (ps.take (k+1)).flatten) w'):=q_ (by
    rw[e1,adi,e9];exact⟨ho,HO.o.2.trans hb⟩)
   have HRUN:=q_ hrun;have hpl:ps[k].length<=4000000:=by omega
   clear hrun ho hb hc hf hf' e1 e2 HO;generalize ps[k].length=x at *;have i1:(k:Int)<n:=by omega
   have i2:(0:Int) <=(k:Int):=o5 _;go_wp2_with (at_builtin;refine q9 rfl _ _ 22 rfl _ _ _ rfl rfl HRUN.o ?_)
   go_roundg (n-(k+1))
   case measure=>omega
   case rel=>exact⟨k+1,by omega,by omega,by simp,HN⟩
  ·obtain rfl:k=n:=by omega
   go_wp2_with fail;go_ret;exact⟨_,rfl,by rw[<- HE.o];exact HO.o⟩
theorem aml (V:List VeD):(q6 V).length<=V.length:=by
 unfold q6;rw[b0o];exact b2u _ _
theorem bi1 (l:List UInt8) (hl:l.length<=4000000):v5 (acb l) 400000000:=by
 have h0:v5 [0,0,0,0,0,0,0,0,0,0,0,0,0] 0:=λk=>by
  have:([0,0,0,0,0,0,0,0,0,0,0,0,0]:List Int).getD k 0=0:=by
   rcases b08 k 13 with q|q
   ·match k,q with
    | 0,_=>rfl
    | 1,_=>rfl
    | 2,_=>rfl
    | 3,_=>rfl
    | 4,_=>rfl
    | 5,_=>rfl
    | 6,_=>rfl
    | 7,_=>rfl
    | 8,_=>rfl
    | 9,_=>rfl
    | 10,_=>rfl
    | 11,_=>rfl
    | 12,_=>rfl
   ·rw[l9,b0c (by exact q)];rfl
  omega
 have h1:=aa8 l;have h2:=ajy (agf (qp l).1 h0) 0 (n:=(l.length:Int)) (o5 _);exact h2.le om
theorem ahc.below {w w':World} {A:Option Addr} {ps:List (List UInt8)} (h:ahc (λb=>b<w.1.size) w A ps) (hb:Below w.1.size w w'):ahc (λb=>b<w'.1.size) w' A ps:=by
 obtain⟨V,h1,h2⟩:=h;refine⟨V,(h1.keep λb q=>hb.block b q).less λb q=>i9 q hb.size,λj p hp=>?_⟩;obtain⟨v,hv,X,c,e,hc,hf⟩:=h2 j p hp;exact⟨v,hv,X,c,e,hc,(hf.keep λb q=>hb.block b q).less λb q=>i9 q hb.size⟩
theorem a13 {W:World} {g b:Nat} {l r:List UInt8} (h:jr W g b (acb l) r) :
 Calls prog 24 #[.pointer (some ⟨g,0,none⟩)] W λe w'=>e=.returned (.agg (yp (acb l)))/\jr w' g b (acb l) r/\Below W.1.size W w':=by
 by_cases hl:l=[]
 ·subst hl;exact aq4 h
 ·refine asv h ?_;have hp:0<l.length:=b2q.2 hl;have e:=(azp (qp l).1 [0,0,0,0,0,0,0,0,0,0,0,0,0] rfl (ara l)).1;unfold acb;rw[atq (by rw[aii];decide),e,if_pos rfl];simp;omega
