/- Parts. -/
import Derived.Test.YtdkhlkfleggbaaaGreatQ31
namespace Go.Proofs.YtdkhlkfleggbaaaGreat
set_option maxHeartbeats 2000000
set_option maxRecDepth 8000
open Lib (hid)
open Tryz
set_option linter.unusedVariables false
open Go.RowKit
theorem aqp:∀(xs:List Value) (off j:Nat) (L:List Value),off+j+xs.length≤L.length →(xs.zipIdx j).foldl (fun cs (p:Value×Nat)=>cs.set (off+p.2) p.1) L=aa0 L (off+j) xs
 | [],off,j,L,h=>by
  unfold aa0;simp
 | x::xs,off,j,L,h=>by
  rw[List.length_cons]at h;rw[List.zipIdx_cons,List.foldl_cons,aqp xs off (j+1) _ (by rw[List.length_set];omega)];apply List.ext_getElem?;intro k;rw[aqz (by rw[List.length_set];omega),aqz (by rw[List.length_cons];omega),List.length_cons]
  by_cases h1:off +(j+1)≤k∧k<off +(j+1)+xs.length
  ·rw[if_pos h1,if_pos om,show k-(off+j)=(k-(off +(j+1)))+1 from by omega,List.getElem?_cons_succ]
  ·rw[if_neg h1];dsimp only
   by_cases h2:k=off+j
   ·subst h2;rw[if_pos om,Nat.sub_self,List.getElem?_set_self om];rfl
   ·rw[if_neg om,List.getElem?_set_ne om]
theorem ay1 (l:List (Value×Nat)) (off:Nat):∀C:Array Value,(l.foldl (fun cs (p:Value×Nat)=>cs.setIfInBounds (off+p.2) p.1) C).toList=l.foldl (fun cs (p:Value×Nat)=>cs.set (off+p.2) p.1) C.toList:=by
 induction l with
 | nil=>intro C;rfl
 | cons p l ih=>
  intro C;rw[List.foldl_cons,List.foldl_cons,ih,Array.toList_setIfInBounds]
theorem yn {place:Nat→Option (Nat×Nat)} {C:Array Value} {i off:Nat} {v:Value} {L:List Value} {rest:List (Nat×Value)} (hL:v.cells=L.toArray) (hp:place i=some (off,L.length)) (hb:off+L.length≤C.size) :
 Instr.fill place C ((i,v)::rest)=Instr.fill place (aa0 C.toList off L).toArray rest:=by
 rw[Instr.fill];simp only[hp,hL,List.size_toArray];rw[if_neg (by simp;omega)]
 congr 1
 apply Array.toList_inj.1
 have e:(L.toArray.zipIdx).foldl (fun cs (x:Value×Nat)=>cs.setIfInBounds (off+x.2) x.1) C=(L.zipIdx).foldl (fun cs (p:Value×Nat)=>cs.setIfInBounds (off+p.2) p.1) C:=by
  rw[← Array.foldl_toList];simp
 show ((L.toArray.zipIdx).foldl (fun cs (x:Value×Nat)=>cs.setIfInBounds (off+x.2) x.1) C).toList=_;rw[e,ay1,aqp L off 0 C.toList (by simpa using hb)];rfl
theorem acp {α:Type} (A M D xs:List α) (h:xs.length=M.length):aa0 (A ++(M++D)) A.length xs=A ++(xs++D):=by
 unfold aa0;rw[List.take_left' rfl,h,← List.drop_drop,List.drop_left' rfl,List.drop_left' rfl,List.append_assoc]
theorem ack {P:Program} {w:World} {t:TypeId} {fs:Array Field} {z:Array Value} {pl:Array (Nat×Nat)} {parts:Array (Nat×Value)} {C:Array Value} (hu:P.underlying t=some (.struct fs)) (hz:(zeroValue t).run P w=.ok (.agg z) w)
 (hp:(fs.mapM fun f=>do pure (f.offset,← sizeOf f.type):Sem (Array (Nat×Nat))).run P w=.ok pl w) (hf:Instr.fill (fun i=>pl[i]?) z parts.toList=some C):(Instr.build t parts).run P w=.ok (.agg C) w:=by
 have hun:(underlying t).run P w=.ok (.struct fs) w:=run_underlying hu w;unfold Instr.build;simp only[Sem.run_bind,hz,Result.andThen_ok,hun,hp];have h2:Instr.fill (fun x=>pl[x]?) (Value.agg z).cells parts.toList=some C:=hf;simp[h2]
theorem bcy {Q:Nat→Prop} {w:World} {A:Option Addr} {l:List UInt8} (h:qf Q w A (bsV l)) (n c:Nat) (hn:l.length=n):(convert 22 9 (.slice A n c)).run prog w=.ok (.string (toS l)) w:=by
 subst hn;cases l with
 | nil=>
  cases A with
  | none=>exact run_convert_bytes_nil (P:=prog) w 22 5 underlying22 underlying5 0 c 9 underlying9
  | some a=>exact akr (P:=prog) w 22 9 5 a c [] underlying22 underlying5 underlying9 (fun j hj=>absurd hj (Nat.not_lt_zero _))
 | cons x r=>
  obtain⟨b,off,rfl,-,-⟩:=h 0 (bV x) rfl
  have e:∀l:List UInt8,l.map ((fun n:Int=>UInt8.ofNat n.toNat) ∘ fun y:UInt8=>(y.toNat:Int))=l:=fun l=>by
   induction l with
   | nil=>rfl
   | cons y l ih=>rw[List.map_cons,ih];simp
  have:=akr (P:=prog) w 22 9 5 ⟨b,off,none⟩ c ((x::r).map fun y=>(y.toNat:Int)) underlying22 underlying5 underlying9 (fun j hj=>by
   have hj':j<(x::r).length:=by simpa using hj
   obtain⟨b',off',q,-,hc⟩:=h j _ (yk hj');injection q with q;injection q with q1 q2;subst q1 q2
   rw[adq,hc,List.getElem_map];rfl)
  rw[List.length_map,List.map_map,e]at this;exact this
def bj2:Array (Nat×Nat):=#[(0,1),(1,1),(2,48),(50,65),(115,5)]
theorem a8g {L:List Value} (hl:L.length=48) (w:World):(Instr.build 64 #[(2,.agg L.toArray)]).run prog w=.ok (.agg (itL 0 false L acg ac4).toArray) w:=by
 refine ack (z:=ala) (pl:=bj2) underlying64 (adp w) kr ?_;show Instr.fill _ ala ((2,.agg L.toArray)::[])=_;rw[yn (off:=2) (L:=L) rfl (by rw[hl];rfl) (by rw[hl];decide)];show some _=some _
 congr 2
 exact acp [Value.int .i64 0,.bool false] kf (acg++ac4) L (by rw[hl];rfl)
theorem a8e {L:List Value} (hl:L.length=65) (w:World):(Instr.build 64 #[(3,.agg L.toArray)]).run prog w=.ok (.agg (itL 0 false kf L ac4).toArray) w:=by
 refine ack (z:=ala) (pl:=bj2) underlying64 (adp w) kr ?_;show Instr.fill _ ala ((3,.agg L.toArray)::[])=_;rw[yn (off:=50) (L:=L) rfl (by rw[hl];rfl) (by rw[hl];decide)];show some _=some _
 congr 2
 exact acp (Value.int .i64 0::.bool false::kf) acg ac4 L (by rw[hl];rfl)
theorem a8f {L:List Value} (hl:L.length=5) (w:World):(Instr.build 64 #[(4,.agg L.toArray)]).run prog w=.ok (.agg (itL 0 false kf acg L).toArray) w:=by
 refine ack (z:=ala) (pl:=bj2) underlying64 (adp w) kr ?_;show Instr.fill _ ala ((4,.agg L.toArray)::[])=_;rw[yn (off:=115) (L:=L) rfl (by rw[hl];rfl) (by rw[hl];decide)];show some _=some _
 congr 2
 have:=acp (Value.int .i64 0::.bool false::(kf++acg)) ac4 [] L (by rw[hl];rfl);simp only[List.append_nil]at this;exact this
theorem akc {L:List Value} {Q:Nat→Prop} {w:World} {x:ItD} (h:ItM Q w L x):L.toArray.all (·.oneCell')=true:=ka fun v hv=>h.ones v (by simpa using hv)
theorem akd {L:List Value} (h:L.length=120):(prog.info? 64).map (·.size)=some L.toArray.size:=by
 rw[List.size_toArray,h];kernel_rfl
theorem aap {W:World} {b:Nat} {L0 C:List Value} (h:Blk W b L0) (hl:C.length=L0.length):W.there b 0 C.toArray.size:=by
 rw[List.size_toArray,hl];exact h.there 0 _ om
theorem acs {W W':World} {b:Nat} {L0 C:List Value} (h:Blk W b L0) (hl:C.length=L0.length) (hs:qz W W' b 0 C.toArray.toList):Blk W' b C:=h.all (by simpa using hs) hl
theorem apu {W:World} {b:Nat} {C:List Value} (h:Blk W b C) (hl:C.length=120):(loadVar 64 ⟨b,0,none⟩).run prog W=.ok (.agg C.toArray) W:=
 run_loadVar_mid (P:=prog) W b 0 64 C _ h.rg underlying64 sm (by rw[hl];kernel_rfl)
def axm (r:ItD×Nat×Int) (w:World) (e:Ending) (w':World):Prop:=∃L,e=.returned (.tuple #[.agg L.toArray,.int .i64 r.2.1,.int .i64 r.2.2])∧ItM (Bk w.1.size w') w' L r.1∧Below w.1.size w w'
theorem a4w {w:World} {V:Value} (x:Int×Nat×aen) (HF:∀W,Below w.1.size w W→Hid (Calls prog 42 #[V] W (a2x x W))) :
 Calls prog 41 #[V] w (axm ({ael with U:=x.2.2},x.2.1,x.1) w):=by
 have HZ:=fun W=>hid (adp W)
 have HZU:=fun W=>hid (alb W)
 obtain⟨E,n,u⟩:=x;unfold a2x at HF;dsimp only at *;go_enter func41,ntmps41;go_wp2_with (refine qc rfl 64 rfl ala (HZ _).out ?_;intro W1 hW1;have HK1:=hid (Blk.newL (L:=adc) hW1 rfl);have HB1:=hid hW1.bel;have HS1:=hid hW1.sz;clear hW1);refine(HF _ HB1.out).out.mono ?_;rintro e w1 ⟨L,rfl,hq,hb⟩;have HQ1:=hid hq;have HL:=hid hq.len;have HK2:=hid (HK1.out.on hb);have HB2:=hid (qb HB1.out hb);have HLT:=hid hb.size;have HB0:=fun W=>hid (a8g HL.out W)
 have HON:=hid (ka (C:=L.toArray) (fun v hv=>hq.ones v (by simpa using hv)));have HSZ:=hid (ak5 HL.out);have hit:∀W,(∀b,W1.1.size≤b∧b<w1.1.size→W.heap[b]?=w1.heap[b]?)→ItM (fun b=>W1.1.size≤b∧b<w1.1.size) W (itL 0 false L acg ac4) {ael with U:=u}:=fun W hk=>⟨_,_,_,rfl,hq.keep hk,NmQ.zero _ _,ae0.zero _ _⟩
 have HIT:=hid hit;have HION:=hid (akc (hit w1 fun _ _=>rfl));have HISZ:=hid (akd (hit w1 fun _ _=>rfl).len);have HILN:=hid (hit w1 fun _ _=>rfl).len;generalize hC:itL 0 false L acg ac4=C at *;have HCC:=hid hC;clear hb HB1 HK1 HF hq hit hC
 go_wp2_with (first
  | (refine qc rfl 38 rfl aem (HZU _).out ?_;intro W2 hW2;have HU2:=hid (Blk.newL (L:=kf) hW2 rfl);have HK3:=hid (HK2.out.on hW2.bel);have HB3:=hid (qb HB2.out hW2.bel);have HP2:=hid (fun b (q:b<w1.1.size)=>hW2.bel.block b q);clear hW2)
  | (refine qe rfl 38 _ _ rfl w1.1.size 0 L.toArray rfl rfl (afs HU2.out rfl HL.out) HSZ.out HON.out ?_;intro W3 hs;have HU3:=hid (ak4 HU2.out hs HL.out);have HK4:=hid (HK3.out.far hs (by have:=HK2.out.lt;omega));have HB4:=hid (HB3.out.trans (hs.below HB2.out.size));have HP3:=hid (fun b (q:b<w1.1.size)=>(hs.far b (Nat.ne_of_lt q)).trans (HP2.out b q));clear hs)
  | refine wpList_load_mid rfl 38 _ rfl w1.1.size 0 rfl L _ HU3.out.rg underlying38 sm (by rw[HL.out];kernel_rfl) ?_
  | refine zo (u:=.agg L.toArray) rfl 64 2 _ rfl rfl (HB0 _).out ?_
  | (refine qe rfl 64 _ _ rfl w.1.size 0 C.toArray rfl rfl (aap HK4.out HILN.out) HISZ.out HION.out ?_;intro W5 hs;have HK5:=hid (acs HK4.out HILN.out hs);have HB5:=hid (HB4.out.trans (hs.below (Nat.le_refl _)));have HP5:=hid (And.intro hs.sz (fun b (q:W1.1.size≤b∧b<w1.1.size)=>(hs.far b (by have:=HS1.out;omega)).trans (HP3.out b q.2)));have HZ3:=hid (HU3.out.lt);clear hs))
 have HLD:=hid (apu HK5.out HILN.out);refine bodyPost_ret (v:=.tuple #[.agg C.toArray,.int .i64 n,.int .i64 E]) (by rw[zq rfl];simp[asAddr,Result.andThen,HLD.out]) rfl ⟨C,rfl,?_,HB5.out⟩;exact(HIT.out W5 HP5.out.2).less fun b q=>⟨by have:=HS1.out;omega,by rw[HP5.out.1];exact Nat.lt_trans q.2 HZ3.out⟩
theorem ber {L:List Value} (h:L.length=5):(prog.info? 62).map (·.size)=some L.toArray.size:=by
 rw[List.size_toArray,h];kernel_rfl
theorem bd9 {L:List Value} (h:L.length=65):(prog.info? 58).map (·.size)=some L.toArray.size:=by
 rw[List.size_toArray,h];kernel_rfl
theorem a6t (w:World):(zeroValue 58).run prog w=.ok (.agg acg.toArray) w:=by kernel_rfl
theorem a4v {w:World} {V:Value} (x:Int×Nat×ag1) (HF:∀W,Below w.1.size w W→Hid (Calls prog 46 #[V] W (acj x W))) :
 Calls prog 45 #[V] w (axm ({ael with T:=x.2.2},x.2.1,x.1) w):=by
 have HZ:=fun W=>hid (adp W)
 have HZU:=fun W=>hid (acy W)
 obtain⟨E,n,u⟩:=x;unfold acj at HF;dsimp only at *;go_enter func45,ntmps45;go_wp2_with (refine qc rfl 64 rfl ala (HZ _).out ?_;intro W1 hW1;have HK1:=hid (Blk.newL (L:=adc) hW1 rfl);have HB1:=hid hW1.bel;have HS1:=hid hW1.sz;clear hW1);refine(HF _ HB1.out).out.mono ?_;rintro e w1 ⟨L,rfl,hq,hb⟩;have HQ1:=hid hq;have HL:=hid hq.len;have HK2:=hid (HK1.out.on hb);have HB2:=hid (qb HB1.out hb);have HLT:=hid hb.size;have HB0:=fun W=>hid (a8f HL.out W)
 have HON:=hid (ka (C:=L.toArray) (fun v hv=>hq.ones v (by simpa using hv)));have HSZ:=hid (ber HL.out);have hit:∀W,(∀b,W1.1.size≤b∧b<w1.1.size→W.heap[b]?=w1.heap[b]?)→ItM (fun b=>W1.1.size≤b∧b<w1.1.size) W (itL 0 false kf acg L) {ael with T:=u}:=fun W hk=>⟨_,_,_,rfl,adz.zero _ _,NmQ.zero _ _,hq.keep hk⟩
 have HIT:=hid hit;have HION:=hid (akc (hit w1 fun _ _=>rfl));have HISZ:=hid (akd (hit w1 fun _ _=>rfl).len);have HILN:=hid (hit w1 fun _ _=>rfl).len;generalize hC:itL 0 false kf acg L=C at *;have HCC:=hid hC;clear hb HB1 HK1 HF hq hit hC
 go_wp2_with (first
  | (refine qc rfl 62 rfl pkA (HZU _).out ?_;intro W2 hW2;have HU2:=hid (Blk.newL (L:=pkA.toList) hW2 rfl);have HK3:=hid (HK2.out.on hW2.bel);have HB3:=hid (qb HB2.out hW2.bel);have HP2:=hid (fun b (q:b<w1.1.size)=>hW2.bel.block b q);clear hW2)
  | (refine qe rfl 62 _ _ rfl w1.1.size 0 L.toArray rfl rfl (aap HU2.out HL.out) HSZ.out HON.out ?_;intro W3 hs;have HU3:=hid (acs HU2.out HL.out hs);have HK4:=hid (HK3.out.far hs (by have:=HK2.out.lt;omega));have HB4:=hid (HB3.out.trans (hs.below HB2.out.size));have HP3:=hid (fun b (q:b<w1.1.size)=>(hs.far b (Nat.ne_of_lt q)).trans (HP2.out b q));clear hs)
  | refine wpList_load_mid rfl 62 _ rfl w1.1.size 0 rfl L _ HU3.out.rg underlying62 sm (by rw[HL.out];kernel_rfl) ?_
  | refine zo (u:=.agg L.toArray) rfl 64 4 _ rfl rfl (HB0 _).out ?_
  | (refine qe rfl 64 _ _ rfl w.1.size 0 C.toArray rfl rfl (aap HK4.out HILN.out) HISZ.out HION.out ?_;intro W5 hs;have HK5:=hid (acs HK4.out HILN.out hs);have HB5:=hid (HB4.out.trans (hs.below (Nat.le_refl _)));have HP5:=hid (And.intro hs.sz (fun b (q:W1.1.size≤b∧b<w1.1.size)=>(hs.far b (by have:=HS1.out;omega)).trans (HP3.out b q.2)));have HZ3:=hid (HU3.out.lt);clear hs))
 have HLD:=hid (apu HK5.out HILN.out);refine bodyPost_ret (v:=.tuple #[.agg C.toArray,.int .i64 n,.int .i64 E]) (by rw[zq rfl];simp[asAddr,Result.andThen,HLD.out]) rfl ⟨C,rfl,?_,HB5.out⟩;exact(HIT.out W5 HP5.out.2).less fun b q=>⟨by have:=HS1.out;omega,by rw[HP5.out.1];exact Nat.lt_trans q.2 HZ3.out⟩
theorem a92 {w:World} (A:Option Addr) (c:Nat) (l:List UInt8) (hA:qf (fun _=>True) w A (bsV l)) (hll:l.length≤1000000) (hlc:l.length≤c) (x:NmD×Nat×Int) (HF:∀W,Below w.1.size w W→Hid (Calls prog 44 #[.string (adj l)] W (a2l x W))) :
 Calls prog 43 #[.slice A l.length c] w (axm ({ael with N:=x.1},x.2.1,x.2.2) w):=by
 have HZ:=fun W=>hid (adp W)
 have HZU:=fun W=>hid (a6t W)
 obtain⟨u,n,E⟩:=x;unfold a2l at HF;dsimp only at *;obtain⟨k,hk⟩:∃k:Nat,min (l.length:Int) 82=(k:Int):=⟨min l.length 82,by omega⟩;have hk1:(k:Int) ≤(l.length:Int):=by omega
 have hk0:(0:Int) ≤(k:Int):=Int.natCast_nonneg _;have hkc:(k:Int) ≤(c:Int):=by omega
 have hkl:(l.take 82).length=k:=by rw[List.length_take];omega
 have HCV:∀W,Below w.1.size w W→Hid (∀d,(convert 22 9 (.slice A k d)).run prog W=.ok (.string (adj l)) W):=fun W hW=>hid fun d=>bcy (by have:=(hA.lt.below hW (fun b q=>q.2)).first 82;rwa [ab8]at this) k d hkl
 generalize adj l=t at *;generalize l.length=ln at *;clear hkl hA;go_enter func43,ntmps43;go_upto_region 1 with(refine qc rfl 64 rfl ala (HZ _).out ?_;intro W1 hW1;have HK1:=hid (Blk.newL (L:=adc) hW1 rfl);have HB1:=hid hW1.bel;have HS1:=hid hW1.sz;clear hW1)
 have hcv:=(HCV W1 HB1.out).out;go_wp2_with fail;refine(HF _ HB1.out).out.mono ?_;rintro e w1 ⟨Ca,rfl,hqv,hb⟩;obtain⟨L,rfl⟩:∃L:List Value,Ca=L.toArray:=⟨Ca.toList,by simp⟩;have hq:NmQ (fun b=>W1.1.size≤b∧b<w1.1.size) w1 L u:=by have:=hqv.toQ;rwa [List.toList_toArray]at this
 clear hqv hcv HCV;have HQ1:=hid hq;have HL:=hid hq.len;have HK2:=hid (HK1.out.on hb);have HB2:=hid (qb HB1.out hb);have HLT:=hid hb.size;have HB0:=fun W=>hid (a8e HL.out W)
 have HON:=hid (ka (C:=L.toArray) (fun v hv=>hq.ones v (by simpa using hv)));have HSZ:=hid (bd9 HL.out);have hit:∀W,(∀b,W1.1.size≤b∧b<w1.1.size→W.heap[b]?=w1.heap[b]?)→ItM (fun b=>W1.1.size≤b∧b<w1.1.size) W (itL 0 false kf L ac4) {ael with N:=u}:=fun W hk=>⟨_,_,_,rfl,adz.zero _ _,hq.keep hk,ae0.zero _ _⟩
 have HIT:=hid hit;have HION:=hid (akc (hit w1 fun _ _=>rfl));have HISZ:=hid (akd (hit w1 fun _ _=>rfl).len);have HILN:=hid (hit w1 fun _ _=>rfl).len;generalize hC:itL 0 false kf L ac4=C at *;have HCC:=hid hC;clear hb HB1 HK1 HF hq hit hC
 go_wp2_with (first
  | (refine qc rfl 58 rfl acg.toArray (HZU _).out ?_;intro W2 hW2;have HU2:=hid (Blk.newL (L:=acg) hW2 rfl);have HK3:=hid (HK2.out.on hW2.bel);have HB3:=hid (qb HB2.out hW2.bel);have HP2:=hid (fun b (q:b<w1.1.size)=>hW2.bel.block b q);clear hW2)
  | (refine qe rfl 58 _ _ rfl w1.1.size 0 L.toArray rfl rfl (aap HU2.out HL.out) HSZ.out HON.out ?_;intro W3 hs;have HU3:=hid (acs HU2.out HL.out hs);have HK4:=hid (HK3.out.far hs (by have:=HK2.out.lt;omega));have HB4:=hid (HB3.out.trans (hs.below HB2.out.size));have HP3:=hid (fun b (q:b<w1.1.size)=>(hs.far b (Nat.ne_of_lt q)).trans (HP2.out b q));clear hs)
  | refine wpList_load_mid rfl 58 _ rfl w1.1.size 0 rfl L _ HU3.out.rg underlying58 sm (by rw[HL.out];kernel_rfl) ?_
  | refine zo (u:=.agg L.toArray) rfl 64 3 _ rfl rfl (HB0 _).out ?_
  | (refine qe rfl 64 _ _ rfl w.1.size 0 C.toArray rfl rfl (aap HK4.out HILN.out) HISZ.out HION.out ?_;intro W5 hs;have HK5:=hid (acs HK4.out HILN.out hs);have HB5:=hid (HB4.out.trans (hs.below (Nat.le_refl _)));have HP5:=hid (And.intro hs.sz (fun b (q:W1.1.size≤b∧b<w1.1.size)=>(hs.far b (by have:=HS1.out;omega)).trans (HP3.out b q.2)));have HZ3:=hid (HU3.out.lt);clear hs))
 have HLD:=hid (apu HK5.out HILN.out);refine bodyPost_ret (v:=.tuple #[.agg C.toArray,.int .i64 n,.int .i64 E]) (by rw[zq rfl];simp[asAddr,Result.andThen,HLD.out]) rfl ⟨C,rfl,?_,HB5.out⟩;exact(HIT.out W5 HP5.out.2).less fun b q=>⟨by have:=HS1.out;omega,by rw[HP5.out.1];exact Nat.lt_trans q.2 HZ3.out⟩
def a2z (v:VeD) (w:World) (e:Ending) (w':World):Prop:=∃L,e=.returned (.agg (veL v.d v.p v.n v.e L).toArray)∧ItM (Bk w.1.size w') w' L v.x∧Below w.1.size w w'
def bfx:Array (Nat×Nat):=#[(0,1),(1,1),(2,1),(3,1),(4,120)]
theorem a68 (d p n e:Int) {L:List Value} (hl:L.length=120):Instr.fill (fun i=>bfx[i]?) (veA d p n e) [(4,.agg L.toArray)]=some (veL d p n e L).toArray:=by
 rw[yn (off:=4) (L:=L) rfl (by rw[hl];rfl) (by rw[hl];show 4+120≤124;omega)];show some _=some _
 congr 2
 have:=acp [Value.int .i64 d,.int .i64 p,.int .i64 n,.int .i64 e] adc [] L (by rw[hl];rfl);simp only[List.append_nil]at this;exact this
theorem ad3 {d p n e:Int} (k:Nat) (x:Int) (hk:k<4) (r:List (Nat×Value)):Instr.fill (fun i=>bfx[i]?) (veA d p n e) ((k,.int .i64 x)::r)=Instr.fill (fun i=>bfx[i]?) (veA (if k=0 then x else d) (if k=1 then x else p) (if k=2 then x else n) (if k=3 then x else e)) r:=by
 have:k=0∨k=1∨k=2∨k=3:=by omega
 rcases this with rfl|rfl|rfl|rfl
 ·rw[yn (off:=0) (L:=[.int .i64 x]) rfl rfl (by show 0+1≤124;omega)];rfl
 ·rw[yn (off:=1) (L:=[.int .i64 x]) rfl rfl (by show 1+1≤124;omega)];rfl
 ·rw[yn (off:=2) (L:=[.int .i64 x]) rfl rfl (by show 2+1≤124;omega)];rfl
 ·rw[yn (off:=3) (L:=[.int .i64 x]) rfl rfl (by show 3+1≤124;omega)];rfl
theorem a29 {L:List Value} (hl:L.length=120) (p n:Int) (w:World):(Instr.build 66 #[(0,.int .i64 2),(1,.int .i64 p),(2,.int .i64 n),(4,.agg L.toArray)]).run prog w=.ok (.agg (veL 2 p n 0 L).toArray) w:=by
 refine ack (z:=veA 0 0 0 0) (pl:=bfx) underlying66 (aig w) kr ?_;show Instr.fill _ (veA 0 0 0 0) ((0,.int .i64 2)::(1,.int .i64 p)::(2,.int .i64 n)::(4,.agg L.toArray)::[])=_;rw[ad3 0 _ dc,ad3 1 _ dc,ad3 2 _ dc];exact a68 _ _ _ _ hl
theorem ax6 {L:List Value} (hl:L.length=120) (p n e:Int) (w:World):(Instr.build 66 #[(0,.int .i64 2),(1,.int .i64 p),(2,.int .i64 n),(3,.int .i64 e),(4,.agg L.toArray)]).run prog w=.ok (.agg (veL 2 p n e L).toArray) w:=by
 refine ack (z:=veA 0 0 0 0) (pl:=bfx) underlying66 (aig w) kr ?_;show Instr.fill _ (veA 0 0 0 0) ((0,.int .i64 2)::(1,.int .i64 p)::(2,.int .i64 n)::(3,.int .i64 e)::(4,.agg L.toArray)::[])=_;rw[ad3 0 _ dc,ad3 1 _ dc,ad3 2 _ dc,ad3 3 _ dc];exact a68 _ _ _ _ hl
theorem ax4 (p:Int) (w:World):(Instr.build 64 #[(0,.int .i64 p),(1,.bool true)]).run prog w=.ok (.agg (itL p true kf acg ac4).toArray) w:=by kernel_rfl
theorem aso {P:Program} {ops:Array Oper} {rest:List Oper} {o:Oper} {a:Act} {w:World} {Q:Exit→Act→World→Prop} (hgd:o.guard=none) (t:TypeId) (x0 x1 x2 x3 x4:Operand) (ho:o.op=.build t #[(0,x0),(1,x1),(2,x2),(3,x3),(4,x4)]) {u0 u1 u2 u3 u4 v:Value} (h0:a.eval x0=u0) (h1:a.eval x1=u1) (h2:a.eval x2=u2) (h3:a.eval x3=u3) (h4:a.eval x4=u4) (hr:(Instr.build t #[(0,u0),(1,u1),(2,u2),(3,u3),(4,u4)]).run P w=.ok v w)
 (h:wpList P ops Q rest (a.put o.dst v) w):wpList P ops Q (o::rest) a w:=aa8 hgd t _ ho #[(0,u0),(1,u1),(2,u2),(3,u3),(4,u4)] (by simp[h0,h1,h2,h3,h4]) hr h
theorem asn {P:Program} {ops:Array Oper} {rest:List Oper} {o:Oper} {a:Act} {w:World} {Q:Exit→Act→World→Prop} (hgd:o.guard=none) (t:TypeId) (x0 x1 x2 x4:Operand) (ho:o.op=.build t #[(0,x0),(1,x1),(2,x2),(4,x4)]) {u0 u1 u2 u4 v:Value} (h0:a.eval x0=u0) (h1:a.eval x1=u1) (h2:a.eval x2=u2) (h4:a.eval x4=u4) (hr:(Instr.build t #[(0,u0),(1,u1),(2,u2),(4,u4)]).run P w=.ok v w)
 (h:wpList P ops Q rest (a.put o.dst v) w):wpList P ops Q (o::rest) a w:=aa8 hgd t _ ho #[(0,u0),(1,u1),(2,u2),(4,u4)] (by simp[h0,h1,h2,h4]) hr h
theorem agn {d p n e:Int} {L:List Value} (h:L.length=120):(veL d p n e L).length=124:=by simp[veL,h]
theorem a7o {W:World} {b:Nat} {C:List Value} (h:Blk W b C) (hl:C.length=124):(loadVar 66 ⟨b,0,none⟩).run prog W=.ok (.agg C.toArray) W:=
 run_loadVar_mid (P:=prog) W b 0 66 C _ h.rg underlying66 sm (by rw[hl];kernel_rfl)
theorem aq4 {d p n e:Int} {L:List Value} (h:∀v∈L,v.oneCell'=true):(veL d p n e L).toArray.all (·.oneCell')=true:=ka fun v hv=>by
 simp only[veL,List.mem_cons]at hv;rcases hv with rfl|rfl|rfl|rfl|hv
 ·rfl
 ·rfl
 ·rfl
 ·rfl
 ·exact h v hv
theorem aq5 {C:List Value} (h:C.length=124):(prog.info? 66).map (·.size)=some C.toArray.size:=by
 rw[List.size_toArray,h];kernel_rfl
theorem ItM.odd (Q:Nat→Prop) (w:World) (p:Int):ItM Q w (itL p true kf acg ac4) {ael with pr:=p,od:=true}:=⟨_,_,_,rfl,adz.zero Q w,NmQ.zero Q w,ae0.zero Q w⟩
theorem ItM.proto {Q:Nat→Prop} {w:World} {L:List Value} {x:ItD} (h:ItM Q w L x):∃R,L=.int .i64 x.pr::R∧∀p w',(∀b,Q b→w'.heap[b]?=w.heap[b]?)→ItM Q w' (.int .i64 p::R) {x with pr:=p}:=by
 obtain⟨U,N,T,rfl,h1,h2,h3⟩:=h;exact⟨_,rfl,fun p w' hk=>⟨U,N,T,rfl,h1.keep hk,h2.keep hk,h3.keep hk⟩⟩
theorem bev {Q:Nat→Prop} {w:World} (A:Option Addr) (c:Nat) (x:UInt8) (l:List UInt8) (p:Int) (r:ItD×Nat×Int) (h:qf Q w A (bsV (x::l))) (hp:jp x=p) (hp0:p≠0) (hm:(x::l).length≤1000000) (hn1:r.2.1≤1000000)
 (HF:∀W,Below w.1.size w W→Hid (Calls prog (az0 p) #[.slice A (x::l).length c] W (axm r W))) :
 Calls prog 10 #[.slice A (x::l).length c] w (a2z (agw p r) w):=by
 have HZ:=fun W=>hid (aig W)
 have HZI:=fun W=>hid (adp W)
 have HP:∀W,Hid (Calls prog 13 #[.int .u8 (x.toNat:Int)] W fun e w'=>e=.returned (.int .i64 p)∧W=w'):=fun W=>hid (by have:=ati x W;rw[hp]at this;exact this)
 have HO:∀W,Hid (Calls prog 26 #[.int .i64 p] W fun e w'=>e=.returned (.agg #[.func (Fn.func (az0 p)) #[] #[]])∧Below W.1.size W w'):=fun W=>hid (a93 p W)
 obtain⟨b,off,rfl,-,hc⟩:=h 0 (bV x) rfl;have hb:=abz hc;have HC:∀W,Below w.1.size w W→Hid (W.cell? ⟨b,off,none⟩=some (.int .u8 (x.toNat:Int))):=fun W hW=>hid ((hW.cell (p:=⟨b,off+0,none⟩) hb).trans hc)
 have hl:(0:Int)<((x::l).length:Int):=by simp only[List.length_cons];omega
 obtain⟨y,n,E⟩:=r;have HE:=hid (show agw p (y,n,E)=if 0<n then(if E=0 then⟨2,p,n,0,{y with pr:=p}⟩else⟨2,p,n,E,{ael with pr:=p,od:=true}⟩)else if E=2 then⟨0,p,0,0,ael⟩else⟨1,p,0,E,ael⟩from rfl);generalize agw p (y,n,E)=res at *;generalize (x::l).length=L at *;have HCL:=fun x W=>bju p x W
 generalize az0 p=F at *;have hl0:((L:Int)==0)=false:=by rw[beq_eq_false_iff_ne];omega
 have hpb:(p==0)=false:=by rw[beq_eq_false_iff_ne];exact hp0
 unfold axm at HF;dsimp only at *;clear hc hb hp h hp0;have HFD:=fun W=>a8w F W
 go_enter func10,ntmps10;go_upto_region 3 with(refine qc rfl 66 rfl (veA 0 0 0 0) (HZ _).out ?_;intro W1 hW1;have HK1:=hid (Blk.newL (L:=veL 0 0 0 0 adc) hW1 rfl);have HBB1:=hid hW1.bel;clear hW1)
 have c0:=(HC _ HBB1.out).out;go_wp2_with (refine(HP _).out.mono ?_;rintro e w' ⟨rfl,rfl⟩);refine(HO _).out.mono ?_;rintro e w2 ⟨rfl,hb⟩;have HK2:=hid (HK1.out.on hb);have HBB2:=hid (qb HBB1.out hb);clear hb HK1 HBB1 c0 HO;go_wp2_with fail;refine(HF _ HBB2.out).out.mono ?_;rintro e w3 ⟨I,rfl,hit,hb⟩;have HK3:=hid (HK2.out.on hb);have HBB3:=hid (qb HBB2.out hb);have HIL:=hid hit.len;have HION:=hid (akc hit);have HISZ:=hid (akd hit.len);obtain⟨R,hR,hpr⟩:=hit.proto;have HPR:=hid hpr;have HRI:=hid hR;have HW23:=hid (And.intro HK2.out.lt hb.size);clear hb HK2 HBB2 HF hit hR hpr
 go_upto_region 7 with(first
  | (refine qc rfl 64 rfl ala (HZI _).out ?_;intro W4 hW;have HI4:=hid (Blk.newL (L:=adc) hW rfl);have HK4:=hid (HK3.out.on hW.bel);have HBB4:=hid (qb HBB3.out hW.bel);have HP4:=hid (fun b (q:b<w3.1.size)=>hW.bel.block b q);clear hW)
  | (refine qe rfl 64 _ _ rfl w3.1.size 0 I.toArray rfl rfl (aap HI4.out HIL.out) HISZ.out HION.out ?_;intro W5 hs;have HI5:=hid (acs HI4.out HIL.out hs);have HK5:=hid (HK4.out.far hs (by have:=HK3.out.lt;omega));have HBB5:=hid (HBB4.out.trans (hs.below HBB3.out.size));have HP5:=hid (fun b (q:b<w3.1.size)=>(hs.far b (Nat.ne_of_lt q)).trans (HP4.out b q));clear hs))
 have hi5:=HI5.out;rw[HRI.out]at hi5;have i0:=hi5.cell 0 (v:=.int .i64 y.pr) rfl;have j0:=HI5.out.fz 0;have hst:qz W5 (W5.setCell ⟨w3.1.size,0,none⟩ (.int .i64 p)) w3.1.size 0 [.int .i64 p]:=jq (HI5.out.there 0 1 (by rw[HIL.out];omega));have HK6:Hid (Blk (W5.setCell ⟨w3.1.size,0,none⟩ (.int .i64 p)) w.1.size (veL 0 0 0 0 adc)):=hid (HK5.out.far hst (by have:=HK3.out.lt;omega));have HBB6:Hid (Below w.1.size w (W5.setCell ⟨w3.1.size,0,none⟩ (.int .i64 p))):=hid (HBB5.out.trans (hst.below HBB3.out.size))
 have HI6:Hid (Blk (W5.setCell ⟨w3.1.size,0,none⟩ (.int .i64 p)) w3.1.size (.int .i64 p::R)):=hid (by
  have:=Blk.put (A:=[]) (M:=[Value.int .i64 y.pr]) (D:=R) hi5 hst rfl rfl
  simpa using this)
 have HP6:=hid (fun b (q:b<w3.1.size)=>(hst.far b (Nat.ne_of_lt q)).trans (HP5.out b q));have HRL:Hid (R.length=119):=hid (by have:=HIL.out;rw[HRI.out]at this;simpa using this);clear hst HK5 HBB5 HBB4 HK4 HI4 hi5 HP4 HP5;go_upto_region 8 with fail;clear i0 j0 HI5;generalize W5.setCell ⟨w3.1.size,0,none⟩ (.int .i64 p)=W6 at *
 by_cases hn:0<n
 ·have hnI:(0:Int)<(n:Int):=by omega
  by_cases hE:E=0
  ·subst hE;have hre:=HE.out;rw[if_pos hn,if_pos rfl]at hre;have HRE:=hid hre;have HIT:=hid (HPR.out p W6 (fun b q=>HP6.out b q.2));have HI7:=hid (HIT.out.len);have HB0:=fun W=>hid (a29 HI7.out p n W)
   have HVL:=hid (agn (d:=2) (p:=p) (n:=n) (e:=0) HI7.out);have HVO:=hid (aq4 (d:=2) (p:=p) (n:=n) (e:=0) HIT.out.ones);have HVS:=hid (aq5 HVL.out);clear hre hn
   go_wp2_with (first
    | refine wpList_load_mid rfl 64 _ rfl w3.1.size 0 rfl (.int .i64 p::R) _ HI6.out.rg underlying64 sm (by rw[HI7.out];kernel_rfl) ?_
    | refine asn (u0:=.int .i64 2) (u1:=.int .i64 p) (u2:=.int .i64 n) (u4:=.agg (Value.int .i64 p::R).toArray) rfl 66 _ _ _ _ rfl rfl rfl rfl rfl (HB0 _).out ?_
    | (refine qe rfl 66 _ _ rfl w.1.size 0 (veL 2 p n 0 (.int .i64 p::R)).toArray rfl rfl (aap HK6.out HVL.out) HVS.out HVO.out ?_;intro W7 hs;have HK7:=hid (acs HK6.out HVL.out hs);have HB7:=hid (HBB6.out.trans (hs.below (Nat.le_refl _)));have HP7:=hid (And.intro hs.sz hs.far);clear hs))
   try go_frame
   have HLD:=hid (a7o HK7.out HVL.out);have HLT:=hid HI6.out.lt;refine bodyPost_ret (v:=.agg (veL 2 p n 0 (.int .i64 p::R)).toArray) (by rw[acn rfl];simp[asAddr,Result.andThen,HLD.out]) rfl ?_;rw[HRE.out];refine⟨_,rfl,(HIT.out.keep fun b q=>HP7.out.2 b (by have:=HW23.out;have:=q.1;omega)).less fun b q=>⟨by have:=HW23.out;have:=q.1;omega,?_⟩,HB7.out⟩;rw[HP7.out.1];have:=q.2;have:=HLT.out;omega
  ·have heb:(E != 0)=true:=by rw[bne_iff_ne];exact hE
   have hre:=HE.out;rw[if_pos hn,if_neg hE]at hre;have HRE:=hid hre;have HIT:=hid (ItM.odd (fun _=>False) W6 p);have HI7:=hid (HIT.out.len);have HB0:=fun W=>hid (ax6 HI7.out p n E W)
   have HB1:=fun W=>hid (ax4 p W)
   have HVL:=hid (agn (d:=2) (p:=p) (n:=n) (e:=E) HI7.out);have HVO:=hid (aq4 (d:=2) (p:=p) (n:=n) (e:=E) HIT.out.ones);have HVS:=hid (aq5 HVL.out);clear hre hn hE
   go_wp2_with (first
    | refine ae9 (u:=.int .i64 p) (u':=.bool true) rfl 64 0 1 _ _ rfl rfl rfl (HB1 _).out ?_
    | refine aso (u0:=.int .i64 2) (u1:=.int .i64 p) (u2:=.int .i64 n) (u3:=.int .i64 E) (u4:=.agg (itL p true kf acg ac4).toArray) rfl 66 _ _ _ _ _ rfl rfl rfl rfl rfl rfl (HB0 _).out ?_
    | (refine qe rfl 66 _ _ rfl w.1.size 0 (veL 2 p n E (itL p true kf acg ac4)).toArray rfl rfl (aap HK6.out HVL.out) HVS.out HVO.out ?_;intro W7 hs;have HK7:=hid (acs HK6.out HVL.out hs);have HB7:=hid (HBB6.out.trans (hs.below (Nat.le_refl _)));clear hs))
   try go_frame
   have HLD:=hid (a7o HK7.out HVL.out);refine bodyPost_ret (v:=.agg (veL 2 p n E (itL p true kf acg ac4)).toArray) (by rw[acn rfl];simp[asAddr,Result.andThen,HLD.out]) rfl ?_;rw[HRE.out];exact⟨_,rfl,ItM.odd _ _ p,HB7.out⟩
 ·obtain rfl:n=0:=by omega
  have HB1:=fun W=>hid (a27 0 p W)
  have HB2:=fun W=>hid (ax5 1 p E W)
  have hre:=HE.out;rw[if_neg hn]at hre;clear hn
  by_cases h2:E=2
  ·subst h2;rw[if_pos rfl]at hre;have HRE:=hid hre;clear hre
   go_wp2_with (first
    | refine ae9 (u:=.int .i64 0) (u':=.int .i64 p) rfl 66 0 1 _ _ rfl rfl rfl (HB1 _).out ?_
    | (refine qe rfl 66 _ _ rfl w.1.size 0 (veA 0 p 0 0) rfl rfl (HK6.out.there 0 124 (Nat.le_refl _)) (aob _ _ _ _) (aoa _ _ _ _) ?_;intro W7 hs;have HK7:=hid (HK6.out.all hs rfl);have HB7:=hid (HBB6.out.trans (hs.below (Nat.le_refl _)));clear hs))
   try go_frame
   have HLD:=hid (run_loadVar_mid (P:=prog) W7 w.1.size 0 66 (veA 0 p 0 0).toList _ HK7.out.rg underlying66 rfl kr);refine bodyPost_ret (v:=.agg (veA 0 p 0 0)) (by rw[acn rfl];simp[asAddr,Result.andThen,HLD.out]) rfl ?_;rw[HRE.out];exact⟨adc,rfl,ItM.zero _ _,HB7.out⟩
  ·have he2:(E==2)=false:=by rw[beq_eq_false_iff_ne];exact h2
   rw[if_neg h2]at hre;have HRE:=hid hre;clear hre h2
   go_wp2_with (first
    | refine asm (u:=.int .i64 1) (u':=.int .i64 p) (u'':=.int .i64 E) rfl 66 0 1 3 _ _ _ rfl rfl rfl rfl (HB2 _).out ?_
    | (refine qe rfl 66 _ _ rfl w.1.size 0 (veA 1 p 0 E) rfl rfl (HK6.out.there 0 124 (Nat.le_refl _)) (aob _ _ _ _) (aoa _ _ _ _) ?_;intro W7 hs;have HK7:=hid (HK6.out.all hs rfl);have HB7:=hid (HBB6.out.trans (hs.below (Nat.le_refl _)));clear hs))
   try go_frame
   have HLD:=hid (run_loadVar_mid (P:=prog) W7 w.1.size 0 66 (veA 1 p 0 E).toList _ HK7.out.rg underlying66 rfl kr);refine bodyPost_ret (v:=.agg (veA 1 p 0 E)) (by rw[acn rfl];simp[asAddr,Result.andThen,HLD.out]) rfl ?_;rw[HRE.out];exact⟨adc,rfl,ItM.zero _ _,HB7.out⟩
theorem axm.of {r r':ItD×Nat×Int} {w:World} {e:Ending} {w':World} (h:axm r w e w') (hr:r=r'):axm r' w e w':=hr▸h
theorem a90 {Q:Nat→Prop} {w:World} (A:Option Addr) (c:Nat) (l:List UInt8) (h:qf Q w A (bsV l)) (hm:l.length≤1000000) (hc:l.length≤c):Calls prog 10 #[.slice A l.length c] w (a2z (zm l) w):=by
 cases l with
 | nil=>
  refine(a91 A c w).mono ?_;rintro e w' ⟨rfl,hb⟩;exact⟨adc,rfl,ItM.zero _ _,hb⟩
 | cons x l=>
  by_cases hp:jp x=0
  ·rw[vw,if_pos hp];refine(a4u A c x l h hp (by unfold maxLen;omega)).mono ?_;rintro e w' ⟨rfl,hb⟩;exact⟨adc,rfl,ItM.zero _ _,hb⟩
  ·rw[vw,if_neg hp];have hfl:=fun W (hW:Below w.1.size w W)=>h.lt.below hW (fun b q=>q.2)
   have hsz:=(ali (jp x) (x::l)).1
   refine bev A c x l _ _ h rfl hp hm (by
    rcases Nat.eq_zero_or_pos (ad1 (jp x) (x::l)).2.1 with q|q
    ·omega
    ·have:=hsz q;omega) fun W hW=>hid ?_
   rcases alx x with q|q|q|q
   ·exact absurd q hp
   ·rw[q];refine(a4w (agm (x::l)) fun W' hW'=>hid (asj A c (x::l) (hfl W' (qb hW hW')) hm hc)).mono fun e w' hd=>hd.of ?_
    unfold ad1;rw[if_pos rfl]
   ·rw[q];refine(a92 A c (x::l) ((hfl W hW).less fun _ _=>trivial) hm hc (ym (adj (x::l))) fun W' hW'=>hid (avh (by rw[atc];omega))).mono fun e w' hd=>hd.of ?_
    unfold ad1;rw[if_neg dc,if_pos rfl]
   ·rw[q];refine(a4v (abv (x::l)) fun W' hW'=>hid (a1u A c (x::l) (hfl W' (qb hW hW')) hm hc)).mono fun e w' hd=>hd.of ?_
    unfold ad1;rw[if_neg dc,if_neg dc]
theorem a18 {W:World} {b:Nat} {d p n e:Int} {L:List Value} (h:Blk W b (veL d p n e L)):W.cell? ⟨b,0,none⟩=some (.int .i64 d)∧W.cell? ⟨b,1,none⟩=some (.int .i64 p)∧W.cell? ⟨b,2,none⟩=some (.int .i64 n)∧W.cell? ⟨b,3,none⟩=some (.int .i64 e)∧W.rangeAt b 4 L:=
 ⟨h.cell 0 rfl,h.cell 1 rfl,h.cell 2 rfl,h.cell 3 rfl,fun j v hv=>h.cell (4+j) (by rw[show 4+j=j+1+1+1+1 from by omega];exact hv)⟩
def yj (C:List Int) (N:Int):Prop:=∀k,0≤C.getD k 0∧C.getD k 0≤N
theorem a9k {Q:Nat→Prop} {w:World} {L:List Value} {x:ItD} (h:ItM Q w L x):∃R,L=.int .i64 x.pr::.bool x.od::R:=by
 obtain⟨U,N,T,rfl,-⟩:=h;exact⟨_,rfl⟩
theorem ale {C:List Int} {N:Int} (h:yj C N) (k:Nat):yj (q8 C k 1) (N+1):=fun j=>by
 have h1:=h j;unfold q8
 by_cases e:j=k
 ·subst e;rw[List.getD_eq_getElem?_getD,List.getElem?_set_self'];rw[List.getD_eq_getElem?_getD]at h1;cases hc:C[j]? with
  | none=>rw[hc]at h1;simp at h1 ⊢;omega
  | some z=>
   rw[hc]at h1;rw[List.getD_eq_getElem?_getD,hc];simp at h1 ⊢;omega
 ·rw[List.getD_eq_getElem?_getD,List.getElem?_set_ne (fun q=>e q.symm),← List.getD_eq_getElem?_getD];omega
theorem a63 {N:Int}:∀(V:List VeD) {C:List Int},yj C N→yj (abb C V) (N+V.length)
 | [],C,h=>by simpa [abb]using h
 | v::V,C,h=>by
  have:=a63 (N:=N+1) V (C:=acl C v) (ale h _);show yj (abb (acl C v) V) _;rw[List.length_cons];rw[show N +((V.length+1:Nat):Int)=N+1 +(V.length:Int)from by omega];exact this
theorem ac1 {w w':World} {B:Nat} {e:TypeId} {size:Nat} {v:Value} {n:Nat} {xs:List Value} (h:w.ownsRow B e size v n xs) (hk:∀k,B≤k→k<w.1.size→w'.heap[k]?=w.heap[k]?):w'.ownsRow B e size v n xs:=by
 refine⟨h.1,?_⟩;rcases h.2 with q|⟨g,cap,cur,h1,h2,h3,h4⟩
 ·exact .inl q
 ·exact .inr ⟨g,cap,cur,h1,h2,by rw[hk g h2 (Array.getElem?_eq_some_iff.1 h3).1];exact h3,h4⟩
def xz (B:Nat) (v:Value) (X:List ItD) (w:World):Prop:=∃Ls,w.ownsRow B 64 120 v X.length Ls.flatten∧ab4 (fun k=>B≤k∧k<w.1.size∧some k≠v.ownBlock) w Ls X
theorem xz.nil (B:Nat) (w:World):xz B (.slice none 0 0) [] w:=⟨[],World.ownsRow_nil _ _ _ _,ab4.nil _ _⟩
theorem xz.kept {B:Nat} {v:Value} {X:List ItD} {w w':World} (h:xz B v X w) (hk:∀k,B≤k→k<w.1.size→w'.heap[k]?=w.heap[k]?) (hz:w.1.size≤w'.1.size):xz B v X w':=by
 obtain⟨Ls,h1,h2⟩:=h;exact⟨Ls,ac1 h1 hk,(h2.keep fun k q=>hk k q.1 q.2.1).less fun k q=>⟨q.1,Nat.lt_of_lt_of_le q.2.1 hz,q.2.2⟩⟩
theorem xz.slice {B:Nat} {v:Value} {X:List ItD} {w:World} (h:xz B v X w):∃A c,v=.slice A X.length c∧X.length≤c:=by
 obtain⟨Ls,h1,-⟩:=h;obtain⟨A,c,h2,h3,-⟩:=zj h1;exact⟨A,c,h2,h3⟩
theorem avm {w:World} {B:Nat} {e:TypeId} {size:Nat} {v:Value} {n:Nat} {xs:List Value} (h:w.ownsRow B e size v n xs) {k:Nat} (hk:v.ownBlock=some k):B≤k∧k<w.1.size:=by
 rcases h.2 with⟨q,-⟩|⟨g,cap,cur,q,hb,h3,-⟩
 ·subst q;cases hk
 ·subst q;simp only[Value.ownBlock,Option.some.injEq]at hk;subst hk;exact⟨hb,(Array.getElem?_eq_some_iff.1 h3).1⟩
theorem xz.own {B:Nat} {v:Value} {X:List ItD} {w:World} (h:xz B v X w) {k:Nat} (hk:v.ownBlock=some k):B≤k∧k<w.1.size:=by
 obtain⟨Ls,h1,-⟩:=h;exact avm h1 hk
theorem a39:(prog.info? 64).map (fun i=>(i.zero,i.size,decide (i.bytes≤2000)))=some (some (.agg ala),120,true):=by kernel_rfl
theorem as7:∃i z,prog.info? 64=some i∧i.zero=some z∧i.size=120∧z.cells.size=120∧i.bytes≤2000:=by
 have h:=a39;cases hi:prog.info? 64 with
 | none=>rw[hi]at h;cases h
 | some i=>
  rw[hi,Option.map_some,Option.some.injEq,Prod.mk.injEq,Prod.mk.injEq]at h;exact⟨i,_,rfl,h.1,h.2.1,rfl,of_decide_eq_true h.2.2⟩
theorem xz.app {B:Nat} {v:Value} {X Y:List ItD} {w:World} (h:xz B v X w) (hB:B≤w.1.size) (A:Option Addr) (c:Nat) (Ms:List (List Value)) {R:Nat→Prop} (hf:qf R w A Ms.flatten) (hm:ab4 (fun k=>B≤k∧k<w.1.size∧some k≠v.ownBlock) w Ms Y) (hn:X.length+Y.length≤20000000) :
 ∃v' w',(Builtin.append_ #[75,75] 75 #[v,.slice A Y.length c]).run prog w=.ok v' w'∧xz B v' (X++Y) w'∧Below B w w' ∧(∀k,k<w.1.size→some k≠v.ownBlock→w'.heap[k]?=w.heap[k]?) ∧(v'.ownBlock=v.ownBlock∨v'.ownBlock=some w.1.size):=by
 obtain⟨Ls,h1,h2⟩:=h;obtain⟨i0,z0,i1,i2,i3,i4,i5⟩:=as7;have hbytes:(X.length+Y.length)*i0.bytes≤140737488355328:=Nat.le_trans (Nat.mul_le_mul hn i5) dc;obtain⟨v',w',q1,q2,q3,q4⟩:=jl (P:=prog) w 75 75 64 i0 z0 120 i0.bytes underlying75 i1 i2 i3 rfl i4 dc B v X.length Ls.flatten h1 A Y.length c Ms.flatten (by rw[hm.flat_len]) hf (hm.ones) (by unfold maxLen;omega) hbytes hB;have hk:∀k,B≤k∧k<w.1.size∧some k≠v.ownBlock→w'.heap[k]?=w.heap[k]?:=fun k q=>q3.block k q.2.1 q.2.2
 refine⟨v',w',q1,⟨Ls++Ms,by rw[List.flatten_append,List.length_append];exact q2,?_⟩,(Below.refl B w).grown q3 hB (fun k hk=>(avm h1 hk).1),fun k r1 r2=>q3.block k r1 r2,q4⟩;refine((h2.app hm).keep hk).less fun k q=>⟨q.1,Nat.lt_of_lt_of_le q.2.1 q3.size,?_⟩
 rcases q4 with e|e
 ·rw[e];exact q.2.2
 ·rw[e];intro r;injection r with r;have:=q.2.1;omega
theorem ajf (V:List VeD) (v:VeD):xw (V++[v])=if v.d=2 then xw V++[v.x]else xw V:=by
 rw[apt];unfold xw
 by_cases h:v.d=2<;>simp[h]
theorem baj {l:List UInt8} {V:List VeD} {r:List UInt8} (h:q6 l=(V ++(q6 r).1,(q6 r).2)) (hr:(zm r).d≠0):q6 l=((V++[zm r]) ++(q6 (r.drop (acd (zm r)))).1,(q6 (r.drop (acd (zm r)))).2):=by
 rw[h,ab1 hr];simp
theorem apb {I:List Value} (hl:I.length=120) (w:World):(Instr.buildSlice 75 1 #[(0,.agg I.toArray)]).run prog w=.ok (.slice (some ⟨w.1.size,0,none⟩) 1 1) (w.alloc (.cells I.toArray 64)):=by
 obtain⟨i,z,h1,h2,h3,h4,-⟩:=as7;have hu:=run_underlying (P:=prog) underlying75 w;have hz:(sizeOf 64).run prog w=.ok 120 w:=by simp[sizeOf,typeInfo,h1,h3]
 have hf:∀Z:Array Value,Z.size=120→Instr.fill (fun k=>some (k*120,120)) Z [(0,.agg I.toArray)]=some I.toArray:=fun Z hZ=>by
  rw[yn (off:=0) (L:=I) rfl (by rw[hl]) (by rw[hl,hZ];omega)]
  have e:aa0 Z.toList 0 I=I:=by
   unfold aa0;rw[List.take_zero,List.nil_append,Nat.zero_add,List.drop_of_length_le (by rw[hl];simp[hZ]),List.append_nil]
  rw[e];rfl
 unfold Instr.buildSlice;have hzero:(zeroValue 64).run prog w=.ok (.agg ala) w:=adp w;simp only[Sem.run_bind,hu,Result.andThen_ok,hz];simp[hzero,hf,newRow]
theorem abq {C:List Int} {N n:Int} (h:yj C N) (k:Nat) (hn:0≤n):yj (q8 C k n) (N+n):=fun j=>by
 have h1:=h j;unfold q8
 by_cases e:j=k
 ·subst e;rw[List.getD_eq_getElem?_getD,List.getElem?_set_self'];rw[List.getD_eq_getElem?_getD]at h1;cases hc:C[j]? with
  | none=>rw[hc]at h1;simp at h1 ⊢;omega
  | some z=>
   rw[hc]at h1;rw[List.getD_eq_getElem?_getD,hc];simp at h1 ⊢;omega
 ·rw[List.getD_eq_getElem?_getD,List.getElem?_set_ne (fun q=>e q.symm),← List.getD_eq_getElem?_getD];omega
theorem ac2 (l:List UInt8):(q6 l).1.length +(q6 l).2.length≤l.length:=by
 refine akt (P:=fun l=>(q6 l).1.length +(q6 l).2.length≤l.length) ?_ ?_ l
 ·intro l h;rw[afo h];simp
 ·intro l h ih;rw[ab1 h];have h1:=aky h;have h2:=ah9 (zm l);rw[List.length_drop]at ih;simp only[List.length_cons];omega
