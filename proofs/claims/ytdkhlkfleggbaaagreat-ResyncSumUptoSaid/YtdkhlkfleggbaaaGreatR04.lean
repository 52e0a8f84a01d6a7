/- Structs compared part by part. Printed by genchain.py. -/
import Derived.Test.YtdkhlkfleggbaaaGreatR03
namespace Go.Proofs.YtdkhlkfleggbaaaGreat
set_option maxHeartbeats 1000000
set_option maxRecDepth 8000
open Lib (hid)
open Tryz
set_option linter.unusedVariables false
open Go.RowKit
structure aid where
 kd:Int
 P:List Lit
 tw:Int
 X:List (List Lit)
 D:List Lit
 A:List Lit
 ly:Int
 Y:List (List Lit)
structure an9 where
 sq:Int
 sy:Int
 cm:Int
 id:Int
 V:List (List Lit)
theorem bhx {P:List Value} {l:List Lit} (h:KV 26 P l):P.length=32:=(h.struct_len underlying26).trans kr
theorem bgj {P:List Value} {l:List Lit} (h:KV 31 P l):P.length=8:=(h.struct_len underlying31).trans kr
theorem bfv {P:List Value} {l:List Lit} (h:KV 33 P l):P.length=3:=(h.struct_len underlying33).trans kr
def abh (v:List Int):List Lit:=v.map (Lit.int .i64)
def InI (v:List Int):Prop:=∀n∈v,-9223372036854775808≤n∧n≤9223372036854775807
theorem bgu (n:Nat) (s:Bool) (h1:1≤n) (h8:n≤8):-9223372036854775808≤a85 n s:=by
 have:n=1∨n=2∨n=3∨n=4∨n=5∨n=6∨n=7∨n=8:=by omega
 cases s<;>rcases this with rfl|rfl|rfl|rfl|rfl|rfl|rfl|rfl<;>decide
theorem bgt (n:Nat) (s:Bool) (h1:1≤n) (h8:n≤8):a84 n s≤9223372036854775807:=by
 have:n=1∨n=2∨n=3∨n=4∨n=5∨n=6∨n=7∨n=8:=by omega
 cases s<;>rcases this with rfl|rfl|rfl|rfl|rfl|rfl|rfl|rfl<;>decide
theorem ats:∀(l:List Fld) (b:List UInt8) {v:List Int},l.all yl=true→aad l b=some v→InI v
 | [],_,v,_,h=>by cases h;intro n hn;cases hn
 | f::l,b,v,hr,h=>by
  rw[List.all_cons,Bool.and_eq_true]at hr;unfold aad at h
  split at h
  ·rename_i hx;obtain⟨v',h',rfl⟩:=Option.map_eq_some_iff.1 h;have h1:=hr.1;simp only[yl,Bool.and_eq_true,decide_eq_true_eq]at h1;have hl:=bgu f.sz f.sg h1.1 h1.2.1;have hh:=bgt f.sz f.sg h1.1 h1.2.1;intro n hn;rcases List.mem_cons.1 hn with rfl|hn
   ·omega
   ·exact ats l _ hr.2 h' n hn
  ·cases h
theorem ag7 {fs:List Fld} {b:List UInt8} (hr:fs.all yl=true) (h:(xh fs b).1=0):InI (xh fs b).2:=ats fs b hr (akv h)
theorem ahn (n:Nat):InI (List.replicate n 0):=fun x hx=>by rw[(List.mem_replicate.1 hx).2];omega
theorem acs:Tryz.prog.cellsOf 2=1:=by kernel_rfl
theorem a37 {v:List Int} (hl:v.length=32) (h:InI v):KV 26 (qr v) (abh v):=
 aki underlying26 underlying2 acs dc (by decide +kernel) kr v hl (fun n hn=>al3 (h n hn))
theorem a36 {v:List Int} (hl:v.length=8) (h:InI v):KV 31 (qr v) (abh v):=
 aki underlying31 underlying2 acs dc (by decide +kernel) kr v hl (fun n hn=>al3 (h n hn))
theorem bjz {v:List Int} (hl:v.length=7) (h:InI v):KV 162 (qr v) (abh v):=
 aki underlying162 underlying2 acs dc (by decide +kernel) kr v hl (fun n hn=>al3 (h n hn))
theorem bgs {v:List Int} (hl:v.length=2) (h:InI v):KV 164 (qr v) (abh v):=
 aki underlying164 underlying2 acs dc (by decide +kernel) kr v hl (fun n hn=>al3 (h n hn))
theorem bjy {n:Int} (h:-9223372036854775808≤n∧n≤9223372036854775807):KV 2 [.int .i64 n] [.int .i64 n]:=⟨1,by
 simp only[Program.keyLits,underlying2];rw[if_pos (by simp[al3 h])]⟩
theorem a35 {y:Bool} {c i:Int} (hc:-9223372036854775808≤c∧c≤9223372036854775807) (hi:-9223372036854775808≤i∧i≤9223372036854775807):KV 33 [.bool y,.int .i64 c,.int .i64 i] [.bool y,.int .i64 c,.int .i64 i]:=by
 have hb:∀D,Tryz.prog.keyLits (D+1) 4 [.bool y]=some [.bool y]:=fun D=>by simp only[Program.keyLits,underlying4]
 have hn:∀D n,(-9223372036854775808≤n∧n≤9223372036854775807)→Tryz.prog.keyLits (D+1) 2 [.int .i64 n]=some [.int .i64 n]:=fun D n h=>by
  simp only[Program.keyLits,underlying2];rw[if_pos (by simp[al3 h])]
 have c1:Tryz.prog.cellsOf 4=1:=by kernel_rfl
 refine⟨0+1+1,(agv (p:=[[.bool y],[.int .i64 c],[.int .i64 i]]) underlying33 (by decide +kernel) kr ?_)⟩;simp only[List.mapM_cons,List.mapM_nil,c1,acs,List.drop_zero,List.take_succ_cons,List.take_zero,List.drop_succ_cons,hb,hn 0 c hc,hn 0 i hi];rfl
theorem ayk {α:Type} (g:α→List Value) (m:Nat):∀(l:List α) (_:∀x∈l,(g x).length=m) (k:Nat) (h:k<l.length) (j:Nat),j<m →(l.flatMap g)[k*m+j]?=(g l[k])[j]?
 | [],_,k,h,_,_=>absurd h (Nat.not_lt_zero _)
 | x::l,hg,0,_,j,hj=>by
  rw[List.flatMap_cons,Nat.zero_mul,Nat.zero_add,List.getElem?_append_left (by rw[hg x (List.mem_cons_self ..)];exact hj)];rfl
 | x::l,hg,k+1,h,j,hj=>by
  have hx:=hg x (List.mem_cons_self ..);rw[List.flatMap_cons,List.getElem?_append_right (by rw[hx,Nat.succ_mul];omega),hx,show (k+1)*m+j-m=k*m+j from by rw[Nat.succ_mul];omega];exact ayk g m l (fun y hy=>hg y (List.mem_cons_of_mem _ hy)) k (by simpa using h) j hj
def aa5 (t:TypeId) (size:Nat) (Q:Nat→Prop) (w:World) (v:Value) (X:List (List Lit)):Prop:=∃A c,v=.slice A X.length c∧SlK t size Q w A X∧X.length≤maxLen
theorem aa5.less {t:TypeId} {size:Nat} {Q R:Nat→Prop} {w:World} {v:Value} {X:List (List Lit)} (h:aa5 t size Q w v X) (hr:∀b,Q b→R b):aa5 t size R w v X:=by
 obtain⟨A,c,rfl,h1,h2⟩:=h;refine⟨A,c,rfl,fun k hk=>?_,h2⟩;obtain⟨b,off,L,q1,q2,q3⟩:=h1 k hk;exact⟨b,off,L,q1,hr b q2,q3⟩
theorem aa5.keep {t:TypeId} {size:Nat} {Q:Nat→Prop} {w w':World} {v:Value} {X:List (List Lit)} (h:aa5 t size Q w v X) (hk:∀b,Q b→w'.heap[b]?=w.heap[b]?):aa5 t size Q w' v X:=by
 obtain⟨A,c,rfl,h1,h2⟩:=h;refine⟨A,c,rfl,fun k hk'=>?_,h2⟩;obtain⟨b,off,L,q1,q2,q3,q4⟩:=h1 k hk';exact⟨b,off,L,q1,q2,afu q3 (hk b q2),q4⟩
def aed (Q:Nat→Prop) (w:World) (L:List Value) (u:aid):Prop:=∃P ss D A sp,L=[Value.int .i64 u.kd] ++(P ++([Value.int .i64 u.tw] ++([ss] ++(D ++(A ++([Value.int .i64 u.ly] ++([sp])))))))∧KV 26 P u.P∧aa5 162 7 Q w ss u.X∧KV 31 D u.D∧KV 33 A u.A∧aa5 164 2 Q w sp u.Y
theorem aed.less {Q R:Nat→Prop} {w:World} {L:List Value} {u:aid} (h:aed Q w L u) (hr:∀b,Q b→R b):aed R w L u:=by
 obtain⟨P,ss,D,A,sp,h1,h2,h3,h4,h5,h6⟩:=h;exact⟨P,ss,D,A,sp,h1,h2,h3.less hr,h4,h5,h6.less hr⟩
theorem aed.keep {Q:Nat→Prop} {w w':World} {L:List Value} {u:aid} (h:aed Q w L u) (hk:∀b,Q b→w'.heap[b]?=w.heap[b]?):aed Q w' L u:=by
 obtain⟨P,ss,D,A,sp,h1,h2,h3,h4,h5,h6⟩:=h;exact⟨P,ss,D,A,sp,h1,h2,h3.keep hk,h4,h5,h6.keep hk⟩
theorem aed.len {Q:Nat→Prop} {w:World} {L:List Value} {u:aid} (h:aed Q w L u):L.length=48:=by
 obtain⟨P,ss,D,A,sp,rfl,h1,-,h2,h3,-⟩:=h;simp[bhx h1,bgj h2,bfv h3]
theorem aqj {t:TypeId} {m:Nat} {Q:Nat→Prop} (hm:0<m) (hkv:∀v:List Int,v.length=m→InI v→KV t (qr v) (abh v)) {w:World} {A:Option Addr} {c:Nat} (L:List (List Int)) (hL:∀v∈L,v.length=m∧InI v) (hf:qf Q w A (L.flatMap qr)) (hn:L.length≤maxLen) :
 aa5 t m Q w (.slice A L.length c) (L.map abh):=by
 refine⟨A,c,by rw[List.length_map],fun k hk=>?_,by rw[List.length_map];exact hn⟩;have hk':k<L.length:=by simpa using hk
 have hg:=fun j hj=>ayk qr m L (fun v hv=>by rw[jg];exact(hL v hv).1) k hk' j hj
 obtain⟨hl,hi⟩:=hL _ (List.getElem_mem hk');have hl0:0<(qr L[k]).length:=by rw[jg,hl];exact hm
 obtain⟨b,off,hA,hb,h0⟩:=hf _ _ ((hg 0 hm).trans (List.getElem?_eq_getElem hl0));refine⟨b,off,qr L[k],hA,hb,fun j v hv=>?_,by rw[List.getElem_map];exact hkv _ hl hi⟩
 have hj:j<m:=by
  rcases Nat.lt_or_ge j (qr L[k]).length with q|q
  ·rwa [jg,hl]at q
  ·rw[List.getElem?_eq_none q]at hv;cases hv
 obtain⟨b',off',hA',-,h1⟩:=hf _ _ ((hg j hj).trans hv);rw[hA]at hA';injection hA' with hA';injection hA' with q1 q2;subst q1 q2
 rw[Nat.add_assoc];exact h1
theorem kt {t:TypeId} {m:Nat} {Q:Nat→Prop} {w:World}:aa5 t m Q w (.slice none 0 0) []:=⟨none,0,rfl,fun k hk=>absurd hk (Nat.not_lt_zero _),by unfold maxLen;simp⟩
def ahm:List Value:=qr (List.replicate 8 0)
def ahl:List Value:=[.bool false,.int .i64 0,.int .i64 0]
def ubC (kd:Int) (P:List Value) (tw:Int) (ss:Value) (D A:List Value) (ly:Int) (sp:Value):List Value:=[.int .i64 kd] ++(P ++([.int .i64 tw] ++([ss] ++(D ++(A ++([.int .i64 ly]++[sp]))))))
def ubZ (kd:Int):List Value:=ubC kd kj 0 (.slice none 0 0) ahm ahl 0 (.slice none 0 0)
def aaf:aid:=⟨0,abh (List.replicate 32 0),0,[],abh (List.replicate 8 0),[.bool false,.int .i64 0,.int .i64 0],0,[]⟩
theorem akj:KV 26 kj (abh (List.replicate 32 0)):=a37 rfl (ahn 32)
theorem akh:KV 31 ahm (abh (List.replicate 8 0)):=a36 rfl (ahn 8)
theorem akg:KV 33 ahl [.bool false,.int .i64 0,.int .i64 0]:=a35 om om
theorem alz (Q:Nat→Prop) (w:World) (kd:Int):aed Q w (ubZ kd) {aaf with kd:=kd}:=⟨_,_,_,_,_,rfl,akj,kt,akh,akg,kt⟩
def UTk (mb:Nat) (E:Int) (u:aid) (w:World) (e:Ending) (w':World):Prop:=
 e=.returned (.int .i64 E)∧qk (fun k=>k<w.1.size∧k≠mb) w w'∧∃L,Blk w' mb L∧L.length=48 ∧(E=0→aed (fun b=>w.1.size≤b∧b<w'.1.size) w' L u)
theorem a5y (w:World):Calls Tryz.prog 254 #[.agg #[]] w fun e w'=>e=.returned (.int .i64 1)∧Below w.1.size w w':=by
 go_enter func254,ntmps254;go_wp2_with fail;go_ret;exact⟨rfl,qa _ _⟩
theorem bgy (x:Value) (W:World):(method 526 224 x "landfall/ubx.kind").run Tryz.prog W=.ok (254,x) W:=by kernel_rfl
theorem bf6 (x:Value) (W:World):(callFunc 254 #[x]).run Tryz.prog W=.ok (.enter 254 #[x]) W:=by kernel_rfl
theorem bg2 (x:Value) (W:World):(method 526 224 x "landfall/ubx.take").run Tryz.prog W=.ok (256,x) W:=by kernel_rfl
theorem bga (x y z t:Value) (W:World):(callFunc 256 #[x,y,z,t]).run Tryz.prog W=.ok (.enter 256 #[x,y,z,t]) W:=by kernel_rfl
theorem a1o (w:World):Calls Tryz.prog 266 #[.agg #[]] w fun e w'=>e=.returned (.int .i64 2)∧Below w.1.size w w':=by
 go_enter func266,ntmps266;go_wp2_with fail;go_ret;exact⟨rfl,qa _ _⟩
theorem bc4 (x:Value) (W:World):(method 526 225 x "landfall/ubx.kind").run Tryz.prog W=.ok (266,x) W:=by kernel_rfl
theorem bcd (x:Value) (W:World):(callFunc 266 #[x]).run Tryz.prog W=.ok (.enter 266 #[x]) W:=by kernel_rfl
theorem bc5 (x:Value) (W:World):(method 526 225 x "landfall/ubx.take").run Tryz.prog W=.ok (268,x) W:=by kernel_rfl
theorem bce (x y z t:Value) (W:World):(callFunc 268 #[x,y,z,t]).run Tryz.prog W=.ok (.enter 268 #[x,y,z,t]) W:=by kernel_rfl
theorem a5x (w:World):Calls Tryz.prog 274 #[.agg #[]] w fun e w'=>e=.returned (.int .i64 3)∧Below w.1.size w w':=by
 go_enter func274,ntmps274;go_wp2_with fail;go_ret;exact⟨rfl,qa _ _⟩
theorem bgx (x:Value) (W:World):(method 526 226 x "landfall/ubx.kind").run Tryz.prog W=.ok (274,x) W:=by kernel_rfl
theorem bf5 (x:Value) (W:World):(callFunc 274 #[x]).run Tryz.prog W=.ok (.enter 274 #[x]) W:=by kernel_rfl
theorem bg1 (x:Value) (W:World):(method 526 226 x "landfall/ubx.take").run Tryz.prog W=.ok (276,x) W:=by kernel_rfl
theorem bf9 (x y z t:Value) (W:World):(callFunc 276 #[x,y,z,t]).run Tryz.prog W=.ok (.enter 276 #[x,y,z,t]) W:=by kernel_rfl
theorem a5w (w:World):Calls Tryz.prog 280 #[.agg #[]] w fun e w'=>e=.returned (.int .i64 4)∧Below w.1.size w w':=by
 go_enter func280,ntmps280;go_wp2_with fail;go_ret;exact⟨rfl,qa _ _⟩
theorem bgw (x:Value) (W:World):(method 526 227 x "landfall/ubx.kind").run Tryz.prog W=.ok (280,x) W:=by kernel_rfl
theorem bf4 (x:Value) (W:World):(callFunc 280 #[x]).run Tryz.prog W=.ok (.enter 280 #[x]) W:=by kernel_rfl
theorem bg0 (x:Value) (W:World):(method 526 227 x "landfall/ubx.take").run Tryz.prog W=.ok (282,x) W:=by kernel_rfl
theorem bf8 (x y z t:Value) (W:World):(callFunc 282 #[x,y,z,t]).run Tryz.prog W=.ok (.enter 282 #[x,y,z,t]) W:=by kernel_rfl
theorem a5z (w:World):Calls Tryz.prog 286 #[.agg #[]] w fun e w'=>e=.returned (.int .i64 5)∧Below w.1.size w w':=by
 go_enter func286,ntmps286;go_wp2_with fail;go_ret;exact⟨rfl,qa _ _⟩
theorem bgz (x:Value) (W:World):(method 526 228 x "landfall/ubx.kind").run Tryz.prog W=.ok (286,x) W:=by kernel_rfl
theorem bf7 (x:Value) (W:World):(callFunc 286 #[x]).run Tryz.prog W=.ok (.enter 286 #[x]) W:=by kernel_rfl
theorem bg3 (x:Value) (W:World):(method 526 228 x "landfall/ubx.take").run Tryz.prog W=.ok (288,x) W:=by kernel_rfl
theorem bgb (x y z t:Value) (W:World):(callFunc 288 #[x,y,z,t]).run Tryz.prog W=.ok (.enter 288 #[x,y,z,t]) W:=by kernel_rfl
theorem a52 {Q0:Nat→Prop} {w:World} (mb:Nat) (X:Option Addr) (d:Nat) (b:List UInt8) (id:Int) (hm:Blk w mb (ubZ 1)) (hB:qf Q0 w X (bsV b)) (hl:b.length≤1000000) :
 Calls Tryz.prog 256 #[.agg #[],.pointer (some ⟨mb,0,none⟩),.slice X b.length d,.int .i64 id] w (UTk mb (agf b).1 {aaf with kd:=1,P:=abh (agf b).2} w):=by
 have HT:∀W,Below w.1.size w W→Hid (Calls Tryz.prog 257 #[.slice X b.length d] W fun e w'=>e=.returned (.tuple #[.agg (qr (agf b).2).toArray,.int .i64 (agf b).1])∧Below W.1.size W w'):=fun W hW=>hid (azv X d b (hB.lt.below hW (fun b q=>q.2)) hl)
 have hpl:=azu b
 have hpi:(agf b).1=0→InI (agf b).2:=fun h=>by
  unfold agf at *
  split at h
  ·rename_i h0;rw[if_pos h0];intro n hn;exact ag7 apw h0 n (List.mem_of_mem_eraseIdx hn)
  ·rename_i h0;exact absurd h h0
 generalize (agf b).1=E at *;generalize (agf b).2=P at *;have HM:∀W,Below w.1.size w W→Hid (Blk W mb (ubZ 1)):=fun W hW=>hid (hm.on hW)
 have HP:=hid (And.intro hpl hpi);have HSZ:=hid (akp hpl);have HON:=hid (aht P);have HMB:=hid hm.lt;clear hm hB hpl hpi;go_enter func256,ntmps256;go_wp2_with fail;refine(HT _ (qa _ _)).out.mono ?_;rintro e w1 ⟨rfl,hb⟩;have HB1:=hid (qb (qa _ _) hb);have HM1:=HM w1 (qb (qa _ _) hb);have HTH:Hid (w1.there mb 1 (qr P).toArray.size):=hid (by rw[List.size_toArray,jg,HP.out.1];exact HM1.out.there 1 32 dc);clear hb HM HT;go_wp2_with (refine qe rfl 26 _ _ rfl mb 1 (qr P).toArray rfl rfl HTH.out HSZ.out HON.out ?_;intro W6 hs;have HS:=hid hs;clear hs);go_ret;have hs:=HS.out
 have hk:Blk W6 mb (ubC 1 (qr P) 0 (.slice none 0 0) ahm ahl 0 (.slice none 0 0)):=by
  have:=HM1.out.put (A:=[.int .i64 1]) (M:=kj) (D:=[.int .i64 0] ++([.slice none 0 0] ++(ahm ++(ahl ++([.int .i64 0]++[.slice none 0 0]))))) (cs:=qr P) hs rfl (by rw[jg,HP.out.1];rfl)
  simpa [ubC]using this
 refine⟨rfl,(qk.of_below HB1.out (fun k q=>q.1)).stored hs (fun q=>q.2 rfl),_,hk,?_,fun hE=>?_⟩
 ·unfold ubC;simp[jg,HP.out.1];rfl
 ·exact⟨_,_,_,_,_,rfl,a37 HP.out.1 (HP.out.2 hE),kt,akh,akg,kt⟩
theorem ati:∀(n:Nat) (b:List UInt8),(je n b).1=0→∀v∈(je n b).2,InI v
 | 0,_,_=>fun v hv=>by cases hv
 | n+1,b,h=>by
  unfold je at *
  split at h
  ·rename_i h1
   split at h
   ·rename_i h2;rw[if_pos h1,if_pos h2];intro v hv;rcases List.mem_cons.1 hv with rfl|hv
    ·exact ag7 ap7 h1
    ·exact ati n _ h2 v hv
   ·rename_i h2;exact absurd h h2
  ·rename_i h1;exact absurd h h1
theorem bep (b:List UInt8) (h:(abt b).1=0):(∀v∈(abt b).2.2,v.length=7∧InI v) ∧(abt b).2.2.length≤100000000:=by
 unfold abt at *
 split at h
 ·simp at h
 rename_i h0;rw[if_neg h0]
 split at h
 ·rename_i h1;rw[if_pos h1]
  split at h
  ·simp at h
  rename_i h2;rw[if_neg h2]
  split at h
  ·simp at h
  rename_i h3;rw[if_neg h3]
  split at h
  ·rename_i h4;rw[if_pos h4];refine⟨fun v hv=>⟨(alr _ _ h4).2 v hv,ati _ _ h4 v hv⟩,?_⟩;rw[(alr _ _ h4).1];obtain⟨x,q1,q2,q3⟩:=aky ks (b.take 8) (akv h1) 2 dc;rw[List.getD_eq_getElem?_getD,q1];have e2:(ks[2]'(by decide)).hi=64:=rfl;rw[e2]at q3;show x.toNat≤_;omega
  ·rename_i h4;exact absurd h h4
 ·rename_i h1;exact absurd h h1
theorem a63:∀(k:Nat) (b:List UInt8),(j5 k b).1=0 →(j5 k b).2.length≤k∧∀p∈(j5 k b).2,p.1<4294967296∧p.2<9223372036854775808
 | 0,b,h=>by unfold j5 at *;split<;>exact⟨Nat.le_refl _,fun p hp=>by cases hp⟩
 | k+1,b,h=>by
  unfold j5 at *
  by_cases h0:b=[]
  ·rw[if_pos h0];exact⟨Nat.zero_le _,fun p hp=>by cases hp⟩
  rw[if_neg h0]at h ⊢
  by_cases h1:b.length<4
  ·rw[if_pos h1]at h;simp at h
  rw[if_neg h1]at h ⊢
  by_cases h2:(jd (xy (b.take 4))).2=0
  ·rw[if_pos h2]at h;simp at h
  rw[if_neg h2]at h ⊢
  by_cases h3:(b.drop 4).length<(jd (xy (b.take 4))).2
  ·rw[if_pos h3]at h;simp at h
  rw[if_neg h3]at h ⊢
  by_cases h4:2^(jd (xy (b.take 4))).1-1<xy ((b.drop 4).take (jd (xy (b.take 4))).2)
  ·rw[if_pos h4]at h;simp at h
  rw[if_neg h4]at h ⊢
  by_cases h5:(j5 k ((b.drop 4).drop (jd (xy (b.take 4))).2)).1=0
  ·rw[if_pos h5];obtain⟨q1,q2⟩:=a63 k _ h5;refine⟨by rw[List.length_cons];omega,fun p hp=>?_⟩;rcases List.mem_cons.1 hp with rfl|hp
   ·have hk:=ahw (b.take 4);rw[List.length_take,Nat.min_eq_left om]at hk;have hM:2^(jd (xy (b.take 4))).1≤2^63:=Nat.pow_le_pow_right dc (apj _).1;exact⟨hk,by dsimp only;omega⟩
   ·exact q2 p hp
  ·rw[if_neg h5]at h;exact absurd h h5
theorem bia (b:List UInt8) (h:(ae4 b).1=0):(ae4 b).2.2.length≤32∧∀p∈(ae4 b).2.2,p.1<4294967296∧p.2<9223372036854775808:=by
 unfold ae4 at *
 split at h
 ·simp at h
 rename_i h0;rw[if_neg h0]
 split at h
 ·rename_i h1;rw[if_pos h1]
  split at h
  ·rename_i h4;rw[if_pos h4];exact a63 _ _ h4
  ·rename_i h4;exact absurd h h4
 ·rename_i h1;exact absurd h h1
def apq (p:Nat×Nat):List Int:=[(p.1:Int),(p.2:Int)]
theorem a9e (L:List (Nat×Nat)):aej L=(L.map apq).flatMap qr:=by
 induction L with
 | nil=>rfl
 | cons p L ih=>simp only[aej,List.flatMap_cons,List.map_cons]at *;rw[ih];rfl
theorem a1p {Q0:Nat→Prop} {w:World} (mb:Nat) (X:Option Addr) (d:Nat) (b:List UInt8) (id:Int) (hm:Blk w mb (ubZ 2)) (hB:qf Q0 w X (bsV b)) (hl:b.length≤1000000) (hd:b.length≤d) :
 Calls Tryz.prog 268 #[.agg #[],.pointer (some ⟨mb,0,none⟩),.slice X b.length d,.int .i64 id] w (UTk mb (abt b).1 {aaf with kd:=2,tw:=(abt b).2.1,X:=(abt b).2.2.map abh} w):=by
 have HT:∀W,Below w.1.size w W→Hid (Calls Tryz.prog 269 #[.slice X b.length d] W (anj (abt b) W)):=fun W hW=>hid (avy X d b (hB.lt.below hW (fun b q=>q.2)) hl hd)
 have HOK:=hid (bep b);obtain⟨⟨E,t0,L⟩,hr⟩:∃r,abt b=r:=⟨_,rfl⟩;rw[hr]at HT HOK ⊢;unfold anj at HT;dsimp only at *;clear hr;have HM:∀W,Below w.1.size w W→Hid (Blk W mb (ubZ 2)):=fun W hW=>hid (hm.on hW)
 have HMB:=hid hm.lt;clear hm hB;go_enter func268,ntmps268;go_wp2_with fail;refine(HT _ (qa _ _)).out.mono ?_;rintro e w1 ⟨A,c,rfl,hf,hb⟩;have HB1:=hid (qb (qa _ _) hb);have HM1:=HM w1 (qb (qa _ _) hb);have g0:=HM1.out.cell 33 (v:=.int .i64 0) rfl;have z0:=HM1.out.fz 33;have g1:=HM1.out.cell 34 (v:=.slice none 0 0) rfl;have z1:=HM1.out.fz 34;have HFQ:Hid (qf (fun b=>w.1.size≤b∧b<w1.1.size) w1 A (aew L)):=hid (hf.less fun b q=>⟨Nat.le_trans (qa w _).size q.1,q.2⟩);clear hf;clear hb HM HT;go_wp2_with fail;go_ret;have hs:qp w1 ((w1.setCell ⟨mb,33,none⟩ (.int .i64 t0)).setCell ⟨mb,34,none⟩ (.slice A L.length c)) mb 33 [.int .i64 t0,.slice A L.length c]:=qo (cs:=[.int .i64 t0,.slice A L.length c]) (HM1.out.there 33 2 dc)
 have hk:Blk ((w1.setCell ⟨mb,33,none⟩ (.int .i64 t0)).setCell ⟨mb,34,none⟩ (.slice A L.length c)) mb (ubC 2 kj t0 (.slice A L.length c) ahm ahl 0 (.slice none 0 0)):=by
  have:=HM1.out.put (A:=[.int .i64 2]++kj) (M:=[.int .i64 0,.slice none 0 0]) (D:=ahm ++(ahl ++([.int .i64 0]++[.slice none 0 0]))) (cs:=[.int .i64 t0,.slice A L.length c]) hs rfl rfl;exact this
 refine⟨rfl,(qk.of_below HB1.out (fun k q=>q.1)).stored hs (fun q=>q.2 rfl),_,hk,rfl,fun hE=>?_⟩;obtain⟨q1,q2⟩:=HOK.out hE
 have hsl:aa5 162 7 (fun b=>w.1.size≤b∧b<((w1.setCell ⟨mb,33,none⟩ (.int .i64 t0)).setCell ⟨mb,34,none⟩ (.slice A L.length c)).1.size) ((w1.setCell ⟨mb,33,none⟩ (.int .i64 t0)).setCell ⟨mb,34,none⟩ (.slice A L.length c)) (.slice A L.length c) (L.map abh):=
  aqj dc (fun v h1 h2=>bjz h1 h2) L q1 ((HFQ.out.keep fun k hk=>hs.far k (by have:=HMB.out;have:=hk.1;omega)).less fun k hk=>⟨hk.1,by have:=hk.2;simpa using this⟩) (by unfold maxLen;omega)
 exact⟨_,_,_,_,_,rfl,akj,hsl,akh,akg,kt⟩
theorem a51 {Q0:Nat→Prop} {w:World} (mb:Nat) (X:Option Addr) (d:Nat) (b:List UInt8) (id:Int) (hm:Blk w mb (ubZ 3)) (hB:qf Q0 w X (bsV b)) (hl:b.length≤1000000) (hd:b.length≤d) :
 Calls Tryz.prog 276 #[.agg #[],.pointer (some ⟨mb,0,none⟩),.slice X b.length d,.int .i64 id] w (UTk mb (agp b).1 {aaf with kd:=3,D:=abh (agp b).2} w):=by
 have HT:∀W,Below w.1.size w W→Hid (Calls Tryz.prog 277 #[.slice X b.length d] W fun e w'=>e=.returned (.tuple #[.agg (qr (agp b).2).toArray,.int .i64 (agp b).1])∧Below W.1.size W w'):=fun W hW=>hid (ayg X d b (hB.lt.below hW (fun b q=>q.2)) hl)
 have hln:(agp b).2.length=8:=by
  unfold agp
  split
  ·rename_i h;exact abj h
  ·rfl
 have HOK:Hid ((agp b).1=0→InI (agp b).2):=hid (fun h=>by
  unfold agp at *
  split at h
  ·rename_i h0;rw[if_pos h0];exact ag7 ao7 h0
  ·rename_i h0;exact absurd h h0)
 obtain⟨⟨E,v⟩,hr⟩:∃r,agp b=r:=⟨_,rfl⟩;rw[hr]at HT HOK hln ⊢;dsimp only at *
 obtain⟨x0,x1,x2,x3,x4,x5,x6,x7,rfl⟩:∃x0 x1 x2 x3 x4 x5 x6 x7,v=[x0,x1,x2,x3,x4,x5,x6,x7]:=by
  rcases v with _|⟨x0,_|⟨x1,_|⟨x2,_|⟨x3,_|⟨x4,_|⟨x5,_|⟨x6,_|⟨x7,_|⟨z,_⟩⟩⟩⟩⟩⟩⟩⟩⟩<;>first|exact⟨_,_,_,_,_,_,_,_,rfl⟩|(simp at hln)
 replace HT:∀W,Below w.1.size w W→Hid (Calls Tryz.prog 277 #[.slice X b.length d] W fun e w'=>e=.returned (.tuple #[.agg #[.int .i64 x0,.int .i64 x1,.int .i64 x2,.int .i64 x3,.int .i64 x4,.int .i64 x5,.int .i64 x6,.int .i64 x7],.int .i64 E])∧Below W.1.size W w'):=HT;clear hr hln;have HM:∀W,Below w.1.size w W→Hid (Blk W mb (ubZ 3)):=fun W hW=>hid (hm.on hW)
 have HMB:=hid hm.lt;clear hm hB;go_enter func276,ntmps276;go_wp2_with fail;refine(HT _ (qa _ _)).out.mono ?_;rintro e w1 ⟨rfl,hb⟩;have HB1:=hid (qb (qa _ _) hb);have HM1:=HM w1 (qb (qa _ _) hb);have g0:=HM1.out.cell 35 (v:=.int .i64 0) rfl;have z0:=HM1.out.fz 35;have g1:=HM1.out.cell 36 (v:=.int .i64 0) rfl;have z1:=HM1.out.fz 36;have g2:=HM1.out.cell 37 (v:=.int .i64 0) rfl;have z2:=HM1.out.fz 37;have g3:=HM1.out.cell 38 (v:=.int .i64 0) rfl;have z3:=HM1.out.fz 38;have g4:=HM1.out.cell 39 (v:=.int .i64 0) rfl;have z4:=HM1.out.fz 39;have g5:=HM1.out.cell 40 (v:=.int .i64 0) rfl;have z5:=HM1.out.fz 40;have g6:=HM1.out.cell 41 (v:=.int .i64 0) rfl;have z6:=HM1.out.fz 41;have g7:=HM1.out.cell 42 (v:=.int .i64 0) rfl;have z7:=HM1.out.fz 42;clear hb HM HT;go_wp2_with fail;go_ret;have hs:qp w1 ((((((((w1.setCell ⟨mb,35,none⟩ (.int .i64 x0)).setCell ⟨mb,36,none⟩ (.int .i64 x1)).setCell ⟨mb,37,none⟩ (.int .i64 x2)).setCell ⟨mb,38,none⟩ (.int .i64 x3)).setCell ⟨mb,39,none⟩ (.int .i64 x4)).setCell ⟨mb,40,none⟩ (.int .i64 x5)).setCell ⟨mb,41,none⟩ (.int .i64 x6)).setCell ⟨mb,42,none⟩ (.int .i64 x7)) mb 35 [.int .i64 x0,.int .i64 x1,.int .i64 x2,.int .i64 x3,.int .i64 x4,.int .i64 x5,.int .i64 x6,.int .i64 x7]:=qo (cs:=[.int .i64 x0,.int .i64 x1,.int .i64 x2,.int .i64 x3,.int .i64 x4,.int .i64 x5,.int .i64 x6,.int .i64 x7]) (HM1.out.there 35 8 dc)
 have hk:Blk ((((((((w1.setCell ⟨mb,35,none⟩ (.int .i64 x0)).setCell ⟨mb,36,none⟩ (.int .i64 x1)).setCell ⟨mb,37,none⟩ (.int .i64 x2)).setCell ⟨mb,38,none⟩ (.int .i64 x3)).setCell ⟨mb,39,none⟩ (.int .i64 x4)).setCell ⟨mb,40,none⟩ (.int .i64 x5)).setCell ⟨mb,41,none⟩ (.int .i64 x6)).setCell ⟨mb,42,none⟩ (.int .i64 x7)) mb (ubC 3 kj 0 (.slice none 0 0) [.int .i64 x0,.int .i64 x1,.int .i64 x2,.int .i64 x3,.int .i64 x4,.int .i64 x5,.int .i64 x6,.int .i64 x7] ahl 0 (.slice none 0 0)):=by
  have:=HM1.out.put (A:=[.int .i64 3] ++(kj ++([.int .i64 0]++[.slice none 0 0]))) (M:=ahm) (D:=ahl ++([.int .i64 0]++[.slice none 0 0])) (cs:=[.int .i64 x0,.int .i64 x1,.int .i64 x2,.int .i64 x3,.int .i64 x4,.int .i64 x5,.int .i64 x6,.int .i64 x7]) hs rfl rfl;exact this
 refine⟨rfl,(qk.of_below HB1.out (fun k q=>q.1)).stored hs (fun q=>q.2 rfl),_,hk,rfl,fun hE=>?_⟩;exact⟨_,_,_,_,_,rfl,akj,kt,a36 rfl (HOK.out hE),akg,kt⟩
theorem a50 {Q0:Nat→Prop} {w:World} (mb:Nat) (X:Option Addr) (d:Nat) (b:List UInt8) (id:Int) (hm:Blk w mb (ubZ 4)) (hB:qf Q0 w X (bsV b)) (hl:b.length≤1000000) (hd:b.length≤d) :
 Calls Tryz.prog 282 #[.agg #[],.pointer (some ⟨mb,0,none⟩),.slice X b.length d,.int .i64 id] w (UTk mb (afb b).1 {aaf with kd:=4,A:=.bool (id==1)::abh (afb b).2} w):=by
 have HT:∀W,Below w.1.size w W→Hid (Calls Tryz.prog 283 #[.slice X b.length d,.bool (id==1)] W fun e w'=>e=.returned (.tuple #[.agg (.bool ((id==1) && decide ((afb b).1=0))::qr (afb b).2).toArray,.int .i64 (afb b).1])∧Below W.1.size W w'):=fun W hW=>hid (axq X d b (id==1) (hB.lt.below hW (fun b q=>q.2)) hl)
 have hln:(afb b).2.length=2:=by
  unfold afb
  split
  ·rename_i h;exact abj h
  ·rfl
 have HOK:Hid ((afb b).1=0→InI (afb b).2):=hid (fun h=>by
  unfold afb at *
  split at h
  ·rename_i h0;rw[if_pos h0];exact ag7 aob h0
  ·rename_i h0;exact absurd h h0)
 obtain⟨⟨E,v⟩,hr⟩:∃r,afb b=r:=⟨_,rfl⟩;rw[hr]at HT HOK hln ⊢;dsimp only at *
 obtain⟨x0,x1,rfl⟩:∃x0 x1,v=[x0,x1]:=by
  rcases v with _|⟨x0,_|⟨x1,_|⟨z,_⟩⟩⟩<;>first|exact⟨_,_,rfl⟩|(simp at hln)
 obtain⟨yy,hyy⟩:∃yy,((id==1) && decide (E=0))=yy:=⟨_,rfl⟩;rw[hyy]at HT;have HYY:=hid hyy;replace HT:∀W,Below w.1.size w W→Hid (Calls Tryz.prog 283 #[.slice X b.length d,.bool (id==1)] W fun e w'=>e=.returned (.tuple #[.agg #[.bool yy,.int .i64 x0,.int .i64 x1],.int .i64 E])∧Below W.1.size W w'):=HT;clear hr hln hyy;have HM:∀W,Below w.1.size w W→Hid (Blk W mb (ubZ 4)):=fun W hW=>hid (hm.on hW)
 have HMB:=hid hm.lt;clear hm hB;go_enter func282,ntmps282;go_wp2_with fail;refine(HT _ (qa _ _)).out.mono ?_;rintro e w1 ⟨rfl,hb⟩;have HB1:=hid (qb (qa _ _) hb);have HM1:=HM w1 (qb (qa _ _) hb);have g0:=HM1.out.cell 43 (v:=.bool false) rfl;have z0:=HM1.out.fz 43;have g1:=HM1.out.cell 44 (v:=.int .i64 0) rfl;have z1:=HM1.out.fz 44;have g2:=HM1.out.cell 45 (v:=.int .i64 0) rfl;have z2:=HM1.out.fz 45;clear hb HM HT;go_wp2_with fail;go_ret;have hs:qp w1 (((w1.setCell ⟨mb,43,none⟩ (.bool yy)).setCell ⟨mb,44,none⟩ (.int .i64 x0)).setCell ⟨mb,45,none⟩ (.int .i64 x1)) mb 43 [.bool yy,.int .i64 x0,.int .i64 x1]:=qo (cs:=[.bool yy,.int .i64 x0,.int .i64 x1]) (HM1.out.there 43 3 dc)
 have hk:Blk (((w1.setCell ⟨mb,43,none⟩ (.bool yy)).setCell ⟨mb,44,none⟩ (.int .i64 x0)).setCell ⟨mb,45,none⟩ (.int .i64 x1)) mb (ubC 4 kj 0 (.slice none 0 0) ahm [.bool yy,.int .i64 x0,.int .i64 x1] 0 (.slice none 0 0)):=by
  have:=HM1.out.put (A:=[.int .i64 4] ++(kj ++([.int .i64 0] ++([.slice none 0 0]++ahm)))) (M:=ahl) (D:=[.int .i64 0]++[.slice none 0 0]) (cs:=[.bool yy,.int .i64 x0,.int .i64 x1]) hs rfl rfl;exact this
 refine⟨rfl,(qk.of_below HB1.out (fun k q=>q.1)).stored hs (fun q=>q.2 rfl),_,hk,rfl,fun hE=>?_⟩;have hy:yy=(id==1):=by rw[← HYY.out,hE];simp
 have hi:=HOK.out hE;refine⟨_,_,_,_,_,rfl,akj,kt,akh,?_,kt⟩;rw[hy];exact a35 (hi x0 sm) (hi x1 sm)
theorem a53 {Q0:Nat→Prop} {w:World} (mb:Nat) (X:Option Addr) (d:Nat) (b:List UInt8) (id:Int) (hm:Blk w mb (ubZ 5)) (hB:qf Q0 w X (bsV b)) (hl:b.length≤1000000) (hd:b.length≤d) :
 Calls Tryz.prog 288 #[.agg #[],.pointer (some ⟨mb,0,none⟩),.slice X b.length d,.int .i64 id] w (UTk mb (ae4 b).1 {aaf with kd:=5,ly:=(ae4 b).2.1,Y:=(ae4 b).2.2.map fun p=>abh (apq p)} w):=by
 have HT:∀W,Below w.1.size w W→Hid (Calls Tryz.prog 289 #[.slice X b.length d] W (at7 (ae4 b) W)):=fun W hW=>hid (a1u X d b (hB.lt.below hW (fun b q=>q.2)) hl hd)
 have HOK:=hid (bia b);obtain⟨⟨E,t0,L⟩,hr⟩:∃r,ae4 b=r:=⟨_,rfl⟩;rw[hr]at HT HOK ⊢;unfold at7 at HT;dsimp only at *;clear hr;have HM:∀W,Below w.1.size w W→Hid (Blk W mb (ubZ 5)):=fun W hW=>hid (hm.on hW)
 have HMB:=hid hm.lt;clear hm hB;go_enter func288,ntmps288;go_wp2_with fail;refine(HT _ (qa _ _)).out.mono ?_;rintro e w1 ⟨A,c,rfl,hf,hb⟩;have HB1:=hid (qb (qa _ _) hb);have HM1:=HM w1 (qb (qa _ _) hb);have g0:=HM1.out.cell 46 (v:=.int .i64 0) rfl;have z0:=HM1.out.fz 46;have g1:=HM1.out.cell 47 (v:=.slice none 0 0) rfl;have z1:=HM1.out.fz 47;have HFQ:Hid (qf (fun b=>w.1.size≤b∧b<w1.1.size) w1 A (aej L)):=hid (hf.less fun b q=>⟨Nat.le_trans (qa w _).size q.1,q.2⟩);clear hf;clear hb HM HT;go_wp2_with fail;go_ret;have hs:qp w1 ((w1.setCell ⟨mb,46,none⟩ (.int .i64 t0)).setCell ⟨mb,47,none⟩ (.slice A L.length c)) mb 46 [.int .i64 t0,.slice A L.length c]:=qo (cs:=[.int .i64 t0,.slice A L.length c]) (HM1.out.there 46 2 dc)
 have hk:Blk ((w1.setCell ⟨mb,46,none⟩ (.int .i64 t0)).setCell ⟨mb,47,none⟩ (.slice A L.length c)) mb (ubC 5 kj 0 (.slice none 0 0) ahm ahl t0 (.slice A L.length c)):=by
  have:=HM1.out.put (A:=[.int .i64 5] ++(kj ++([.int .i64 0] ++([.slice none 0 0] ++(ahm++ahl))))) (M:=[.int .i64 0,.slice none 0 0]) (D:=[]) (cs:=[.int .i64 t0,.slice A L.length c]) hs rfl rfl;exact this
 refine⟨rfl,(qk.of_below HB1.out (fun k q=>q.1)).stored hs (fun q=>q.2 rfl),_,hk,rfl,fun hE=>?_⟩;obtain⟨q1,q2⟩:=HOK.out hE
 have hsl:aa5 164 2 (fun b=>w.1.size≤b∧b<((w1.setCell ⟨mb,46,none⟩ (.int .i64 t0)).setCell ⟨mb,47,none⟩ (.slice A L.length c)).1.size) ((w1.setCell ⟨mb,46,none⟩ (.int .i64 t0)).setCell ⟨mb,47,none⟩ (.slice A L.length c)) (.slice A L.length c) (L.map fun p=>abh (apq p)):=by
  have h1:=aqj (t:=164) (m:=2) (Q:=fun b=>w.1.size≤b∧b<((w1.setCell ⟨mb,46,none⟩ (.int .i64 t0)).setCell ⟨mb,47,none⟩ (.slice A L.length c)).1.size) (w:=(w1.setCell ⟨mb,46,none⟩ (.int .i64 t0)).setCell ⟨mb,47,none⟩ (.slice A L.length c)) (A:=A) (c:=c) dc (fun v h1 h2=>bgs h1 h2) (L.map apq) (fun v hv=>by
   obtain⟨p,hp,rfl⟩:=List.mem_map.1 hv;have:=q2 p hp;refine⟨rfl,fun n hn=>?_⟩;simp only[apq,List.mem_cons,List.not_mem_nil,or_false]at hn;rcases hn with rfl|rfl<;>omega) (by rw[← a9e];exact(HFQ.out.keep fun k hk=>hs.far k (by have:=HMB.out;have:=hk.1;omega)).less fun k hk=>⟨hk.1,by have:=hk.2;simpa using this⟩) (by rw[List.length_map];unfold maxLen;omega)
  rw[List.length_map,List.map_map]at h1;exact h1
 exact⟨_,_,_,_,_,rfl,akj,kt,akh,akg,hsl⟩
end Go.Proofs.YtdkhlkfleggbaaaGreat
