/- Parts. -/
import Derived.Test.YtdkhlkfleggbaaaGreatU03
namespace Go.Proofs.YtdkhlkfleggbaaaGreat
set_option maxHeartbeats 1000000
set_option maxRecDepth 8000
open Lib (hid)
open Tryz
set_option linter.unusedVariables false
open Go.RowKit
structure ael where
 kd:Int
 P:List Lit
 tw:Int
 X:List (List Lit)
 D:List Lit
 A:List Lit
 ly:Int
 Y:List (List Lit)
structure aha where
 sq:Int
 sy:Int
 cm:Int
 id:Int
 V:List (List Lit)
def afu (t:TypeId) (size:Nat) (w:World) (v:Value) (X:List (List Lit)):Prop:=∃A c,v=.slice A X.length c∧SlK t size (fun b=>b<w.1.size) w A X∧X.length≤maxLen
theorem afu.on {t:TypeId} {size:Nat} {w w':World} {v:Value} {X:List (List Lit)} (h:afu t size w v X) (hb:Below w.1.size w w'):afu t size w' v X:=by
 obtain⟨A,c,rfl,h,hl⟩:=h;refine⟨A,c,rfl,fun k hk=>?_,hl⟩;obtain⟨b,off,L,h1,h2,h3,h4⟩:=h.below hb (fun _ q=>q) k hk;exact⟨b,off,L,h1,e9 h2 hb.size,h3,h4⟩
def a8v (w:World) (L:List Value) (u:ael):Prop:=∃P ss D A sp,L=[Value.int .i64 u.kd] ++(P ++([Value.int .i64 u.tw] ++([ss] ++(D ++(A ++([Value.int .i64 u.ly] ++([sp])))))))∧KV 26 P u.P∧afu 162 7 w ss u.X∧KV 31 D u.D∧KV 33 A u.A∧afu 164 2 w sp u.Y
def a8u (w:World) (L:List Value) (p:aha):Prop:=∃vs,L=[Value.int .i64 p.sq] ++([Value.int .i64 p.sy] ++([Value.int .i64 p.cm] ++([Value.int .i64 p.id] ++([vs]))))∧afu 2 1 w vs p.V
theorem av8 {P:List Value} {l:List Lit} (h:KV 26 P l):P.length=32:=(h.struct_len underlying26).trans kr
theorem ava {P:List Value} {l:List Lit} (h:KV 31 P l):P.length=8:=(h.struct_len underlying31).trans kr
theorem auv {P:List Value} {l:List Lit} (h:KV 33 P l):P.length=3:=(h.struct_len underlying33).trans kr
theorem a8u.on {w w':World} {L:List Value} {a:aha} (h:a8u w L a) (hb:Below w.1.size w w'):a8u w' L a:=by
 obtain⟨ls,e,h1⟩:=h;exact⟨ls,e,h1.on hb⟩
theorem a8v.on {w w':World} {L:List Value} {a:ael} (h:a8v w L a) (hb:Below w.1.size w w'):a8v w' L a:=by
 obtain⟨P,ss,D,A,sp,e,h1,h2,h3,h4,h5⟩:=h;exact⟨P,ss,D,A,sp,e,h1,h2.on hb,h3,h4,h5.on hb⟩
def aza (u v:ael):Bool:=(u.kd==v.kd) && (decide (u.P=v.P) && (decide (u.D=v.D) && (decide (u.A=v.A) && ((u.tw==v.tw) && (decide (u.X=v.X) && ((u.ly==v.ly) && decide (u.Y=v.Y)))))))
def bdu (a b:aha):Bool:=(a.sq==b.sq) && ((a.sy==b.sy) && ((a.cm==b.cm) && ((a.id==b.id) && decide (a.V=b.V))))
def ayc (f:Nat) (v v':Value) (b:Bool) (w:World):Prop:=Calls prog f #[v,v'] w fun e w'=>e=.returned (.bool b)∧Below w.1.size w w'
theorem a6m {f:Nat} {t:TypeId} {size:Nat} (hf:∀(A B:Option Addr) (n m c d:Nat) (X Y:List (List Lit)) (w:World),Hid (X.length=n)→Hid (Y.length=m)→Hid (SlK t size (fun b=>b<w.1.size) w A X)→Hid (SlK t size (fun b=>b<w.1.size) w B Y)→n≤maxLen→m≤maxLen →
      Calls prog f #[.slice A n c,.slice B m d] w fun e w'=>e=.returned (.bool (decide (X=Y)))∧Below w.1.size w w')
 {w:World} {v v':Value} {X Y:List (List Lit)} (h:afu t size w v X) (h':afu t size w v' Y):ayc f v v' (decide (X=Y)) w:=by
 obtain⟨A,c,rfl,h1,h2⟩:=h;obtain⟨B,d,rfl,h3,h4⟩:=h';exact hf A B _ _ c d X Y w rfl rfl h1 h3 h2 h4
theorem a0t {w:World} {L M:List Value} {u v:ael} (h:a8v w L u) (h':a8v w M v):ayc 27 (.agg L.toArray) (.agg M.toArray) (aza u v) w:=by
 obtain⟨P,ss,D,A,sp,rfl,h1,h2,h3,h4,h5⟩:=h;obtain⟨P',ss',D',A',sp',rfl,k1,k2,k3,k4,k5⟩:=h'
 have hs:∀W,Below w.1.size w W→ayc 47 (.agg [Value.int .i64 u.tw,ss].toArray) (.agg [Value.int .i64 v.tw,ss'].toArray) ((u.tw==v.tw) && decide (u.X=v.X)) W:=fun W hb=>by
  obtain⟨B,c,rfl,q1,q2⟩:=h2.on hb;obtain⟨B',c',rfl,q3,q4⟩:=k2.on hb;exact a5p u.tw v.tw B B' _ _ c c' u.X v.X W rfl rfl q1 q3 q2 q4
 have hp:∀W,Below w.1.size w W→ayc 48 (.agg [Value.int .i64 u.ly,sp].toArray) (.agg [Value.int .i64 v.ly,sp'].toArray) ((u.ly==v.ly) && decide (u.Y=v.Y)) W:=fun W hb=>by
  obtain⟨B,c,rfl,q1,q2⟩:=h5.on hb;obtain⟨B',c',rfl,q3,q4⟩:=k5.on hb;exact a5q u.ly v.ly B B' _ _ c c' u.Y v.Y W rfl rfl q1 q3 q2 q4
 have e:aza u v=((u.kd==v.kd) && (decide (u.P=v.P) && (((u.tw==v.tw) && decide (u.X=v.X)) && (decide (u.D=v.D) && (decide (u.A=v.A) && ((u.ly==v.ly) && decide (u.Y=v.Y))))))):=by
  unfold aza;generalize (u.kd==v.kd)=b0;generalize decide (u.P=v.P)=b1;generalize (u.tw==v.tw)=b2;generalize decide (u.X=v.X)=b3;generalize decide (u.D=v.D)=b4;generalize decide (u.A=v.A)=b5;generalize (u.ly==v.ly)=b6;generalize decide (u.Y=v.Y)=b7;cases b0<;>cases b1<;>cases b2<;>cases b3<;>cases b4<;>cases b5<;>cases b6<;>rfl
 rw[e]
 exact a5r (Z:=[Value.int .i64 u.tw,ss]) (Zq:=[Value.int .i64 v.tw,ss']) (Y:=[Value.int .i64 u.ly,sp]) (Yq:=[Value.int .i64 v.ly,sp'])
  (av8 h1) (av8 k1) rfl rfl (ava h3) (ava k3) (auv h4) (auv k4) rfl rfl rfl
  (hid fun W=>aob (m:=10) underlying26 kr dc h1 k1 W)
  (hid hs)
  (hid fun W=>aob (m:=10) underlying31 kr dc h3 k3 W)
  (hid fun W=>aob (m:=10) underlying33 kr dc h4 k4 W)
  (hid hp)
theorem a0v {w:World} {L M:List Value} {a b:aha} (h:a8u w L a) (h':a8u w M b):ayc 29 (.agg L.toArray) (.agg M.toArray) (bdu a b) w:=by
 obtain⟨ls,rfl,h1⟩:=h;obtain⟨ls',rfl,k1⟩:=h';exact a5t rfl rfl rfl rfl (hid fun W hb=>a6m a5o (h1.on hb) (k1.on hb))
def abt (v:List Int):List Lit:=v.map (Lit.int .i64)
def InI (v:List Int):Prop:=∀n∈v,-9223372036854775808≤n∧n≤9223372036854775807
theorem bh5 (n:Nat) (s:Bool) (h1:1≤n) (h8:n≤8):-9223372036854775808≤bac n s:=by
 have:n=1∨n=2∨n=3∨n=4∨n=5∨n=6∨n=7∨n=8:=by omega
 cases s<;>rcases this with rfl|rfl|rfl|rfl|rfl|rfl|rfl|rfl<;>decide
theorem bh4 (n:Nat) (s:Bool) (h1:1≤n) (h8:n≤8):bab n s≤9223372036854775807:=by
 have:n=1∨n=2∨n=3∨n=4∨n=5∨n=6∨n=7∨n=8:=by omega
 cases s<;>rcases this with rfl|rfl|rfl|rfl|rfl|rfl|rfl|rfl<;>decide
theorem auc:∀(l:List Fld) (b:List UInt8) {v:List Int},l.all yu=true→aan l b=some v→InI v
 | [],_,v,_,h=>by cases h;intro n hn;cases hn
 | f::l,b,v,hr,h=>by
  rw[List.all_cons,b0d]at hr;unfold aan at h
  split at h
  ·rename_i hx;obtain⟨v',h',rfl⟩:=b2u.1 h;have h1:=hr.1;simp only[yu,b0d,b1b]at h1;have hl:=bh5 f.sz f.sg h1.1 h1.2.1;have hh:=bh4 f.sz f.sg h1.1 h1.2.1;intro n hn;rcases b0z.1 hn with rfl|hn
   ·omega
   ·exact auc l _ hr.2 h' n hn
  ·cases h
theorem ahw {fs:List Fld} {b:List UInt8} (hr:fs.all yu=true) (h:(xk fs b).1=0):InI (xk fs b).2:=auc fs b hr (ald h)
theorem ah9 (n:Nat):InI (List.replicate n 0):=fun x hx=>by rw[(List.mem_replicate.1 hx).2];omega
theorem ac1:prog.cellsOf 2=1:=by kernel_rfl
theorem a43 {v:List Int} (hl:v.length=32) (h:InI v):KV 26 (qr v) (abt v):=
 ak0 underlying26 underlying2 ac1 dc (by decide +kernel) kr v hl (fun n hn=>aka (h n hn))
theorem a42 {v:List Int} (hl:v.length=8) (h:InI v):KV 31 (qr v) (abt v):=
 ak0 underlying31 underlying2 ac1 dc (by decide +kernel) kr v hl (fun n hn=>aka (h n hn))
theorem bk9 {v:List Int} (hl:v.length=7) (h:InI v):KV 162 (qr v) (abt v):=
 ak0 underlying162 underlying2 ac1 dc (by decide +kernel) kr v hl (fun n hn=>aka (h n hn))
theorem bh3 {v:List Int} (hl:v.length=2) (h:InI v):KV 164 (qr v) (abt v):=
 ak0 underlying164 underlying2 ac1 dc (by decide +kernel) kr v hl (fun n hn=>aka (h n hn))
theorem bk8 {n:Int} (h:-9223372036854775808≤n∧n≤9223372036854775807):KV 2 [.int .i64 n] [.int .i64 n]:=⟨1,by
 simp only[Program.keyLits,underlying2];rw[if_pos (by simp[aka h])]⟩
theorem a41 {y:Bool} {c i:Int} (hc:-9223372036854775808≤c∧c≤9223372036854775807) (hi:-9223372036854775808≤i∧i≤9223372036854775807):KV 33 [.bool y,.int .i64 c,.int .i64 i] [.bool y,.int .i64 c,.int .i64 i]:=by
 have hb:∀D,prog.keyLits (D+1) 4 [.bool y]=some [.bool y]:=fun D=>by simp only[Program.keyLits,underlying4]
 have hn:∀D n,(-9223372036854775808≤n∧n≤9223372036854775807)→prog.keyLits (D+1) 2 [.int .i64 n]=some [.int .i64 n]:=fun D n h=>by
  simp only[Program.keyLits,underlying2];rw[if_pos (by simp[aka h])]
 have c1:prog.cellsOf 4=1:=by kernel_rfl
 refine⟨0+1+1,(ahj (p:=[[.bool y],[.int .i64 c],[.int .i64 i]]) underlying33 (by decide +kernel) kr ?_)⟩;simp only[List.mapM_cons,List.mapM_nil,c1,ac1,b17,b28,b10,b4g,hb,hn 0 c hc,hn 0 i hi];rfl
theorem azf {α:Type} (g:α→List Value) (m:Nat):∀(l:List α) (_:∀x∈l,(g x).length=m) (k:Nat) (h:k<l.length) (j:Nat),j<m →(l.flatMap g)[k*m+j]?=(g l[k])[j]?
 | [],_,k,h,_,_=>absurd h (b0v _)
 | x::l,hg,0,_,j,hj=>by
  rw[b15,Nat.zero_mul,b0e,b0a (by rw[hg x (b1s ..)];exact hj)];rfl
 | x::l,hg,k+1,h,j,hj=>by
  have hx:=hg x (b1s ..);rw[b15,t8 (by rw[hx,b4m];omega),hx,show (k+1)*m+j-m=k*m+j from by rw[b4m];omega];exact azf g m l (fun y hy=>hg y (b1w _ hy)) k (by simpa using h) j hj
def aas (t:TypeId) (size:Nat) (Q:Nat→Prop) (w:World) (v:Value) (X:List (List Lit)):Prop:=∃A c,v=.slice A X.length c∧SlK t size Q w A X∧X.length≤maxLen
theorem aas.toV {t:TypeId} {size:Nat} {Q:Nat→Prop} {w:World} {v:Value} {X:List (List Lit)} (h:aas t size Q w v X) (hq:∀b,Q b→b<w.1.size):afu t size w v X:=by
 obtain⟨A,c,rfl,h1,h2⟩:=h;refine⟨A,c,rfl,fun k hk=>?_,h2⟩;obtain⟨b,off,L,q1,q2,q3⟩:=h1 k hk;exact⟨b,off,L,q1,hq b q2,q3⟩
theorem aas.less {t:TypeId} {size:Nat} {Q R:Nat→Prop} {w:World} {v:Value} {X:List (List Lit)} (h:aas t size Q w v X) (hr:∀b,Q b→R b):aas t size R w v X:=by
 obtain⟨A,c,rfl,h1,h2⟩:=h;refine⟨A,c,rfl,fun k hk=>?_,h2⟩;obtain⟨b,off,L,q1,q2,q3⟩:=h1 k hk;exact⟨b,off,L,q1,hr b q2,q3⟩
theorem aas.keep {t:TypeId} {size:Nat} {Q:Nat→Prop} {w w':World} {v:Value} {X:List (List Lit)} (h:aas t size Q w v X) (hk:∀b,Q b→w'.heap[b]?=w.heap[b]?):aas t size Q w' v X:=by
 obtain⟨A,c,rfl,h1,h2⟩:=h;refine⟨A,c,rfl,fun k hk'=>?_,h2⟩;obtain⟨b,off,L,q1,q2,q3,q4⟩:=h1 k hk';exact⟨b,off,L,q1,q2,aec q3 (hk b q2),q4⟩
def adw (Q:Nat→Prop) (w:World) (L:List Value) (u:ael):Prop:=∃P ss D A sp,L=[Value.int .i64 u.kd] ++(P ++([Value.int .i64 u.tw] ++([ss] ++(D ++(A ++([Value.int .i64 u.ly] ++([sp])))))))∧KV 26 P u.P∧aas 162 7 Q w ss u.X∧KV 31 D u.D∧KV 33 A u.A∧aas 164 2 Q w sp u.Y
theorem adw.toV {Q:Nat→Prop} {w:World} {L:List Value} {u:ael} (h:adw Q w L u) (hq:∀b,Q b→b<w.1.size):a8v w L u:=by
 obtain⟨P,ss,D,A,sp,h1,h2,h3,h4,h5,h6⟩:=h;exact⟨P,ss,D,A,sp,h1,h2,h3.toV hq,h4,h5,h6.toV hq⟩
theorem adw.less {Q R:Nat→Prop} {w:World} {L:List Value} {u:ael} (h:adw Q w L u) (hr:∀b,Q b→R b):adw R w L u:=by
 obtain⟨P,ss,D,A,sp,h1,h2,h3,h4,h5,h6⟩:=h;exact⟨P,ss,D,A,sp,h1,h2,h3.less hr,h4,h5,h6.less hr⟩
theorem adw.keep {Q:Nat→Prop} {w w':World} {L:List Value} {u:ael} (h:adw Q w L u) (hk:∀b,Q b→w'.heap[b]?=w.heap[b]?):adw Q w' L u:=by
 obtain⟨P,ss,D,A,sp,h1,h2,h3,h4,h5,h6⟩:=h;exact⟨P,ss,D,A,sp,h1,h2,h3.keep hk,h4,h5,h6.keep hk⟩
theorem adw.len {Q:Nat→Prop} {w:World} {L:List Value} {u:ael} (h:adw Q w L u):L.length=48:=by
 obtain⟨P,ss,D,A,sp,rfl,h1,-,h2,h3,-⟩:=h;simp[av8 h1,ava h2,auv h3]
theorem aq7 {t:TypeId} {m:Nat} {Q:Nat→Prop} (hm:0<m) (hkv:∀v:List Int,v.length=m→InI v→KV t (qr v) (abt v)) {w:World} {A:Option Addr} {c:Nat} (L:List (List Int)) (hL:∀v∈L,v.length=m∧InI v) (hf:qf Q w A (L.flatMap qr)) (hn:L.length≤maxLen) :
 aas t m Q w (.slice A L.length c) (L.map abt):=by
 refine⟨A,c,by rw[b0s],fun k hk=>?_,by rw[b0s];exact hn⟩;have hk':k<L.length:=by simpa using hk
 have hg:=fun j hj=>azf qr m L (fun v hv=>by rw[jm];exact(hL v hv).1) k hk' j hj
 obtain⟨hl,hi⟩:=hL _ (b1c hk');have hl0:0<(qr L[k]).length:=by rw[jm,hl];exact hm
 obtain⟨b,off,hA,hb,h0⟩:=hf _ _ ((hg 0 hm).trans (c8 hl0));refine⟨b,off,qr L[k],hA,hb,fun j v hv=>?_,by rw[b3d];exact hkv _ hl hi⟩
 have hj:j<m:=by
  rcases b01 j (qr L[k]).length with q|q
  ·rwa [jm,hl]at q
  ·rw[t9 q]at hv;cases hv
 obtain⟨b',off',hA',-,h1⟩:=hf _ _ ((hg j hj).trans hv);rw[hA]at hA';injection hA' with hA';injection hA' with q1 q2;subst q1 q2
 rw[b20];exact h1
theorem vg {t:TypeId} {m:Nat} {Q:Nat→Prop} {w:World}:aas t m Q w (.slice none 0 0) []:=⟨none,0,rfl,fun k hk=>absurd hk (b0v _),by unfold maxLen;simp⟩
def ah8:List Value:=qr (List.replicate 8 0)
def ah7:List Value:=[.bool false,.int .i64 0,.int .i64 0]
def ubC (kd:Int) (P:List Value) (tw:Int) (ss:Value) (D A:List Value) (ly:Int) (sp:Value):List Value:=[.int .i64 kd] ++(P ++([.int .i64 tw] ++([ss] ++(D ++(A ++([.int .i64 ly]++[sp]))))))
def ubZ (kd:Int):List Value:=ubC kd kx 0 (.slice none 0 0) ah8 ah7 0 (.slice none 0 0)
def aaq:ael:=⟨0,abt (List.replicate 32 0),0,[],abt (List.replicate 8 0),[.bool false,.int .i64 0,.int .i64 0],0,[]⟩
theorem ak1:KV 26 kx (abt (List.replicate 32 0)):=a43 rfl (ah9 32)
theorem akz:KV 31 ah8 (abt (List.replicate 8 0)):=a42 rfl (ah9 8)
theorem aky:KV 33 ah7 [.bool false,.int .i64 0,.int .i64 0]:=a41 om om
theorem aml (Q:Nat→Prop) (w:World) (kd:Int):adw Q w (ubZ kd) {aaq with kd:=kd}:=⟨_,_,_,_,_,rfl,ak1,vg,akz,aky,vg⟩
def UTk (mb:Nat) (E:Int) (u:ael) (w:World) (e:Ending) (w':World):Prop:=
 e=.returned (.int .i64 E)∧qj (fun k=>k<w.1.size∧k≠mb) w w'∧∃L,Blk w' mb L∧L.length=48 ∧(E=0→adw (fun b=>w.1.size≤b∧b<w'.1.size) w' L u)
theorem a63 (w:World):Calls prog 254 #[.agg #[]] w fun e w'=>e=.returned (.int .i64 1)∧Below w.1.size w w':=by
 go_enter func254,ntmps254;go_wp2_with fail;go_ret;exact⟨rfl,qa _ _⟩
theorem bh9 (x:Value) (W:World):(method 526 224 x "landfall/ubx.kind").run prog W=.ok (254,x) W:=by kernel_rfl
theorem bhi (x:Value) (W:World):(callFunc 254 #[x]).run prog W=.ok (.enter 254 #[x]) W:=by kernel_rfl
theorem bid (x:Value) (W:World):(method 526 224 x "landfall/ubx.take").run prog W=.ok (256,x) W:=by kernel_rfl
theorem bhm (x y z t:Value) (W:World):(callFunc 256 #[x,y,z,t]).run prog W=.ok (.enter 256 #[x,y,z,t]) W:=by kernel_rfl
theorem a2k (w:World):Calls prog 266 #[.agg #[]] w fun e w'=>e=.returned (.int .i64 2)∧Below w.1.size w w':=by
 go_enter func266,ntmps266;go_wp2_with fail;go_ret;exact⟨rfl,qa _ _⟩
theorem bef (x:Value) (W:World):(method 526 225 x "landfall/ubx.kind").run prog W=.ok (266,x) W:=by kernel_rfl
theorem bdm (x:Value) (W:World):(callFunc 266 #[x]).run prog W=.ok (.enter 266 #[x]) W:=by kernel_rfl
theorem beg (x:Value) (W:World):(method 526 225 x "landfall/ubx.take").run prog W=.ok (268,x) W:=by kernel_rfl
theorem bdn (x y z t:Value) (W:World):(callFunc 268 #[x,y,z,t]).run prog W=.ok (.enter 268 #[x,y,z,t]) W:=by kernel_rfl
theorem a62 (w:World):Calls prog 274 #[.agg #[]] w fun e w'=>e=.returned (.int .i64 3)∧Below w.1.size w w':=by
 go_enter func274,ntmps274;go_wp2_with fail;go_ret;exact⟨rfl,qa _ _⟩
theorem bh8 (x:Value) (W:World):(method 526 226 x "landfall/ubx.kind").run prog W=.ok (274,x) W:=by kernel_rfl
theorem bhh (x:Value) (W:World):(callFunc 274 #[x]).run prog W=.ok (.enter 274 #[x]) W:=by kernel_rfl
theorem bic (x:Value) (W:World):(method 526 226 x "landfall/ubx.take").run prog W=.ok (276,x) W:=by kernel_rfl
theorem bhl (x y z t:Value) (W:World):(callFunc 276 #[x,y,z,t]).run prog W=.ok (.enter 276 #[x,y,z,t]) W:=by kernel_rfl
theorem a61 (w:World):Calls prog 280 #[.agg #[]] w fun e w'=>e=.returned (.int .i64 4)∧Below w.1.size w w':=by
 go_enter func280,ntmps280;go_wp2_with fail;go_ret;exact⟨rfl,qa _ _⟩
theorem bh7 (x:Value) (W:World):(method 526 227 x "landfall/ubx.kind").run prog W=.ok (280,x) W:=by kernel_rfl
theorem bhg (x:Value) (W:World):(callFunc 280 #[x]).run prog W=.ok (.enter 280 #[x]) W:=by kernel_rfl
theorem bib (x:Value) (W:World):(method 526 227 x "landfall/ubx.take").run prog W=.ok (282,x) W:=by kernel_rfl
theorem bhk (x y z t:Value) (W:World):(callFunc 282 #[x,y,z,t]).run prog W=.ok (.enter 282 #[x,y,z,t]) W:=by kernel_rfl
theorem a64 (w:World):Calls prog 286 #[.agg #[]] w fun e w'=>e=.returned (.int .i64 5)∧Below w.1.size w w':=by
 go_enter func286,ntmps286;go_wp2_with fail;go_ret;exact⟨rfl,qa _ _⟩
theorem bia (x:Value) (W:World):(method 526 228 x "landfall/ubx.kind").run prog W=.ok (286,x) W:=by kernel_rfl
theorem bhj (x:Value) (W:World):(callFunc 286 #[x]).run prog W=.ok (.enter 286 #[x]) W:=by kernel_rfl
theorem bie (x:Value) (W:World):(method 526 228 x "landfall/ubx.take").run prog W=.ok (288,x) W:=by kernel_rfl
theorem bhn (x y z t:Value) (W:World):(callFunc 288 #[x,y,z,t]).run prog W=.ok (.enter 288 #[x,y,z,t]) W:=by kernel_rfl
theorem a67 {Q0:Nat→Prop} {w:World} (mb:Nat) (X:Option Addr) (d:Nat) (b:List UInt8) (id:Int) (hm:Blk w mb (ubZ 1)) (hB:qf Q0 w X (bsV b)) (hl:b.length≤1000000) :
 Calls prog 256 #[.agg #[],.pointer (some ⟨mb,0,none⟩),.slice X b.length d,.int .i64 id] w (UTk mb (ag1 b).1 {aaq with kd:=1,P:=abt (ag1 b).2} w):=by
 have HT:∀W,Below w.1.size w W→Hid (Calls prog 257 #[.slice X b.length d] W fun e w'=>e=.returned (.tuple #[.agg (qr (ag1 b).2).toArray,.int .i64 (ag1 b).1])∧Below W.1.size W w'):=fun W hW=>hid (a0r X d b (hB.lt.below hW (fun b q=>q.2)) hl)
 have hpl:=a0q b
 have hpi:(ag1 b).1=0→InI (ag1 b).2:=fun h=>by
  unfold ag1 at *
  split at h
  ·rename_i h0;rw[if_pos h0];intro n hn;exact ahw aqj h0 n (List.mem_of_mem_eraseIdx hn)
  ·rename_i h0;exact absurd h h0
 generalize (ag1 b).1=E at *;generalize (ag1 b).2=P at *;have HM:∀W,Below w.1.size w W→Hid (Blk W mb (ubZ 1)):=fun W hW=>hid (hm.on hW)
 have HP:=hid (o4 hpl hpi);have HSZ:=hid (ak7 hpl);have HON:=hid (aid P);have HMB:=hid hm.lt;clear hm hB hpl hpi;go_enter func256,ntmps256;go_wp2_with fail;refine(HT _ (qa _ _)).out.mono ?_;rintro e w1 ⟨rfl,hb⟩;have HB1:=hid (qb (qa _ _) hb);have HM1:=HM w1 (qb (qa _ _) hb);have HTH:Hid (w1.there mb 1 (qr P).toArray.size):=hid (by rw[o6,jm,HP.out.1];exact HM1.out.there 1 32 dc);clear hb HM HT;go_wp2_with (refine qe rfl 26 _ _ rfl mb 1 (qr P).toArray rfl rfl HTH.out HSZ.out HON.out ?_;intro W6 hs;have HS:=hid hs;clear hs);go_ret;have hs:=HS.out
 have hk:Blk W6 mb (ubC 1 (qr P) 0 (.slice none 0 0) ah8 ah7 0 (.slice none 0 0)):=by
  have:=HM1.out.put (A:=[.int .i64 1]) (M:=kx) (D:=[.int .i64 0] ++([.slice none 0 0] ++(ah8 ++(ah7 ++([.int .i64 0]++[.slice none 0 0]))))) (cs:=qr P) hs rfl (by rw[jm,HP.out.1];rfl)
  simpa [ubC]using this
 refine⟨rfl,(qj.of_below HB1.out (fun k q=>q.1)).stored hs (fun q=>q.2 rfl),_,hk,?_,fun hE=>?_⟩
 ·unfold ubC;simp[jm,HP.out.1];rfl
 ·exact⟨_,_,_,_,_,rfl,a43 HP.out.1 (HP.out.2 hE),vg,akz,aky,vg⟩
theorem at2:∀(n:Nat) (b:List UInt8),(jk n b).1=0→∀v∈(jk n b).2,InI v
 | 0,_,_=>fun v hv=>by cases hv
 | n+1,b,h=>by
  unfold jk at *
  split at h
  ·rename_i h1
   split at h
   ·rename_i h2;rw[if_pos h1,if_pos h2];intro v hv;rcases b0z.1 hv with rfl|hv
    ·exact ahw aqv h1
    ·exact at2 n _ h2 v hv
   ·rename_i h2;exact absurd h h2
  ·rename_i h1;exact absurd h h1
theorem bf0 (b:List UInt8) (h:(ab5 b).1=0):(∀v∈(ab5 b).2.2,v.length=7∧InI v) ∧(ab5 b).2.2.length≤100000000:=by
 unfold ab5 at *
 split at h
 ·simp at h
 rename_i h0;rw[if_neg h0]
 split at h
 ·rename_i h1;rw[if_pos h1]
  split at h
  ·simp at h
  rename_i h2;rw[if_neg h2]
  split at h
  ·simp at h
  rename_i h3;rw[if_neg h3]
  split at h
  ·rename_i h4;rw[if_pos h4];refine⟨fun v hv=>⟨(amc _ _ h4).2 v hv,at2 _ _ h4 v hv⟩,?_⟩;rw[(amc _ _ h4).1];obtain⟨x,q1,q2,q3⟩:=alg vf (b.take 8) (ald h1) 2 dc;rw[l9,q1];have e2:(vf[2]'(by decide)).hi=64:=rfl;rw[e2]at q3;show x.toNat≤_;omega
  ·rename_i h4;exact absurd h h4
 ·rename_i h1;exact absurd h h1
theorem a79:∀(k:Nat) (b:List UInt8),(kh k b).1=0 →(kh k b).2.length≤k∧∀p∈(kh k b).2,p.1<4294967296∧p.2<9223372036854775808
 | 0,b,h=>by unfold kh at *;split<;>exact⟨a8 _,fun p hp=>by cases hp⟩
 | k+1,b,h=>by
  unfold kh at *
  by_cases h0:b=[]
  ·rw[if_pos h0];exact⟨b0c _,fun p hp=>by cases hp⟩
  rw[if_neg h0]at h ⊢
  by_cases h1:b.length<4
  ·rw[if_pos h1]at h;simp at h
  rw[if_neg h1]at h ⊢
  by_cases h2:(jj (je (b.take 4))).2=0
  ·rw[if_pos h2]at h;simp at h
  rw[if_neg h2]at h ⊢
  by_cases h3:(b.drop 4).length<(jj (je (b.take 4))).2
  ·rw[if_pos h3]at h;simp at h
  rw[if_neg h3]at h ⊢
  by_cases h4:2^(jj (je (b.take 4))).1-1<je ((b.drop 4).take (jj (je (b.take 4))).2)
  ·rw[if_pos h4]at h;simp at h
  rw[if_neg h4]at h ⊢
  by_cases h5:(kh k ((b.drop 4).drop (jj (je (b.take 4))).2)).1=0
  ·rw[if_pos h5];obtain⟨q1,q2⟩:=a79 k _ h5;refine⟨by rw[n7];omega,fun p hp=>?_⟩;rcases b0z.1 hp with rfl|hp
   ·have hk:=aig (b.take 4);rw[l7,b1d om]at hk;have hM:2^(jj (je (b.take 4))).1≤2^63:=b0w dc (ap6 _).1;exact⟨hk,by dsimp only;omega⟩
   ·exact q2 p hp
  ·rw[if_neg h5]at h;exact absurd h h5
theorem bji (b:List UInt8) (h:(afp b).1=0):(afp b).2.2.length≤32∧∀p∈(afp b).2.2,p.1<4294967296∧p.2<9223372036854775808:=by
 unfold afp at *
 split at h
 ·simp at h
 rename_i h0;rw[if_neg h0]
 split at h
 ·rename_i h1;rw[if_pos h1]
  split at h
  ·rename_i h4;rw[if_pos h4];exact a79 _ _ h4
  ·rename_i h4;exact absurd h h4
 ·rename_i h1;exact absurd h h1
def aqd (p:Nat×Nat):List Int:=[(p.1:Int),(p.2:Int)]
theorem bam (L:List (Nat×Nat)):ae4 L=(L.map aqd).flatMap qr:=by
 induction L with
 | nil=>rfl
 | cons p L ih=>simp only[ae4,b15,b2l]at *;rw[ih];rfl
theorem a2l {Q0:Nat→Prop} {w:World} (mb:Nat) (X:Option Addr) (d:Nat) (b:List UInt8) (id:Int) (hm:Blk w mb (ubZ 2)) (hB:qf Q0 w X (bsV b)) (hl:b.length≤1000000) (hd:b.length≤d) :
 Calls prog 268 #[.agg #[],.pointer (some ⟨mb,0,none⟩),.slice X b.length d,.int .i64 id] w (UTk mb (ab5 b).1 {aaq with kd:=2,tw:=(ab5 b).2.1,X:=(ab5 b).2.2.map abt} w):=by
 have HT:∀W,Below w.1.size w W→Hid (Calls prog 269 #[.slice X b.length d] W (an6 (ab5 b) W)):=fun W hW=>hid (awq X d b (hB.lt.below hW (fun b q=>q.2)) hl hd)
 have HOK:=hid (bf0 b);obtain⟨⟨E,t0,L⟩,hr⟩:∃r,ab5 b=r:=⟨_,rfl⟩;rw[hr]at HT HOK ⊢;unfold an6 at HT;dsimp only at *;clear hr;have HM:∀W,Below w.1.size w W→Hid (Blk W mb (ubZ 2)):=fun W hW=>hid (hm.on hW)
 have HMB:=hid hm.lt;clear hm hB;go_enter func268,ntmps268;go_wp2_with fail;refine(HT _ (qa _ _)).out.mono ?_;rintro e w1 ⟨A,c,rfl,hf,hb⟩;have HB1:=hid (qb (qa _ _) hb);have HM1:=HM w1 (qb (qa _ _) hb);have g0:=HM1.out.cell 33 (v:=.int .i64 0) rfl;have z0:=HM1.out.fz 33;have g1:=HM1.out.cell 34 (v:=.slice none 0 0) rfl;have z1:=HM1.out.fz 34;have HFQ:Hid (qf (fun b=>w.1.size≤b∧b<w1.1.size) w1 A (afi L)):=hid (hf.less fun b q=>⟨o8 (qa w _).size q.1,q.2⟩);clear hf;clear hb HM HT;go_wp2_with fail;go_ret;have hs:qp w1 ((w1.setCell ⟨mb,33,none⟩ (.int .i64 t0)).setCell ⟨mb,34,none⟩ (.slice A L.length c)) mb 33 [.int .i64 t0,.slice A L.length c]:=qo (cs:=[.int .i64 t0,.slice A L.length c]) (HM1.out.there 33 2 dc)
 have hk:Blk ((w1.setCell ⟨mb,33,none⟩ (.int .i64 t0)).setCell ⟨mb,34,none⟩ (.slice A L.length c)) mb (ubC 2 kx t0 (.slice A L.length c) ah8 ah7 0 (.slice none 0 0)):=by
  have:=HM1.out.put (A:=[.int .i64 2]++kx) (M:=[.int .i64 0,.slice none 0 0]) (D:=ah8 ++(ah7 ++([.int .i64 0]++[.slice none 0 0]))) (cs:=[.int .i64 t0,.slice A L.length c]) hs rfl rfl;exact this
 refine⟨rfl,(qj.of_below HB1.out (fun k q=>q.1)).stored hs (fun q=>q.2 rfl),_,hk,rfl,fun hE=>?_⟩;obtain⟨q1,q2⟩:=HOK.out hE
 have hsl:aas 162 7 (fun b=>w.1.size≤b∧b<((w1.setCell ⟨mb,33,none⟩ (.int .i64 t0)).setCell ⟨mb,34,none⟩ (.slice A L.length c)).1.size) ((w1.setCell ⟨mb,33,none⟩ (.int .i64 t0)).setCell ⟨mb,34,none⟩ (.slice A L.length c)) (.slice A L.length c) (L.map abt):=
  aq7 dc (fun v h1 h2=>bk9 h1 h2) L q1 ((HFQ.out.keep fun k hk=>hs.far k (by have:=HMB.out;have:=hk.1;omega)).less fun k hk=>⟨hk.1,by have:=hk.2;simpa using this⟩) (by unfold maxLen;omega)
 exact⟨_,_,_,_,_,rfl,ak1,hsl,akz,aky,vg⟩
theorem a66 {Q0:Nat→Prop} {w:World} (mb:Nat) (X:Option Addr) (d:Nat) (b:List UInt8) (id:Int) (hm:Blk w mb (ubZ 3)) (hB:qf Q0 w X (bsV b)) (hl:b.length≤1000000) (hd:b.length≤d) :
 Calls prog 276 #[.agg #[],.pointer (some ⟨mb,0,none⟩),.slice X b.length d,.int .i64 id] w (UTk mb (ahd b).1 {aaq with kd:=3,D:=abt (ahd b).2} w):=by
 have HT:∀W,Below w.1.size w W→Hid (Calls prog 277 #[.slice X b.length d] W fun e w'=>e=.returned (.tuple #[.agg (qr (ahd b).2).toArray,.int .i64 (ahd b).1])∧Below W.1.size W w'):=fun W hW=>hid (ay9 X d b (hB.lt.below hW (fun b q=>q.2)) hl)
 have hln:(ahd b).2.length=8:=by
  unfold ahd
  split
  ·rename_i h;exact abv h
  ·rfl
 have HOK:Hid ((ahd b).1=0→InI (ahd b).2):=hid (fun h=>by
  unfold ahd at *
  split at h
  ·rename_i h0;rw[if_pos h0];exact ahw apu h0
  ·rename_i h0;exact absurd h h0)
 obtain⟨⟨E,v⟩,hr⟩:∃r,ahd b=r:=⟨_,rfl⟩;rw[hr]at HT HOK hln ⊢;dsimp only at *
 obtain⟨x0,x1,x2,x3,x4,x5,x6,x7,rfl⟩:∃x0 x1 x2 x3 x4 x5 x6 x7,v=[x0,x1,x2,x3,x4,x5,x6,x7]:=by
  rcases v with _|⟨x0,_|⟨x1,_|⟨x2,_|⟨x3,_|⟨x4,_|⟨x5,_|⟨x6,_|⟨x7,_|⟨z,_⟩⟩⟩⟩⟩⟩⟩⟩⟩<;>first|exact⟨_,_,_,_,_,_,_,_,rfl⟩|(simp at hln)
 replace HT:∀W,Below w.1.size w W→Hid (Calls prog 277 #[.slice X b.length d] W fun e w'=>e=.returned (.tuple #[.agg #[.int .i64 x0,.int .i64 x1,.int .i64 x2,.int .i64 x3,.int .i64 x4,.int .i64 x5,.int .i64 x6,.int .i64 x7],.int .i64 E])∧Below W.1.size W w'):=HT;clear hr hln;have HM:∀W,Below w.1.size w W→Hid (Blk W mb (ubZ 3)):=fun W hW=>hid (hm.on hW)
 have HMB:=hid hm.lt;clear hm hB;go_enter func276,ntmps276;go_wp2_with fail;refine(HT _ (qa _ _)).out.mono ?_;rintro e w1 ⟨rfl,hb⟩;have HB1:=hid (qb (qa _ _) hb);have HM1:=HM w1 (qb (qa _ _) hb);have g0:=HM1.out.cell 35 (v:=.int .i64 0) rfl;have z0:=HM1.out.fz 35;have g1:=HM1.out.cell 36 (v:=.int .i64 0) rfl;have z1:=HM1.out.fz 36;have g2:=HM1.out.cell 37 (v:=.int .i64 0) rfl;have z2:=HM1.out.fz 37;have g3:=HM1.out.cell 38 (v:=.int .i64 0) rfl;have z3:=HM1.out.fz 38;have g4:=HM1.out.cell 39 (v:=.int .i64 0) rfl;have z4:=HM1.out.fz 39;have g5:=HM1.out.cell 40 (v:=.int .i64 0) rfl;have z5:=HM1.out.fz 40;have g6:=HM1.out.cell 41 (v:=.int .i64 0) rfl;have z6:=HM1.out.fz 41;have g7:=HM1.out.cell 42 (v:=.int .i64 0) rfl;have z7:=HM1.out.fz 42;clear hb HM HT;go_wp2_with fail;go_ret;have hs:qp w1 ((((((((w1.setCell ⟨mb,35,none⟩ (.int .i64 x0)).setCell ⟨mb,36,none⟩ (.int .i64 x1)).setCell ⟨mb,37,none⟩ (.int .i64 x2)).setCell ⟨mb,38,none⟩ (.int .i64 x3)).setCell ⟨mb,39,none⟩ (.int .i64 x4)).setCell ⟨mb,40,none⟩ (.int .i64 x5)).setCell ⟨mb,41,none⟩ (.int .i64 x6)).setCell ⟨mb,42,none⟩ (.int .i64 x7)) mb 35 [.int .i64 x0,.int .i64 x1,.int .i64 x2,.int .i64 x3,.int .i64 x4,.int .i64 x5,.int .i64 x6,.int .i64 x7]:=qo (cs:=[.int .i64 x0,.int .i64 x1,.int .i64 x2,.int .i64 x3,.int .i64 x4,.int .i64 x5,.int .i64 x6,.int .i64 x7]) (HM1.out.there 35 8 dc)
 have hk:Blk ((((((((w1.setCell ⟨mb,35,none⟩ (.int .i64 x0)).setCell ⟨mb,36,none⟩ (.int .i64 x1)).setCell ⟨mb,37,none⟩ (.int .i64 x2)).setCell ⟨mb,38,none⟩ (.int .i64 x3)).setCell ⟨mb,39,none⟩ (.int .i64 x4)).setCell ⟨mb,40,none⟩ (.int .i64 x5)).setCell ⟨mb,41,none⟩ (.int .i64 x6)).setCell ⟨mb,42,none⟩ (.int .i64 x7)) mb (ubC 3 kx 0 (.slice none 0 0) [.int .i64 x0,.int .i64 x1,.int .i64 x2,.int .i64 x3,.int .i64 x4,.int .i64 x5,.int .i64 x6,.int .i64 x7] ah7 0 (.slice none 0 0)):=by
  have:=HM1.out.put (A:=[.int .i64 3] ++(kx ++([.int .i64 0]++[.slice none 0 0]))) (M:=ah8) (D:=ah7 ++([.int .i64 0]++[.slice none 0 0])) (cs:=[.int .i64 x0,.int .i64 x1,.int .i64 x2,.int .i64 x3,.int .i64 x4,.int .i64 x5,.int .i64 x6,.int .i64 x7]) hs rfl rfl;exact this
 refine⟨rfl,(qj.of_below HB1.out (fun k q=>q.1)).stored hs (fun q=>q.2 rfl),_,hk,rfl,fun hE=>?_⟩;exact⟨_,_,_,_,_,rfl,ak1,vg,a42 rfl (HOK.out hE),aky,vg⟩
theorem a65 {Q0:Nat→Prop} {w:World} (mb:Nat) (X:Option Addr) (d:Nat) (b:List UInt8) (id:Int) (hm:Blk w mb (ubZ 4)) (hB:qf Q0 w X (bsV b)) (hl:b.length≤1000000) (hd:b.length≤d) :
 Calls prog 282 #[.agg #[],.pointer (some ⟨mb,0,none⟩),.slice X b.length d,.int .i64 id] w (UTk mb (afw b).1 {aaq with kd:=4,A:=.bool (id==1)::abt (afw b).2} w):=by
 have HT:∀W,Below w.1.size w W→Hid (Calls prog 283 #[.slice X b.length d,.bool (id==1)] W fun e w'=>e=.returned (.tuple #[.agg (.bool ((id==1) && decide ((afw b).1=0))::qr (afw b).2).toArray,.int .i64 (afw b).1])∧Below W.1.size W w'):=fun W hW=>hid (ayh X d b (id==1) (hB.lt.below hW (fun b q=>q.2)) hl)
 have hln:(afw b).2.length=2:=by
  unfold afw
  split
  ·rename_i h;exact abv h
  ·rfl
 have HOK:Hid ((afw b).1=0→InI (afw b).2):=hid (fun h=>by
  unfold afw at *
  split at h
  ·rename_i h0;rw[if_pos h0];exact ahw ao1 h0
  ·rename_i h0;exact absurd h h0)
 obtain⟨⟨E,v⟩,hr⟩:∃r,afw b=r:=⟨_,rfl⟩;rw[hr]at HT HOK hln ⊢;dsimp only at *
 obtain⟨x0,x1,rfl⟩:∃x0 x1,v=[x0,x1]:=by
  rcases v with _|⟨x0,_|⟨x1,_|⟨z,_⟩⟩⟩<;>first|exact⟨_,_,rfl⟩|(simp at hln)
 obtain⟨yy,hyy⟩:∃yy,((id==1) && decide (E=0))=yy:=⟨_,rfl⟩;rw[hyy]at HT;have HYY:=hid hyy;replace HT:∀W,Below w.1.size w W→Hid (Calls prog 283 #[.slice X b.length d,.bool (id==1)] W fun e w'=>e=.returned (.tuple #[.agg #[.bool yy,.int .i64 x0,.int .i64 x1],.int .i64 E])∧Below W.1.size W w'):=HT;clear hr hln hyy;have HM:∀W,Below w.1.size w W→Hid (Blk W mb (ubZ 4)):=fun W hW=>hid (hm.on hW)
 have HMB:=hid hm.lt;clear hm hB;go_enter func282,ntmps282;go_wp2_with fail;refine(HT _ (qa _ _)).out.mono ?_;rintro e w1 ⟨rfl,hb⟩;have HB1:=hid (qb (qa _ _) hb);have HM1:=HM w1 (qb (qa _ _) hb);have g0:=HM1.out.cell 43 (v:=.bool false) rfl;have z0:=HM1.out.fz 43;have g1:=HM1.out.cell 44 (v:=.int .i64 0) rfl;have z1:=HM1.out.fz 44;have g2:=HM1.out.cell 45 (v:=.int .i64 0) rfl;have z2:=HM1.out.fz 45;clear hb HM HT;go_wp2_with fail;go_ret;have hs:qp w1 (((w1.setCell ⟨mb,43,none⟩ (.bool yy)).setCell ⟨mb,44,none⟩ (.int .i64 x0)).setCell ⟨mb,45,none⟩ (.int .i64 x1)) mb 43 [.bool yy,.int .i64 x0,.int .i64 x1]:=qo (cs:=[.bool yy,.int .i64 x0,.int .i64 x1]) (HM1.out.there 43 3 dc)
 have hk:Blk (((w1.setCell ⟨mb,43,none⟩ (.bool yy)).setCell ⟨mb,44,none⟩ (.int .i64 x0)).setCell ⟨mb,45,none⟩ (.int .i64 x1)) mb (ubC 4 kx 0 (.slice none 0 0) ah8 [.bool yy,.int .i64 x0,.int .i64 x1] 0 (.slice none 0 0)):=by
  have:=HM1.out.put (A:=[.int .i64 4] ++(kx ++([.int .i64 0] ++([.slice none 0 0]++ah8)))) (M:=ah7) (D:=[.int .i64 0]++[.slice none 0 0]) (cs:=[.bool yy,.int .i64 x0,.int .i64 x1]) hs rfl rfl;exact this
 refine⟨rfl,(qj.of_below HB1.out (fun k q=>q.1)).stored hs (fun q=>q.2 rfl),_,hk,rfl,fun hE=>?_⟩;have hy:yy=(id==1):=by rw[← HYY.out,hE];simp
 have hi:=HOK.out hE;refine⟨_,_,_,_,_,rfl,ak1,vg,akz,?_,vg⟩;rw[hy];exact a41 (hi x0 sm) (hi x1 sm)
theorem a68 {Q0:Nat→Prop} {w:World} (mb:Nat) (X:Option Addr) (d:Nat) (b:List UInt8) (id:Int) (hm:Blk w mb (ubZ 5)) (hB:qf Q0 w X (bsV b)) (hl:b.length≤1000000) (hd:b.length≤d) :
 Calls prog 288 #[.agg #[],.pointer (some ⟨mb,0,none⟩),.slice X b.length d,.int .i64 id] w (UTk mb (afp b).1 {aaq with kd:=5,ly:=(afp b).2.1,Y:=(afp b).2.2.map fun p=>abt (aqd p)} w):=by
 have HT:∀W,Below w.1.size w W→Hid (Calls prog 289 #[.slice X b.length d] W (aut (afp b) W)):=fun W hW=>hid (a2q X d b (hB.lt.below hW (fun b q=>q.2)) hl hd)
 have HOK:=hid (bji b);obtain⟨⟨E,t0,L⟩,hr⟩:∃r,afp b=r:=⟨_,rfl⟩;rw[hr]at HT HOK ⊢;unfold aut at HT;dsimp only at *;clear hr;have HM:∀W,Below w.1.size w W→Hid (Blk W mb (ubZ 5)):=fun W hW=>hid (hm.on hW)
 have HMB:=hid hm.lt;clear hm hB;go_enter func288,ntmps288;go_wp2_with fail;refine(HT _ (qa _ _)).out.mono ?_;rintro e w1 ⟨A,c,rfl,hf,hb⟩;have HB1:=hid (qb (qa _ _) hb);have HM1:=HM w1 (qb (qa _ _) hb);have g0:=HM1.out.cell 46 (v:=.int .i64 0) rfl;have z0:=HM1.out.fz 46;have g1:=HM1.out.cell 47 (v:=.slice none 0 0) rfl;have z1:=HM1.out.fz 47;have HFQ:Hid (qf (fun b=>w.1.size≤b∧b<w1.1.size) w1 A (ae4 L)):=hid (hf.less fun b q=>⟨o8 (qa w _).size q.1,q.2⟩);clear hf;clear hb HM HT;go_wp2_with fail;go_ret;have hs:qp w1 ((w1.setCell ⟨mb,46,none⟩ (.int .i64 t0)).setCell ⟨mb,47,none⟩ (.slice A L.length c)) mb 46 [.int .i64 t0,.slice A L.length c]:=qo (cs:=[.int .i64 t0,.slice A L.length c]) (HM1.out.there 46 2 dc)
 have hk:Blk ((w1.setCell ⟨mb,46,none⟩ (.int .i64 t0)).setCell ⟨mb,47,none⟩ (.slice A L.length c)) mb (ubC 5 kx 0 (.slice none 0 0) ah8 ah7 t0 (.slice A L.length c)):=by
  have:=HM1.out.put (A:=[.int .i64 5] ++(kx ++([.int .i64 0] ++([.slice none 0 0] ++(ah8++ah7))))) (M:=[.int .i64 0,.slice none 0 0]) (D:=[]) (cs:=[.int .i64 t0,.slice A L.length c]) hs rfl rfl;exact this
 refine⟨rfl,(qj.of_below HB1.out (fun k q=>q.1)).stored hs (fun q=>q.2 rfl),_,hk,rfl,fun hE=>?_⟩;obtain⟨q1,q2⟩:=HOK.out hE
 have hsl:aas 164 2 (fun b=>w.1.size≤b∧b<((w1.setCell ⟨mb,46,none⟩ (.int .i64 t0)).setCell ⟨mb,47,none⟩ (.slice A L.length c)).1.size) ((w1.setCell ⟨mb,46,none⟩ (.int .i64 t0)).setCell ⟨mb,47,none⟩ (.slice A L.length c)) (.slice A L.length c) (L.map fun p=>abt (aqd p)):=by
  have h1:=aq7 (t:=164) (m:=2) (Q:=fun b=>w.1.size≤b∧b<((w1.setCell ⟨mb,46,none⟩ (.int .i64 t0)).setCell ⟨mb,47,none⟩ (.slice A L.length c)).1.size) (w:=(w1.setCell ⟨mb,46,none⟩ (.int .i64 t0)).setCell ⟨mb,47,none⟩ (.slice A L.length c)) (A:=A) (c:=c) dc (fun v h1 h2=>bh3 h1 h2) (L.map aqd) (fun v hv=>by
   obtain⟨p,hp,rfl⟩:=b2c.1 hv;have:=q2 p hp;refine⟨rfl,fun n hn=>?_⟩;simp only[aqd,b0z,b2d,b4o]at hn;rcases hn with rfl|rfl<;>omega) (by rw[← bam];exact(HFQ.out.keep fun k hk=>hs.far k (by have:=HMB.out;have:=hk.1;omega)).less fun k hk=>⟨hk.1,by have:=hk.2;simpa using this⟩) (by rw[b0s];unfold maxLen;omega)
  rw[b0s,b5a]at h1;exact h1
 exact⟨_,_,_,_,_,rfl,ak1,vg,akz,aky,hsl⟩
