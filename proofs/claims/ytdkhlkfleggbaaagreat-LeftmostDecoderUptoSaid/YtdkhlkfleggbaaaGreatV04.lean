/- Parts. -/
import Derived.Test.YtdkhlkfleggbaaaGreatV03
namespace Go.Proofs.YtdkhlkfleggbaaaGreat
set_option maxHeartbeats 1000000
set_option maxRecDepth 8000
open Tryz
set_option linter.unusedVariables false
open Go.RowKit
structure aes where
 kd:Int
 P:List Lit
 tw:Int
 X:List (List Lit)
 D:List Lit
 A:List Lit
 ly:Int
 Y:List (List Lit)
structure ahh where
 sq:Int
 sy:Int
 cm:Int
 id:Int
 V:List (List Lit)
def af5 (t:TypeId) (size:Nat) (w:World) (v:Value) (X:List (List Lit)):Prop:=∃A c,v=.slice A X.length c/\SlK t size (λb=>b<w.1.size) w A X/\X.length<=maxLen
theorem af5.on {t:TypeId} {size:Nat} {w w':World} {v:Value} {X:List (List Lit)} (h:af5 t size w v X) (hb:Below w.1.size w w'):af5 t size w' v X:=by
 obtain⟨A,c,rfl,h,hl⟩:=h;refine⟨A,c,rfl,λk hk=>?_,hl⟩;obtain⟨b,off,L,h1,h2,h3,h4⟩:=h.below hb (λ_ q=>q) k hk;exact⟨b,off,L,h1,i9 h2 hb.size,h3,h4⟩
def a93 (w:World) (L:List Value) (u:aes):Prop:=∃P ss D A sp,L=[Value.int .i64 u.kd] ++(P ++([Value.int .i64 u.tw] ++([ss] ++(D ++(A ++([Value.int .i64 u.ly] ++([sp])))))))/\KV 26 P u.P/\af5 162 7 w ss u.X/\KV 31 D u.D/\KV 33 A u.A/\af5 164 2 w sp u.Y
def a92 (w:World) (L:List Value) (p:ahh):Prop:=∃vs,L=[Value.int .i64 p.sq] ++([Value.int .i64 p.sy] ++([Value.int .i64 p.cm] ++([Value.int .i64 p.id] ++([vs]))))/\af5 2 1 w vs p.V
theorem awx {P:List Value} {l:List Lit} (h:KV 26 P l):P.length=32:=(h.struct_len underlying26).trans kr
theorem avx {P:List Value} {l:List Lit} (h:KV 31 P l):P.length=8:=(h.struct_len underlying31).trans kr
theorem avi {P:List Value} {l:List Lit} (h:KV 33 P l):P.length=3:=(h.struct_len underlying33).trans kr
theorem a92.on {w w':World} {L:List Value} {a:ahh} (h:a92 w L a) (hb:Below w.1.size w w'):a92 w' L a:=by
 obtain⟨ls,e,h1⟩:=h;exact⟨ls,e,h1.on hb⟩
theorem a93.on {w w':World} {L:List Value} {a:aes} (h:a93 w L a) (hb:Below w.1.size w w'):a93 w' L a:=by
 obtain⟨P,ss,D,A,sp,e,h1,h2,h3,h4,h5⟩:=h;exact⟨P,ss,D,A,sp,e,h1,h2.on hb,h3,h4,h5.on hb⟩
def az1 (u v:aes):Bool:=(u.kd==v.kd) && (decide (u.P=v.P) && (decide (u.D=v.D) && (decide (u.A=v.A) && ((u.tw==v.tw) && (decide (u.X=v.X) && ((u.ly==v.ly) && decide (u.Y=v.Y)))))))
def be6 (a b:ahh):Bool:=(a.sq==b.sq) && ((a.sy==b.sy) && ((a.cm==b.cm) && ((a.id==b.id) && decide (a.V=b.V))))
def ay1 (f:Nat) (v v':Value) (b:Bool) (w:World):Prop:=Calls prog f #[v,v'] w λe w'=>e=.returned (.bool b)/\Below w.1.size w w'
theorem a7r {f:Nat} {t:TypeId} {size:Nat} (hf:∀(A B:Option Addr) (n m c d:Nat) (X Y:List (List Lit)) (w:World),Q_ (X.length=n)->Q_ (Y.length=m)->Q_ (SlK t size (λb=>b<w.1.size) w A X)->Q_ (SlK t size (λb=>b<w.1.size) w B Y)->n<=maxLen->m<=maxLen ->
      Calls prog f #[.slice A n c,.slice B m d] w λe w'=>e=.returned (.bool (decide (X=Y)))/\Below w.1.size w w')
 {w:World} {v v':Value} {X Y:List (List Lit)} (h:af5 t size w v X) (h':af5 t size w v' Y):ay1 f v v' (decide (X=Y)) w:=by
 obtain⟨A,c,rfl,h1,h2⟩:=h;obtain⟨B,d,rfl,h3,h4⟩:=h';exact hf A B _ _ c d X Y w rfl rfl h1 h3 h2 h4
theorem a1n {w:World} {L M:List Value} {u v:aes} (h:a93 w L u) (h':a93 w M v):ay1 27 (.agg L.toArray) (.agg M.toArray) (az1 u v) w:=by
 obtain⟨P,ss,D,A,sp,rfl,h1,h2,h3,h4,h5⟩:=h;obtain⟨P',ss',D',A',sp',rfl,k1,k2,k3,k4,k5⟩:=h'
 have hs:∀W,Below w.1.size w W->ay1 47 (.agg [Value.int .i64 u.tw,ss].toArray) (.agg [Value.int .i64 v.tw,ss'].toArray) ((u.tw==v.tw) && decide (u.X=v.X)) W:=λW hb=>by
  obtain⟨B,c,rfl,q1,q2⟩:=h2.on hb;obtain⟨B',c',rfl,q3,q4⟩:=k2.on hb;exact a6s u.tw v.tw B B' _ _ c c' u.X v.X W rfl rfl q1 q3 q2 q4
 have hp:∀W,Below w.1.size w W->ay1 48 (.agg [Value.int .i64 u.ly,sp].toArray) (.agg [Value.int .i64 v.ly,sp'].toArray) ((u.ly==v.ly) && decide (u.Y=v.Y)) W:=λW hb=>by
  obtain⟨B,c,rfl,q1,q2⟩:=h5.on hb;obtain⟨B',c',rfl,q3,q4⟩:=k5.on hb;exact a6t u.ly v.ly B B' _ _ c c' u.Y v.Y W rfl rfl q1 q3 q2 q4
 have e:az1 u v=((u.kd==v.kd) && (decide (u.P=v.P) && (((u.tw==v.tw) && decide (u.X=v.X)) && (decide (u.D=v.D) && (decide (u.A=v.A) && ((u.ly==v.ly) && decide (u.Y=v.Y))))))):=by
  unfold az1;generalize (u.kd==v.kd)=b0;generalize decide (u.P=v.P)=b1;generalize (u.tw==v.tw)=b2;generalize decide (u.X=v.X)=b3;generalize decide (u.D=v.D)=b4;generalize decide (u.A=v.A)=b5;generalize (u.ly==v.ly)=b6;generalize decide (u.Y=v.Y)=b7;cases b0<;>cases b1<;>cases b2<;>cases b3<;>cases b4<;>cases b5<;>cases b6<;>rfl
 rw[e]
 exact a6u (Z:=[Value.int .i64 u.tw,ss]) (Zq:=[Value.int .i64 v.tw,ss']) (Y:=[Value.int .i64 u.ly,sp]) (Yq:=[Value.int .i64 v.ly,sp'])
  (awx h1) (awx k1) rfl rfl (avx h3) (avx k3) (avi h4) (avi k4) rfl rfl rfl
  (q_ λW=>aot (m:=10) underlying26 kr dc h1 k1 W)
  (q_ hs)
  (q_ λW=>aot (m:=10) underlying31 kr dc h3 k3 W)
  (q_ λW=>aot (m:=10) underlying33 kr dc h4 k4 W)
  (q_ hp)
theorem a1p {w:World} {L M:List Value} {a b:ahh} (h:a92 w L a) (h':a92 w M b):ay1 29 (.agg L.toArray) (.agg M.toArray) (be6 a b) w:=by
 obtain⟨ls,rfl,h1⟩:=h;obtain⟨ls',rfl,k1⟩:=h';exact a6w rfl rfl rfl rfl (q_ λW hb=>a7r a6r (h1.on hb) (k1.on hb))
def abw (v:List Int):List Lit:=v.map (Lit.int .i64)
def InI (v:List Int):Prop:=∀n∈v,-9223372036854775808<=n/\n<=9223372036854775807
theorem bjg (n:Nat) (s:Bool) (h1:1<=n) (h8:n<=8):-9223372036854775808<=bbn n s:=by
 have:n=1\/n=2\/n=3\/n=4\/n=5\/n=6\/n=7\/n=8:=by omega
 cases s<;>rcases this with rfl|rfl|rfl|rfl|rfl|rfl|rfl|rfl<;>decide
theorem bjf (n:Nat) (s:Bool) (h1:1<=n) (h8:n<=8):bbm n s<=9223372036854775807:=by
 have:n=1\/n=2\/n=3\/n=4\/n=5\/n=6\/n=7\/n=8:=by omega
 cases s<;>rcases this with rfl|rfl|rfl|rfl|rfl|rfl|rfl|rfl<;>decide
theorem aux:∀(l:List Fld) (b:List UInt8) {v:List Int},l.all aaa=true->aar l b=some v->InI v
 | [],_,v,_,h=>by cases h;intro n hn;cases hn
 | f::l,b,v,hr,h=>by
  rw[List.all_cons,b0g]at hr;unfold aar at h
  split at h
  ·rename_i hx;obtain⟨v',h',rfl⟩:=b27.1 h;have h1:=hr.1;simp only[aaa,b0g,b1l]at h1;have hl:=bjg f.sz f.sg h1.1 h1.2.1;have hh:=bjf f.sz f.sg h1.1 h1.2.1;intro n hn;rcases b03.1 hn with rfl|hn
   ·omega
   ·exact aux l _ hr.2 h' n hn
  ·cases h
theorem ah2 {fs:List Fld} {b:List UInt8} (hr:fs.all aaa=true) (h:(xl fs b).1=0):InI (xl fs b).2:=aux fs b hr (alj h)
theorem aif (n:Nat):InI (List.replicate n 0):=λx hx=>by rw[(List.mem_replicate.1 hx).2];omega
theorem ac4:prog.cellsOf 2=1:=by kernel_rfl
theorem a52 {v:List Int} (hl:v.length=32) (h:InI v):KV 26 (qt v) (abw v):=
 ak5 underlying26 underlying2 ac4 dc (by decide +kernel) kr v hl (λn hn=>akh (h n hn))
theorem a51 {v:List Int} (hl:v.length=8) (h:InI v):KV 31 (qt v) (abw v):=
 ak5 underlying31 underlying2 ac4 dc (by decide +kernel) kr v hl (λn hn=>akh (h n hn))
theorem bml {v:List Int} (hl:v.length=7) (h:InI v):KV 162 (qt v) (abw v):=
 ak5 underlying162 underlying2 ac4 dc (by decide +kernel) kr v hl (λn hn=>akh (h n hn))
theorem bje {v:List Int} (hl:v.length=2) (h:InI v):KV 164 (qt v) (abw v):=
 ak5 underlying164 underlying2 ac4 dc (by decide +kernel) kr v hl (λn hn=>akh (h n hn))
theorem bmk {n:Int} (h:-9223372036854775808<=n/\n<=9223372036854775807):KV 2 [.int .i64 n] [.int .i64 n]:=⟨1,by
 simp only[Program.keyLits,underlying2];rw[if_pos (by simp[akh h])]⟩
theorem a50 {y:Bool} {c i:Int} (hc:-9223372036854775808<=c/\c<=9223372036854775807) (hi:-9223372036854775808<=i/\i<=9223372036854775807):KV 33 [.bool y,.int .i64 c,.int .i64 i] [.bool y,.int .i64 c,.int .i64 i]:=by
 have hb:∀D,prog.keyLits (D+1) 4 [.bool y]=some [.bool y]:=λD=>by simp only[Program.keyLits,underlying4]
 have hn:∀D n,(-9223372036854775808<=n/\n<=9223372036854775807)->prog.keyLits (D+1) 2 [.int .i64 n]=some [.int .i64 n]:=λD n h=>by
  simp only[Program.keyLits,underlying2];rw[if_pos (by simp[akh h])]
 have c1:prog.cellsOf 4=1:=by kernel_rfl
 refine⟨0+1+1,(ahr (p:=[[.bool y],[.int .i64 c],[.int .i64 i]]) underlying33 (by decide +kernel) kr ?_)⟩;simp only[List.mapM_cons,List.mapM_nil,c1,ac4,b2k,b3h,b2b,b4m,hb,hn 0 c hc,hn 0 i hi];rfl
theorem az5 {α:Type} (g:α->List Value) (m:Nat):∀(l:List α) (_:∀x∈l,(g x).length=m) (k:Nat) (h:k<l.length) (j:Nat),j<m ->(l.flatMap g)[k*m+j]?=(g l[k])[j]?
 | [],_,k,h,_,_=>absurd h (b04 _)
 | x::l,hg,0,_,j,hj=>by
  rw[b2i,Nat.zero_mul,b0j,b0e (by rw[hg x (b1x ..)];exact hj)];rfl
 | x::l,hg,k+1,h,j,hj=>by
  have hx:=hg x (b1x ..);rw[b2i,b0a (by rw[hx,b4s];omega),hx,show (k+1)*m+j-m=k*m+j from by rw[b4s];omega];exact az5 g m l (λy hy=>hg y (b13 _ hy)) k (by simpa using h) j hj
def aaw (t:TypeId) (size:Nat) (Q:Nat->Prop) (w:World) (v:Value) (X:List (List Lit)):Prop:=∃A c,v=.slice A X.length c/\SlK t size Q w A X/\X.length<=maxLen
theorem aaw.toV {t:TypeId} {size:Nat} {Q:Nat->Prop} {w:World} {v:Value} {X:List (List Lit)} (h:aaw t size Q w v X) (hq:∀b,Q b->b<w.1.size):af5 t size w v X:=by
 obtain⟨A,c,rfl,h1,h2⟩:=h;refine⟨A,c,rfl,λk hk=>?_,h2⟩;obtain⟨b,off,L,q1,q2,q3⟩:=h1 k hk;exact⟨b,off,L,q1,hq b q2,q3⟩
theorem aaw.less {t:TypeId} {size:Nat} {Q R:Nat->Prop} {w:World} {v:Value} {X:List (List Lit)} (h:aaw t size Q w v X) (hr:∀b,Q b->R b):aaw t size R w v X:=by
 obtain⟨A,c,rfl,h1,h2⟩:=h;refine⟨A,c,rfl,λk hk=>?_,h2⟩;obtain⟨b,off,L,q1,q2,q3⟩:=h1 k hk;exact⟨b,off,L,q1,hr b q2,q3⟩
theorem aaw.keep {t:TypeId} {size:Nat} {Q:Nat->Prop} {w w':World} {v:Value} {X:List (List Lit)} (h:aaw t size Q w v X) (hk:∀b,Q b->w'.heap[b]?=w.heap[b]?):aaw t size Q w' v X:=by
 obtain⟨A,c,rfl,h1,h2⟩:=h;refine⟨A,c,rfl,λk hk'=>?_,h2⟩;obtain⟨b,off,L,q1,q2,q3,q4⟩:=h1 k hk';exact⟨b,off,L,q1,q2,aa6 q3 (hk b q2),q4⟩
def ad3 (Q:Nat->Prop) (w:World) (L:List Value) (u:aes):Prop:=∃P ss D A sp,L=[Value.int .i64 u.kd] ++(P ++([Value.int .i64 u.tw] ++([ss] ++(D ++(A ++([Value.int .i64 u.ly] ++([sp])))))))/\KV 26 P u.P/\aaw 162 7 Q w ss u.X/\KV 31 D u.D/\KV 33 A u.A/\aaw 164 2 Q w sp u.Y
theorem ad3.toV {Q:Nat->Prop} {w:World} {L:List Value} {u:aes} (h:ad3 Q w L u) (hq:∀b,Q b->b<w.1.size):a93 w L u:=by
 obtain⟨P,ss,D,A,sp,h1,h2,h3,h4,h5,h6⟩:=h;exact⟨P,ss,D,A,sp,h1,h2,h3.toV hq,h4,h5,h6.toV hq⟩
theorem ad3.less {Q R:Nat->Prop} {w:World} {L:List Value} {u:aes} (h:ad3 Q w L u) (hr:∀b,Q b->R b):ad3 R w L u:=by
 obtain⟨P,ss,D,A,sp,h1,h2,h3,h4,h5,h6⟩:=h;exact⟨P,ss,D,A,sp,h1,h2,h3.less hr,h4,h5,h6.less hr⟩
theorem ad3.keep {Q:Nat->Prop} {w w':World} {L:List Value} {u:aes} (h:ad3 Q w L u) (hk:∀b,Q b->w'.heap[b]?=w.heap[b]?):ad3 Q w' L u:=by
 obtain⟨P,ss,D,A,sp,h1,h2,h3,h4,h5,h6⟩:=h;exact⟨P,ss,D,A,sp,h1,h2,h3.keep hk,h4,h5,h6.keep hk⟩
theorem ad3.len {Q:Nat->Prop} {w:World} {L:List Value} {u:aes} (h:ad3 Q w L u):L.length=48:=by
 obtain⟨P,ss,D,A,sp,rfl,h1,-,h2,h3,-⟩:=h;simp[awx h1,avx h2,avi h3]
theorem ark {t:TypeId} {m:Nat} {Q:Nat->Prop} (hm:0<m) (hkv:∀v:List Int,v.length=m->InI v->KV t (qt v) (abw v)) {w:World} {A:Option Addr} {c:Nat} (L:List (List Int)) (hL:∀v∈L,v.length=m/\InI v) (hf:qf Q w A (L.flatMap qt)) (hn:L.length<=maxLen) :
 aaw t m Q w (.slice A L.length c) (L.map abw):=by
 refine⟨A,c,by rw[b0o],λk hk=>?_,by rw[b0o];exact hn⟩;have hk':k<L.length:=by simpa using hk
 have hg:=λj hj=>az5 qt m L (λv hv=>by rw[jn];exact(hL v hv).1) k hk' j hj
 obtain⟨hl,hi⟩:=hL _ (b1j hk');have hl0:0<(qt L[k]).length:=by rw[jn,hl];exact hm
 obtain⟨b,off,hA,hb,h0⟩:=hf _ _ ((hg 0 hm).trans (d7 hl0));refine⟨b,off,qt L[k],hA,hb,λj v hv=>?_,by rw[b3m];exact hkv _ hl hi⟩
 have hj:j<m:=by
  rcases b08 j (qt L[k]).length with q|q
  ·rwa [jn,hl]at q
  ·rw[b0c q]at hv;cases hv
 obtain⟨b',off',hA',-,h1⟩:=hf _ _ ((hg j hj).trans hv);rw[hA]at hA';injection hA' with hA';injection hA' with q1 q2;subst q1 q2
 rw[b3c];exact h1
theorem vj {t:TypeId} {m:Nat} {Q:Nat->Prop} {w:World}:aaw t m Q w (.slice none 0 0) []:=⟨none,0,rfl,λk hk=>absurd hk (b04 _),by unfold maxLen;simp⟩
def aie:List Value:=qt (List.replicate 8 0)
def aid:List Value:=[.bool false,.int .i64 0,.int .i64 0]
def ubC (kd:Int) (P:List Value) (tw:Int) (ss:Value) (D A:List Value) (ly:Int) (sp:Value):List Value:=[.int .i64 kd] ++(P ++([.int .i64 tw] ++([ss] ++(D ++(A ++([.int .i64 ly]++[sp]))))))
def ubZ (kd:Int):List Value:=ubC kd k9 0 (.slice none 0 0) aie aid 0 (.slice none 0 0)
def aau:aes:=⟨0,abw (List.replicate 32 0),0,[],abw (List.replicate 8 0),[.bool false,.int .i64 0,.int .i64 0],0,[]⟩
theorem ak6:KV 26 k9 (abw (List.replicate 32 0)):=a52 rfl (aif 32)
theorem ak4:KV 31 aie (abw (List.replicate 8 0)):=a51 rfl (aif 8)
theorem ak3:KV 33 aid [.bool false,.int .i64 0,.int .i64 0]:=a50 om om
theorem am3 (Q:Nat->Prop) (w:World) (kd:Int):ad3 Q w (ubZ kd) {aau with kd:=kd}:=⟨_,_,_,_,_,rfl,ak6,vj,ak4,ak3,vj⟩
def UTk (mb:Nat) (E:Int) (u:aes) (w:World) (e:Ending) (w':World):Prop:=
 e=.returned (.int .i64 E)/\qi (λk=>k<w.1.size/\k≠mb) w w'/\∃L,Blk w' mb L/\L.length=48 /\(E=0->ad3 (λb=>w.1.size<=b/\b<w'.1.size) w' L u)
theorem a79 (w:World):Calls prog 254 #[.agg #[]] w λe w'=>e=.returned (.int .i64 1)/\Below w.1.size w w':=by
 go_enter func254,ntmps254;go_wp2_with fail;go_ret;exact⟨rfl,qa _ _⟩
theorem bjk (x:Value) (W:World):(method 526 224 x "landfall/ubx.kind").run prog W=.ok (254,x) W:=by kernel_rfl
theorem bir (x:Value) (W:World):(callFunc 254 #[x]).run prog W=.ok (.enter 254 #[x]) W:=by kernel_rfl
theorem bjo (x:Value) (W:World):(method 526 224 x "landfall/ubx.take").run prog W=.ok (256,x) W:=by kernel_rfl
theorem biv (x y z t:Value) (W:World):(callFunc 256 #[x,y,z,t]).run prog W=.ok (.enter 256 #[x,y,z,t]) W:=by kernel_rfl
theorem a3i (w:World):Calls prog 266 #[.agg #[]] w λe w'=>e=.returned (.int .i64 2)/\Below w.1.size w w':=by
 go_enter func266,ntmps266;go_wp2_with fail;go_ret;exact⟨rfl,qa _ _⟩
theorem bfq (x:Value) (W:World):(method 526 225 x "landfall/ubx.kind").run prog W=.ok (266,x) W:=by kernel_rfl
theorem bex (x:Value) (W:World):(callFunc 266 #[x]).run prog W=.ok (.enter 266 #[x]) W:=by kernel_rfl
theorem bfr (x:Value) (W:World):(method 526 225 x "landfall/ubx.take").run prog W=.ok (268,x) W:=by kernel_rfl
theorem bey (x y z t:Value) (W:World):(callFunc 268 #[x,y,z,t]).run prog W=.ok (.enter 268 #[x,y,z,t]) W:=by kernel_rfl
theorem a78 (w:World):Calls prog 274 #[.agg #[]] w λe w'=>e=.returned (.int .i64 3)/\Below w.1.size w w':=by
 go_enter func274,ntmps274;go_wp2_with fail;go_ret;exact⟨rfl,qa _ _⟩
theorem bjj (x:Value) (W:World):(method 526 226 x "landfall/ubx.kind").run prog W=.ok (274,x) W:=by kernel_rfl
theorem biq (x:Value) (W:World):(callFunc 274 #[x]).run prog W=.ok (.enter 274 #[x]) W:=by kernel_rfl
theorem bjn (x:Value) (W:World):(method 526 226 x "landfall/ubx.take").run prog W=.ok (276,x) W:=by kernel_rfl
theorem biu (x y z t:Value) (W:World):(callFunc 276 #[x,y,z,t]).run prog W=.ok (.enter 276 #[x,y,z,t]) W:=by kernel_rfl
theorem a77 (w:World):Calls prog 280 #[.agg #[]] w λe w'=>e=.returned (.int .i64 4)/\Below w.1.size w w':=by
 go_enter func280,ntmps280;go_wp2_with fail;go_ret;exact⟨rfl,qa _ _⟩
theorem bji (x:Value) (W:World):(method 526 227 x "landfall/ubx.kind").run prog W=.ok (280,x) W:=by kernel_rfl
theorem bip (x:Value) (W:World):(callFunc 280 #[x]).run prog W=.ok (.enter 280 #[x]) W:=by kernel_rfl
theorem bjm (x:Value) (W:World):(method 526 227 x "landfall/ubx.take").run prog W=.ok (282,x) W:=by kernel_rfl
theorem bit (x y z t:Value) (W:World):(callFunc 282 #[x,y,z,t]).run prog W=.ok (.enter 282 #[x,y,z,t]) W:=by kernel_rfl
theorem a8a (w:World):Calls prog 286 #[.agg #[]] w λe w'=>e=.returned (.int .i64 5)/\Below w.1.size w w':=by
 go_enter func286,ntmps286;go_wp2_with fail;go_ret;exact⟨rfl,qa _ _⟩
theorem bjl (x:Value) (W:World):(method 526 228 x "landfall/ubx.kind").run prog W=.ok (286,x) W:=by kernel_rfl
theorem bis (x:Value) (W:World):(callFunc 286 #[x]).run prog W=.ok (.enter 286 #[x]) W:=by kernel_rfl
theorem bjp (x:Value) (W:World):(method 526 228 x "landfall/ubx.take").run prog W=.ok (288,x) W:=by kernel_rfl
theorem biw (x y z t:Value) (W:World):(callFunc 288 #[x,y,z,t]).run prog W=.ok (.enter 288 #[x,y,z,t]) W:=by kernel_rfl
theorem a8d {Q0:Nat->Prop} {w:World} (mb:Nat) (X:Option Addr) (d:Nat) (b:List UInt8) (id:Int) (hm:Blk w mb (ubZ 1)) (hB:qf Q0 w X (bsV b)) (hl:b.length<=1100000) :
 Calls prog 256 #[.agg #[],.pointer (some ⟨mb,0,none⟩),.slice X b.length d,.int .i64 id] w (UTk mb (ag8 b).1 {aau with kd:=1,P:=abw (ag8 b).2} w):=by
 have HT:∀W,Below w.1.size w W->Q_ (Calls prog 257 #[.slice X b.length d] W λe w'=>e=.returned (.tuple #[.agg (qt (ag8 b).2).toArray,.int .i64 (ag8 b).1])/\Below W.1.size W w'):=λW hW=>q_ (a1l X d b (hB.lt.below hW (λb q=>q.2)) hl)
 have hpl:=a1k b
 have hpi:(ag8 b).1=0->InI (ag8 b).2:=λh=>by
  unfold ag8 at *
  split at h
  ·rename_i h0;rw[if_pos h0];intro n hn;exact ah2 aqw h0 n (List.mem_of_mem_eraseIdx hn)
  ·rename_i h0;exact absurd h h0
 generalize (ag8 b).1=E at *;generalize (ag8 b).2=P at *;have HM:∀W,Below w.1.size w W->Q_ (Blk W mb (ubZ 1)):=λW hW=>q_ (hm.on hW)
 have HP:=q_ (o3 hpl hpi);have HSZ:=q_ (alc hpl);have HON:=q_ (ail P);have HMB:=q_ hm.lt;clear hm hB hpl hpi;go_enter func256,ntmps256;go_wp2_with fail;refine(HT _ (qa _ _)).o.mono ?_;rintro e w1 ⟨rfl,hb⟩;have HB1:=q_ (qb (qa _ _) hb);have HM1:=HM w1 (qb (qa _ _) hb);have HTH:Q_ (w1.there mb 1 (qt P).toArray.size):=q_ (by rw[o6,jn,HP.o.1];exact HM1.o.there 1 32 dc);clear hb HM HT;go_wp2_with (refine qe rfl 26 _ _ rfl mb 1 (qt P).toArray rfl rfl HTH.o HSZ.o HON.o ?_;intro W6 hs;have HS:=q_ hs;clear hs);go_ret;have hs:=HS.o
 have hk:Blk W6 mb (ubC 1 (qt P) 0 (.slice none 0 0) aie aid 0 (.slice none 0 0)):=by
  have:=HM1.o.put (A:=[.int .i64 1]) (M:=k9) (D:=[.int .i64 0] ++([.slice none 0 0] ++(aie ++(aid ++([.int .i64 0]++[.slice none 0 0]))))) (cs:=qt P) hs rfl (by rw[jn,HP.o.1];rfl)
  simpa [ubC]using this
 refine⟨rfl,(qi.of_below HB1.o (λk q=>q.1)).stored hs (λq=>q.2 rfl),_,hk,?_,λhE=>?_⟩
 ·unfold ubC;simp[jn,HP.o.1];rfl
 ·exact⟨_,_,_,_,_,rfl,a52 HP.o.1 (HP.o.2 hE),vj,ak4,ak3,vj⟩
theorem aul:∀(n:Nat) (b:List UInt8),(jl n b).1=0->∀v∈(jl n b).2,InI v
 | 0,_,_=>λv hv=>by cases hv
 | n+1,b,h=>by
  unfold jl at *
  split at h
  ·rename_i h1
   split at h
   ·rename_i h2;rw[if_pos h1,if_pos h2];intro v hv;rcases b03.1 hv with rfl|hv
    ·exact ah2 aq7 h1
    ·exact aul n _ h2 v hv
   ·rename_i h2;exact absurd h h2
  ·rename_i h1;exact absurd h h1
theorem bg7 (b:List UInt8) (h:(ab7 b).1=0):(∀v∈(ab7 b).2.2,v.length=7/\InI v) /\(ab7 b).2.2.length<=100000000:=by
 unfold ab7 at *
 split at h
 ·simp at h
 rename_i h0;rw[if_neg h0]
 split at h
 ·rename_i h1;rw[if_pos h1]
  split at h
  ·simp at h
  rename_i h2;rw[if_neg h2]
  split at h
  ·simp at h
  rename_i h3;rw[if_neg h3]
  split at h
  ·rename_i h4;rw[if_pos h4];refine⟨λv hv=>⟨(amu _ _ h4).2 v hv,aul _ _ h4 v hv⟩,?_⟩;rw[(amu _ _ h4).1];obtain⟨x,q1,q2,q3⟩:=alp vi (b.take 8) (alj h1) 2 dc;rw[l9,q1];have e2:(vi[2]'(by decide)).hi=64:=rfl;rw[e2]at q3;show x.toNat<=_;omega
  ·rename_i h4;exact absurd h h4
 ·rename_i h1;exact absurd h h1
theorem a9f:∀(k:Nat) (b:List UInt8),(ko k b).1=0 ->(ko k b).2.length<=k/\∀p∈(ko k b).2,p.1<4294967296/\p.2<9223372036854775808
 | 0,b,h=>by unfold ko at *;split<;>exact⟨a8 _,λp hp=>by cases hp⟩
 | k+1,b,h=>by
  unfold ko at *
  by_cases h0:b=[]
  ·rw[if_pos h0];exact⟨b0d _,λp hp=>by cases hp⟩
  rw[if_neg h0]at h ⊢
  by_cases h1:b.length<4
  ·rw[if_pos h1]at h;simp at h
  rw[if_neg h1]at h ⊢
  by_cases h2:(jk (jg (b.take 4))).2=0
  ·rw[if_pos h2]at h;simp at h
  rw[if_neg h2]at h ⊢
  by_cases h3:(b.drop 4).length<(jk (jg (b.take 4))).2
  ·rw[if_pos h3]at h;simp at h
  rw[if_neg h3]at h ⊢
  by_cases h4:2^(jk (jg (b.take 4))).1-1<jg ((b.drop 4).take (jk (jg (b.take 4))).2)
  ·rw[if_pos h4]at h;simp at h
  rw[if_neg h4]at h ⊢
  by_cases h5:(ko k ((b.drop 4).drop (jk (jg (b.take 4))).2)).1=0
  ·rw[if_pos h5];obtain⟨q1,q2⟩:=a9f k _ h5;refine⟨by rw[n6];omega,λp hp=>?_⟩;rcases b03.1 hp with rfl|hp
   ·have hk:=aio (b.take 4);rw[l8,b1m om]at hk;have hM:2^(jk (jg (b.take 4))).1<=2^63:=b06 dc (aqk _).1;exact⟨hk,by dsimp only;omega⟩
   ·exact q2 p hp
  ·rw[if_neg h5]at h;exact absurd h h5
theorem bks (b:List UInt8) (h:(af0 b).1=0):(af0 b).2.2.length<=32/\∀p∈(af0 b).2.2,p.1<4294967296/\p.2<9223372036854775808:=by
 unfold af0 at *
 split at h
 ·simp at h
 rename_i h0;rw[if_neg h0]
 split at h
 ·rename_i h1;rw[if_pos h1]
  split at h
  ·rename_i h4;rw[if_pos h4];exact a9f _ _ h4
  ·rename_i h4;exact absurd h h4
 ·rename_i h1;exact absurd h h1
def aqq (p:Nat×Nat):List Int:=[(p.1:Int),(p.2:Int)]
theorem bbw (L:List (Nat×Nat)):afb L=(L.map aqq).flatMap qt:=by
 induction L with
 | nil=>rfl
 | cons p L ih=>simp only[afb,b2i,b2y]at *;rw[ih];rfl
theorem a3j {Q0:Nat->Prop} {w:World} (mb:Nat) (X:Option Addr) (d:Nat) (b:List UInt8) (id:Int) (hm:Blk w mb (ubZ 2)) (hB:qf Q0 w X (bsV b)) (hl:b.length<=1100000) (hd:b.length<=d) :
 Calls prog 268 #[.agg #[],.pointer (some ⟨mb,0,none⟩),.slice X b.length d,.int .i64 id] w (UTk mb (ab7 b).1 {aau with kd:=2,tw:=(ab7 b).2.1,X:=(ab7 b).2.2.map abw} w):=by
 have HT:∀W,Below w.1.size w W->Q_ (Calls prog 269 #[.slice X b.length d] W (aon (ab7 b) W)):=λW hW=>q_ (axe X d b (hB.lt.below hW (λb q=>q.2)) hl hd)
 have HOK:=q_ (bg7 b);obtain⟨⟨E,t0,L⟩,hr⟩:∃r,ab7 b=r:=⟨_,rfl⟩;rw[hr]at HT HOK ⊢;unfold aon at HT;dsimp only at *;clear hr;have HM:∀W,Below w.1.size w W->Q_ (Blk W mb (ubZ 2)):=λW hW=>q_ (hm.on hW)
 have HMB:=q_ hm.lt;clear hm hB;go_enter func268,ntmps268;go_wp2_with fail;refine(HT _ (qa _ _)).o.mono ?_;rintro e w1 ⟨A,c,rfl,hf,hb⟩;have HB1:=q_ (qb (qa _ _) hb);have HM1:=HM w1 (qb (qa _ _) hb);have g0:=HM1.o.cell 33 (v:=.int .i64 0) rfl;have z0:=HM1.o.fz 33;have g1:=HM1.o.cell 34 (v:=.slice none 0 0) rfl;have z1:=HM1.o.fz 34;have HFQ:Q_ (qf (λb=>w.1.size<=b/\b<w1.1.size) w1 A (aft L)):=q_ (hf.less λb q=>⟨p9 (qa w _).size q.1,q.2⟩);clear hf;clear hb HM HT;go_wp2_with fail;go_ret;have hs:qq w1 ((w1.setCell ⟨mb,33,none⟩ (.int .i64 t0)).setCell ⟨mb,34,none⟩ (.slice A L.length c)) mb 33 [.int .i64 t0,.slice A L.length c]:=qo (cs:=[.int .i64 t0,.slice A L.length c]) (HM1.o.there 33 2 dc)
 have hk:Blk ((w1.setCell ⟨mb,33,none⟩ (.int .i64 t0)).setCell ⟨mb,34,none⟩ (.slice A L.length c)) mb (ubC 2 k9 t0 (.slice A L.length c) aie aid 0 (.slice none 0 0)):=by
  have:=HM1.o.put (A:=[.int .i64 2]++k9) (M:=[.int .i64 0,.slice none 0 0]) (D:=aie ++(aid ++([.int .i64 0]++[.slice none 0 0]))) (cs:=[.int .i64 t0,.slice A L.length c]) hs rfl rfl;exact this
 refine⟨rfl,(qi.of_below HB1.o (λk q=>q.1)).stored hs (λq=>q.2 rfl),_,hk,rfl,λhE=>?_⟩;obtain⟨q1,q2⟩:=HOK.o hE
 have hsl:aaw 162 7 (λb=>w.1.size<=b/\b<((w1.setCell ⟨mb,33,none⟩ (.int .i64 t0)).setCell ⟨mb,34,none⟩ (.slice A L.length c)).1.size) ((w1.setCell ⟨mb,33,none⟩ (.int .i64 t0)).setCell ⟨mb,34,none⟩ (.slice A L.length c)) (.slice A L.length c) (L.map abw):=
  ark dc (λv h1 h2=>bml h1 h2) L q1 ((HFQ.o.keep λk hk=>hs.far k (by have:=HMB.o;have:=hk.1;omega)).less λk hk=>⟨hk.1,by have:=hk.2;simpa using this⟩) (by unfold maxLen;omega)
 exact⟨_,_,_,_,_,rfl,ak6,hsl,ak4,ak3,vj⟩
theorem a8c {Q0:Nat->Prop} {w:World} (mb:Nat) (X:Option Addr) (d:Nat) (b:List UInt8) (id:Int) (hm:Blk w mb (ubZ 3)) (hB:qf Q0 w X (bsV b)) (hl:b.length<=1100000) (hd:b.length<=d) :
 Calls prog 276 #[.agg #[],.pointer (some ⟨mb,0,none⟩),.slice X b.length d,.int .i64 id] w (UTk mb (ahl b).1 {aau with kd:=3,D:=abw (ahl b).2} w):=by
 have HT:∀W,Below w.1.size w W->Q_ (Calls prog 277 #[.slice X b.length d] W λe w'=>e=.returned (.tuple #[.agg (qt (ahl b).2).toArray,.int .i64 (ahl b).1])/\Below W.1.size W w'):=λW hW=>q_ (azz X d b (hB.lt.below hW (λb q=>q.2)) hl)
 have hln:(ahl b).2.length=8:=by
  unfold ahl
  split
  ·rename_i h;exact aby h
  ·rfl
 have HOK:Q_ ((ahl b).1=0->InI (ahl b).2):=q_ (λh=>by
  unfold ahl at *
  split at h
  ·rename_i h0;rw[if_pos h0];exact ah2 aqa h0
  ·rename_i h0;exact absurd h h0)
 obtain⟨⟨E,v⟩,hr⟩:∃r,ahl b=r:=⟨_,rfl⟩;rw[hr]at HT HOK hln ⊢;dsimp only at *
 obtain⟨x0,x1,x2,x3,x4,x5,x6,x7,rfl⟩:∃x0 x1 x2 x3 x4 x5 x6 x7,v=[x0,x1,x2,x3,x4,x5,x6,x7]:=by
  rcases v with _|⟨x0,_|⟨x1,_|⟨x2,_|⟨x3,_|⟨x4,_|⟨x5,_|⟨x6,_|⟨x7,_|⟨z,_⟩⟩⟩⟩⟩⟩⟩⟩⟩<;>first|exact⟨_,_,_,_,_,_,_,_,rfl⟩|(simp at hln)
 replace HT:∀W,Below w.1.size w W->Q_ (Calls prog 277 #[.slice X b.length d] W λe w'=>e=.returned (.tuple #[.agg #[.int .i64 x0,.int .i64 x1,.int .i64 x2,.int .i64 x3,.int .i64 x4,.int .i64 x5,.int .i64 x6,.int .i64 x7],.int .i64 E])/\Below W.1.size W w'):=HT;clear hr hln;have HM:∀W,Below w.1.size w W->Q_ (Blk W mb (ubZ 3)):=λW hW=>q_ (hm.on hW)
 have HMB:=q_ hm.lt;clear hm hB;go_enter func276,ntmps276;go_wp2_with fail;refine(HT _ (qa _ _)).o.mono ?_;rintro e w1 ⟨rfl,hb⟩;have HB1:=q_ (qb (qa _ _) hb);have HM1:=HM w1 (qb (qa _ _) hb);have g0:=HM1.o.cell 35 (v:=.int .i64 0) rfl;have z0:=HM1.o.fz 35;have g1:=HM1.o.cell 36 (v:=.int .i64 0) rfl;have z1:=HM1.o.fz 36;have g2:=HM1.o.cell 37 (v:=.int .i64 0) rfl;have z2:=HM1.o.fz 37;have g3:=HM1.o.cell 38 (v:=.int .i64 0) rfl;have z3:=HM1.o.fz 38;have g4:=HM1.o.cell 39 (v:=.int .i64 0) rfl;have z4:=HM1.o.fz 39;have g5:=HM1.o.cell 40 (v:=.int .i64 0) rfl;have z5:=HM1.o.fz 40;have g6:=HM1.o.cell 41 (v:=.int .i64 0) rfl;have z6:=HM1.o.fz 41;have g7:=HM1.o.cell 42 (v:=.int .i64 0) rfl;have z7:=HM1.o.fz 42;clear hb HM HT;go_wp2_with fail;go_ret;have hs:qq w1 ((((((((w1.setCell ⟨mb,35,none⟩ (.int .i64 x0)).setCell ⟨mb,36,none⟩ (.int .i64 x1)).setCell ⟨mb,37,none⟩ (.int .i64 x2)).setCell ⟨mb,38,none⟩ (.int .i64 x3)).setCell ⟨mb,39,none⟩ (.int .i64 x4)).setCell ⟨mb,40,none⟩ (.int .i64 x5)).setCell ⟨mb,41,none⟩ (.int .i64 x6)).setCell ⟨mb,42,none⟩ (.int .i64 x7)) mb 35 [.int .i64 x0,.int .i64 x1,.int .i64 x2,.int .i64 x3,.int .i64 x4,.int .i64 x5,.int .i64 x6,.int .i64 x7]:=qo (cs:=[.int .i64 x0,.int .i64 x1,.int .i64 x2,.int .i64 x3,.int .i64 x4,.int .i64 x5,.int .i64 x6,.int .i64 x7]) (HM1.o.there 35 8 dc)
 have hk:Blk ((((((((w1.setCell ⟨mb,35,none⟩ (.int .i64 x0)).setCell ⟨mb,36,none⟩ (.int .i64 x1)).setCell ⟨mb,37,none⟩ (.int .i64 x2)).setCell ⟨mb,38,none⟩ (.int .i64 x3)).setCell ⟨mb,39,none⟩ (.int .i64 x4)).setCell ⟨mb,40,none⟩ (.int .i64 x5)).setCell ⟨mb,41,none⟩ (.int .i64 x6)).setCell ⟨mb,42,none⟩ (.int .i64 x7)) mb (ubC 3 k9 0 (.slice none 0 0) [.int .i64 x0,.int .i64 x1,.int .i64 x2,.int .i64 x3,.int .i64 x4,.int .i64 x5,.int .i64 x6,.int .i64 x7] aid 0 (.slice none 0 0)):=by
  have:=HM1.o.put (A:=[.int .i64 3] ++(k9 ++([.int .i64 0]++[.slice none 0 0]))) (M:=aie) (D:=aid ++([.int .i64 0]++[.slice none 0 0])) (cs:=[.int .i64 x0,.int .i64 x1,.int .i64 x2,.int .i64 x3,.int .i64 x4,.int .i64 x5,.int .i64 x6,.int .i64 x7]) hs rfl rfl;exact this
 refine⟨rfl,(qi.of_below HB1.o (λk q=>q.1)).stored hs (λq=>q.2 rfl),_,hk,rfl,λhE=>?_⟩;exact⟨_,_,_,_,_,rfl,ak6,vj,a51 rfl (HOK.o hE),ak3,vj⟩
theorem a8b {Q0:Nat->Prop} {w:World} (mb:Nat) (X:Option Addr) (d:Nat) (b:List UInt8) (id:Int) (hm:Blk w mb (ubZ 4)) (hB:qf Q0 w X (bsV b)) (hl:b.length<=1100000) (hd:b.length<=d) :
 Calls prog 282 #[.agg #[],.pointer (some ⟨mb,0,none⟩),.slice X b.length d,.int .i64 id] w (UTk mb (af7 b).1 {aau with kd:=4,A:=.bool (id==1)::abw (af7 b).2} w):=by
 have HT:∀W,Below w.1.size w W->Q_ (Calls prog 283 #[.slice X b.length d,.bool (id==1)] W λe w'=>e=.returned (.tuple #[.agg (.bool ((id==1) && decide ((af7 b).1=0))::qt (af7 b).2).toArray,.int .i64 (af7 b).1])/\Below W.1.size W w'):=λW hW=>q_ (ay7 X d b (id==1) (hB.lt.below hW (λb q=>q.2)) hl)
 have hln:(af7 b).2.length=2:=by
  unfold af7
  split
  ·rename_i h;exact aby h
  ·rfl
 have HOK:Q_ ((af7 b).1=0->InI (af7 b).2):=q_ (λh=>by
  unfold af7 at *
  split at h
  ·rename_i h0;rw[if_pos h0];exact ah2 api h0
  ·rename_i h0;exact absurd h h0)
 obtain⟨⟨E,v⟩,hr⟩:∃r,af7 b=r:=⟨_,rfl⟩;rw[hr]at HT HOK hln ⊢;dsimp only at *
 obtain⟨x0,x1,rfl⟩:∃x0 x1,v=[x0,x1]:=by
  rcases v with _|⟨x0,_|⟨x1,_|⟨z,_⟩⟩⟩<;>first|exact⟨_,_,rfl⟩|(simp at hln)
 obtain⟨yy,hyy⟩:∃yy,((id==1) && decide (E=0))=yy:=⟨_,rfl⟩;rw[hyy]at HT;have HYY:=q_ hyy;replace HT:∀W,Below w.1.size w W->Q_ (Calls prog 283 #[.slice X b.length d,.bool (id==1)] W λe w'=>e=.returned (.tuple #[.agg #[.bool yy,.int .i64 x0,.int .i64 x1],.int .i64 E])/\Below W.1.size W w'):=HT;clear hr hln hyy;have HM:∀W,Below w.1.size w W->Q_ (Blk W mb (ubZ 4)):=λW hW=>q_ (hm.on hW)
 have HMB:=q_ hm.lt;clear hm hB;go_enter func282,ntmps282;go_wp2_with fail;refine(HT _ (qa _ _)).o.mono ?_;rintro e w1 ⟨rfl,hb⟩;have HB1:=q_ (qb (qa _ _) hb);have HM1:=HM w1 (qb (qa _ _) hb);have g0:=HM1.o.cell 43 (v:=.bool false) rfl;have z0:=HM1.o.fz 43;have g1:=HM1.o.cell 44 (v:=.int .i64 0) rfl;have z1:=HM1.o.fz 44;have g2:=HM1.o.cell 45 (v:=.int .i64 0) rfl;have z2:=HM1.o.fz 45;clear hb HM HT;go_wp2_with fail;go_ret;have hs:qq w1 (((w1.setCell ⟨mb,43,none⟩ (.bool yy)).setCell ⟨mb,44,none⟩ (.int .i64 x0)).setCell ⟨mb,45,none⟩ (.int .i64 x1)) mb 43 [.bool yy,.int .i64 x0,.int .i64 x1]:=qo (cs:=[.bool yy,.int .i64 x0,.int .i64 x1]) (HM1.o.there 43 3 dc)
 have hk:Blk (((w1.setCell ⟨mb,43,none⟩ (.bool yy)).setCell ⟨mb,44,none⟩ (.int .i64 x0)).setCell ⟨mb,45,none⟩ (.int .i64 x1)) mb (ubC 4 k9 0 (.slice none 0 0) aie [.bool yy,.int .i64 x0,.int .i64 x1] 0 (.slice none 0 0)):=by
  have:=HM1.o.put (A:=[.int .i64 4] ++(k9 ++([.int .i64 0] ++([.slice none 0 0]++aie)))) (M:=aid) (D:=[.int .i64 0]++[.slice none 0 0]) (cs:=[.bool yy,.int .i64 x0,.int .i64 x1]) hs rfl rfl;exact this
 refine⟨rfl,(qi.of_below HB1.o (λk q=>q.1)).stored hs (λq=>q.2 rfl),_,hk,rfl,λhE=>?_⟩;have hy:yy=(id==1):=by rw[<- HYY.o,hE];simp
 have hi:=HOK.o hE;refine⟨_,_,_,_,_,rfl,ak6,vj,ak4,?_,vj⟩;rw[hy];exact a50 (hi x0 sm) (hi x1 sm)
theorem a8e {Q0:Nat->Prop} {w:World} (mb:Nat) (X:Option Addr) (d:Nat) (b:List UInt8) (id:Int) (hm:Blk w mb (ubZ 5)) (hB:qf Q0 w X (bsV b)) (hl:b.length<=1100000) (hd:b.length<=d) :
 Calls prog 288 #[.agg #[],.pointer (some ⟨mb,0,none⟩),.slice X b.length d,.int .i64 id] w (UTk mb (af0 b).1 {aau with kd:=5,ly:=(af0 b).2.1,Y:=(af0 b).2.2.map λp=>abw (aqq p)} w):=by
 have HT:∀W,Below w.1.size w W->Q_ (Calls prog 289 #[.slice X b.length d] W (avg (af0 b) W)):=λW hW=>q_ (a3o X d b (hB.lt.below hW (λb q=>q.2)) hl hd)
 have HOK:=q_ (bks b);obtain⟨⟨E,t0,L⟩,hr⟩:∃r,af0 b=r:=⟨_,rfl⟩;rw[hr]at HT HOK ⊢;unfold avg at HT;dsimp only at *;clear hr;have HM:∀W,Below w.1.size w W->Q_ (Blk W mb (ubZ 5)):=λW hW=>q_ (hm.on hW)
 have HMB:=q_ hm.lt;clear hm hB;go_enter func288,ntmps288;go_wp2_with fail;refine(HT _ (qa _ _)).o.mono ?_;rintro e w1 ⟨A,c,rfl,hf,hb⟩;have HB1:=q_ (qb (qa _ _) hb);have HM1:=HM w1 (qb (qa _ _) hb);have g0:=HM1.o.cell 46 (v:=.int .i64 0) rfl;have z0:=HM1.o.fz 46;have g1:=HM1.o.cell 47 (v:=.slice none 0 0) rfl;have z1:=HM1.o.fz 47;have HFQ:Q_ (qf (λb=>w.1.size<=b/\b<w1.1.size) w1 A (afb L)):=q_ (hf.less λb q=>⟨p9 (qa w _).size q.1,q.2⟩);clear hf;clear hb HM HT;go_wp2_with fail;go_ret;have hs:qq w1 ((w1.setCell ⟨mb,46,none⟩ (.int .i64 t0)).setCell ⟨mb,47,none⟩ (.slice A L.length c)) mb 46 [.int .i64 t0,.slice A L.length c]:=qo (cs:=[.int .i64 t0,.slice A L.length c]) (HM1.o.there 46 2 dc)
 have hk:Blk ((w1.setCell ⟨mb,46,none⟩ (.int .i64 t0)).setCell ⟨mb,47,none⟩ (.slice A L.length c)) mb (ubC 5 k9 0 (.slice none 0 0) aie aid t0 (.slice A L.length c)):=by
  have:=HM1.o.put (A:=[.int .i64 5] ++(k9 ++([.int .i64 0] ++([.slice none 0 0] ++(aie++aid))))) (M:=[.int .i64 0,.slice none 0 0]) (D:=[]) (cs:=[.int .i64 t0,.slice A L.length c]) hs rfl rfl;exact this
 refine⟨rfl,(qi.of_below HB1.o (λk q=>q.1)).stored hs (λq=>q.2 rfl),_,hk,rfl,λhE=>?_⟩;obtain⟨q1,q2⟩:=HOK.o hE
 have hsl:aaw 164 2 (λb=>w.1.size<=b/\b<((w1.setCell ⟨mb,46,none⟩ (.int .i64 t0)).setCell ⟨mb,47,none⟩ (.slice A L.length c)).1.size) ((w1.setCell ⟨mb,46,none⟩ (.int .i64 t0)).setCell ⟨mb,47,none⟩ (.slice A L.length c)) (.slice A L.length c) (L.map λp=>abw (aqq p)):=by
  have h1:=ark (t:=164) (m:=2) (Q:=λb=>w.1.size<=b/\b<((w1.setCell ⟨mb,46,none⟩ (.int .i64 t0)).setCell ⟨mb,47,none⟩ (.slice A L.length c)).1.size) (w:=(w1.setCell ⟨mb,46,none⟩ (.int .i64 t0)).setCell ⟨mb,47,none⟩ (.slice A L.length c)) (A:=A) (c:=c) dc (λv h1 h2=>bje h1 h2) (L.map aqq) (λv hv=>by
   obtain⟨p,hp,rfl⟩:=b2f.1 hv;have:=q2 p hp;refine⟨rfl,λn hn=>?_⟩;simp only[aqq,b03,b2o,b4u]at hn;rcases hn with rfl|rfl<;>omega) (by rw[<- bbw];exact(HFQ.o.keep λk hk=>hs.far k (by have:=HMB.o;have:=hk.1;omega)).less λk hk=>⟨hk.1,by have:=hk.2;simpa using this⟩) (by rw[b0o];unfold maxLen;omega)
  rw[b0o,b5i]at h1;exact h1
 exact⟨_,_,_,_,_,rfl,ak6,vj,ak4,ak3,hsl⟩
