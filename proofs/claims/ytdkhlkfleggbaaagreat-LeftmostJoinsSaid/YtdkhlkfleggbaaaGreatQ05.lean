/- Parts. -/
import Derived.Test.YtdkhlkfleggbaaaGreatQ04
import Derived.Test.YtdkhlkfleggbaaaGreatQ03
namespace Go.Proofs.YtdkhlkfleggbaaaGreat
set_option maxHeartbeats 1000000
set_option maxRecDepth 8000
open Lib (hid)
open Tryz
set_option linter.unusedVariables false
open Go.RowKit
theorem a45 {pr prq:Int} {od odq:Bool} {U Uq:List Value} {N Nq:List Value} {T Tq:List Value} {b0:Bool} {b1:Bool} {b2:Bool} {b3:Bool} {b4:Bool} {w:World} (lU:Hid (U.length=48)) (lUq:Hid (Uq.length=48)) (lN:Hid (N.length=65)) (lNq:Hid (Nq.length=65)) (lT:Hid (T.length=5)) (lTq:Hid (Tq.length=5)) (h0:Hid ((pr==prq)=b0)) (h1:Hid ((od==odq)=b1)) (h2:Hid (∀W,Below w.1.size w W→Calls prog 27 #[.agg U.toArray,.agg Uq.toArray] W fun e w'=>e=.returned (.bool b2)∧Below W.1.size W w')) (h3:Hid (∀W,Below w.1.size w W→Calls prog 28 #[.agg N.toArray,.agg Nq.toArray] W fun e w'=>e=.returned (.bool b3)∧Below W.1.size W w')) (h4:Hid (∀W,Below w.1.size w W→Calls prog 29 #[.agg T.toArray,.agg Tq.toArray] W fun e w'=>e=.returned (.bool b4)∧Below W.1.size W w')) :
 Calls prog 14 #[.agg ([Value.int .i64 pr] ++([Value.bool od] ++(U ++(N ++(T))))).toArray,.agg ([Value.int .i64 prq] ++([Value.bool odq] ++(Uq ++(Nq ++(Tq))))).toArray] w fun e w'=>e=.returned (.bool (b0 && (b1 && (b2 && (b3 && (b4))))))∧Below w.1.size w w':=by
 have SP:∀(W:World) (b:Nat),W.rangeAt b 0 ([Value.int .i64 pr] ++([Value.bool od] ++(U ++(N ++(T)))))→W.rangeAt b 0 ([Value.int .i64 pr])∧W.rangeAt b 1 ([Value.bool od])∧W.rangeAt b 2 (U)∧W.rangeAt b 50 (N)∧W.rangeAt b 115 (T):=fun W b h=>by
  obtain⟨r0,s0⟩:=xr h (n:=1) rfl;obtain⟨r1,s1⟩:=xr s0 (n:=1) rfl;obtain⟨r2,s2⟩:=xr s1 (n:=48) lU.out;obtain⟨r3,s3⟩:=xr s2 (n:=65) lN.out;exact⟨r0,r1,r2,r3,s3⟩
 have SQ:∀(W:World) (b:Nat),W.rangeAt b 0 ([Value.int .i64 prq] ++([Value.bool odq] ++(Uq ++(Nq ++(Tq)))))→W.rangeAt b 0 ([Value.int .i64 prq])∧W.rangeAt b 1 ([Value.bool odq])∧W.rangeAt b 2 (Uq)∧W.rangeAt b 50 (Nq)∧W.rangeAt b 115 (Tq):=fun W b h=>by
  obtain⟨r0,s0⟩:=xr h (n:=1) rfl;obtain⟨r1,s1⟩:=xr s0 (n:=1) rfl;obtain⟨r2,s2⟩:=xr s1 (n:=48) lUq.out;obtain⟨r3,s3⟩:=xr s2 (n:=65) lNq.out;exact⟨r0,r1,r2,r3,s3⟩
 have HSP:=hid SP;have HSQ:=hid SQ;clear SP SQ;go_enter func14,ntmps14
 go_upto_region 1 with(first
  | (refine qr rfl _ _ rfl ([Value.int .i64 pr] ++([Value.bool od] ++(U ++(N ++(T))))).toArray rfl ?_;intro W1 hW;have K1:=hid (Blk.newL (L:=[Value.int .i64 pr] ++([Value.bool od] ++(U ++(N ++(T))))) hW List.toList_toArray);have HB1:=hid hW.bel;clear hW)
  | (refine qr rfl _ _ rfl ([Value.int .i64 prq] ++([Value.bool odq] ++(Uq ++(Nq ++(Tq))))).toArray rfl ?_;intro W2 hW;have Kq:=hid (Blk.newL (L:=[Value.int .i64 prq] ++([Value.bool odq] ++(Uq ++(Nq ++(Tq))))) hW List.toList_toArray);have Kp:=hid (K1.out.on hW.bel);have HBb:=hid (qb HB1.out hW.bel);clear hW K1 HB1))
 try go_frame
 have a0:=zn ((HSP.out _ _ Kp.out.rg).1);have c0:=zn ((HSQ.out _ _ Kq.out.rg).1);have a1:=zn ((HSP.out _ _ Kp.out.rg).2.1);have c1:=zn ((HSQ.out _ _ Kq.out.rg).2.1)
 try (apply wp_seq_k;intro K_ HK_)
 apply wp_region_lit;cases b0
 ·have g0:=h0.out;go_wp2_with fail;go_ret;exact⟨by rfl,HBb.out⟩
 have g0:=h0.out;cases b1
 ·have g1:=h1.out;go_wp2_with fail;go_ret;exact⟨by rfl,HBb.out⟩
 have g1:=h1.out
 repeat (fail_if_success (show Oper.wp _ ⟨some 19,_,_,_,_,_⟩ _ _ _ _)
         first|go_values|go_skip|go_guarded|go_step|go_upon)
 refine wp_load_mid _ _ rfl w.1.size 2 rfl U _ (HSP.out _ _ Kp.out.rg).2.2.1 underlying38 rfl (by rw[lU.out];kernel_rfl) ?_
 repeat (fail_if_success (show Oper.wp _ ⟨some 21,_,_,_,_,_⟩ _ _ _ _)
         first|go_values|go_skip|go_guarded|go_step|go_upon)
 refine wp_load_mid _ _ rfl W1.1.size 2 rfl Uq _ (HSQ.out _ _ Kq.out.rg).2.2.1 underlying38 rfl (by rw[lUq.out];kernel_rfl) ?_;go_wp2_with fail;refine(h2.out _ HBb.out).mono ?_;rintro e V1 ⟨rfl,hb⟩;have Kp1:=hid (Kp.out.on hb);have Kq1:=hid (Kq.out.on hb);have HB_1:=hid (qb HBb.out hb);clear hb;dsimp only;cases b2
 ·go_wp2_with fail;go_ret;exact⟨by rfl,HB_1.out⟩
 repeat (fail_if_success (show Oper.wp _ ⟨some 26,_,_,_,_,_⟩ _ _ _ _)
         first|go_values|go_skip|go_guarded|go_step|go_upon)
 refine wp_load_mid _ _ rfl w.1.size 50 rfl N _ (HSP.out _ _ Kp1.out.rg).2.2.2.1 underlying58 rfl (by rw[lN.out];kernel_rfl) ?_
 repeat (fail_if_success (show Oper.wp _ ⟨some 28,_,_,_,_,_⟩ _ _ _ _)
         first|go_values|go_skip|go_guarded|go_step|go_upon)
 refine wp_load_mid _ _ rfl W1.1.size 50 rfl Nq _ (HSQ.out _ _ Kq1.out.rg).2.2.2.1 underlying58 rfl (by rw[lNq.out];kernel_rfl) ?_;go_wp2_with fail;refine(h3.out _ HB_1.out).mono ?_;rintro e V2 ⟨rfl,hb⟩;have Kp2:=hid (Kp1.out.on hb);have Kq2:=hid (Kq1.out.on hb);have HB_2:=hid (qb HB_1.out hb);clear hb;dsimp only;cases b3
 ·go_wp2_with fail;go_ret;exact⟨by rfl,HB_2.out⟩
 repeat (fail_if_success (show Oper.wp _ ⟨some 33,_,_,_,_,_⟩ _ _ _ _)
         first|go_values|go_skip|go_guarded|go_step|go_upon)
 refine wp_load_mid _ _ rfl w.1.size 115 rfl T _ (HSP.out _ _ Kp2.out.rg).2.2.2.2 underlying62 rfl (by rw[lT.out];kernel_rfl) ?_
 repeat (fail_if_success (show Oper.wp _ ⟨some 35,_,_,_,_,_⟩ _ _ _ _)
         first|go_values|go_skip|go_guarded|go_step|go_upon)
 refine wp_load_mid _ _ rfl W1.1.size 115 rfl Tq _ (HSQ.out _ _ Kq2.out.rg).2.2.2.2 underlying62 rfl (by rw[lTq.out];kernel_rfl) ?_;go_wp2_with fail;refine(h4.out _ HB_2.out).mono ?_;rintro e V3 ⟨rfl,hb⟩;have Kp3:=hid (Kp2.out.on hb);have Kq3:=hid (Kq2.out.on hb);have HB_3:=hid (qb HB_2.out hb);clear hb;dsimp only;go_wp2_with fail;go_ret;exact⟨by rfl,HB_3.out⟩
structure aen where
 kd:Int
 P:List Lit
 tw:Int
 X:List (List Lit)
 D:List Lit
 A:List Lit
 ly:Int
 Y:List (List Lit)
structure ag1 where
 sq:Int
 sy:Int
 cm:Int
 id:Int
 V:List (List Lit)
def afz (t:TypeId) (size:Nat) (w:World) (v:Value) (X:List (List Lit)):Prop:=∃A c,v=.slice A X.length c∧SlK t size (fun b=>b<w.1.size) w A X∧X.length≤maxLen
theorem afz.on {t:TypeId} {size:Nat} {w w':World} {v:Value} {X:List (List Lit)} (h:afz t size w v X) (hb:Below w.1.size w w'):afz t size w' v X:=by
 obtain⟨A,c,rfl,h,hl⟩:=h;refine⟨A,c,rfl,fun k hk=>?_,hl⟩;obtain⟨b,off,L,h1,h2,h3,h4⟩:=h.below hb (fun _ q=>q) k hk;exact⟨b,off,L,h1,Nat.lt_of_lt_of_le h2 hb.size,h3,h4⟩
def a76 (w:World) (L:List Value) (u:aen):Prop:=∃P ss D A sp,L=[Value.int .i64 u.kd] ++(P ++([Value.int .i64 u.tw] ++([ss] ++(D ++(A ++([Value.int .i64 u.ly] ++([sp])))))))∧KV 26 P u.P∧afz 162 7 w ss u.X∧KV 31 D u.D∧KV 33 A u.A∧afz 164 2 w sp u.Y
def a75 (w:World) (L:List Value) (p:ag1):Prop:=∃vs,L=[Value.int .i64 p.sq] ++([Value.int .i64 p.sy] ++([Value.int .i64 p.cm] ++([Value.int .i64 p.id] ++([vs]))))∧afz 2 1 w vs p.V
theorem avu {P:List Value} {l:List Lit} (h:KV 26 P l):P.length=32:=(h.struct_len underlying26).trans kr
theorem auu {P:List Value} {l:List Lit} (h:KV 31 P l):P.length=8:=(h.struct_len underlying31).trans kr
theorem aue {P:List Value} {l:List Lit} (h:KV 33 P l):P.length=3:=(h.struct_len underlying33).trans kr
theorem a75.on {w w':World} {L:List Value} {a:ag1} (h:a75 w L a) (hb:Below w.1.size w w'):a75 w' L a:=by
 obtain⟨ls,e,h1⟩:=h;exact⟨ls,e,h1.on hb⟩
theorem a76.on {w w':World} {L:List Value} {a:aen} (h:a76 w L a) (hb:Below w.1.size w w'):a76 w' L a:=by
 obtain⟨P,ss,D,A,sp,e,h1,h2,h3,h4,h5⟩:=h;exact⟨P,ss,D,A,sp,e,h1,h2.on hb,h3,h4,h5.on hb⟩
def ayt (u v:aen):Bool:=(u.kd==v.kd) && (decide (u.P=v.P) && (decide (u.D=v.D) && (decide (u.A=v.A) && ((u.tw==v.tw) && (decide (u.X=v.X) && ((u.ly==v.ly) && decide (u.Y=v.Y)))))))
def bc4 (a b:ag1):Bool:=(a.sq==b.sq) && ((a.sy==b.sy) && ((a.cm==b.cm) && ((a.id==b.id) && decide (a.V=b.V))))
def axu (f:Nat) (v v':Value) (b:Bool) (w:World):Prop:=Calls prog f #[v,v'] w fun e w'=>e=.returned (.bool b)∧Below w.1.size w w'
theorem a5w {f:Nat} {t:TypeId} {size:Nat} (hf:∀(A B:Option Addr) (n m c d:Nat) (X Y:List (List Lit)) (w:World),Hid (X.length=n)→Hid (Y.length=m)→Hid (SlK t size (fun b=>b<w.1.size) w A X)→Hid (SlK t size (fun b=>b<w.1.size) w B Y)→n≤maxLen→m≤maxLen →
      Calls prog f #[.slice A n c,.slice B m d] w fun e w'=>e=.returned (.bool (decide (X=Y)))∧Below w.1.size w w')
 {w:World} {v v':Value} {X Y:List (List Lit)} (h:afz t size w v X) (h':afz t size w v' Y):axu f v v' (decide (X=Y)) w:=by
 obtain⟨A,c,rfl,h1,h2⟩:=h;obtain⟨B,d,rfl,h3,h4⟩:=h';exact hf A B _ _ c d X Y w rfl rfl h1 h3 h2 h4
theorem a0b {w:World} {L M:List Value} {u v:aen} (h:a76 w L u) (h':a76 w M v):axu 27 (.agg L.toArray) (.agg M.toArray) (ayt u v) w:=by
 obtain⟨P,ss,D,A,sp,rfl,h1,h2,h3,h4,h5⟩:=h;obtain⟨P',ss',D',A',sp',rfl,k1,k2,k3,k4,k5⟩:=h'
 have hs:∀W,Below w.1.size w W→axu 47 (.agg [Value.int .i64 u.tw,ss].toArray) (.agg [Value.int .i64 v.tw,ss'].toArray) ((u.tw==v.tw) && decide (u.X=v.X)) W:=fun W hb=>by
  obtain⟨B,c,rfl,q1,q2⟩:=h2.on hb;obtain⟨B',c',rfl,q3,q4⟩:=k2.on hb;exact a40 u.tw v.tw B B' _ _ c c' u.X v.X W rfl rfl q1 q3 q2 q4
 have hp:∀W,Below w.1.size w W→axu 48 (.agg [Value.int .i64 u.ly,sp].toArray) (.agg [Value.int .i64 v.ly,sp'].toArray) ((u.ly==v.ly) && decide (u.Y=v.Y)) W:=fun W hb=>by
  obtain⟨B,c,rfl,q1,q2⟩:=h5.on hb;obtain⟨B',c',rfl,q3,q4⟩:=k5.on hb;exact a41 u.ly v.ly B B' _ _ c c' u.Y v.Y W rfl rfl q1 q3 q2 q4
 have e:ayt u v=((u.kd==v.kd) && (decide (u.P=v.P) && (((u.tw==v.tw) && decide (u.X=v.X)) && (decide (u.D=v.D) && (decide (u.A=v.A) && ((u.ly==v.ly) && decide (u.Y=v.Y))))))):=by
  unfold ayt;generalize (u.kd==v.kd)=b0;generalize decide (u.P=v.P)=b1;generalize (u.tw==v.tw)=b2;generalize decide (u.X=v.X)=b3;generalize decide (u.D=v.D)=b4;generalize decide (u.A=v.A)=b5;generalize (u.ly==v.ly)=b6;generalize decide (u.Y=v.Y)=b7;cases b0<;>cases b1<;>cases b2<;>cases b3<;>cases b4<;>cases b5<;>cases b6<;>rfl
 rw[e]
 exact a42 (Z:=[Value.int .i64 u.tw,ss]) (Zq:=[Value.int .i64 v.tw,ss']) (Y:=[Value.int .i64 u.ly,sp]) (Yq:=[Value.int .i64 v.ly,sp'])
  (avu h1) (avu k1) rfl rfl (auu h3) (auu k3) (aue h4) (aue k4) rfl rfl rfl
  (hid fun W=>an2 (m:=10) underlying26 kr dc h1 k1 W)
  (hid hs)
  (hid fun W=>an2 (m:=10) underlying31 kr dc h3 k3 W)
  (hid fun W=>an2 (m:=10) underlying33 kr dc h4 k4 W)
  (hid hp)
theorem a0d {w:World} {L M:List Value} {a b:ag1} (h:a75 w L a) (h':a75 w M b):axu 29 (.agg L.toArray) (.agg M.toArray) (bc4 a b) w:=by
 obtain⟨ls,rfl,h1⟩:=h;obtain⟨ls',rfl,k1⟩:=h';exact a44 rfl rfl rfl rfl (hid fun W hb=>a5w a4z (h1.on hb) (k1.on hb))
def abn (v:List Int):List Lit:=v.map (Lit.int .i64)
def InI (v:List Int):Prop:=∀n∈v,-9223372036854775808≤n∧n≤9223372036854775807
theorem bg7 (n:Nat) (s:Bool) (h1:1≤n) (h8:n≤8):-9223372036854775808≤a9n n s:=by
 have:n=1∨n=2∨n=3∨n=4∨n=5∨n=6∨n=7∨n=8:=by omega
 cases s<;>rcases this with rfl|rfl|rfl|rfl|rfl|rfl|rfl|rfl<;>decide
theorem bg6 (n:Nat) (s:Bool) (h1:1≤n) (h8:n≤8):a9m n s≤9223372036854775807:=by
 have:n=1∨n=2∨n=3∨n=4∨n=5∨n=6∨n=7∨n=8:=by omega
 cases s<;>rcases this with rfl|rfl|rfl|rfl|rfl|rfl|rfl|rfl<;>decide
theorem aty:∀(l:List Fld) (b:List UInt8) {v:List Int},l.all ys=true→aal l b=some v→InI v
 | [],_,v,_,h=>by cases h;intro n hn;cases hn
 | f::l,b,v,hr,h=>by
  rw[List.all_cons,Bool.and_eq_true]at hr;unfold aal at h
  split at h
  ·rename_i hx;obtain⟨v',h',rfl⟩:=Option.map_eq_some_iff.1 h;have h1:=hr.1;simp only[ys,Bool.and_eq_true,decide_eq_true_eq]at h1;have hl:=bg7 f.sz f.sg h1.1 h1.2.1;have hh:=bg6 f.sz f.sg h1.1 h1.2.1;intro n hn;rcases List.mem_cons.1 hn with rfl|hn
   ·omega
   ·exact aty l _ hr.2 h' n hn
  ·cases h
theorem ahl {fs:List Fld} {b:List UInt8} (hr:fs.all ys=true) (h:(xk fs b).1=0):InI (xk fs b).2:=aty fs b hr (akv h)
theorem ahu (n:Nat):InI (List.replicate n 0):=fun x hx=>by rw[(List.mem_replicate.1 hx).2];omega
theorem ac0:prog.cellsOf 2=1:=by kernel_rfl
theorem a4d {v:List Int} (hl:v.length=32) (h:InI v):KV 26 (qp v) (abn v):=
 akh underlying26 underlying2 ac0 dc (by decide +kernel) kr v hl (fun n hn=>aju (h n hn))
theorem a4c {v:List Int} (hl:v.length=8) (h:InI v):KV 31 (qp v) (abn v):=
 akh underlying31 underlying2 ac0 dc (by decide +kernel) kr v hl (fun n hn=>aju (h n hn))
theorem bj5 {v:List Int} (hl:v.length=7) (h:InI v):KV 162 (qp v) (abn v):=
 akh underlying162 underlying2 ac0 dc (by decide +kernel) kr v hl (fun n hn=>aju (h n hn))
theorem bg5 {v:List Int} (hl:v.length=2) (h:InI v):KV 164 (qp v) (abn v):=
 akh underlying164 underlying2 ac0 dc (by decide +kernel) kr v hl (fun n hn=>aju (h n hn))
theorem bj4 {n:Int} (h:-9223372036854775808≤n∧n≤9223372036854775807):KV 2 [.int .i64 n] [.int .i64 n]:=⟨1,by
 simp only[Program.keyLits,underlying2];rw[if_pos (by simp[aju h])]⟩
theorem a4b {y:Bool} {c i:Int} (hc:-9223372036854775808≤c∧c≤9223372036854775807) (hi:-9223372036854775808≤i∧i≤9223372036854775807):KV 33 [.bool y,.int .i64 c,.int .i64 i] [.bool y,.int .i64 c,.int .i64 i]:=by
 have hb:∀D,prog.keyLits (D+1) 4 [.bool y]=some [.bool y]:=fun D=>by simp only[Program.keyLits,underlying4]
 have hn:∀D n,(-9223372036854775808≤n∧n≤9223372036854775807)→prog.keyLits (D+1) 2 [.int .i64 n]=some [.int .i64 n]:=fun D n h=>by
  simp only[Program.keyLits,underlying2];rw[if_pos (by simp[aju h])]
 have c1:prog.cellsOf 4=1:=by kernel_rfl
 refine⟨0+1+1,(ag9 (p:=[[.bool y],[.int .i64 c],[.int .i64 i]]) underlying33 (by decide +kernel) kr ?_)⟩;simp only[List.mapM_cons,List.mapM_nil,c1,ac0,List.drop_zero,List.take_succ_cons,List.take_zero,List.drop_succ_cons,hb,hn 0 c hc,hn 0 i hi];rfl
theorem ayw {α:Type} (g:α→List Value) (m:Nat):∀(l:List α) (_:∀x∈l,(g x).length=m) (k:Nat) (h:k<l.length) (j:Nat),j<m →(l.flatMap g)[k*m+j]?=(g l[k])[j]?
 | [],_,k,h,_,_=>absurd h (Nat.not_lt_zero _)
 | x::l,hg,0,_,j,hj=>by
  rw[List.flatMap_cons,Nat.zero_mul,Nat.zero_add,List.getElem?_append_left (by rw[hg x (List.mem_cons_self ..)];exact hj)];rfl
 | x::l,hg,k+1,h,j,hj=>by
  have hx:=hg x (List.mem_cons_self ..);rw[List.flatMap_cons,List.getElem?_append_right (by rw[hx,Nat.succ_mul];omega),hx,show (k+1)*m+j-m=k*m+j from by rw[Nat.succ_mul];omega];exact ayw g m l (fun y hy=>hg y (List.mem_cons_of_mem _ hy)) k (by simpa using h) j hj
def aar (t:TypeId) (size:Nat) (Q:Nat→Prop) (w:World) (v:Value) (X:List (List Lit)):Prop:=∃A c,v=.slice A X.length c∧SlK t size Q w A X∧X.length≤maxLen
theorem aar.toV {t:TypeId} {size:Nat} {Q:Nat→Prop} {w:World} {v:Value} {X:List (List Lit)} (h:aar t size Q w v X) (hq:∀b,Q b→b<w.1.size):afz t size w v X:=by
 obtain⟨A,c,rfl,h1,h2⟩:=h;refine⟨A,c,rfl,fun k hk=>?_,h2⟩;obtain⟨b,off,L,q1,q2,q3⟩:=h1 k hk;exact⟨b,off,L,q1,hq b q2,q3⟩
theorem aar.less {t:TypeId} {size:Nat} {Q R:Nat→Prop} {w:World} {v:Value} {X:List (List Lit)} (h:aar t size Q w v X) (hr:∀b,Q b→R b):aar t size R w v X:=by
 obtain⟨A,c,rfl,h1,h2⟩:=h;refine⟨A,c,rfl,fun k hk=>?_,h2⟩;obtain⟨b,off,L,q1,q2,q3⟩:=h1 k hk;exact⟨b,off,L,q1,hr b q2,q3⟩
theorem aar.keep {t:TypeId} {size:Nat} {Q:Nat→Prop} {w w':World} {v:Value} {X:List (List Lit)} (h:aar t size Q w v X) (hk:∀b,Q b→w'.heap[b]?=w.heap[b]?):aar t size Q w' v X:=by
 obtain⟨A,c,rfl,h1,h2⟩:=h;refine⟨A,c,rfl,fun k hk'=>?_,h2⟩;obtain⟨b,off,L,q1,q2,q3,q4⟩:=h1 k hk';exact⟨b,off,L,q1,q2,abs q3 (hk b q2),q4⟩
def adz (Q:Nat→Prop) (w:World) (L:List Value) (u:aen):Prop:=∃P ss D A sp,L=[Value.int .i64 u.kd] ++(P ++([Value.int .i64 u.tw] ++([ss] ++(D ++(A ++([Value.int .i64 u.ly] ++([sp])))))))∧KV 26 P u.P∧aar 162 7 Q w ss u.X∧KV 31 D u.D∧KV 33 A u.A∧aar 164 2 Q w sp u.Y
theorem adz.toV {Q:Nat→Prop} {w:World} {L:List Value} {u:aen} (h:adz Q w L u) (hq:∀b,Q b→b<w.1.size):a76 w L u:=by
 obtain⟨P,ss,D,A,sp,h1,h2,h3,h4,h5,h6⟩:=h;exact⟨P,ss,D,A,sp,h1,h2,h3.toV hq,h4,h5,h6.toV hq⟩
theorem adz.less {Q R:Nat→Prop} {w:World} {L:List Value} {u:aen} (h:adz Q w L u) (hr:∀b,Q b→R b):adz R w L u:=by
 obtain⟨P,ss,D,A,sp,h1,h2,h3,h4,h5,h6⟩:=h;exact⟨P,ss,D,A,sp,h1,h2,h3.less hr,h4,h5,h6.less hr⟩
theorem adz.keep {Q:Nat→Prop} {w w':World} {L:List Value} {u:aen} (h:adz Q w L u) (hk:∀b,Q b→w'.heap[b]?=w.heap[b]?):adz Q w' L u:=by
 obtain⟨P,ss,D,A,sp,h1,h2,h3,h4,h5,h6⟩:=h;exact⟨P,ss,D,A,sp,h1,h2,h3.keep hk,h4,h5,h6.keep hk⟩
theorem adz.len {Q:Nat→Prop} {w:World} {L:List Value} {u:aen} (h:adz Q w L u):L.length=48:=by
 obtain⟨P,ss,D,A,sp,rfl,h1,-,h2,h3,-⟩:=h;simp[avu h1,auu h2,aue h3]
theorem aqv {t:TypeId} {m:Nat} {Q:Nat→Prop} (hm:0<m) (hkv:∀v:List Int,v.length=m→InI v→KV t (qp v) (abn v)) {w:World} {A:Option Addr} {c:Nat} (L:List (List Int)) (hL:∀v∈L,v.length=m∧InI v) (hf:qf Q w A (L.flatMap qp)) (hn:L.length≤maxLen) :
 aar t m Q w (.slice A L.length c) (L.map abn):=by
 refine⟨A,c,by rw[List.length_map],fun k hk=>?_,by rw[List.length_map];exact hn⟩;have hk':k<L.length:=by simpa using hk
 have hg:=fun j hj=>ayw qp m L (fun v hv=>by rw[jn];exact(hL v hv).1) k hk' j hj
 obtain⟨hl,hi⟩:=hL _ (List.getElem_mem hk');have hl0:0<(qp L[k]).length:=by rw[jn,hl];exact hm
 obtain⟨b,off,hA,hb,h0⟩:=hf _ _ ((hg 0 hm).trans (List.getElem?_eq_getElem hl0));refine⟨b,off,qp L[k],hA,hb,fun j v hv=>?_,by rw[List.getElem_map];exact hkv _ hl hi⟩
 have hj:j<m:=by
  rcases Nat.lt_or_ge j (qp L[k]).length with q|q
  ·rwa [jn,hl]at q
  ·rw[List.getElem?_eq_none q]at hv;cases hv
 obtain⟨b',off',hA',-,h1⟩:=hf _ _ ((hg j hj).trans hv);rw[hA]at hA';injection hA' with hA';injection hA' with q1 q2;subst q1 q2
 rw[Nat.add_assoc];exact h1
theorem vg {t:TypeId} {m:Nat} {Q:Nat→Prop} {w:World}:aar t m Q w (.slice none 0 0) []:=⟨none,0,rfl,fun k hk=>absurd hk (Nat.not_lt_zero _),by unfold maxLen;simp⟩
def aht:List Value:=qp (List.replicate 8 0)
def ahs:List Value:=[.bool false,.int .i64 0,.int .i64 0]
def ubC (kd:Int) (P:List Value) (tw:Int) (ss:Value) (D A:List Value) (ly:Int) (sp:Value):List Value:=[.int .i64 kd] ++(P ++([.int .i64 tw] ++([ss] ++(D ++(A ++([.int .i64 ly]++[sp]))))))
def ubZ (kd:Int):List Value:=ubC kd ky 0 (.slice none 0 0) aht ahs 0 (.slice none 0 0)
def aao:aen:=⟨0,abn (List.replicate 32 0),0,[],abn (List.replicate 8 0),[.bool false,.int .i64 0,.int .i64 0],0,[]⟩
theorem aki:KV 26 ky (abn (List.replicate 32 0)):=a4d rfl (ahu 32)
theorem akg:KV 31 aht (abn (List.replicate 8 0)):=a4c rfl (ahu 8)
theorem akf:KV 33 ahs [.bool false,.int .i64 0,.int .i64 0]:=a4b om om
theorem amb (Q:Nat→Prop) (w:World) (kd:Int):adz Q w (ubZ kd) {aao with kd:=kd}:=⟨_,_,_,_,_,rfl,aki,vg,akg,akf,vg⟩
def UTk (mb:Nat) (E:Int) (u:aen) (w:World) (e:Ending) (w':World):Prop:=
 e=.returned (.int .i64 E)∧qn (fun k=>k<w.1.size∧k≠mb) w w'∧∃L,Blk w' mb L∧L.length=48 ∧(E=0→adz (fun b=>w.1.size≤b∧b<w'.1.size) w' L u)
theorem a6e (w:World):Calls prog 254 #[.agg #[]] w fun e w'=>e=.returned (.int .i64 1)∧Below w.1.size w w':=by
 go_enter func254,ntmps254;go_wp2_with fail;go_ret;exact⟨rfl,qa _ _⟩
theorem bhb (x:Value) (W:World):(method 526 224 x "landfall/ubx.kind").run prog W=.ok (254,x) W:=by kernel_rfl
theorem bgm (x:Value) (W:World):(callFunc 254 #[x]).run prog W=.ok (.enter 254 #[x]) W:=by kernel_rfl
theorem bhf (x:Value) (W:World):(method 526 224 x "landfall/ubx.take").run prog W=.ok (256,x) W:=by kernel_rfl
theorem bgq (x y z t:Value) (W:World):(callFunc 256 #[x,y,z,t]).run prog W=.ok (.enter 256 #[x,y,z,t]) W:=by kernel_rfl
theorem a13 (w:World):Calls prog 266 #[.agg #[]] w fun e w'=>e=.returned (.int .i64 2)∧Below w.1.size w w':=by
 go_enter func266,ntmps266;go_wp2_with fail;go_ret;exact⟨rfl,qa _ _⟩
theorem bdp (x:Value) (W:World):(method 526 225 x "landfall/ubx.kind").run prog W=.ok (266,x) W:=by kernel_rfl
theorem bcv (x:Value) (W:World):(callFunc 266 #[x]).run prog W=.ok (.enter 266 #[x]) W:=by kernel_rfl
theorem bdq (x:Value) (W:World):(method 526 225 x "landfall/ubx.take").run prog W=.ok (268,x) W:=by kernel_rfl
theorem bcw (x y z t:Value) (W:World):(callFunc 268 #[x,y,z,t]).run prog W=.ok (.enter 268 #[x,y,z,t]) W:=by kernel_rfl
theorem a6d (w:World):Calls prog 274 #[.agg #[]] w fun e w'=>e=.returned (.int .i64 3)∧Below w.1.size w w':=by
 go_enter func274,ntmps274;go_wp2_with fail;go_ret;exact⟨rfl,qa _ _⟩
theorem bha (x:Value) (W:World):(method 526 226 x "landfall/ubx.kind").run prog W=.ok (274,x) W:=by kernel_rfl
theorem bgl (x:Value) (W:World):(callFunc 274 #[x]).run prog W=.ok (.enter 274 #[x]) W:=by kernel_rfl
theorem bhe (x:Value) (W:World):(method 526 226 x "landfall/ubx.take").run prog W=.ok (276,x) W:=by kernel_rfl
theorem bgp (x y z t:Value) (W:World):(callFunc 276 #[x,y,z,t]).run prog W=.ok (.enter 276 #[x,y,z,t]) W:=by kernel_rfl
theorem a6c (w:World):Calls prog 280 #[.agg #[]] w fun e w'=>e=.returned (.int .i64 4)∧Below w.1.size w w':=by
 go_enter func280,ntmps280;go_wp2_with fail;go_ret;exact⟨rfl,qa _ _⟩
theorem bg9 (x:Value) (W:World):(method 526 227 x "landfall/ubx.kind").run prog W=.ok (280,x) W:=by kernel_rfl
theorem bgk (x:Value) (W:World):(callFunc 280 #[x]).run prog W=.ok (.enter 280 #[x]) W:=by kernel_rfl
theorem bhd (x:Value) (W:World):(method 526 227 x "landfall/ubx.take").run prog W=.ok (282,x) W:=by kernel_rfl
theorem bgo (x y z t:Value) (W:World):(callFunc 282 #[x,y,z,t]).run prog W=.ok (.enter 282 #[x,y,z,t]) W:=by kernel_rfl
theorem a6f (w:World):Calls prog 286 #[.agg #[]] w fun e w'=>e=.returned (.int .i64 5)∧Below w.1.size w w':=by
 go_enter func286,ntmps286;go_wp2_with fail;go_ret;exact⟨rfl,qa _ _⟩
theorem bhc (x:Value) (W:World):(method 526 228 x "landfall/ubx.kind").run prog W=.ok (286,x) W:=by kernel_rfl
theorem bgn (x:Value) (W:World):(callFunc 286 #[x]).run prog W=.ok (.enter 286 #[x]) W:=by kernel_rfl
theorem bhg (x:Value) (W:World):(method 526 228 x "landfall/ubx.take").run prog W=.ok (288,x) W:=by kernel_rfl
theorem bgr (x y z t:Value) (W:World):(callFunc 288 #[x,y,z,t]).run prog W=.ok (.enter 288 #[x,y,z,t]) W:=by kernel_rfl
theorem a6i {Q0:Nat→Prop} {w:World} (mb:Nat) (X:Option Addr) (d:Nat) (b:List UInt8) (id:Int) (hm:Blk w mb (ubZ 1)) (hB:qf Q0 w X (bsV b)) (hl:b.length≤1000000) :
 Calls prog 256 #[.agg #[],.pointer (some ⟨mb,0,none⟩),.slice X b.length d,.int .i64 id] w (UTk mb (agu b).1 {aao with kd:=1,P:=abn (agu b).2} w):=by
 have HT:∀W,Below w.1.size w W→Hid (Calls prog 257 #[.slice X b.length d] W fun e w'=>e=.returned (.tuple #[.agg (qp (agu b).2).toArray,.int .i64 (agu b).1])∧Below W.1.size W w'):=fun W hW=>hid (az9 X d b (hB.lt.below hW (fun b q=>q.2)) hl)
 have hpl:=az8 b
 have hpi:(agu b).1=0→InI (agu b).2:=fun h=>by
  unfold agu at *
  split at h
  ·rename_i h0;rw[if_pos h0];intro n hn;exact ahl ap8 h0 n (List.mem_of_mem_eraseIdx hn)
  ·rename_i h0;exact absurd h h0
 generalize (agu b).1=E at *;generalize (agu b).2=P at *;have HM:∀W,Below w.1.size w W→Hid (Blk W mb (ubZ 1)):=fun W hW=>hid (hm.on hW)
 have HP:=hid (And.intro hpl hpi);have HSZ:=hid (akp hpl);have HON:=hid (ahz P);have HMB:=hid hm.lt;clear hm hB hpl hpi;go_enter func256,ntmps256;go_wp2_with fail;refine(HT _ (qa _ _)).out.mono ?_;rintro e w1 ⟨rfl,hb⟩;have HB1:=hid (qb (qa _ _) hb);have HM1:=HM w1 (qb (qa _ _) hb);have HTH:Hid (w1.there mb 1 (qp P).toArray.size):=hid (by rw[List.size_toArray,jn,HP.out.1];exact HM1.out.there 1 32 dc);clear hb HM HT;go_wp2_with (refine qe rfl 26 _ _ rfl mb 1 (qp P).toArray rfl rfl HTH.out HSZ.out HON.out ?_;intro W6 hs;have HS:=hid hs;clear hs);go_ret;have hs:=HS.out
 have hk:Blk W6 mb (ubC 1 (qp P) 0 (.slice none 0 0) aht ahs 0 (.slice none 0 0)):=by
  have:=HM1.out.put (A:=[.int .i64 1]) (M:=ky) (D:=[.int .i64 0] ++([.slice none 0 0] ++(aht ++(ahs ++([.int .i64 0]++[.slice none 0 0]))))) (cs:=qp P) hs rfl (by rw[jn,HP.out.1];rfl)
  simpa [ubC]using this
 refine⟨rfl,(qn.of_below HB1.out (fun k q=>q.1)).stored hs (fun q=>q.2 rfl),_,hk,?_,fun hE=>?_⟩
 ·unfold ubC;simp[jn,HP.out.1];rfl
 ·exact⟨_,_,_,_,_,rfl,a4d HP.out.1 (HP.out.2 hE),vg,akg,akf,vg⟩
theorem atn:∀(n:Nat) (b:List UInt8),(jj n b).1=0→∀v∈(jj n b).2,InI v
 | 0,_,_=>fun v hv=>by cases hv
 | n+1,b,h=>by
  unfold jj at *
  split at h
  ·rename_i h1
   split at h
   ·rename_i h2;rw[if_pos h1,if_pos h2];intro v hv;rcases List.mem_cons.1 hv with rfl|hv
    ·exact ahl aqi h1
    ·exact atn n _ h2 v hv
   ·rename_i h2;exact absurd h h2
  ·rename_i h1;exact absurd h h1
theorem be6 (b:List UInt8) (h:(ab0 b).1=0):(∀v∈(ab0 b).2.2,v.length=7∧InI v) ∧(ab0 b).2.2.length≤100000000:=by
 unfold ab0 at *
 split at h
 ·simp at h
 rename_i h0;rw[if_neg h0]
 split at h
 ·rename_i h1;rw[if_pos h1]
  split at h
  ·simp at h
  rename_i h2;rw[if_neg h2]
  split at h
  ·simp at h
  rename_i h3;rw[if_neg h3]
  split at h
  ·rename_i h4;rw[if_pos h4];refine⟨fun v hv=>⟨(al2 _ _ h4).2 v hv,atn _ _ h4 v hv⟩,?_⟩;rw[(al2 _ _ h4).1];obtain⟨x,q1,q2,q3⟩:=ak0 vf (b.take 8) (akv h1) 2 dc;rw[List.getD_eq_getElem?_getD,q1];have e2:(vf[2]'(by decide)).hi=64:=rfl;rw[e2]at q3;show x.toNat≤_;omega
  ·rename_i h4;exact absurd h h4
 ·rename_i h1;exact absurd h h1
theorem a7h:∀(k:Nat) (b:List UInt8),(kj k b).1=0 →(kj k b).2.length≤k∧∀p∈(kj k b).2,p.1<4294967296∧p.2<9223372036854775808
 | 0,b,h=>by unfold kj at *;split<;>exact⟨Nat.le_refl _,fun p hp=>by cases hp⟩
 | k+1,b,h=>by
  unfold kj at *
  by_cases h0:b=[]
  ·rw[if_pos h0];exact⟨Nat.zero_le _,fun p hp=>by cases hp⟩
  rw[if_neg h0]at h ⊢
  by_cases h1:b.length<4
  ·rw[if_pos h1]at h;simp at h
  rw[if_neg h1]at h ⊢
  by_cases h2:(ji (jd (b.take 4))).2=0
  ·rw[if_pos h2]at h;simp at h
  rw[if_neg h2]at h ⊢
  by_cases h3:(b.drop 4).length<(ji (jd (b.take 4))).2
  ·rw[if_pos h3]at h;simp at h
  rw[if_neg h3]at h ⊢
  by_cases h4:2^(ji (jd (b.take 4))).1-1<jd ((b.drop 4).take (ji (jd (b.take 4))).2)
  ·rw[if_pos h4]at h;simp at h
  rw[if_neg h4]at h ⊢
  by_cases h5:(kj k ((b.drop 4).drop (ji (jd (b.take 4))).2)).1=0
  ·rw[if_pos h5];obtain⟨q1,q2⟩:=a7h k _ h5;refine⟨by rw[List.length_cons];omega,fun p hp=>?_⟩;rcases List.mem_cons.1 hp with rfl|hp
   ·have hk:=ah2 (b.take 4);rw[List.length_take,Nat.min_eq_left om]at hk;have hM:2^(ji (jd (b.take 4))).1≤2^63:=Nat.pow_le_pow_right dc (apv _).1;exact⟨hk,by dsimp only;omega⟩
   ·exact q2 p hp
  ·rw[if_neg h5]at h;exact absurd h h5
theorem bij (b:List UInt8) (h:(afu b).1=0):(afu b).2.2.length≤32∧∀p∈(afu b).2.2,p.1<4294967296∧p.2<9223372036854775808:=by
 unfold afu at *
 split at h
 ·simp at h
 rename_i h0;rw[if_neg h0]
 split at h
 ·rename_i h1;rw[if_pos h1]
  split at h
  ·rename_i h4;rw[if_pos h4];exact a7h _ _ h4
  ·rename_i h4;exact absurd h h4
 ·rename_i h1;exact absurd h h1
def ap2 (p:Nat×Nat):List Int:=[(p.1:Int),(p.2:Int)]
theorem a9w (L:List (Nat×Nat)):ae5 L=(L.map ap2).flatMap qp:=by
 induction L with
 | nil=>rfl
 | cons p L ih=>simp only[ae5,List.flatMap_cons,List.map_cons]at *;rw[ih];rfl
theorem a14 {Q0:Nat→Prop} {w:World} (mb:Nat) (X:Option Addr) (d:Nat) (b:List UInt8) (id:Int) (hm:Blk w mb (ubZ 2)) (hB:qf Q0 w X (bsV b)) (hl:b.length≤1000000) (hd:b.length≤d) :
 Calls prog 268 #[.agg #[],.pointer (some ⟨mb,0,none⟩),.slice X b.length d,.int .i64 id] w (UTk mb (ab0 b).1 {aao with kd:=2,tw:=(ab0 b).2.1,X:=(ab0 b).2.2.map abn} w):=by
 have HT:∀W,Below w.1.size w W→Hid (Calls prog 269 #[.slice X b.length d] W (anu (ab0 b) W)):=fun W hW=>hid (awb X d b (hB.lt.below hW (fun b q=>q.2)) hl hd)
 have HOK:=hid (be6 b);obtain⟨⟨E,t0,L⟩,hr⟩:∃r,ab0 b=r:=⟨_,rfl⟩;rw[hr]at HT HOK ⊢;unfold anu at HT;dsimp only at *;clear hr;have HM:∀W,Below w.1.size w W→Hid (Blk W mb (ubZ 2)):=fun W hW=>hid (hm.on hW)
 have HMB:=hid hm.lt;clear hm hB;go_enter func268,ntmps268;go_wp2_with fail;refine(HT _ (qa _ _)).out.mono ?_;rintro e w1 ⟨A,c,rfl,hf,hb⟩;have HB1:=hid (qb (qa _ _) hb);have HM1:=HM w1 (qb (qa _ _) hb);have g0:=HM1.out.cell 33 (v:=.int .i64 0) rfl;have z0:=HM1.out.fz 33;have g1:=HM1.out.cell 34 (v:=.slice none 0 0) rfl;have z1:=HM1.out.fz 34;have HFQ:Hid (qf (fun b=>w.1.size≤b∧b<w1.1.size) w1 A (afm L)):=hid (hf.less fun b q=>⟨Nat.le_trans (qa w _).size q.1,q.2⟩);clear hf;clear hb HM HT;go_wp2_with fail;go_ret;have hs:qz w1 ((w1.setCell ⟨mb,33,none⟩ (.int .i64 t0)).setCell ⟨mb,34,none⟩ (.slice A L.length c)) mb 33 [.int .i64 t0,.slice A L.length c]:=qm (cs:=[.int .i64 t0,.slice A L.length c]) (HM1.out.there 33 2 dc)
 have hk:Blk ((w1.setCell ⟨mb,33,none⟩ (.int .i64 t0)).setCell ⟨mb,34,none⟩ (.slice A L.length c)) mb (ubC 2 ky t0 (.slice A L.length c) aht ahs 0 (.slice none 0 0)):=by
  have:=HM1.out.put (A:=[.int .i64 2]++ky) (M:=[.int .i64 0,.slice none 0 0]) (D:=aht ++(ahs ++([.int .i64 0]++[.slice none 0 0]))) (cs:=[.int .i64 t0,.slice A L.length c]) hs rfl rfl;exact this
 refine⟨rfl,(qn.of_below HB1.out (fun k q=>q.1)).stored hs (fun q=>q.2 rfl),_,hk,rfl,fun hE=>?_⟩;obtain⟨q1,q2⟩:=HOK.out hE
 have hsl:aar 162 7 (fun b=>w.1.size≤b∧b<((w1.setCell ⟨mb,33,none⟩ (.int .i64 t0)).setCell ⟨mb,34,none⟩ (.slice A L.length c)).1.size) ((w1.setCell ⟨mb,33,none⟩ (.int .i64 t0)).setCell ⟨mb,34,none⟩ (.slice A L.length c)) (.slice A L.length c) (L.map abn):=
  aqv dc (fun v h1 h2=>bj5 h1 h2) L q1 ((HFQ.out.keep fun k hk=>hs.far k (by have:=HMB.out;have:=hk.1;omega)).less fun k hk=>⟨hk.1,by have:=hk.2;simpa using this⟩) (by unfold maxLen;omega)
 exact⟨_,_,_,_,_,rfl,aki,hsl,akg,akf,vg⟩
theorem a6h {Q0:Nat→Prop} {w:World} (mb:Nat) (X:Option Addr) (d:Nat) (b:List UInt8) (id:Int) (hm:Blk w mb (ubZ 3)) (hB:qf Q0 w X (bsV b)) (hl:b.length≤1000000) (hd:b.length≤d) :
 Calls prog 276 #[.agg #[],.pointer (some ⟨mb,0,none⟩),.slice X b.length d,.int .i64 id] w (UTk mb (ag4 b).1 {aao with kd:=3,D:=abn (ag4 b).2} w):=by
 have HT:∀W,Below w.1.size w W→Hid (Calls prog 277 #[.slice X b.length d] W fun e w'=>e=.returned (.tuple #[.agg (qp (ag4 b).2).toArray,.int .i64 (ag4 b).1])∧Below W.1.size W w'):=fun W hW=>hid (ayq X d b (hB.lt.below hW (fun b q=>q.2)) hl)
 have hln:(ag4 b).2.length=8:=by
  unfold ag4
  split
  ·rename_i h;exact abo h
  ·rfl
 have HOK:Hid ((ag4 b).1=0→InI (ag4 b).2):=hid (fun h=>by
  unfold ag4 at *
  split at h
  ·rename_i h0;rw[if_pos h0];exact ahl apj h0
  ·rename_i h0;exact absurd h h0)
 obtain⟨⟨E,v⟩,hr⟩:∃r,ag4 b=r:=⟨_,rfl⟩;rw[hr]at HT HOK hln ⊢;dsimp only at *
 obtain⟨x0,x1,x2,x3,x4,x5,x6,x7,rfl⟩:∃x0 x1 x2 x3 x4 x5 x6 x7,v=[x0,x1,x2,x3,x4,x5,x6,x7]:=by
  rcases v with _|⟨x0,_|⟨x1,_|⟨x2,_|⟨x3,_|⟨x4,_|⟨x5,_|⟨x6,_|⟨x7,_|⟨z,_⟩⟩⟩⟩⟩⟩⟩⟩⟩<;>first|exact⟨_,_,_,_,_,_,_,_,rfl⟩|(simp at hln)
 replace HT:∀W,Below w.1.size w W→Hid (Calls prog 277 #[.slice X b.length d] W fun e w'=>e=.returned (.tuple #[.agg #[.int .i64 x0,.int .i64 x1,.int .i64 x2,.int .i64 x3,.int .i64 x4,.int .i64 x5,.int .i64 x6,.int .i64 x7],.int .i64 E])∧Below W.1.size W w'):=HT;clear hr hln;have HM:∀W,Below w.1.size w W→Hid (Blk W mb (ubZ 3)):=fun W hW=>hid (hm.on hW)
 have HMB:=hid hm.lt;clear hm hB;go_enter func276,ntmps276;go_wp2_with fail;refine(HT _ (qa _ _)).out.mono ?_;rintro e w1 ⟨rfl,hb⟩;have HB1:=hid (qb (qa _ _) hb);have HM1:=HM w1 (qb (qa _ _) hb);have g0:=HM1.out.cell 35 (v:=.int .i64 0) rfl;have z0:=HM1.out.fz 35;have g1:=HM1.out.cell 36 (v:=.int .i64 0) rfl;have z1:=HM1.out.fz 36;have g2:=HM1.out.cell 37 (v:=.int .i64 0) rfl;have z2:=HM1.out.fz 37;have g3:=HM1.out.cell 38 (v:=.int .i64 0) rfl;have z3:=HM1.out.fz 38;have g4:=HM1.out.cell 39 (v:=.int .i64 0) rfl;have z4:=HM1.out.fz 39;have g5:=HM1.out.cell 40 (v:=.int .i64 0) rfl;have z5:=HM1.out.fz 40;have g6:=HM1.out.cell 41 (v:=.int .i64 0) rfl;have z6:=HM1.out.fz 41;have g7:=HM1.out.cell 42 (v:=.int .i64 0) rfl;have z7:=HM1.out.fz 42;clear hb HM HT;go_wp2_with fail;go_ret;have hs:qz w1 ((((((((w1.setCell ⟨mb,35,none⟩ (.int .i64 x0)).setCell ⟨mb,36,none⟩ (.int .i64 x1)).setCell ⟨mb,37,none⟩ (.int .i64 x2)).setCell ⟨mb,38,none⟩ (.int .i64 x3)).setCell ⟨mb,39,none⟩ (.int .i64 x4)).setCell ⟨mb,40,none⟩ (.int .i64 x5)).setCell ⟨mb,41,none⟩ (.int .i64 x6)).setCell ⟨mb,42,none⟩ (.int .i64 x7)) mb 35 [.int .i64 x0,.int .i64 x1,.int .i64 x2,.int .i64 x3,.int .i64 x4,.int .i64 x5,.int .i64 x6,.int .i64 x7]:=qm (cs:=[.int .i64 x0,.int .i64 x1,.int .i64 x2,.int .i64 x3,.int .i64 x4,.int .i64 x5,.int .i64 x6,.int .i64 x7]) (HM1.out.there 35 8 dc)
 have hk:Blk ((((((((w1.setCell ⟨mb,35,none⟩ (.int .i64 x0)).setCell ⟨mb,36,none⟩ (.int .i64 x1)).setCell ⟨mb,37,none⟩ (.int .i64 x2)).setCell ⟨mb,38,none⟩ (.int .i64 x3)).setCell ⟨mb,39,none⟩ (.int .i64 x4)).setCell ⟨mb,40,none⟩ (.int .i64 x5)).setCell ⟨mb,41,none⟩ (.int .i64 x6)).setCell ⟨mb,42,none⟩ (.int .i64 x7)) mb (ubC 3 ky 0 (.slice none 0 0) [.int .i64 x0,.int .i64 x1,.int .i64 x2,.int .i64 x3,.int .i64 x4,.int .i64 x5,.int .i64 x6,.int .i64 x7] ahs 0 (.slice none 0 0)):=by
  have:=HM1.out.put (A:=[.int .i64 3] ++(ky ++([.int .i64 0]++[.slice none 0 0]))) (M:=aht) (D:=ahs ++([.int .i64 0]++[.slice none 0 0])) (cs:=[.int .i64 x0,.int .i64 x1,.int .i64 x2,.int .i64 x3,.int .i64 x4,.int .i64 x5,.int .i64 x6,.int .i64 x7]) hs rfl rfl;exact this
 refine⟨rfl,(qn.of_below HB1.out (fun k q=>q.1)).stored hs (fun q=>q.2 rfl),_,hk,rfl,fun hE=>?_⟩;exact⟨_,_,_,_,_,rfl,aki,vg,a4c rfl (HOK.out hE),akf,vg⟩
theorem a6g {Q0:Nat→Prop} {w:World} (mb:Nat) (X:Option Addr) (d:Nat) (b:List UInt8) (id:Int) (hm:Blk w mb (ubZ 4)) (hB:qf Q0 w X (bsV b)) (hl:b.length≤1000000) (hd:b.length≤d) :
 Calls prog 282 #[.agg #[],.pointer (some ⟨mb,0,none⟩),.slice X b.length d,.int .i64 id] w (UTk mb (af1 b).1 {aao with kd:=4,A:=.bool (id==1)::abn (af1 b).2} w):=by
 have HT:∀W,Below w.1.size w W→Hid (Calls prog 283 #[.slice X b.length d,.bool (id==1)] W fun e w'=>e=.returned (.tuple #[.agg (.bool ((id==1) && decide ((af1 b).1=0))::qp (af1 b).2).toArray,.int .i64 (af1 b).1])∧Below W.1.size W w'):=fun W hW=>hid (ax1 X d b (id==1) (hB.lt.below hW (fun b q=>q.2)) hl)
 have hln:(af1 b).2.length=2:=by
  unfold af1
  split
  ·rename_i h;exact abo h
  ·rfl
 have HOK:Hid ((af1 b).1=0→InI (af1 b).2):=hid (fun h=>by
  unfold af1 at *
  split at h
  ·rename_i h0;rw[if_pos h0];exact ahl aoq h0
  ·rename_i h0;exact absurd h h0)
 obtain⟨⟨E,v⟩,hr⟩:∃r,af1 b=r:=⟨_,rfl⟩;rw[hr]at HT HOK hln ⊢;dsimp only at *
 obtain⟨x0,x1,rfl⟩:∃x0 x1,v=[x0,x1]:=by
  rcases v with _|⟨x0,_|⟨x1,_|⟨z,_⟩⟩⟩<;>first|exact⟨_,_,rfl⟩|(simp at hln)
 obtain⟨yy,hyy⟩:∃yy,((id==1) && decide (E=0))=yy:=⟨_,rfl⟩;rw[hyy]at HT;have HYY:=hid hyy;replace HT:∀W,Below w.1.size w W→Hid (Calls prog 283 #[.slice X b.length d,.bool (id==1)] W fun e w'=>e=.returned (.tuple #[.agg #[.bool yy,.int .i64 x0,.int .i64 x1],.int .i64 E])∧Below W.1.size W w'):=HT;clear hr hln hyy;have HM:∀W,Below w.1.size w W→Hid (Blk W mb (ubZ 4)):=fun W hW=>hid (hm.on hW)
 have HMB:=hid hm.lt;clear hm hB;go_enter func282,ntmps282;go_wp2_with fail;refine(HT _ (qa _ _)).out.mono ?_;rintro e w1 ⟨rfl,hb⟩;have HB1:=hid (qb (qa _ _) hb);have HM1:=HM w1 (qb (qa _ _) hb);have g0:=HM1.out.cell 43 (v:=.bool false) rfl;have z0:=HM1.out.fz 43;have g1:=HM1.out.cell 44 (v:=.int .i64 0) rfl;have z1:=HM1.out.fz 44;have g2:=HM1.out.cell 45 (v:=.int .i64 0) rfl;have z2:=HM1.out.fz 45;clear hb HM HT;go_wp2_with fail;go_ret;have hs:qz w1 (((w1.setCell ⟨mb,43,none⟩ (.bool yy)).setCell ⟨mb,44,none⟩ (.int .i64 x0)).setCell ⟨mb,45,none⟩ (.int .i64 x1)) mb 43 [.bool yy,.int .i64 x0,.int .i64 x1]:=qm (cs:=[.bool yy,.int .i64 x0,.int .i64 x1]) (HM1.out.there 43 3 dc)
 have hk:Blk (((w1.setCell ⟨mb,43,none⟩ (.bool yy)).setCell ⟨mb,44,none⟩ (.int .i64 x0)).setCell ⟨mb,45,none⟩ (.int .i64 x1)) mb (ubC 4 ky 0 (.slice none 0 0) aht [.bool yy,.int .i64 x0,.int .i64 x1] 0 (.slice none 0 0)):=by
  have:=HM1.out.put (A:=[.int .i64 4] ++(ky ++([.int .i64 0] ++([.slice none 0 0]++aht)))) (M:=ahs) (D:=[.int .i64 0]++[.slice none 0 0]) (cs:=[.bool yy,.int .i64 x0,.int .i64 x1]) hs rfl rfl;exact this
 refine⟨rfl,(qn.of_below HB1.out (fun k q=>q.1)).stored hs (fun q=>q.2 rfl),_,hk,rfl,fun hE=>?_⟩;have hy:yy=(id==1):=by rw[← HYY.out,hE];simp
 have hi:=HOK.out hE;refine⟨_,_,_,_,_,rfl,aki,vg,akg,?_,vg⟩;rw[hy];exact a4b (hi x0 sm) (hi x1 sm)
theorem a6j {Q0:Nat→Prop} {w:World} (mb:Nat) (X:Option Addr) (d:Nat) (b:List UInt8) (id:Int) (hm:Blk w mb (ubZ 5)) (hB:qf Q0 w X (bsV b)) (hl:b.length≤1000000) (hd:b.length≤d) :
 Calls prog 288 #[.agg #[],.pointer (some ⟨mb,0,none⟩),.slice X b.length d,.int .i64 id] w (UTk mb (afu b).1 {aao with kd:=5,ly:=(afu b).2.1,Y:=(afu b).2.2.map fun p=>abn (ap2 p)} w):=by
 have HT:∀W,Below w.1.size w W→Hid (Calls prog 289 #[.slice X b.length d] W (aud (afu b) W)):=fun W hW=>hid (a2a X d b (hB.lt.below hW (fun b q=>q.2)) hl hd)
 have HOK:=hid (bij b);obtain⟨⟨E,t0,L⟩,hr⟩:∃r,afu b=r:=⟨_,rfl⟩;rw[hr]at HT HOK ⊢;unfold aud at HT;dsimp only at *;clear hr;have HM:∀W,Below w.1.size w W→Hid (Blk W mb (ubZ 5)):=fun W hW=>hid (hm.on hW)
 have HMB:=hid hm.lt;clear hm hB;go_enter func288,ntmps288;go_wp2_with fail;refine(HT _ (qa _ _)).out.mono ?_;rintro e w1 ⟨A,c,rfl,hf,hb⟩;have HB1:=hid (qb (qa _ _) hb);have HM1:=HM w1 (qb (qa _ _) hb);have g0:=HM1.out.cell 46 (v:=.int .i64 0) rfl;have z0:=HM1.out.fz 46;have g1:=HM1.out.cell 47 (v:=.slice none 0 0) rfl;have z1:=HM1.out.fz 47;have HFQ:Hid (qf (fun b=>w.1.size≤b∧b<w1.1.size) w1 A (ae5 L)):=hid (hf.less fun b q=>⟨Nat.le_trans (qa w _).size q.1,q.2⟩);clear hf;clear hb HM HT;go_wp2_with fail;go_ret;have hs:qz w1 ((w1.setCell ⟨mb,46,none⟩ (.int .i64 t0)).setCell ⟨mb,47,none⟩ (.slice A L.length c)) mb 46 [.int .i64 t0,.slice A L.length c]:=qm (cs:=[.int .i64 t0,.slice A L.length c]) (HM1.out.there 46 2 dc)
 have hk:Blk ((w1.setCell ⟨mb,46,none⟩ (.int .i64 t0)).setCell ⟨mb,47,none⟩ (.slice A L.length c)) mb (ubC 5 ky 0 (.slice none 0 0) aht ahs t0 (.slice A L.length c)):=by
  have:=HM1.out.put (A:=[.int .i64 5] ++(ky ++([.int .i64 0] ++([.slice none 0 0] ++(aht++ahs))))) (M:=[.int .i64 0,.slice none 0 0]) (D:=[]) (cs:=[.int .i64 t0,.slice A L.length c]) hs rfl rfl;exact this
 refine⟨rfl,(qn.of_below HB1.out (fun k q=>q.1)).stored hs (fun q=>q.2 rfl),_,hk,rfl,fun hE=>?_⟩;obtain⟨q1,q2⟩:=HOK.out hE
 have hsl:aar 164 2 (fun b=>w.1.size≤b∧b<((w1.setCell ⟨mb,46,none⟩ (.int .i64 t0)).setCell ⟨mb,47,none⟩ (.slice A L.length c)).1.size) ((w1.setCell ⟨mb,46,none⟩ (.int .i64 t0)).setCell ⟨mb,47,none⟩ (.slice A L.length c)) (.slice A L.length c) (L.map fun p=>abn (ap2 p)):=by
  have h1:=aqv (t:=164) (m:=2) (Q:=fun b=>w.1.size≤b∧b<((w1.setCell ⟨mb,46,none⟩ (.int .i64 t0)).setCell ⟨mb,47,none⟩ (.slice A L.length c)).1.size) (w:=(w1.setCell ⟨mb,46,none⟩ (.int .i64 t0)).setCell ⟨mb,47,none⟩ (.slice A L.length c)) (A:=A) (c:=c) dc (fun v h1 h2=>bg5 h1 h2) (L.map ap2) (fun v hv=>by
   obtain⟨p,hp,rfl⟩:=List.mem_map.1 hv;have:=q2 p hp;refine⟨rfl,fun n hn=>?_⟩;simp only[ap2,List.mem_cons,List.not_mem_nil,or_false]at hn;rcases hn with rfl|rfl<;>omega) (by rw[← a9w];exact(HFQ.out.keep fun k hk=>hs.far k (by have:=HMB.out;have:=hk.1;omega)).less fun k hk=>⟨hk.1,by have:=hk.2;simpa using this⟩) (by rw[List.length_map];unfold maxLen;omega)
  rw[List.length_map,List.map_map]at h1;exact h1
 exact⟨_,_,_,_,_,rfl,aki,vg,akg,akf,hsl⟩
