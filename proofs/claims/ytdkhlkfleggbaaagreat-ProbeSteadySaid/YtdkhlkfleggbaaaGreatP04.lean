/- Structs compared part by part. Printed by genchain.py. -/
import Derived.Test.YtdkhlkfleggbaaaGreatP00
import Derived.Test.YtdkhlkfleggbaaaGreatP02
import Derived.Test.YtdkhlkfleggbaaaGreatP03
namespace Go.Proofs.YtdkhlkfleggbaaaGreat
set_option maxHeartbeats 1000000
set_option maxRecDepth 8000
open Lib (hid)
set_option linter.unusedVariables false
open Go.RowKit
structure adr where
 kd:Int
 P:List Lit
 tw:Int
 X:List (List Lit)
 D:List Lit
 A:List Lit
 ly:Int
 Y:List (List Lit)
structure af8 where
 sq:Int
 sy:Int
 cm:Int
 id:Int
 V:List (List Lit)
def afd (t:TypeId) (size:Nat) (w:World) (v:Value) (X:List (List Lit)):Prop:=∃A c,v=.slice A X.length c∧SlK t size (fun b=>b<w.heap.size) w A X∧X.length≤maxLen
theorem afd.on {t:TypeId} {size:Nat} {w w':World} {v:Value} {X:List (List Lit)} (h:afd t size w v X) (hb:Below w.heap.size w w'):afd t size w' v X:=by
 obtain⟨A,c,rfl,h,hl⟩:=h
 refine⟨A,c,rfl,fun k hk=>?_,hl⟩
 obtain⟨b,off,L,h1,h2,h3,h4⟩:=h.below hb (fun _ q=>q) k hk
 exact⟨b,off,L,h1,Nat.lt_of_lt_of_le h2 hb.size,h3,h4⟩
def a68 (w:World) (L:List Value) (u:adr):Prop:=∃P ss D A sp,L=[Value.int .i64 u.kd] ++(P ++([Value.int .i64 u.tw] ++([ss] ++(D ++(A ++([Value.int .i64 u.ly] ++([sp])))))))∧KV 26 P u.P∧afd 162 7 w ss u.X∧KV 31 D u.D∧KV 33 A u.A∧afd 164 2 w sp u.Y
def a8o (w:World) (L:List Value) (p:af8):Prop:=∃vs,L=[Value.int .i64 p.sq] ++([Value.int .i64 p.sy] ++([Value.int .i64 p.cm] ++([Value.int .i64 p.id] ++([vs]))))∧afd 2 1 w vs p.V
theorem avd {P:List Value} {l:List Lit} (h:KV 26 P l):P.length=32:=(h.struct_len Tryz.underlying26).trans (by kernel_rfl)
theorem asx {P:List Value} {l:List Lit} (h:KV 31 P l):P.length=8:=(h.struct_len Tryz.underlying31).trans (by kernel_rfl)
theorem at5 {P:List Value} {l:List Lit} (h:KV 33 P l):P.length=3:=(h.struct_len Tryz.underlying33).trans (by kernel_rfl)
theorem a8o.on {w w':World} {L:List Value} {a:af8} (h:a8o w L a) (hb:Below w.heap.size w w'):a8o w' L a:=by
 obtain⟨ls,e,h1⟩:=h
 exact⟨ls,e,h1.on hb⟩
theorem a68.on {w w':World} {L:List Value} {a:adr} (h:a68 w L a) (hb:Below w.heap.size w w'):a68 w' L a:=by
 obtain⟨P,ss,D,A,sp,e,h1,h2,h3,h4,h5⟩:=h
 exact⟨P,ss,D,A,sp,e,h1,h2.on hb,h3,h4,h5.on hb⟩
def ay0 (u v:adr):Bool:=(u.kd==v.kd) && (decide (u.P=v.P) && (decide (u.D=v.D) && (decide (u.A=v.A) && ((u.tw==v.tw) && (decide (u.X=v.X) && ((u.ly==v.ly) && decide (u.Y=v.Y)))))))
def bag (a b:af8):Bool:=(a.sq==b.sq) && ((a.sy==b.sy) && ((a.cm==b.cm) && ((a.id==b.id) && decide (a.V=b.V))))
def avh (f:Nat) (v v':Value) (b:Bool) (w:World):Prop:=Calls Tryz.prog f #[v,v'] w fun e w'=>e=.returned (.bool b)∧Below w.heap.size w w'
theorem a1b {f:Nat} {t:TypeId} {size:Nat} (hf:∀(A B:Option Addr) (n m c d:Nat) (X Y:List (List Lit)) (w:World),Hid (X.length=n)→Hid (Y.length=m)→Hid (SlK t size (fun b=>b<w.heap.size) w A X)→Hid (SlK t size (fun b=>b<w.heap.size) w B Y)→n≤maxLen→m≤maxLen →
      Calls Tryz.prog f #[.slice A n c,.slice B m d] w fun e w'=>e=.returned (.bool (decide (X=Y)))∧Below w.heap.size w w')
 {w:World} {v v':Value} {X Y:List (List Lit)} (h:afd t size w v X) (h':afd t size w v' Y):avh f v v' (decide (X=Y)) w:=by
 obtain⟨A,c,rfl,h1,h2⟩:=h
 obtain⟨B,d,rfl,h3,h4⟩:=h'
 exact hf A B _ _ c d X Y w rfl rfl h1 h3 h2 h4
theorem azj {w:World} {L M:List Value} {u v:adr} (h:a68 w L u) (h':a68 w M v):avh 27 (.agg L.toArray) (.agg M.toArray) (ay0 u v) w:=by
 obtain⟨P,ss,D,A,sp,rfl,h1,h2,h3,h4,h5⟩:=h
 obtain⟨P',ss',D',A',sp',rfl,k1,k2,k3,k4,k5⟩:=h'
 have hs:∀W,Below w.heap.size w W→avh 47 (.agg [Value.int .i64 u.tw,ss].toArray) (.agg [Value.int .i64 v.tw,ss'].toArray) ((u.tw==v.tw) && decide (u.X=v.X)) W:=fun W hb=>by
  obtain⟨B,c,rfl,q1,q2⟩:=h2.on hb
  obtain⟨B',c',rfl,q3,q4⟩:=k2.on hb
  exact a0y u.tw v.tw B B' _ _ c c' u.X v.X W rfl rfl q1 q3 q2 q4
 have hp:∀W,Below w.heap.size w W→avh 48 (.agg [Value.int .i64 u.ly,sp].toArray) (.agg [Value.int .i64 v.ly,sp'].toArray) ((u.ly==v.ly) && decide (u.Y=v.Y)) W:=fun W hb=>by
  obtain⟨B,c,rfl,q1,q2⟩:=h5.on hb
  obtain⟨B',c',rfl,q3,q4⟩:=k5.on hb
  exact a2z u.ly v.ly B B' _ _ c c' u.Y v.Y W rfl rfl q1 q3 q2 q4
 have e:ay0 u v=((u.kd==v.kd) && (decide (u.P=v.P) && (((u.tw==v.tw) && decide (u.X=v.X)) && (decide (u.D=v.D) && (decide (u.A=v.A) && ((u.ly==v.ly) && decide (u.Y=v.Y))))))):=by
  unfold ay0
  generalize (u.kd==v.kd)=b0
  generalize decide (u.P=v.P)=b1
  generalize (u.tw==v.tw)=b2
  generalize decide (u.X=v.X)=b3
  generalize decide (u.D=v.D)=b4
  generalize decide (u.A=v.A)=b5
  generalize (u.ly==v.ly)=b6
  generalize decide (u.Y=v.Y)=b7
  cases b0<;>cases b1<;>cases b2<;>cases b3<;>cases b4<;>cases b5<;>cases b6<;>rfl
 rw[e]
 exact a2l (Z:=[Value.int .i64 u.tw,ss]) (Zq:=[Value.int .i64 v.tw,ss']) (Y:=[Value.int .i64 u.ly,sp]) (Yq:=[Value.int .i64 v.ly,sp'])
  (avd h1) (avd k1) rfl rfl (asx h3) (asx k3) (at5 h4) (at5 k4) rfl rfl rfl
  (hid fun W=>atw (m:=10) Tryz.underlying26 (by kernel_rfl) (by decide) h1 k1 W)
  (hid hs)
  (hid fun W=>atw (m:=10) Tryz.underlying31 (by kernel_rfl) (by decide) h3 k3 W)
  (hid fun W=>atw (m:=10) Tryz.underlying33 (by kernel_rfl) (by decide) h4 k4 W)
  (hid hp)
theorem azm {w:World} {L M:List Value} {a b:af8} (h:a8o w L a) (h':a8o w M b):avh 29 (.agg L.toArray) (.agg M.toArray) (bag a b) w:=by
 obtain⟨ls,rfl,h1⟩:=h
 obtain⟨ls',rfl,k1⟩:=h'
 exact a1v rfl rfl rfl rfl (hid fun W hb=>a1b a1x (h1.on hb) (k1.on hb))
def aaz (v:List Int):List Lit:=v.map (Lit.int .i64)
def InI (v:List Int):Prop:=∀n∈v,-9223372036854775808≤n∧n≤9223372036854775807
theorem bd4 (n:Nat) (s:Bool) (h1:1≤n) (h8:n≤8):-9223372036854775808≤a6v n s:=by
 have:n=1∨n=2∨n=3∨n=4∨n=5∨n=6∨n=7∨n=8:=by omega
 cases s<;>rcases this with rfl|rfl|rfl|rfl|rfl|rfl|rfl|rfl<;>decide
theorem bef (n:Nat) (s:Bool) (h1:1≤n) (h8:n≤8):a7w n s≤9223372036854775807:=by
 have:n=1∨n=2∨n=3∨n=4∨n=5∨n=6∨n=7∨n=8:=by omega
 cases s<;>rcases this with rfl|rfl|rfl|rfl|rfl|rfl|rfl|rfl<;>decide
theorem arc:∀(l:List Fld) (b:List UInt8) {v:List Int},l.all v9=true→yl l b=some v→InI v
 | [],_,v,_,h=>by cases h;intro n hn;cases hn
 | f::l,b,v,hr,h=>by
  rw[List.all_cons,Bool.and_eq_true]at hr
  unfold yl at h
  split at h
  ·rename_i hx
   obtain⟨v',h',rfl⟩:=Option.map_eq_some_iff.1 h
   have h1:=hr.1
   simp only[v9,Bool.and_eq_true,decide_eq_true_eq]at h1
   have hl:=bd4 f.sz f.sg h1.1 h1.2.1
   have hh:=bef f.sz f.sg h1.1 h1.2.1
   intro n hn
   rcases List.mem_cons.1 hn with rfl|hn
   ·omega
   ·exact arc l _ hr.2 h' n hn
  ·cases h
theorem af2 {fs:List Fld} {b:List UInt8} (hr:fs.all v9=true) (h:(zy fs b).1=0):InI (zy fs b).2:=arc fs b hr (ai0 h)
theorem agb (n:Nat):InI (List.replicate n 0):=fun x hx=>by rw[(List.mem_replicate.1 hx).2];omega
theorem ab9:Tryz.prog.cellsOf 2=1:=by kernel_rfl
theorem a2o {v:List Int} (hl:v.length=32) (h:InI v):KV 26 (qo v) (aaz v):=
 aiv Tryz.underlying26 Tryz.underlying2 ab9 (by decide) (by decide +kernel) (by kernel_rfl) v hl (fun n hn=>akj (h n hn))
theorem a30 {v:List Int} (hl:v.length=8) (h:InI v):KV 31 (qo v) (aaz v):=
 aiv Tryz.underlying31 Tryz.underlying2 ab9 (by decide) (by decide +kernel) (by kernel_rfl) v hl (fun n hn=>akj (h n hn))
theorem bhd {v:List Int} (hl:v.length=7) (h:InI v):KV 162 (qo v) (aaz v):=
 aiv Tryz.underlying162 Tryz.underlying2 ab9 (by decide) (by decide +kernel) (by kernel_rfl) v hl (fun n hn=>akj (h n hn))
theorem bcm {v:List Int} (hl:v.length=2) (h:InI v):KV 164 (qo v) (aaz v):=
 aiv Tryz.underlying164 Tryz.underlying2 ab9 (by decide) (by decide +kernel) (by kernel_rfl) v hl (fun n hn=>akj (h n hn))
theorem bgu {n:Int} (h:-9223372036854775808≤n∧n≤9223372036854775807):KV 2 [.int .i64 n] [.int .i64 n]:=⟨1,by
 simp only[Program.keyLits,Tryz.underlying2]
 rw[if_pos (by simp[akj h])]⟩
theorem a1r {y:Bool} {c i:Int} (hc:-9223372036854775808≤c∧c≤9223372036854775807) (hi:-9223372036854775808≤i∧i≤9223372036854775807):KV 33 [.bool y,.int .i64 c,.int .i64 i] [.bool y,.int .i64 c,.int .i64 i]:=by
 have hb:∀D,Tryz.prog.keyLits (D+1) 4 [.bool y]=some [.bool y]:=fun D=>by simp only[Program.keyLits,Tryz.underlying4]
 have hn:∀D n,(-9223372036854775808≤n∧n≤9223372036854775807)→Tryz.prog.keyLits (D+1) 2 [.int .i64 n]=some [.int .i64 n]:=fun D n h=>by
  simp only[Program.keyLits,Tryz.underlying2]
  rw[if_pos (by simp[akj h])]
 have c1:Tryz.prog.cellsOf 4=1:=by kernel_rfl
 refine⟨0+1+1,(af7 (p:=[[.bool y],[.int .i64 c],[.int .i64 i]]) Tryz.underlying33 (by decide +kernel) (by kernel_rfl) ?_)⟩
 simp only[List.mapM_cons,List.mapM_nil,c1,ab9,List.drop_zero,List.take_succ_cons,List.take_zero,List.drop_succ_cons,hb,hn 0 c hc,hn 0 i hi]
 rfl
theorem ay5 {α:Type} (g:α→List Value) (m:Nat):∀(l:List α) (_:∀x∈l,(g x).length=m) (k:Nat) (h:k<l.length) (j:Nat),j<m →(l.flatMap g)[k*m+j]?=(g l[k])[j]?
 | [],_,k,h,_,_=>absurd h (Nat.not_lt_zero _)
 | x::l,hg,0,_,j,hj=>by
  rw[List.flatMap_cons,Nat.zero_mul,Nat.zero_add,List.getElem?_append_left (by rw[hg x (List.mem_cons_self ..)];exact hj)];rfl
 | x::l,hg,k+1,h,j,hj=>by
  have hx:=hg x (List.mem_cons_self ..)
  rw[List.flatMap_cons,List.getElem?_append_right (by rw[hx,Nat.succ_mul];omega),hx,show (k+1)*m+j-m=k*m+j from by rw[Nat.succ_mul];omega]
  exact ay5 g m l (fun y hy=>hg y (List.mem_cons_of_mem _ hy)) k (by simpa using h) j hj
def yv (t:TypeId) (size:Nat) (Q:Nat→Prop) (w:World) (v:Value) (X:List (List Lit)):Prop:=∃A c,v=.slice A X.length c∧SlK t size Q w A X∧X.length≤maxLen
theorem yv.toV {t:TypeId} {size:Nat} {Q:Nat→Prop} {w:World} {v:Value} {X:List (List Lit)} (h:yv t size Q w v X) (hq:∀b,Q b→b<w.heap.size):afd t size w v X:=by
 obtain⟨A,c,rfl,h1,h2⟩:=h
 refine⟨A,c,rfl,fun k hk=>?_,h2⟩
 obtain⟨b,off,L,q1,q2,q3⟩:=h1 k hk
 exact⟨b,off,L,q1,hq b q2,q3⟩
theorem yv.less {t:TypeId} {size:Nat} {Q R:Nat→Prop} {w:World} {v:Value} {X:List (List Lit)} (h:yv t size Q w v X) (hr:∀b,Q b→R b):yv t size R w v X:=by
 obtain⟨A,c,rfl,h1,h2⟩:=h
 refine⟨A,c,rfl,fun k hk=>?_,h2⟩
 obtain⟨b,off,L,q1,q2,q3⟩:=h1 k hk
 exact⟨b,off,L,q1,hr b q2,q3⟩
theorem yv.keep {t:TypeId} {size:Nat} {Q:Nat→Prop} {w w':World} {v:Value} {X:List (List Lit)} (h:yv t size Q w v X) (hk:∀b,Q b→w'.heap[b]?=w.heap[b]?):yv t size Q w' v X:=by
 obtain⟨A,c,rfl,h1,h2⟩:=h
 refine⟨A,c,rfl,fun k hk'=>?_,h2⟩
 obtain⟨b,off,L,q1,q2,q3,q4⟩:=h1 k hk'
 exact⟨b,off,L,q1,q2,afl q3 (hk b q2),q4⟩
def adl (Q:Nat→Prop) (w:World) (L:List Value) (u:adr):Prop:=∃P ss D A sp,L=[Value.int .i64 u.kd] ++(P ++([Value.int .i64 u.tw] ++([ss] ++(D ++(A ++([Value.int .i64 u.ly] ++([sp])))))))∧KV 26 P u.P∧yv 162 7 Q w ss u.X∧KV 31 D u.D∧KV 33 A u.A∧yv 164 2 Q w sp u.Y
theorem adl.toV {Q:Nat→Prop} {w:World} {L:List Value} {u:adr} (h:adl Q w L u) (hq:∀b,Q b→b<w.heap.size):a68 w L u:=by
 obtain⟨P,ss,D,A,sp,h1,h2,h3,h4,h5,h6⟩:=h
 exact⟨P,ss,D,A,sp,h1,h2,h3.toV hq,h4,h5,h6.toV hq⟩
theorem adl.less {Q R:Nat→Prop} {w:World} {L:List Value} {u:adr} (h:adl Q w L u) (hr:∀b,Q b→R b):adl R w L u:=by
 obtain⟨P,ss,D,A,sp,h1,h2,h3,h4,h5,h6⟩:=h
 exact⟨P,ss,D,A,sp,h1,h2,h3.less hr,h4,h5,h6.less hr⟩
theorem adl.keep {Q:Nat→Prop} {w w':World} {L:List Value} {u:adr} (h:adl Q w L u) (hk:∀b,Q b→w'.heap[b]?=w.heap[b]?):adl Q w' L u:=by
 obtain⟨P,ss,D,A,sp,h1,h2,h3,h4,h5,h6⟩:=h
 exact⟨P,ss,D,A,sp,h1,h2,h3.keep hk,h4,h5,h6.keep hk⟩
theorem adl.len {Q:Nat→Prop} {w:World} {L:List Value} {u:adr} (h:adl Q w L u):L.length=48:=by
 obtain⟨P,ss,D,A,sp,rfl,h1,-,h2,h3,-⟩:=h
 simp[avd h1,asx h2,at5 h3]
theorem aou {t:TypeId} {m:Nat} {Q:Nat→Prop} (hm:0<m) (hkv:∀v:List Int,v.length=m→InI v→KV t (qo v) (aaz v)) {w:World} {A:Option Addr} {c:Nat} (L:List (List Int)) (hL:∀v∈L,v.length=m∧InI v) (hf:qf Q w A (L.flatMap qo)) (hn:L.length≤maxLen) :
 yv t m Q w (.slice A L.length c) (L.map aaz):=by
 refine⟨A,c,by rw[List.length_map],fun k hk=>?_,by rw[List.length_map];exact hn⟩
 have hk':k<L.length:=by simpa using hk
 have hg:=fun j hj=>ay5 qo m L (fun v hv=>by rw[ja];exact(hL v hv).1) k hk' j hj
 obtain⟨hl,hi⟩:=hL _ (List.getElem_mem hk')
 have hl0:0<(qo L[k]).length:=by rw[ja,hl];exact hm
 obtain⟨b,off,hA,hb,h0⟩:=hf _ _ ((hg 0 hm).trans (List.getElem?_eq_getElem hl0))
 refine⟨b,off,qo L[k],hA,hb,fun j v hv=>?_,by rw[List.getElem_map];exact hkv _ hl hi⟩
 have hj:j<m:=by
  rcases Nat.lt_or_ge j (qo L[k]).length with q|q
  ·rwa [ja,hl]at q
  ·rw[List.getElem?_eq_none q]at hv;cases hv
 obtain⟨b',off',hA',-,h1⟩:=hf _ _ ((hg j hj).trans hv)
 rw[hA]at hA';injection hA' with hA';injection hA' with q1 q2;subst q1 q2
 rw[Nat.add_assoc]
 exact h1
theorem km {t:TypeId} {m:Nat} {Q:Nat→Prop} {w:World}:yv t m Q w (.slice none 0 0) []:=⟨none,0,rfl,fun k hk=>absurd hk (Nat.not_lt_zero _),by unfold maxLen;simp⟩
def agw:List Value:=qo (List.replicate 8 0)
def af4:List Value:=[.bool false,.int .i64 0,.int .i64 0]
def ubC (kd:Int) (P:List Value) (tw:Int) (ss:Value) (D A:List Value) (ly:Int) (sp:Value):List Value:=[.int .i64 kd] ++(P ++([.int .i64 tw] ++([ss] ++(D ++(A ++([.int .i64 ly]++[sp]))))))
def ubZ (kd:Int):List Value:=ubC kd j9 0 (.slice none 0 0) agw af4 0 (.slice none 0 0)
def ym:adr:=⟨0,aaz (List.replicate 32 0),0,[],aaz (List.replicate 8 0),[.bool false,.int .i64 0,.int .i64 0],0,[]⟩
theorem ajg:KV 26 j9 (aaz (List.replicate 32 0)):=a2o rfl (agb 32)
theorem ajl:KV 31 agw (aaz (List.replicate 8 0)):=a30 rfl (agb 8)
theorem ait:KV 33 af4 [.bool false,.int .i64 0,.int .i64 0]:=a1r (by omega) (by omega)
theorem aj6 (Q:Nat→Prop) (w:World) (kd:Int):adl Q w (ubZ kd) {ym with kd:=kd}:=⟨_,_,_,_,_,rfl,ajg,km,ajl,ait,km⟩
def UTk (mb:Nat) (E:Int) (u:adr) (w:World) (e:Ending) (w':World):Prop:=
 e=.returned (.int .i64 E)∧ze (fun k=>k<w.heap.size∧k≠mb) w w'∧∃L,Blk w' mb L∧L.length=48 ∧(E=0→adl (fun b=>w.heap.size≤b∧b<w'.heap.size) w' L u)
theorem a0r (w:World):Calls Tryz.prog 254 #[.agg #[]] w fun e w'=>e=.returned (.int .i64 1)∧Below w.heap.size w w':=by
 go_enter Tryz.func254,Tryz.ntmps254
 go_wp2_with fail
 go_ret
 exact⟨rfl,qa _ _⟩
theorem beq (x:Value) (W:World):(method 526 224 x "landfall/ubx.kind").run Tryz.prog W=.ok (254,x) W:=by kernel_rfl
theorem bea (x:Value) (W:World):(callFunc 254 #[x]).run Tryz.prog W=.ok (.enter 254 #[x]) W:=by kernel_rfl
theorem bc6 (x:Value) (W:World):(method 526 224 x "landfall/ubx.take").run Tryz.prog W=.ok (256,x) W:=by kernel_rfl
theorem beh (x y z t:Value) (W:World):(callFunc 256 #[x,y,z,t]).run Tryz.prog W=.ok (.enter 256 #[x,y,z,t]) W:=by kernel_rfl
theorem axp (w:World):Calls Tryz.prog 266 #[.agg #[]] w fun e w'=>e=.returned (.int .i64 2)∧Below w.heap.size w w':=by
 go_enter Tryz.func266,Tryz.ntmps266
 go_wp2_with fail
 go_ret
 exact⟨rfl,qa _ _⟩
theorem bae (x:Value) (W:World):(method 526 225 x "landfall/ubx.kind").run Tryz.prog W=.ok (266,x) W:=by kernel_rfl
theorem a9y (x:Value) (W:World):(callFunc 266 #[x]).run Tryz.prog W=.ok (.enter 266 #[x]) W:=by kernel_rfl
theorem bbc (x:Value) (W:World):(method 526 225 x "landfall/ubx.take").run Tryz.prog W=.ok (268,x) W:=by kernel_rfl
theorem a91 (x y z t:Value) (W:World):(callFunc 268 #[x,y,z,t]).run Tryz.prog W=.ok (.enter 268 #[x,y,z,t]) W:=by kernel_rfl
theorem a29 (w:World):Calls Tryz.prog 274 #[.agg #[]] w fun e w'=>e=.returned (.int .i64 3)∧Below w.heap.size w w':=by
 go_enter Tryz.func274,Tryz.ntmps274
 go_wp2_with fail
 go_ret
 exact⟨rfl,qa _ _⟩
theorem bc1 (x:Value) (W:World):(method 526 226 x "landfall/ubx.kind").run Tryz.prog W=.ok (274,x) W:=by kernel_rfl
theorem beu (x:Value) (W:World):(callFunc 274 #[x]).run Tryz.prog W=.ok (.enter 274 #[x]) W:=by kernel_rfl
theorem bdy (x:Value) (W:World):(method 526 226 x "landfall/ubx.take").run Tryz.prog W=.ok (276,x) W:=by kernel_rfl
theorem bdn (x y z t:Value) (W:World):(callFunc 276 #[x,y,z,t]).run Tryz.prog W=.ok (.enter 276 #[x,y,z,t]) W:=by kernel_rfl
theorem a3b (w:World):Calls Tryz.prog 280 #[.agg #[]] w fun e w'=>e=.returned (.int .i64 4)∧Below w.heap.size w w':=by
 go_enter Tryz.func280,Tryz.ntmps280
 go_wp2_with fail
 go_ret
 exact⟨rfl,qa _ _⟩
theorem bdd (x:Value) (W:World):(method 526 227 x "landfall/ubx.kind").run Tryz.prog W=.ok (280,x) W:=by kernel_rfl
theorem bcw (x:Value) (W:World):(callFunc 280 #[x]).run Tryz.prog W=.ok (.enter 280 #[x]) W:=by kernel_rfl
theorem bcy (x:Value) (W:World):(method 526 227 x "landfall/ubx.take").run Tryz.prog W=.ok (282,x) W:=by kernel_rfl
theorem bek (x y z t:Value) (W:World):(callFunc 282 #[x,y,z,t]).run Tryz.prog W=.ok (.enter 282 #[x,y,z,t]) W:=by kernel_rfl
theorem a3i (w:World):Calls Tryz.prog 286 #[.agg #[]] w fun e w'=>e=.returned (.int .i64 5)∧Below w.heap.size w w':=by
 go_enter Tryz.func286,Tryz.ntmps286
 go_wp2_with fail
 go_ret
 exact⟨rfl,qa _ _⟩
theorem bda (x:Value) (W:World):(method 526 228 x "landfall/ubx.kind").run Tryz.prog W=.ok (286,x) W:=by kernel_rfl
theorem ber (x:Value) (W:World):(callFunc 286 #[x]).run Tryz.prog W=.ok (.enter 286 #[x]) W:=by kernel_rfl
theorem bdi (x:Value) (W:World):(method 526 228 x "landfall/ubx.take").run Tryz.prog W=.ok (288,x) W:=by kernel_rfl
theorem bet (x y z t:Value) (W:World):(callFunc 288 #[x,y,z,t]).run Tryz.prog W=.ok (.enter 288 #[x,y,z,t]) W:=by kernel_rfl
theorem a2e {Q0:Nat→Prop} {w:World} (mb:Nat) (X:Option Addr) (d:Nat) (b:List UInt8) (id:Int) (hm:Blk w mb (ubZ 1)) (hB:qf Q0 w X (bsV b)) (hl:b.length≤1000000) :
 Calls Tryz.prog 256 #[.agg #[],.pointer (some ⟨mb,0,none⟩),.slice X b.length d,.int .i64 id] w (UTk mb (afw b).1 {ym with kd:=1,P:=aaz (afw b).2} w):=by
 have HT:∀W,Below w.heap.size w W→Hid (Calls Tryz.prog 257 #[.slice X b.length d] W fun e w'=>e=.returned (.tuple #[.agg (qo (afw b).2).toArray,.int .i64 (afw b).1])∧Below W.heap.size W w'):=fun W hW=>hid (av3 X d b (hB.lt.below hW (fun b q=>q.2)) hl)
 have hpl:=ay6 b
 have hpi:(afw b).1=0→InI (afw b).2:=fun h=>by
  unfold afw at *
  split at h
  ·rename_i h0
   rw[if_pos h0]
   intro n hn
   exact af2 ao8 h0 n (List.mem_of_mem_eraseIdx hn)
  ·rename_i h0;exact absurd h h0
 generalize (afw b).1=E at *
 generalize (afw b).2=P at *
 have HM:∀W,Below w.heap.size w W→Hid (Blk W mb (ubZ 1)):=fun W hW=>hid (hm.on hW)
 have HP:=hid (And.intro hpl hpi)
 have HSZ:=hid (ajf hpl)
 have HON:=hid (ag1 P)
 have HMB:=hid hm.lt
 clear hm hB hpl hpi
 go_enter Tryz.func256,Tryz.ntmps256
 go_wp2_with fail
 refine(HT _ (qa _ _)).out.mono ?_
 rintro e w1 ⟨rfl,hb⟩
 have HB1:=hid (qb (qa _ _) hb)
 have HM1:=HM w1 (qb (qa _ _) hb)
 have HTH:Hid (w1.there mb 1 (qo P).toArray.size):=hid (by rw[List.size_toArray,ja,HP.out.1];exact HM1.out.there 1 32 (by decide))
 clear hb HM HT
 go_wp2_with (refine qe rfl 26 _ _ rfl mb 1 (qo P).toArray rfl rfl HTH.out HSZ.out HON.out ?_;intro W6 hs;have HS:=hid hs;clear hs)
 go_ret
 have hs:=HS.out
 have hk:Blk W6 mb (ubC 1 (qo P) 0 (.slice none 0 0) agw af4 0 (.slice none 0 0)):=by
  have:=HM1.out.put (A:=[.int .i64 1]) (M:=j9) (D:=[.int .i64 0] ++([.slice none 0 0] ++(agw ++(af4 ++([.int .i64 0]++[.slice none 0 0]))))) (cs:=qo P) hs rfl (by rw[ja,HP.out.1];rfl)
  simpa [ubC]using this
 refine⟨rfl,(ze.of_below HB1.out (fun k q=>q.1)).stored hs (fun q=>q.2 rfl),_,hk,?_,fun hE=>?_⟩
 ·unfold ubC;simp[ja,HP.out.1];rfl
 ·exact⟨_,_,_,_,_,rfl,a2o HP.out.1 (HP.out.2 hE),km,ajl,ait,km⟩
theorem ar1:∀(n:Nat) (b:List UInt8),(xy n b).1=0→∀v∈(xy n b).2,InI v
 | 0,_,_=>fun v hv=>by cases hv
 | n+1,b,h=>by
  unfold xy at *
  split at h
  ·rename_i h1
   split at h
   ·rename_i h2
    rw[if_pos h1,if_pos h2]
    intro v hv
    rcases List.mem_cons.1 hv with rfl|hv
    ·exact af2 ank h1
    ·exact ar1 n _ h2 v hv
   ·rename_i h2;exact absurd h h2
  ·rename_i h1;exact absurd h h1
theorem bat (b:List UInt8) (h:(aba b).1=0):(∀v∈(aba b).2.2,v.length=7∧InI v) ∧(aba b).2.2.length≤100000000:=by
 unfold aba at *
 split at h
 ·simp at h
 rename_i h0
 rw[if_neg h0]
 split at h
 ·rename_i h1
  rw[if_pos h1]
  split at h
  ·simp at h
  rename_i h2
  rw[if_neg h2]
  split at h
  ·simp at h
  rename_i h3
  rw[if_neg h3]
  split at h
  ·rename_i h4
   rw[if_pos h4]
   refine⟨fun v hv=>⟨(aj5 _ _ h4).2 v hv,ar1 _ _ h4 v hv⟩,?_⟩
   rw[(aj5 _ _ h4).1]
   obtain⟨x,q1,q2,q3⟩:=ajb kj (b.take 8) (ai0 h1) 2 (by decide)
   rw[List.getD_eq_getElem?_getD,q1]
   have e2:(kj[2]'(by decide)).hi=64:=rfl
   rw[e2]at q3
   show x.toNat≤_
   omega
  ·rename_i h4;exact absurd h h4
 ·rename_i h1;exact absurd h h1
theorem a4e:∀(k:Nat) (b:List UInt8),(jw k b).1=0 →(jw k b).2.length≤k∧∀p∈(jw k b).2,p.1<4294967296∧p.2<9223372036854775808
 | 0,b,h=>by unfold jw at *;split<;>exact⟨Nat.le_refl _,fun p hp=>by cases hp⟩
 | k+1,b,h=>by
  unfold jw at *
  by_cases h0:b=[]
  ·rw[if_pos h0];exact⟨Nat.zero_le _,fun p hp=>by cases hp⟩
  rw[if_neg h0]at h ⊢
  by_cases h1:b.length<4
  ·rw[if_pos h1]at h;simp at h
  rw[if_neg h1]at h ⊢
  by_cases h2:(xv (xr (b.take 4))).2=0
  ·rw[if_pos h2]at h;simp at h
  rw[if_neg h2]at h ⊢
  by_cases h3:(b.drop 4).length<(xv (xr (b.take 4))).2
  ·rw[if_pos h3]at h;simp at h
  rw[if_neg h3]at h ⊢
  by_cases h4:2^(xv (xr (b.take 4))).1-1<xr ((b.drop 4).take (xv (xr (b.take 4))).2)
  ·rw[if_pos h4]at h;simp at h
  rw[if_neg h4]at h ⊢
  by_cases h5:(jw k ((b.drop 4).drop (xv (xr (b.take 4))).2)).1=0
  ·rw[if_pos h5]
   obtain⟨q1,q2⟩:=a4e k _ h5
   refine⟨by rw[List.length_cons];omega,fun p hp=>?_⟩
   rcases List.mem_cons.1 hp with rfl|hp
   ·have hk:=ag4 (b.take 4)
    rw[List.length_take,Nat.min_eq_left (by omega)]at hk
    have hM:2^(xv (xr (b.take 4))).1≤2^63:=Nat.pow_le_pow_right (by decide) (ao1 _).1
    exact⟨hk,by dsimp only;omega⟩
   ·exact q2 p hp
  ·rw[if_neg h5]at h;exact absurd h h5
theorem bde (b:List UInt8) (h:(aew b).1=0):(aew b).2.2.length≤32∧∀p∈(aew b).2.2,p.1<4294967296∧p.2<9223372036854775808:=by
 unfold aew at *
 split at h
 ·simp at h
 rename_i h0
 rw[if_neg h0]
 split at h
 ·rename_i h1
  rw[if_pos h1]
  split at h
  ·rename_i h4
   rw[if_pos h4]
   exact a4e _ _ h4
  ·rename_i h4;exact absurd h h4
 ·rename_i h1;exact absurd h h1
def aoh (p:Nat×Nat):List Int:=[(p.1:Int),(p.2:Int)]
theorem a5y (L:List (Nat×Nat)):ad6 L=(L.map aoh).flatMap qo:=by
 induction L with
 | nil=>rfl
 | cons p L ih=>simp only[ad6,List.flatMap_cons,List.map_cons]at *;rw[ih];rfl
theorem ays {Q0:Nat→Prop} {w:World} (mb:Nat) (X:Option Addr) (d:Nat) (b:List UInt8) (id:Int) (hm:Blk w mb (ubZ 2)) (hB:qf Q0 w X (bsV b)) (hl:b.length≤1000000) (hd:b.length≤d) :
 Calls Tryz.prog 268 #[.agg #[],.pointer (some ⟨mb,0,none⟩),.slice X b.length d,.int .i64 id] w (UTk mb (aba b).1 {ym with kd:=2,tw:=(aba b).2.1,X:=(aba b).2.2.map aaz} w):=by
 have HT:∀W,Below w.heap.size w W→Hid (Calls Tryz.prog 269 #[.slice X b.length d] W (amg (aba b) W)):=fun W hW=>hid (aum X d b (hB.lt.below hW (fun b q=>q.2)) hl hd)
 have HOK:=hid (bat b)
 obtain⟨⟨E,t0,L⟩,hr⟩:∃r,aba b=r:=⟨_,rfl⟩
 rw[hr]at HT HOK ⊢
 unfold amg at HT
 dsimp only at *
 clear hr
 have HM:∀W,Below w.heap.size w W→Hid (Blk W mb (ubZ 2)):=fun W hW=>hid (hm.on hW)
 have HMB:=hid hm.lt
 clear hm hB
 go_enter Tryz.func268,Tryz.ntmps268
 go_wp2_with fail
 refine(HT _ (qa _ _)).out.mono ?_
 rintro e w1 ⟨A,c,rfl,hf,hb⟩
 have HB1:=hid (qb (qa _ _) hb)
 have HM1:=HM w1 (qb (qa _ _) hb)
 have g0:=HM1.out.cell 33 (v:=.int .i64 0) rfl
 have z0:=HM1.out.fz 33
 have g1:=HM1.out.cell 34 (v:=.slice none 0 0) rfl
 have z1:=HM1.out.fz 34
 have HFQ:Hid (qf (fun b=>w.heap.size≤b∧b<w1.heap.size) w1 A (aeq L)):=hid (hf.less fun b q=>⟨Nat.le_trans (qa w _).size q.1,q.2⟩)
 clear hf
 clear hb HM HT
 go_wp2_with fail
 go_ret
 have hs:qu w1 ((w1.setCell ⟨mb,33,none⟩ (.int .i64 t0)).setCell ⟨mb,34,none⟩ (.slice A L.length c)) mb 33 [.int .i64 t0,.slice A L.length c]:=qm (cs:=[.int .i64 t0,.slice A L.length c]) (HM1.out.there 33 2 (by decide))
 have hk:Blk ((w1.setCell ⟨mb,33,none⟩ (.int .i64 t0)).setCell ⟨mb,34,none⟩ (.slice A L.length c)) mb (ubC 2 j9 t0 (.slice A L.length c) agw af4 0 (.slice none 0 0)):=by
  have:=HM1.out.put (A:=[.int .i64 2]++j9) (M:=[.int .i64 0,.slice none 0 0]) (D:=agw ++(af4 ++([.int .i64 0]++[.slice none 0 0]))) (cs:=[.int .i64 t0,.slice A L.length c]) hs rfl rfl
  exact this
 refine⟨rfl,(ze.of_below HB1.out (fun k q=>q.1)).stored hs (fun q=>q.2 rfl),_,hk,rfl,fun hE=>?_⟩
 obtain⟨q1,q2⟩:=HOK.out hE
 have hsl:yv 162 7 (fun b=>w.heap.size≤b∧b<((w1.setCell ⟨mb,33,none⟩ (.int .i64 t0)).setCell ⟨mb,34,none⟩ (.slice A L.length c)).heap.size) ((w1.setCell ⟨mb,33,none⟩ (.int .i64 t0)).setCell ⟨mb,34,none⟩ (.slice A L.length c)) (.slice A L.length c) (L.map aaz):=
  aou (by decide) (fun v h1 h2=>bhd h1 h2) L q1 ((HFQ.out.keep fun k hk=>hs.far k (by have:=HMB.out;have:=hk.1;omega)).less fun k hk=>⟨hk.1,by have:=hk.2;simpa using this⟩) (by unfold maxLen;omega)
 exact⟨_,_,_,_,_,rfl,ajg,hsl,ajl,ait,km⟩
theorem a0i {Q0:Nat→Prop} {w:World} (mb:Nat) (X:Option Addr) (d:Nat) (b:List UInt8) (id:Int) (hm:Blk w mb (ubZ 3)) (hB:qf Q0 w X (bsV b)) (hl:b.length≤1000000) (hd:b.length≤d) :
 Calls Tryz.prog 276 #[.agg #[],.pointer (some ⟨mb,0,none⟩),.slice X b.length d,.int .i64 id] w (UTk mb (agt b).1 {ym with kd:=3,D:=aaz (agt b).2} w):=by
 have HT:∀W,Below w.heap.size w W→Hid (Calls Tryz.prog 277 #[.slice X b.length d] W fun e w'=>e=.returned (.tuple #[.agg (qo (agt b).2).toArray,.int .i64 (agt b).1])∧Below W.heap.size W w'):=fun W hW=>hid (avy X d b (hB.lt.below hW (fun b q=>q.2)) hl)
 have hln:(agt b).2.length=8:=by
  unfold agt
  split
  ·rename_i h;exact aa0 h
  ·rfl
 have HOK:Hid ((agt b).1=0→InI (agt b).2):=hid (fun h=>by
  unfold agt at *
  split at h
  ·rename_i h0;rw[if_pos h0];exact af2 ams h0
  ·rename_i h0;exact absurd h h0)
 obtain⟨⟨E,v⟩,hr⟩:∃r,agt b=r:=⟨_,rfl⟩
 rw[hr]at HT HOK hln ⊢
 dsimp only at *
 obtain⟨x0,x1,x2,x3,x4,x5,x6,x7,rfl⟩:∃x0 x1 x2 x3 x4 x5 x6 x7,v=[x0,x1,x2,x3,x4,x5,x6,x7]:=by
  rcases v with _|⟨x0,_|⟨x1,_|⟨x2,_|⟨x3,_|⟨x4,_|⟨x5,_|⟨x6,_|⟨x7,_|⟨z,_⟩⟩⟩⟩⟩⟩⟩⟩⟩<;>first|exact⟨_,_,_,_,_,_,_,_,rfl⟩|(simp at hln)
 replace HT:∀W,Below w.heap.size w W→Hid (Calls Tryz.prog 277 #[.slice X b.length d] W fun e w'=>e=.returned (.tuple #[.agg #[.int .i64 x0,.int .i64 x1,.int .i64 x2,.int .i64 x3,.int .i64 x4,.int .i64 x5,.int .i64 x6,.int .i64 x7],.int .i64 E])∧Below W.heap.size W w'):=HT
 clear hr hln
 have HM:∀W,Below w.heap.size w W→Hid (Blk W mb (ubZ 3)):=fun W hW=>hid (hm.on hW)
 have HMB:=hid hm.lt
 clear hm hB
 go_enter Tryz.func276,Tryz.ntmps276
 go_wp2_with fail
 refine(HT _ (qa _ _)).out.mono ?_
 rintro e w1 ⟨rfl,hb⟩
 have HB1:=hid (qb (qa _ _) hb)
 have HM1:=HM w1 (qb (qa _ _) hb)
 have g0:=HM1.out.cell 35 (v:=.int .i64 0) rfl
 have z0:=HM1.out.fz 35
 have g1:=HM1.out.cell 36 (v:=.int .i64 0) rfl
 have z1:=HM1.out.fz 36
 have g2:=HM1.out.cell 37 (v:=.int .i64 0) rfl
 have z2:=HM1.out.fz 37
 have g3:=HM1.out.cell 38 (v:=.int .i64 0) rfl
 have z3:=HM1.out.fz 38
 have g4:=HM1.out.cell 39 (v:=.int .i64 0) rfl
 have z4:=HM1.out.fz 39
 have g5:=HM1.out.cell 40 (v:=.int .i64 0) rfl
 have z5:=HM1.out.fz 40
 have g6:=HM1.out.cell 41 (v:=.int .i64 0) rfl
 have z6:=HM1.out.fz 41
 have g7:=HM1.out.cell 42 (v:=.int .i64 0) rfl
 have z7:=HM1.out.fz 42
 clear hb HM HT
 go_wp2_with fail
 go_ret
 have hs:qu w1 ((((((((w1.setCell ⟨mb,35,none⟩ (.int .i64 x0)).setCell ⟨mb,36,none⟩ (.int .i64 x1)).setCell ⟨mb,37,none⟩ (.int .i64 x2)).setCell ⟨mb,38,none⟩ (.int .i64 x3)).setCell ⟨mb,39,none⟩ (.int .i64 x4)).setCell ⟨mb,40,none⟩ (.int .i64 x5)).setCell ⟨mb,41,none⟩ (.int .i64 x6)).setCell ⟨mb,42,none⟩ (.int .i64 x7)) mb 35 [.int .i64 x0,.int .i64 x1,.int .i64 x2,.int .i64 x3,.int .i64 x4,.int .i64 x5,.int .i64 x6,.int .i64 x7]:=qm (cs:=[.int .i64 x0,.int .i64 x1,.int .i64 x2,.int .i64 x3,.int .i64 x4,.int .i64 x5,.int .i64 x6,.int .i64 x7]) (HM1.out.there 35 8 (by decide))
 have hk:Blk ((((((((w1.setCell ⟨mb,35,none⟩ (.int .i64 x0)).setCell ⟨mb,36,none⟩ (.int .i64 x1)).setCell ⟨mb,37,none⟩ (.int .i64 x2)).setCell ⟨mb,38,none⟩ (.int .i64 x3)).setCell ⟨mb,39,none⟩ (.int .i64 x4)).setCell ⟨mb,40,none⟩ (.int .i64 x5)).setCell ⟨mb,41,none⟩ (.int .i64 x6)).setCell ⟨mb,42,none⟩ (.int .i64 x7)) mb (ubC 3 j9 0 (.slice none 0 0) [.int .i64 x0,.int .i64 x1,.int .i64 x2,.int .i64 x3,.int .i64 x4,.int .i64 x5,.int .i64 x6,.int .i64 x7] af4 0 (.slice none 0 0)):=by
  have:=HM1.out.put (A:=[.int .i64 3] ++(j9 ++([.int .i64 0]++[.slice none 0 0]))) (M:=agw) (D:=af4 ++([.int .i64 0]++[.slice none 0 0])) (cs:=[.int .i64 x0,.int .i64 x1,.int .i64 x2,.int .i64 x3,.int .i64 x4,.int .i64 x5,.int .i64 x6,.int .i64 x7]) hs rfl rfl
  exact this
 refine⟨rfl,(ze.of_below HB1.out (fun k q=>q.1)).stored hs (fun q=>q.2 rfl),_,hk,rfl,fun hE=>?_⟩
 exact⟨_,_,_,_,_,rfl,ajg,km,a30 rfl (HOK.out hE),ait,km⟩
theorem a3x {Q0:Nat→Prop} {w:World} (mb:Nat) (X:Option Addr) (d:Nat) (b:List UInt8) (id:Int) (hm:Blk w mb (ubZ 4)) (hB:qf Q0 w X (bsV b)) (hl:b.length≤1000000) (hd:b.length≤d) :
 Calls Tryz.prog 282 #[.agg #[],.pointer (some ⟨mb,0,none⟩),.slice X b.length d,.int .i64 id] w (UTk mb (ae2 b).1 {ym with kd:=4,A:=.bool (id==1)::aaz (ae2 b).2} w):=by
 have HT:∀W,Below w.heap.size w W→Hid (Calls Tryz.prog 283 #[.slice X b.length d,.bool (id==1)] W fun e w'=>e=.returned (.tuple #[.agg (.bool ((id==1) && decide ((ae2 b).1=0))::qo (ae2 b).2).toArray,.int .i64 (ae2 b).1])∧Below W.heap.size W w'):=fun W hW=>hid (azt X d b (id==1) (hB.lt.below hW (fun b q=>q.2)) hl)
 have hln:(ae2 b).2.length=2:=by
  unfold ae2
  split
  ·rename_i h;exact aa0 h
  ·rfl
 have HOK:Hid ((ae2 b).1=0→InI (ae2 b).2):=hid (fun h=>by
  unfold ae2 at *
  split at h
  ·rename_i h0;rw[if_pos h0];exact af2 anc h0
  ·rename_i h0;exact absurd h h0)
 obtain⟨⟨E,v⟩,hr⟩:∃r,ae2 b=r:=⟨_,rfl⟩
 rw[hr]at HT HOK hln ⊢
 dsimp only at *
 obtain⟨x0,x1,rfl⟩:∃x0 x1,v=[x0,x1]:=by
  rcases v with _|⟨x0,_|⟨x1,_|⟨z,_⟩⟩⟩<;>first|exact⟨_,_,rfl⟩|(simp at hln)
 obtain⟨yy,hyy⟩:∃yy,((id==1) && decide (E=0))=yy:=⟨_,rfl⟩
 rw[hyy]at HT
 have HYY:=hid hyy
 replace HT:∀W,Below w.heap.size w W→Hid (Calls Tryz.prog 283 #[.slice X b.length d,.bool (id==1)] W fun e w'=>e=.returned (.tuple #[.agg #[.bool yy,.int .i64 x0,.int .i64 x1],.int .i64 E])∧Below W.heap.size W w'):=HT
 clear hr hln hyy
 have HM:∀W,Below w.heap.size w W→Hid (Blk W mb (ubZ 4)):=fun W hW=>hid (hm.on hW)
 have HMB:=hid hm.lt
 clear hm hB
 go_enter Tryz.func282,Tryz.ntmps282
 go_wp2_with fail
 refine(HT _ (qa _ _)).out.mono ?_
 rintro e w1 ⟨rfl,hb⟩
 have HB1:=hid (qb (qa _ _) hb)
 have HM1:=HM w1 (qb (qa _ _) hb)
 have g0:=HM1.out.cell 43 (v:=.bool false) rfl
 have z0:=HM1.out.fz 43
 have g1:=HM1.out.cell 44 (v:=.int .i64 0) rfl
 have z1:=HM1.out.fz 44
 have g2:=HM1.out.cell 45 (v:=.int .i64 0) rfl
 have z2:=HM1.out.fz 45
 clear hb HM HT
 go_wp2_with fail
 go_ret
 have hs:qu w1 (((w1.setCell ⟨mb,43,none⟩ (.bool yy)).setCell ⟨mb,44,none⟩ (.int .i64 x0)).setCell ⟨mb,45,none⟩ (.int .i64 x1)) mb 43 [.bool yy,.int .i64 x0,.int .i64 x1]:=qm (cs:=[.bool yy,.int .i64 x0,.int .i64 x1]) (HM1.out.there 43 3 (by decide))
 have hk:Blk (((w1.setCell ⟨mb,43,none⟩ (.bool yy)).setCell ⟨mb,44,none⟩ (.int .i64 x0)).setCell ⟨mb,45,none⟩ (.int .i64 x1)) mb (ubC 4 j9 0 (.slice none 0 0) agw [.bool yy,.int .i64 x0,.int .i64 x1] 0 (.slice none 0 0)):=by
  have:=HM1.out.put (A:=[.int .i64 4] ++(j9 ++([.int .i64 0] ++([.slice none 0 0]++agw)))) (M:=af4) (D:=[.int .i64 0]++[.slice none 0 0]) (cs:=[.bool yy,.int .i64 x0,.int .i64 x1]) hs rfl rfl
  exact this
 refine⟨rfl,(ze.of_below HB1.out (fun k q=>q.1)).stored hs (fun q=>q.2 rfl),_,hk,rfl,fun hE=>?_⟩
 have hy:yy=(id==1):=by rw[← HYY.out,hE];simp
 have hi:=HOK.out hE
 refine⟨_,_,_,_,_,rfl,ajg,km,ajl,?_,km⟩
 rw[hy]
 exact a1r (hi x0 (by simp)) (hi x1 (by simp))
theorem a3j {Q0:Nat→Prop} {w:World} (mb:Nat) (X:Option Addr) (d:Nat) (b:List UInt8) (id:Int) (hm:Blk w mb (ubZ 5)) (hB:qf Q0 w X (bsV b)) (hl:b.length≤1000000) (hd:b.length≤d) :
 Calls Tryz.prog 288 #[.agg #[],.pointer (some ⟨mb,0,none⟩),.slice X b.length d,.int .i64 id] w (UTk mb (aew b).1 {ym with kd:=5,ly:=(aew b).2.1,Y:=(aew b).2.2.map fun p=>aaz (aoh p)} w):=by
 have HT:∀W,Below w.heap.size w W→Hid (Calls Tryz.prog 289 #[.slice X b.length d] W (au2 (aew b) W)):=fun W hW=>hid (awg X d b (hB.lt.below hW (fun b q=>q.2)) hl hd)
 have HOK:=hid (bde b)
 obtain⟨⟨E,t0,L⟩,hr⟩:∃r,aew b=r:=⟨_,rfl⟩
 rw[hr]at HT HOK ⊢
 unfold au2 at HT
 dsimp only at *
 clear hr
 have HM:∀W,Below w.heap.size w W→Hid (Blk W mb (ubZ 5)):=fun W hW=>hid (hm.on hW)
 have HMB:=hid hm.lt
 clear hm hB
 go_enter Tryz.func288,Tryz.ntmps288
 go_wp2_with fail
 refine(HT _ (qa _ _)).out.mono ?_
 rintro e w1 ⟨A,c,rfl,hf,hb⟩
 have HB1:=hid (qb (qa _ _) hb)
 have HM1:=HM w1 (qb (qa _ _) hb)
 have g0:=HM1.out.cell 46 (v:=.int .i64 0) rfl
 have z0:=HM1.out.fz 46
 have g1:=HM1.out.cell 47 (v:=.slice none 0 0) rfl
 have z1:=HM1.out.fz 47
 have HFQ:Hid (qf (fun b=>w.heap.size≤b∧b<w1.heap.size) w1 A (ad6 L)):=hid (hf.less fun b q=>⟨Nat.le_trans (qa w _).size q.1,q.2⟩)
 clear hf
 clear hb HM HT
 go_wp2_with fail
 go_ret
 have hs:qu w1 ((w1.setCell ⟨mb,46,none⟩ (.int .i64 t0)).setCell ⟨mb,47,none⟩ (.slice A L.length c)) mb 46 [.int .i64 t0,.slice A L.length c]:=qm (cs:=[.int .i64 t0,.slice A L.length c]) (HM1.out.there 46 2 (by decide))
 have hk:Blk ((w1.setCell ⟨mb,46,none⟩ (.int .i64 t0)).setCell ⟨mb,47,none⟩ (.slice A L.length c)) mb (ubC 5 j9 0 (.slice none 0 0) agw af4 t0 (.slice A L.length c)):=by
  have:=HM1.out.put (A:=[.int .i64 5] ++(j9 ++([.int .i64 0] ++([.slice none 0 0] ++(agw++af4))))) (M:=[.int .i64 0,.slice none 0 0]) (D:=[]) (cs:=[.int .i64 t0,.slice A L.length c]) hs rfl rfl
  exact this
 refine⟨rfl,(ze.of_below HB1.out (fun k q=>q.1)).stored hs (fun q=>q.2 rfl),_,hk,rfl,fun hE=>?_⟩
 obtain⟨q1,q2⟩:=HOK.out hE
 have hsl:yv 164 2 (fun b=>w.heap.size≤b∧b<((w1.setCell ⟨mb,46,none⟩ (.int .i64 t0)).setCell ⟨mb,47,none⟩ (.slice A L.length c)).heap.size) ((w1.setCell ⟨mb,46,none⟩ (.int .i64 t0)).setCell ⟨mb,47,none⟩ (.slice A L.length c)) (.slice A L.length c) (L.map fun p=>aaz (aoh p)):=by
  have h1:=aou (t:=164) (m:=2) (Q:=fun b=>w.heap.size≤b∧b<((w1.setCell ⟨mb,46,none⟩ (.int .i64 t0)).setCell ⟨mb,47,none⟩ (.slice A L.length c)).heap.size) (w:=(w1.setCell ⟨mb,46,none⟩ (.int .i64 t0)).setCell ⟨mb,47,none⟩ (.slice A L.length c)) (A:=A) (c:=c) (by decide) (fun v h1 h2=>bcm h1 h2) (L.map aoh) (fun v hv=>by
   obtain⟨p,hp,rfl⟩:=List.mem_map.1 hv
   have:=q2 p hp
   refine⟨rfl,fun n hn=>?_⟩
   simp only[aoh,List.mem_cons,List.not_mem_nil,or_false]at hn
   rcases hn with rfl|rfl<;>omega) (by rw[← a5y];exact(HFQ.out.keep fun k hk=>hs.far k (by have:=HMB.out;have:=hk.1;omega)).less fun k hk=>⟨hk.1,by have:=hk.2;simpa using this⟩) (by rw[List.length_map];unfold maxLen;omega)
  rw[List.length_map,List.map_map]at h1
  exact h1
 exact⟨_,_,_,_,_,rfl,ajg,km,ajl,ait,hsl⟩
end Go.Proofs.YtdkhlkfleggbaaaGreat
