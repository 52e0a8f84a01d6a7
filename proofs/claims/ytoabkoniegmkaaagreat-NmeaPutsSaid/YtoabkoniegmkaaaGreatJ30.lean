/- Layer 27: Put. -/
import Derived.Test.YtoabkoniegmkaaaGreatJ29
namespace Go.Proofs.YtoabkoniegmkaaaGreat
set_option linter.unusedVariables false
open Go.RowKit Go.Shelf
attribute [local go_sem] Oper.semAt_some
def MarkPost (P:Program) (fn:Func) (R:Ending→World→Prop) (_:Exit→Act→World→Prop):Exit→Act→World→Prop
  | .ret,a,w=>bodyPostM Fence.wide 8 P fn R .ret a w
  | _,_,_=>False
theorem calls_of_mark {P:Program} {f:FuncId} {fn:Func} {c:Code} {args:Array Value} {w:World} {R:Ending→World→Prop} (hf:P.funcs[f]?=some fn) (hb:fn.body=some c)
    (h:c.wp P (MarkPost P fn R (bodyPost P fn R)) { tmps:=args++Array.replicate (fn.ntmps - args.size) undef,defers:=[] } w):Calls P f args w R:=by
  refine (callsIn_wide (n:=8)).1 (callsIn_of_wp_marks hf hb trivial (wpIn_wide.2 (wp_mono h ?_)) rfl)
  intro e a w' hq
  cases e with
  | ret=>exact hq
  | _=>exact hq.elim
theorem PutPost.grown {x:List ByteArray×Int} {w w' w'':World} {r:Ending} {D:Nat} {o':Obj} (h:PutPost x w r w') (hD:w.heap.size≤D) (hK:w'.heap[D]?=some (.deferred (some []))):PutPost x w r (w'.putObj D o'):=by
  obtain⟨v,rfl,A,c,h1,h2,h3,h4,h5⟩:=h
  have hg:=grownBy_putObj' w' D o'
  have hr:∀ r,some D=some r→∃ o:Obj,w'.heap[r]?=some o∧o.isCells=false:=fun r e=>by cases e;exact⟨_,hK,rfl⟩
  refine⟨v,rfl,A,c,h1,h2,fun k hk=>?_,h4,h5.trans ⟨rfl,rfl,rfl,by simp,fun k hk=>World.putObj_heap_other (fun q=>by omega)⟩⟩
  obtain⟨b,off,q1,q2,q3⟩:=h3 k hk
  exact⟨b,off,q1,Nat.lt_of_lt_of_le q2 hg.size,cell_kept q3 hg hr⟩
theorem wrIds_snoc2 (pre:List (Bool×Int)) (x:Bool×Int) (s:Rd):wrIds (pre++[x]) s=wrNum 1 3 0 1 255 x (wrIds pre s):=by
  unfold wrIds
  rw [List.foldl_append]
  rfl
theorem wpIn_rangeNums {P:Program} {m:Nat} {g:Operand} {ps:Array Tmp} {assign body:Code} {Q:Exit→Act→World→Prop} {a:Act} {w:World} (h1:1≤m) {gf:Nat} {lb:Array Value} (hg:a.eval g=.func (.func gf) #[] lb)
    (eg:∀ args w,(callFunc gf args).run P w=.ok (.enter gf args) w) {Kp:World→World→Prop} {S Sp:List (Bool×Int)→Prop} {N:Nat} (hseq:SeqStopsK Fence.wide (m - 1) P gf lb (fun x:Bool×Int=>#[numV x.1 x.2]) Kp S Sp N w)
    (hKt:∀ {A B C:World},Kp A B→Kp B C→Kp A C) (hKb:∀ (W:World) (l:Nat) (o o':Obj),w.heap.size≤l→W.heap[l]?=some o→o.isCells=false→o.isWalk=false→Kp W (W.putObj l o')) (hps:∀ x:Bool×Int,((fun x:Bool×Int=>#[numV x.1 x.2]) x).size=ps.size)
    (I:List (Bool×Int)→World→Prop) (hI:OwnFrom w.heap.size I) (h0:I [] w) (A1:Array Value→Nat→Bool×Int→Array Value)
    (hassign:∀ (l:Nat) (pre:List (Bool×Int)) (x:Bool×Int) (W:World) (K:Act→World→Prop),I pre W→(∀ a' W',KeepsFrom w.heap.size W W'→Kp W W'→I pre W'→(∃ Bx,w.heap.size≤Bx∧W'.cell? ⟨Bx,0,none⟩=some (.bool x.1)∧W'.cell? ⟨Bx,1,none⟩=some (.int .i64 x.2)∧a'={ tmps:=A1 a.tmps Bx x,defers:=[] })→K a' W') →
      assign.wpIn (Fence.wide.inRound l) (m - 1 - 1) P (Exit.then K (fun _ _ _=>False)) { tmps:=(ps.zip #[numV x.1 x.2]).foldl (fun t (p,v)=>t.setIfInBounds p v) a.tmps,defers:=[] } W)
    (hbody:∀ (l:Nat) (pre:List (Bool×Int)) (x:Bool×Int) (W:World) (Bx:Nat),I pre W→w.heap.size≤Bx→W.cell? ⟨Bx,0,none⟩=some (.bool x.1)→W.cell? ⟨Bx,1,none⟩=some (.int .i64 x.2)→pre.length < N →
      body.wpIn (Fence.wide.inRound l) (m - 1 - 1) P (ownPostG w.heap.size Kp I (fun _ _ _=>False) (pre++[x]) W) { tmps:=A1 a.tmps Bx x,defers:=[] } W)
    (hdone:∀ (D:Nat) (xs:List (Bool×Int)) (W:World),w.heap.size≤D→S xs→I xs W→W.heap[D]?=some (.deferred (some []))→Q .normal { a with defers:={ target:=.collected D,args:=#[] } :: a.defers } W) :
    (Code.rangeFunc g ps assign body).wpIn Fence.wide m P Q a w:=
  wpIn_rangeFunc_ownH rfl h1 hg trivial eg hseq (fun h k=>hKt h k) hKb (Below.refl _ _) hps I (fun _ _ _=>False) hI (fun _ _ _ _ _ hs _ _=>hs) h0
    (fun x a' W=>∃ Bx,w.heap.size≤Bx∧W.cell? ⟨Bx,0,none⟩=some (.bool x.1)∧W.cell? ⟨Bx,1,none⟩=some (.int .i64 x.2)∧a'={ tmps:=A1 a.tmps Bx x,defers:=[] })
    (fun x a' _ X Y row hs hg hr=>by obtain⟨Bx,q1,q2,q3,q4⟩:=hs;exact⟨Bx,q1,cell_kept q2 hg (fun r e=>(hr r e).2),cell_kept q3 hg (fun r e=>(hr r e).2),q4⟩)
    hassign (fun l pre x a' W _ _ hi hax hlt=>by obtain⟨Bx,q1,q2,q3,rfl⟩:=hax;exact hbody l pre x W Bx hi q1 q2 q3 hlt) hdone (fun _ _ _ _ _ _ h _=>h.elim)
set_option maxRecDepth 8000 in
theorem gsaPut_long (a:Bool) (f:Int) (A:Option Addr) (n c:Nat) (b0:Bool) (n0:Int) (b1:Bool) (n1:Int) (b2:Bool) (n2:Int) (w:World) (hn:(12:Int) < (n:Int)) (hm:n≤1000000):Calls Tryz.prog 271 #[gsaV a f A n c b0 n0 b1 n1 b2 n2] w (PutPost ([],7) w):=by
  go_enter Tryz.func271,Tryz.ntmps271
  go_wp2
  go_ret2
  exact⟨_,rfl,textsNone27 _ _ (below_new _ _)⟩
theorem DonePost.below {e:Int} {L:List ByteArray} {w w':World} {r:Ending} (h:DonePost e L w r w'):Below w.heap.size w w':=by
  obtain⟨v,-,A,c,-,-,-,-,h⟩:=h
  exact h
def threeS (a b c d:Rd):Nat→Rd
  | 0=>a
  | 1=>b
  | 2=>c
  | _=>d
set_option maxRecDepth 8000 in
set_option maxHeartbeats 8000000 in
theorem gsaPut_ok (a:Bool) (f:Int) (A:Option Addr) (n c:Nat) (L:List Int) (b0:Bool) (n0:Int) (b1:Bool) (n1:Int) (b2:Bool) (n2:Int) (w:World) (hn:Hid (L.length=n)) (hs:Hid (Ints w w.heap.size A L)) (h12:n≤12):Calls Tryz.prog 271 #[gsaV a f A n c b0 n0 b1 n1 b2 n2] w (PutPost (putGsa ⟨a,f,L,(b0,n0),(b1,n1),(b2,n2)⟩) w):=by
  obtain⟨s1,e1⟩:∃ s,Hid (wrText (modeT a) 0 (0,[])=s):=⟨_,rfl⟩
  obtain⟨s2,e2⟩:∃ s,Hid (wrText (digS 1 3 f) (digE 1 3 f) s1=s):=⟨_,rfl⟩
  obtain⟨s3,e3⟩:∃ s,Hid (wrIds (nums12 L) s2=s):=⟨_,rfl⟩
  obtain⟨s4,e4⟩:∃ s,Hid (wrNum 1 3 2 0 99999 (b0,n0) s3=s):=⟨_,rfl⟩
  obtain⟨s5,e5⟩:∃ s,Hid (wrNum 1 3 2 0 99999 (b1,n1) s4=s):=⟨_,rfl⟩
  obtain⟨s6,e6⟩:∃ s,Hid (wrNum 1 3 2 0 99999 (b2,n2) s5=s):=⟨_,rfl⟩
  have HPUT:Hid (putGsa ⟨a,f,L,(b0,n0),(b1,n1),(b2,n2)⟩=wrDone s6):=by
    show _=_
    unfold putGsa
    rw [if_neg (by show ¬ 12 < L.length;rw [hn.out];omega)]
    simp only
    rw [wrDig_text,e1.out,e2.out,e3.out,e4.out,e5.out,e6.out]
  have l1:s1.2.length=1:=by rw [← e1.out,wrText_len];rfl
  have l2:s2.2.length=2:=by rw [← e2.out,wrText_len,l1]
  have l3:s3.2.length=14:=by rw [← e3.out,wrIds_len,nums12_len L (by rw [hn.out];exact h12),l2]
  have l4:s4.2.length=15:=by rw [← e4.out,wrNum_len,l3]
  have l5:s5.2.length=16:=by rw [← e5.out,wrNum_len,l4]
  have l6:s6.2.length=17:=by rw [← e6.out,wrNum_len,l5]
  rw [HPUT.out]
  clear HPUT
  obtain⟨X,hX⟩:∃ X,wrDone s6=X:=⟨_,rfl⟩
  have HX:=Lib.hid hX
  rw [hX]
  clear hX
  have HM0:Hid (∀ o,(w.alloc (.cells (gsaC a f A n c b0 n0 b1 n1 b2 n2) 39)).cell? ⟨w.heap.size,o,none⟩=(gsaC a f A n c b0 n0 b1 n1 b2 n2)[o]?):=fun o=>World.cell?_alloc_at _ _ _ _ rfl
  have HB0:=Lib.hid (below_new w (.cells (gsaC a f A n c b0 n0 b1 n1 b2 n2) 39))
  have HZ0:Hid ((w.alloc (.cells (gsaC a f A n c b0 n0 b1 n1 b2 n2) 39)).heap.size=w.heap.size+1):=by show _=_;simp
  have i0:(n:Int)≤12:=by omega
  refine calls_of_mark Tryz.func271 rfl ?_
  simp only [Tryz.ntmps271,List.size_toArray,List.length_cons,List.length_nil,Nat.reduceAdd,Nat.reduceSub,Array.replicate_succ,Array.replicate_zero,List.push_toArray,List.append_toArray,List.nil_append,List.cons_append]
  go_wp2_with fail
  generalize hW1:w.alloc (.cells (gsaC a f A n c b0 n0 b1 n1 b2 n2) 39)=W1 at *
  clear hW1
  refine penRow.mono ?_
  rintro r w2 ⟨rfl,hp2,hb2,hz2⟩
  have hz0:=HZ0.out
  have hb3:=below_new w2 (.cells #[.pointer (some ⟨W1.heap.size,0,none⟩)] 256)
  have hz3:(w2.alloc (.cells #[.pointer (some ⟨W1.heap.size,0,none⟩)] 256)).heap.size=w2.heap.size+1:=by simp
  have HM:Hid (∀ o,(w2.alloc (.cells #[.pointer (some ⟨W1.heap.size,0,none⟩)] 256)).cell? ⟨w.heap.size,o,none⟩=(gsaC a f A n c b0 n0 b1 n1 b2 n2)[o]?):=fun o=>((bcell hb3).1 _ o (by omega)).trans (((bcell hb2).1 _ o (by omega)).trans (HM0.out o))
  have HQ:Hid ((w2.alloc (.cells #[.pointer (some ⟨W1.heap.size,0,none⟩)] 256)).cell? ⟨w2.heap.size,0,none⟩=some (.pointer (some ⟨W1.heap.size,0,none⟩))):=World.cell?_alloc_at _ _ _ _ rfl
  have HB2:Hid (Below w.heap.size w (w2.alloc (.cells #[.pointer (some ⟨W1.heap.size,0,none⟩)] 256))):=Below.trans HB0.out ((hb2.mono (by omega)).trans (hb3.mono (by omega)))
  have HS2:=Lib.hid (hs.out.below HB2.out (Nat.le_refl _))
  obtain⟨S,hS⟩:∃ S,Also (fun k=>k < W1.heap.size+1) w2 (w2.alloc (.cells #[.pointer (some ⟨W1.heap.size,0,none⟩)] 256))=S:=⟨_,rfl⟩
  have sW:Hid (∀ k,k < W1.heap.size+1→S k):=fun k hk=>by rw [← hS];exact .inl hk
  have sQ:Hid (S w2.heap.size∧w2.heap.size≠W1.heap.size):=⟨by rw [← hS];exact .inr ⟨Nat.le_refl _,by omega⟩,by omega⟩
  have hp3:=hp2.also hb3
  rw [hS] at hp3
  have HK0:Hid (PenI S W1.heap.size (0,[]) (w2.alloc (.cells #[.pointer (some ⟨W1.heap.size,0,none⟩)] 256))∧Kept S W1.heap.size (w2.alloc (.cells #[.pointer (some ⟨W1.heap.size,0,none⟩)] 256)) (w2.alloc (.cells #[.pointer (some ⟨W1.heap.size,0,none⟩)] 256))):=⟨hp3,Kept.refl _ _ _⟩
  have hgw:w.heap.size < W1.heap.size:=by omega
  clear hp2 hp3 hb2 hz2 hS hb3 hz3 HM0 HB0 HZ0 hz0 hs
  generalize W1.heap.size=g at *
  go_upto_region 4 with fail
  generalize hW3:w2.alloc (.cells #[.pointer (some ⟨g,0,none⟩)] 256)=W3 at *
  generalize w2.heap.size=q at *
  clear hW3
  have sM:Hid (S w.heap.size∧w.heap.size≠g):=⟨sW.out _ (by omega),by omega⟩
  have m0:=HM.out 0
  have mq:=HQ.out
  go_cut [] (fun wx=>Hid (PenI S g s1 wx∧Kept S g W3 wx))
  case first=>
    go_region_with (first | (go_at_call 272;refine (gsamode_any _ _).mono ?_;rintro r y1 ⟨rfl,hb2⟩;have k2:=Lib.hid (Kept.undrew (Kept.of_below (S:=S) (g:=g) hb2 HK0.out.1.bd));have R2:=Lib.hid (HK0.out.1.keep (w':=y1) (Below.trans (bdrew (Below.refl _ _)) hb2));have z0:=(k2.out.cell (b:=q) (o:=0) sQ.out.1 sQ.out.2).trans mq) | (go_at_call 230;refine (penText e1 R2.out (by decide)).mono ?_;rintro r y3 ⟨rfl,hp3,hk3⟩))
    all_goals go_wp2_with fail
    all_goals go_meet
    all_goals exact Lib.hid ⟨hp3,HK0.out.2.trans (k2.out.trans hk3)⟩
  case rest=>
  have HK1:=hcut
  clear hcut HK0 m0 mq
  have m0:=(HK1.out.2.cell (o:=1) sM.out.1 sM.out.2).trans (HM.out 1)
  have mq:=(HK1.out.2.cell (o:=0) sQ.out.1 sQ.out.2).trans HQ.out
  go_upto_region 5 with fail
  go_cut [] (fun wx=>Hid (PenI S g s2 wx∧Kept S g W3 wx))
  case first=>
    go_region_with (first | (go_at_call 273;refine (gsakind_any _ _).mono ?_;rintro r y1 ⟨rfl,hb2⟩;have k2:=Lib.hid (Kept.undrew (Kept.of_below (S:=S) (g:=g) hb2 HK1.out.1.bd));have R2:=Lib.hid (HK1.out.1.keep (w':=y1) (Below.trans (bdrew (Below.refl _ _)) hb2));have z0:=(k2.out.cell (b:=q) (o:=0) sQ.out.1 sQ.out.2).trans mq) | (go_at_call 230;refine (penText e2 R2.out (by omega)).mono ?_;rintro r y3 ⟨rfl,hp3,hk3⟩))
    all_goals go_wp2_with fail
    all_goals go_meet
    all_goals exact Lib.hid ⟨hp3,HK1.out.2.trans (k2.out.trans hk3)⟩
  case rest=>
  have HK2:=hcut
  clear hcut HK1 m0 mq
  have m2:=(HK2.out.2.cell (o:=2) sM.out.1 sM.out.2).trans (HM.out 2)
  go_wp2_with fail
  refine (gsatwelve_any _ _ _ _).mono ?_
  rintro r x5 ⟨rfl,rfl⟩
  go_wp2_with fail
  have hb5:=below_new wc (.cells #[.slice A n c] 37)
  have hp5:=HK2.out.1.also hb5
  have hk5:=Kept.of_below (S:=S) (g:=g) hb5 HK2.out.1.bd
  obtain⟨S5,hS5⟩:∃ S5,Also S wc (wc.alloc (.cells #[.slice A n c] 37))=S5:=⟨_,rfl⟩
  have s5S:Hid (∀ k,S k→S5 k):=fun k hk=>by rw [← hS5];exact .inl hk
  have hgc:g < wc.heap.size:=HK2.out.1.choose_spec.1.2.2.2.2.1
  have sX:Hid (S5 wc.heap.size∧wc.heap.size≠g):=⟨by rw [← hS5];exact .inr ⟨Nat.le_refl _,by simp⟩,by omega⟩
  have HX5:Hid ((wc.alloc (.cells #[.slice A n c] 37)).cell? ⟨wc.heap.size,0,none⟩=some (.slice A n c)):=World.cell?_alloc_at _ _ _ _ rfl
  have HK3:Hid (Kept S g W3 (wc.alloc (.cells #[.slice A n c] 37))):=HK2.out.2.trans hk5
  rw [hS5] at hp5
  clear hS5 HK2 m2 hb5 hk5 hgc
  generalize hW5:wc.alloc (.cells #[.slice A n c] 37)=W5 at *
  generalize wc.heap.size=bx at *
  clear hW5
  have HP5:=Lib.hid hp5
  clear hp5
  have HM5:Hid (∀ o,W5.cell? ⟨w.heap.size,o,none⟩=(gsaC a f A n c b0 n0 b1 n1 b2 n2)[o]?):=fun o=>(HK3.out.cell sM.out.1 sM.out.2).trans (HM.out o)
  have HQ5:Hid (W5.cell? ⟨q,0,none⟩=some (.pointer (some ⟨g,0,none⟩))):=(HK3.out.cell sQ.out.1 sQ.out.2).trans HQ.out
  have HA5:Hid (∀ k (hk:k < L.length),∃ b off,A=some ⟨b,off,none⟩∧S5 b∧b≠g∧W5.cell? ⟨b,off+k,none⟩=some (.int .i64 L[k])):=fun k hk=>by
    obtain⟨b,off,q1,q2,q3⟩:=HS2.out k hk
    exact⟨b,off,q1,s5S.out _ (sW.out _ (by omega)),by omega,(HK3.out.cell (sW.out _ (by omega)) (by omega)).trans q3⟩
  have sQ5:Hid (S5 q∧q≠g):=⟨s5S.out _ sQ.out.1,sQ.out.2⟩
  have sM5:Hid (S5 w.heap.size∧w.heap.size≠g):=⟨s5S.out _ sM.out.1,sM.out.2⟩
  have HB5:Hid (Below w.heap.size w W5):=HB2.out.trans (HK3.out.below (by omega) (fun k hk=>sW.out k (by omega)))
  clear HM HQ HS2 sQ sM HB2 HK3
  refine (wpIn_wide (n:=8)).1 ?_
  refine wpIn_rangeNums (by omega) (gf:=275) (lb:=#[.pointer (some ⟨bx,0,none⟩)]) rfl (enters_of Tryz.func275 (by kernel_rfl) rfl)
    (twelve_stops 7 bx g (by omega) S5 A n c L hn h12 W5 HX5.out sX HP5.out.bd HA5) (fun h k=>Kept.trans h k) (Kept.putObj HP5.out.bd) (fun _=>rfl)
    (fun pre W=>PenI S5 g (wrIds pre s2) W∧Kept S5 g W5 W)
    (fun s X Y row hs hg hr=>⟨hs.1.grown hg (fun r e=>(hr r e).2),hs.2.grown hg (fun r e hS=>by have:=(hr r e).1;have:=HP5.out.bd r hS;omega) hs.1.bd⟩)
    ⟨HP5.out,Kept.refl _ _ _⟩ (fun T Bx x=>(T.setIfInBounds 28 (numV x.1 x.2)).setIfInBounds 5 (.pointer (some ⟨Bx,0,none⟩))) ?assign ?body ?done
  case assign=>
    rintro l pre ⟨xb,xn⟩ W K hi hK
    have HI:=Lib.hid hi
    have HK:=Lib.hid hK
    clear hi hK
    gi_wp2
    exact HK.out _ _ ((KeepsOthers.alloc _ _).from _) (Kept.of_below (below_new W _) HI.out.1.bd) ⟨HI.out.1.keep (below_new W _),HI.out.2.trans (Kept.of_below (below_new W _) HI.out.1.bd)⟩
      ⟨W.heap.size,HI.out.2.size,World.cell?_alloc_at _ _ _ _ rfl,World.cell?_alloc_at _ _ _ _ rfl,rfl⟩
  case body=>
    rintro l pre ⟨xb,xn⟩ W Bx hi hBx y0 y1 hlt
    obtain⟨S6,s56,hp6,hnc⟩:=hi.1.wide
    have hBz:Bx < W.heap.size:=by obtain⟨o,ho,-⟩:=cells_of_cell y0;exact (Array.getElem?_eq_some_iff.1 ho).1
    have HBZ:=Lib.hid hBz
    obtain⟨t,e0⟩:∃ t,Hid (wrNum 1 3 0 1 255 (xb,xn) (wrIds pre s2)=t):=⟨_,rfl⟩
    have HT:Hid (t=wrIds (pre++[(xb,xn)]) s2):=e0.out.symm.trans (wrIds_snoc2 pre (xb,xn) s2).symm
    have hlp:(wrIds pre s2).2.length≤14:=by rw [wrIds_len,l2];omega
    have HK0:Hid (PenI S6 g (wrIds pre s2) W∧Kept S6 g W W):=⟨hp6,Kept.refl _ _ _⟩
    have HK5:=Lib.hid hi.2
    have HNC:=Lib.hid hnc
    have HS6:=Lib.hid s56
    have mq:=(hi.2.cell (o:=0) sQ5.out.1 sQ5.out.2).trans HQ5.out
    have sQ6:Hid (S6 q∧q≠g):=⟨s56 _ sQ5.out.1,sQ5.out.2⟩
    clear hi hBx hBz hp6 s56 hnc hlt
    generalize hsp:wrIds pre s2=sp at *
    clear hsp
    simp only [List.setIfInBounds_toArray,List.set_cons_zero,List.set_cons_succ]
    have hmx:Tryz.prog.follows .mixedOrders=true:=by kernel_rfl
    gi_wp2
    gi_region_with_o (first | (refine⟨trivial,?_⟩;gi_at_call 129;refine (CallsIn.inRound l (callsIn_wide.2 (gsaid_any _))).mono ?_;rintro r y3 ⟨rfl,hb2⟩;have k2:=Lib.hid (Kept.undrew (Kept.of_below (S:=S6) (g:=g) hb2 HK0.out.1.bd));have R2:=Lib.hid (HK0.out.1.keep (w':=y3) (Below.trans (bdrew (Below.refl _ _)) hb2));have z0:=((bcell hb2).1 Bx 0 HBZ.out).trans y0;have z1:=((bcell hb2).1 Bx 1 HBZ.out).trans y1;have z2:=(k2.out.cell (b:=q) (o:=0) sQ6.out.1 sQ6.out.2).trans mq) | (refine⟨trivial,?_⟩;gi_at_call 228;refine (CallsIn.inRound l (callsIn_wide.2 (penNum e0 R2.out (by omega)))).mono ?_;rintro r y4 ⟨rfl,hp3,hk3⟩))
    all_goals have K6:=Lib.hid (k2.out.trans hk3)
    all_goals have P6:=Lib.hid hp3
    all_goals clear hp3 hk3 k2 R2
    all_goals gi_wp2
    all_goals exact⟨Kept.keepsFrom K6.out HNC.out,K6.out.less HS6.out,by rw [← HT.out];exact P6.out.less HS6.out,HK5.out.trans (K6.out.less HS6.out)⟩
  case done=>
    rintro D xs W hD rfl hi hK
    have HI:=Lib.hid hi
    have HK:=Lib.hid hK
    clear hi hK
    obtain⟨S6,s56,hp6,hnc⟩:=HI.out.1.wide
    have sD:Hid (S6 D∧D≠g):=hnc D _ HK.out rfl
    have HK0:Hid (PenI S6 g s3 W∧Kept S6 g W W):=⟨by rw [← e3.out];exact hp6,Kept.refl _ _ _⟩
    have HM6:Hid (∀ o,W.cell? ⟨w.heap.size,o,none⟩=(gsaC a f A n c b0 n0 b1 n1 b2 n2)[o]?):=fun o=>(HI.out.2.cell sM5.out.1 sM5.out.2).trans (HM5.out o)
    have HQ6:Hid (W.cell? ⟨q,0,none⟩=some (.pointer (some ⟨g,0,none⟩))):=(HI.out.2.cell sQ5.out.1 sQ5.out.2).trans HQ5.out
    have sQ6:Hid (S6 q∧q≠g):=⟨s56 _ sQ5.out.1,sQ5.out.2⟩
    have sM6:Hid (S6 w.heap.size∧w.heap.size≠g):=⟨s56 _ sM5.out.1,sM5.out.2⟩
    have HB6:Hid (Below w.heap.size w W):=HB5.out.trans (HI.out.2.below (by omega) (fun k hk=>s5S.out k (sW.out k (by omega))))
    have sL6:Hid (∀ k,k < w.heap.size→S6 k):=fun k hk=>s56 k (s5S.out k (sW.out k (by omega)))
    have hwD:w.heap.size≤D:=Nat.le_trans HB5.out.size hD
    clear HI s56 hp6 hnc HM5 HQ5 sQ5 sM5 HB5 HA5 HP5 HX5 sX s5S sW
    have hzW:w.heap.size < W.heap.size:=Nat.lt_of_le_of_lt hwD (Array.getElem?_eq_some_iff.1 HK.out).1
    have m3:=HM6.out 3
    have m4:=HM6.out 4
    have m5:=HM6.out 5
    have m6:=HM6.out 6
    have m7:=HM6.out 7
    have m8:=HM6.out 8
    have hbA:=below_new W (.cells #[.bool b0,.int .i64 n0,.bool b1,.int .i64 n1,.bool b2,.int .i64 n2] 30)
    have HA:Hid (∀ o,(W.alloc (.cells #[.bool b0,.int .i64 n0,.bool b1,.int .i64 n1,.bool b2,.int .i64 n2] 30)).cell? ⟨W.heap.size,o,none⟩=(#[Value.bool b0,.int .i64 n0,.bool b1,.int .i64 n1,.bool b2,.int .i64 n2]:Array Value)[o]?):=fun o=>World.cell?_alloc_at _ _ _ _ rfl
    have hp7:=HK0.out.1.also hbA
    have hk7:=Kept.of_below (S:=S6) (g:=g) hbA HK0.out.1.bd
    obtain⟨S7,hS7⟩:∃ S7,Also S6 W (W.alloc (.cells #[.bool b0,.int .i64 n0,.bool b1,.int .i64 n1,.bool b2,.int .i64 n2] 30))=S7:=⟨_,rfl⟩
    have s67:Hid (∀ k,S6 k→S7 k):=fun k hk=>by rw [← hS7];exact .inl hk
    have hgW:g < W.heap.size:=HK0.out.1.choose_spec.1.2.2.2.2.1
    have sA:Hid (S7 W.heap.size∧W.heap.size≠g):=⟨by rw [← hS7];exact .inr ⟨Nat.le_refl _,by simp⟩,by omega⟩
    rw [hS7] at hp7
    have hd7:(W.alloc (.cells #[.bool b0,.int .i64 n0,.bool b1,.int .i64 n1,.bool b2,.int .i64 n2] 30)).heap[D]?=some (.deferred (some [])):=(hk7.block D sD.out.1 sD.out.2).trans HK.out
    have hq7:(W.alloc (.cells #[.bool b0,.int .i64 n0,.bool b1,.int .i64 n1,.bool b2,.int .i64 n2] 30)).cell? ⟨q,0,none⟩=some (.pointer (some ⟨g,0,none⟩)):=(hk7.cell sQ6.out.1 sQ6.out.2).trans HQ6.out
    have hb7:Below w.heap.size w (W.alloc (.cells #[.bool b0,.int .i64 n0,.bool b1,.int .i64 n1,.bool b2,.int .i64 n2] 30)):=HB6.out.trans (hbA.mono (by omega))
    have HK7:=Lib.hid hd7
    have HQ7:=Lib.hid hq7
    have HB7:=Lib.hid hb7
    have HP7:=Lib.hid hp7
    have sQ7:Hid (S7 q∧q≠g):=⟨s67.out _ sQ6.out.1,sQ6.out.2⟩
    have sD7:Hid (S7 D∧D≠g):=⟨s67.out _ sD.out.1,sD.out.2⟩
    have sL7:Hid (∀ k,k < w.heap.size→S7 k):=fun k hk=>s67.out k (sL6.out k hk)
    clear hbA hp7 hk7 hS7 hgW hd7 hq7 hb7
    go_wp2_with fail
    clear m3 m4 m5 m6 m7 m8 HM6 HQ6 sQ6 sM6 sL6 HB6 HK0 sD s67 HK
    generalize hW9:W.alloc (.cells #[.bool b0,.int .i64 n0,.bool b1,.int .i64 n1,.bool b2,.int .i64 n2] 30)=W9 at *
    generalize W.heap.size=bl at *
    clear hW9 hzW
    have HI0:Hid (∃ sk,sk=threeS s3 s4 s5 s6 0∧PenI S7 g sk W9∧Kept S7 g W9 W9):=⟨s3,rfl,HP7.out,Kept.refl _ _ _⟩
    go_loopw [41] (fun i wr=>∃ k:Nat,i=.int .i64 (k:Int)∧k≤3∧Hid (∃ sk,sk=threeS s3 s4 s5 s6 k∧PenI S7 g sk wr∧Kept S7 g W9 wr)) (fun i _=>3 - (intOf i).toNat)
    case atStart=>exact⟨0,rfl,by omega,HI0⟩
    case round=>
      clear HI0
      obtain⟨k,rfl,hk,hI⟩:=hrel
      obtain⟨sk,hsk,hpk,hkk⟩:=hI.out
      by_cases hlt:k < 3
      · obtain⟨xb,xn,t,hx0,hx1,htk,het,hll⟩:∃ xb xn t,W9.cell? ⟨bl,k * 2,none⟩=some (.bool xb)∧W9.cell? ⟨bl,k * 2+1,none⟩=some (.int .i64 xn)∧t=threeS s3 s4 s5 s6 (k+1)∧wrNum 1 3 2 0 99999 (xb,xn) sk=t∧sk.2.length≤16:=by
          rcases (by omega:k=0∨k=1∨k=2) with rfl | rfl | rfl
          · exact⟨b0,n0,s4,HA.out 0,HA.out 1,rfl,by rw [hsk];exact e4.out,by rw [hsk];show s3.2.length≤16;omega⟩
          · exact⟨b1,n1,s5,HA.out 2,HA.out 3,rfl,by rw [hsk];exact e5.out,by rw [hsk];show s4.2.length≤16;omega⟩
          · exact⟨b2,n2,s6,HA.out 4,HA.out 5,rfl,by rw [hsk];exact e6.out,by rw [hsk];show s5.2.length≤16;omega⟩
        have HT:Hid (t=threeS s3 s4 s5 s6 (k+1)):=htk
        have e0:Hid (wrNum 1 3 2 0 99999 (xb,xn) sk=t):=het
        have v0:=(hkk.cell (b:=bl) (o:=k * 2) sA.out.1 sA.out.2).trans hx0
        have v1:=(hkk.cell (b:=bl) (o:=k * 2+1) sA.out.1 sA.out.2).trans hx1
        clear hsk hx0 hx1 htk het hI
        have i1:(k:Int) < 3:=by omega
        have i2:(0:Int)≤(k:Int):=by omega
        have mq:=(hkk.cell (o:=0) sQ7.out.1 sQ7.out.2).trans HQ7.out
        have hb9:=below_new wr (.cells #[.bool xb,.int .i64 xn] 30)
        have HK0:Hid (PenI S7 g sk (wr.alloc (.cells #[.bool xb,.int .i64 xn] 30))∧Kept S7 g W9 (wr.alloc (.cells #[.bool xb,.int .i64 xn] 30))):=⟨hpk.keep hb9,hkk.trans (Kept.of_below hb9 hpk.bd)⟩
        have mq2:=(HK0.out.2.cell (o:=0) sQ7.out.1 sQ7.out.2).trans HQ7.out
        have y0:(wr.alloc (.cells #[.bool xb,.int .i64 xn] 30)).cell? ⟨wr.heap.size,0,none⟩=some (.bool xb):=World.cell?_alloc_at _ _ _ _ rfl
        have y1:(wr.alloc (.cells #[.bool xb,.int .i64 xn] 30)).cell? ⟨wr.heap.size,1,none⟩=some (.int .i64 xn):=World.cell?_alloc_at _ _ _ _ rfl
        have HVZ:Hid (wr.heap.size < (wr.alloc (.cells #[.bool xb,.int .i64 xn] 30)).heap.size):=by show _ < _;simp
        clear hb9 hpk hkk
        go_upto_region 12 with fail
        generalize hWa:wr.alloc (.cells #[.bool xb,.int .i64 xn] 30)=Wa at *
        generalize hV:wr.heap.size=V at *
        clear hV hWa v0 v1 mq
        go_region_with (first | (go_at_call 130;refine (gsadop_any _).mono ?_;rintro r y3 ⟨rfl,hb2⟩;have k2:=Lib.hid (Kept.undrew (Kept.of_below (S:=S7) (g:=g) hb2 HK0.out.1.bd));have R2:=Lib.hid (HK0.out.1.keep (w':=y3) (Below.trans (bdrew (Below.refl _ _)) hb2));have z0:=((bcell hb2).1 V 0 HVZ.out).trans y0;have z1:=((bcell hb2).1 V 1 HVZ.out).trans y1;have z2:=(k2.out.cell (b:=q) (o:=0) sQ7.out.1 sQ7.out.2).trans mq2) | (go_at_call 228;refine (penNum e0 R2.out (by omega)).mono ?_;rintro r y4 ⟨rfl,hp3,hk3⟩))
        all_goals go_wp2_with fail
        all_goals have HK1:=Lib.hid (show PenI S7 g t _∧Kept S7 g W9 _ from ⟨hp3,HK0.out.2.trans (k2.out.trans hk3)⟩)
        all_goals go_roundw
        all_goals first | exact⟨k+1,by go_num,by omega,Lib.hid ⟨t,HT.out,HK1.out.1,HK1.out.2⟩⟩ | (simp [intOf];omega)
      · obtain rfl:k=3:=by omega
        have hs6:sk=s6:=hsk
        subst hs6
        have mq:=(hkk.cell (o:=0) sQ7.out.1 sQ7.out.2).trans HQ7.out
        have HB9:Hid (Below w.heap.size w wr):=HB7.out.trans (hkk.below (by omega) (fun k hk=>sL7.out k hk))
        have HKD:Hid (wr.heap[D]?=some (.deferred (some []))):=(hkk.block D sD7.out.1 sD7.out.2).trans HK7.out
        have HP9:=Lib.hid hpk
        clear hI hsk hpk hkk HA
        go_wp2_with fail
        refine (penDone HP9.out (by omega)).mono ?_
        intro r w7 h7
        have h8:=DonePost.put HB9.out h7
        have hDz:D < wr.heap.size:=(Array.getElem?_eq_some_iff.1 HKD.out).1
        have HKE:Hid (w7.heap[D]?=some (.deferred (some []))):=(h7.below.block D hDz).trans HKD.out
        rw [HX.out] at h8
        obtain⟨v,rfl,h9⟩:=h8
        have H9:=Lib.hid h9
        clear h7 h9 mq HB9 HKD HP9
        go_wp2_with fail
        refine⟨by simp,.inl ⟨_,_,rfl,run_takeDeferred HKE.out,?_⟩⟩
        refine⟨_,results_tmp2 rfl _ _ _,?_⟩
        exact PutPost.grown (w'':=w) ⟨v,rfl,H9.out⟩ hwD HKE.out
theorem gsaPut_any (a:Bool) (f:Int) (A:Option Addr) (c:Nat) (L:List Int) (b0:Bool) (n0:Int) (b1:Bool) (n1:Int) (b2:Bool) (n2:Int) (w:World) (hs:Ints w w.heap.size A L) (hm:L.length≤1000000):Calls Tryz.prog 271 #[gsaV a f A L.length c b0 n0 b1 n1 b2 n2] w (PutPost (putGsa ⟨a,f,L,(b0,n0),(b1,n1),(b2,n2)⟩) w):=by
  by_cases h:12 < L.length
  · have:putGsa ⟨a,f,L,(b0,n0),(b1,n1),(b2,n2)⟩=([],7):=if_pos h
    rw [this]
    exact gsaPut_long a f A L.length c b0 n0 b1 n1 b2 n2 w (by omega) hm
  · exact gsaPut_ok a f A L.length c L b0 n0 b1 n1 b2 n2 w rfl hs (by omega)
end Go.Proofs.YtoabkoniegmkaaaGreat
