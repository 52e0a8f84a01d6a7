/- Layer 23: the reference's TakeAngle, case by case. -/
import Derived.Test.YtoabkoniegmkaaaGreatJ03
import Derived.Deep.QuietTactic
import Derived.OwnWalk
import Derived.Deep.AppendLies
import Derived.KernelRfl
import Derived.Deep.RegionHeld3
namespace Go.Proofs.YtoabkoniegmkaaaGreat
set_option linter.unusedVariables false
open Go.RowKit
theorem beq_textD (f g:ByteArray):(f.toList==g.toList)=decide (f=g):=by
  rw [ByteArray.toList_eq,ByteArray.toList_eq]
  by_cases h:f=g
  · subst h;simp
  · rw [decide_eq_false h,beq_eq_false_iff_ne]
    intro k
    exact h (ByteArray.ext (by simpa using k))
def takeAng (l:List UInt8) (d:ByteArray) (lat:Bool):Bool×Int×Int:=
  if l=[]∧d.data.toList=[] then (false,0,0)
  else match parseN l (wide2 lat) (wide2 lat) 5 with
  | none=>(false,0,3)
  | some n=>if d≠sideB lat false∧d≠sideB lat true then (false,0,3)
    else if 6000000≤n % 10000000∨farI lat < ((n / 10000000 * 6000000+n % 10000000:Nat):Int) then (false,0,5)
    else (true,(if d=sideB lat true then -((n / 10000000 * 6000000+n % 10000000:Nat):Int) else ((n / 10000000 * 6000000+n % 10000000:Nat):Int)),0)
theorem sideB_ne (lat:Bool):sideB lat false≠sideB lat true:=by cases lat <;> decide
theorem parseN_nil (k m f:Nat) (hk:1≤k):parseN [] k m f=none:=by
  unfold parseN
  rw [if_pos (.inl (by show 0 < k;omega))]
theorem TakeAngle23_any (s d:ByteArray) (lat:Bool) (w:World) (hs:s.size≤1000000) :
    Calls Tryz.prog 170 #[.string s,.string d,.bool lat] w fun e w'=>e=.returned (.tuple #[numV (takeAng s.data.toList d lat).1 (takeAng s.data.toList d lat).2.1,.int .i64 (takeAng s.data.toList d lat).2.2])∧Below w.heap.size w w':=by
  unfold takeAng
  have hw:1≤wide2 lat∧wide2 lat≤5:=by unfold wide2;split <;> omega
  by_cases h0:s.data.toList=[]∧d.data.toList=[]
  · rw [if_pos h0]
    exact TakeAngle_empty s d lat w (size_nil h0.1) (size_nil h0.2)
  rw [if_neg h0]
  have HP:=fun W'=>Lib.hid (parse_any s (wide2 lat) (wide2 lat) 5 W' hs (by omega) (by omega))
  by_cases hn:s.data.toList=[]
  · have hd:d.data.toList≠[]:=fun k=>h0 ⟨hn,k⟩
    rw [hn,parseN_nil _ _ _ hw.1] at HP
    rw [hn,parseN_nil _ _ _ hw.1]
    exact TakeAngle_forme s d lat 0 w (size_nil hn) (size_pos hd) HP
  have hp:=size_pos hn
  cases hq:parseN s.data.toList (wide2 lat) (wide2 lat) 5 with
  | none=>
    simp only [hq] at HP
    exact TakeAngle_form s d lat 0 w hp HP
  | some n=>
    simp only [hq] at HP
    have hle:=parseN_le hq (by omega)
    have k1:=beq_textD d ((sidesB lat).extract 0 1)
    have k2:=beq_textD d ((sidesB lat).extract 1 2)
    rw [sideB_false] at k1
    rw [sideB_true] at k2
    rw [← sideB_false] at k1
    rw [← sideB_true] at k2
    have hx:((n / 10000000 * 6000000+n % 10000000:Nat):Int)=(n:Int) / 10000000 * 6000000+(n:Int) % 10000000:=by omega
    have hm:((n % 10000000:Nat):Int)=(n:Int) % 10000000:=by omega
    dsimp only
    by_cases hN:d=sideB lat false
    · have hS:d≠sideB lat true:=fun k=>sideB_ne lat (hN.symm.trans k)
      rw [if_neg (fun k=>k.1 hN)]
      rw [decide_eq_true (by rw [sideB_false];exact hN)] at k1
      rw [decide_eq_false (by rw [sideB_true];exact hS)] at k2
      by_cases g:6000000≤n % 10000000
      · rw [if_pos (.inl g)]
        exact TakeAngle_m_N s d lat n w hp HP k1 k2 (by omega) (by omega) (by omega)
      by_cases g2:farI lat < ((n / 10000000 * 6000000+n % 10000000:Nat):Int)
      · rw [if_pos (.inr g2)]
        exact TakeAngle_x_N s d lat n w hp HP k1 k2 (by omega) (by omega) (by omega) (by omega)
      rw [if_neg (by omega),if_neg hS,hx]
      exact TakeAngle_ok_N s d lat n w hp HP k1 k2 (by omega) (by omega) (by omega) (by omega)
    rw [decide_eq_false (by rw [sideB_false];exact hN)] at k1
    by_cases hS:d=sideB lat true
    · rw [if_neg (fun k=>k.2 hS)]
      rw [decide_eq_true (by rw [sideB_true];exact hS)] at k2
      by_cases g:6000000≤n % 10000000
      · rw [if_pos (.inl g)]
        exact TakeAngle_m_S s d lat n w hp HP k1 k2 (by omega) (by omega) (by omega)
      by_cases g2:farI lat < ((n / 10000000 * 6000000+n % 10000000:Nat):Int)
      · rw [if_pos (.inr g2)]
        exact TakeAngle_x_S s d lat n w hp HP k1 k2 (by omega) (by omega) (by omega) (by omega)
      rw [if_neg (by omega),if_pos hS,hx]
      exact TakeAngle_ok_S s d lat n w hp HP k1 k2 (by omega) (by omega) (by omega) (by omega)
    · rw [if_pos ⟨hN,hS⟩]
      rw [decide_eq_false (by rw [sideB_true];exact hS)] at k2
      exact TakeAngle_side s d lat n w hp HP k1 k2 (by omega) (by omega)
theorem below_draws {w:World} (k:Nat):Below w.heap.size w (w.drewN k):=bdrewN (Below.refl _ _) k
structure Frm (g:Nat) (v:Value) (w w':World):Prop where
  os:w'.os=w.os
  tape:w'.tape=w.tape
  output:w'.output=w.output
  size:w.heap.size≤w'.heap.size
  block:∀ k,k < w.heap.size→k≠g→v.ownBlock≠some k→w'.heap[k]?=w.heap[k]?
theorem Frm.of_below {g:Nat} {v:Value} {w w':World} (h:Below w.heap.size w w'):Frm g v w w':=⟨h.os,h.tape,h.output,h.size,fun k hk _ _=>h.block k hk⟩
theorem Frm.set {g:Nat} {v:Value} {w w':World} (h:Frm g v w w') (o:Nat) (u:Value):Frm g v w (w'.setCell ⟨g,o,none⟩ u):=
  ⟨h.os,h.tape,h.output,by simpa using h.size,fun k hk h1 h2=>(Below.heap_setCell _ _ _ _ h1).trans (h.block k hk h1 h2)⟩
theorem Frm.then_below {g:Nat} {v:Value} {w w1 w2:World} (h:Frm g v w w1) (hb:Below w1.heap.size w1 w2):Frm g v w w2:=
  ⟨hb.os.trans h.os,hb.tape.trans h.tape,hb.output.trans h.output,Nat.le_trans h.size hb.size,fun k hk h1 h2=>(hb.block k (Nat.lt_of_lt_of_le hk h.size)).trans (h.block k hk h1 h2)⟩
def Moved (w:World) (v v':Value):Prop:=v'.ownBlock=v.ownBlock∨∀ k,v'.ownBlock=some k→w.heap.size≤k
theorem Frm.trans {g:Nat} {v v':Value} {w w1 w2:World} (h:Frm g v w w1) (k:Frm g v' w1 w2) (hm:Moved w v v'):Frm g v w w2:=
  ⟨k.os.trans h.os,k.tape.trans h.tape,k.output.trans h.output,Nat.le_trans h.size k.size,fun i hi h1 h2=>(k.block i (Nat.lt_of_lt_of_le hi h.size) h1 (by
    rcases hm with hm | hm
    · rw [hm];exact h2
    · intro e;have:=hm i e;omega)).trans (h.block i hi h1 h2)⟩
theorem Frm.cell {g:Nat} {v:Value} {w w':World} (h:Frm g v w w') {b o:Nat} (hb:b < w.heap.size) (h1:b≠g) (h2:v.ownBlock≠some b):w'.cell? ⟨b,o,none⟩=w.cell? ⟨b,o,none⟩:=World.cell?_of_block (a:=⟨b,o,none⟩) (h.block b hb h1 h2)
theorem Frm.below {g B:Nat} {v:Value} {w w':World} (h:Frm g v w w') (hg:B≤g) (hv:∀ k,v.ownBlock=some k→B≤k) (hB:B≤w.heap.size):Below B w w':=
  ⟨h.os,h.tape,h.output,h.size,fun k hk=>h.block k (by omega) (by omega) (fun e=>by have:=hv k e;omega)⟩
theorem ownP_below {w w':World} {B:Nat} {e:TypeId} {size n:Nat} {v:Value} {xs:List Value} (h:w.ownsRow B e size v n xs) (hb:Below w.heap.size w w'):w'.ownsRow B e size v n xs:=
  h.kept (row:=none) ⟨hb.os,hb.tape,hb.output,hb.size,fun i hi _=>hb.block i hi⟩ (Classical.em _)
def PenOk (w:World) (g:Nat) (e:Int) (v:Value) (L:List ByteArray):Prop:=
  w.cell? ⟨g,0,none⟩=some (.bool true)∧w.cell? ⟨g,1,none⟩=some (.int .i64 e)∧w.cell? ⟨g,2,none⟩=some v∧(∀ o,w.frozen? ⟨g,o,none⟩=false)∧g < w.heap.size∧w.ownsRow (g+1) 9 1 v L.length (L.map Value.string)
theorem PenOk.keep {w w':World} {g:Nat} {e:Int} {v:Value} {L:List ByteArray} (h:PenOk w g e v L) (hb:Below w.heap.size w w'):PenOk w' g e v L:=by
  obtain⟨h0,h1,h2,h3,h4,h5⟩:=h
  obtain⟨c,f⟩:=bcell hb
  exact⟨(c g 0 h4).trans h0,(c g 1 h4).trans h1,(c g 2 h4).trans h2,fun o=>(f g o h4).trans (h3 o),Nat.lt_of_lt_of_le h4 hb.size,ownP_below h5 hb⟩
def firstE (e E:Int):Int:=if e=0 then E else e
set_option maxHeartbeats 1000000 in
theorem note_any (g:Nat) (e E:Int) (w:World) (h1:w.cell? ⟨g,1,none⟩=some (.int .i64 e)) (hf:w.frozen? ⟨g,1,none⟩=false) :
    Calls Tryz.prog 171 #[.pointer (some ⟨g,0,none⟩),.int .i64 E] w fun r w'=>r=.returned (.tuple #[])∧w'=if e=0 then w.setCell ⟨g,1,none⟩ (.int .i64 E) else w:=by
  by_cases h:e=0
  · subst h
    go_enter Tryz.func171,Tryz.ntmps171
    go_wp2
    go_end0
    exact⟨rfl,rfl⟩
  · have hne:(e==0)=false:=by rw [beq_eq_false_iff_ne];exact h
    rw [if_neg h]
    clear h
    go_enter Tryz.func171,Tryz.ntmps171
    go_wp2
    go_end0
    exact⟨rfl,rfl⟩
theorem PenOk.noted {w:World} {g:Nat} {e E:Int} {v:Value} {L:List ByteArray} (h:PenOk w g e v L):PenOk (if e=0 then w.setCell ⟨g,1,none⟩ (.int .i64 E) else w) g (firstE e E) v L:=by
  unfold firstE
  by_cases he:e=0
  · rw [if_pos he,if_pos he]
    obtain⟨h0,h1,h2,h3,h4,h5⟩:=h
    refine⟨?_,World.cell?_setCell_same _ _ _ h1,?_,fun o=>by simpa using h3 o,by simpa using h4,?_⟩
    · rw [World.cell?_setCell_other _ _ _ _ (by simp)];exact h0
    · rw [World.cell?_setCell_other _ _ _ _ (by simp)];exact h2
    · refine h5.kept (row:=some g) ⟨rfl,rfl,rfl,by simp,fun k _ hk=>Below.heap_setCell _ _ _ _ (fun e=>hk (by rw [e]))⟩ (.inr fun e=>?_)
      have:=(h5.lt g e).1
      omega
  · rw [if_neg he,if_neg he];exact h
theorem frm_noted (w:World) (g:Nat) (e E:Int) (v:Value):Frm g v w (if e=0 then w.setCell ⟨g,1,none⟩ (.int .i64 E) else w):=by
  split
  · exact (Frm.of_below (Below.refl _ _)).set _ _
  · exact Frm.of_below (Below.refl _ _)
theorem str_infoP:(Tryz.prog.info? 9).map (fun i=>(i.zero,i.size,i.bytes))=some (some (.string ByteArray.empty),1,16):=by kernel_rfl
theorem info_partsP {P:Program} {t:TypeId} {z:Value} {s b:Nat} (h:(P.info? t).map (fun i=>(i.zero,i.size,i.bytes))=some (some z,s,b)):∃ i,P.info? t=some i∧i.zero=some z∧i.size=s∧i.bytes=b:=by
  cases hi:P.info? t with
  | none=>rw [hi] at h;cases h
  | some i=>
    rw [hi] at h
    injection h with h
    injection h with h1 h2
    injection h2 with h2 h3
    exact⟨i,rfl,h1,h2,h3⟩
def News (w:World) (h:Nat) (S:List ByteArray):Prop:=∀ j (hj:j < S.length),w.cell? ⟨h,j,none⟩=some (.string S[j])
def PutPost23 (g:Nat) (e E:Int) (v:Value) (L S:List ByteArray) (w:World) (r:Ending) (w':World):Prop:=
  r=.returned (.tuple #[])∧∃ v',PenOk w' g (firstE e E) v' (L++S)∧Frm g v w w'∧Moved w v v'
set_option maxRecDepth 8000 in
set_option maxHeartbeats 2000000 in
theorem Penput_any (g h m:Nat) (e E:Int) (v:Value) (L S:List ByteArray) (w:World) (hp:PenOk w g e v L) (hS:S.length=m) (hh:g < h) (hn:News w h S) (hvh:v.ownBlock≠some h) (hL:L.length+m≤1000000) (hm:0 < m) :
    Calls Tryz.prog 236 #[.pointer (some ⟨g,0,none⟩),.int .i64 E,.slice (some ⟨h,0,none⟩) m m] w (PutPost23 g e E v L S w):=by
  subst hS
  have HP:=Lib.hid hp
  obtain⟨p0,p1,p2,p3,p4,p5⟩:=hp
  have HN:=Lib.hid (note_any g e E w p1 (p3 1))
  have HP1:=Lib.hid (HP.out.noted (E:=E))
  have HF1:=Lib.hid (frm_noted w g e E v)
  have hnn:News (if e=0 then w.setCell ⟨g,1,none⟩ (.int .i64 E) else w) h S:=fun j hj=>by
    split
    · rw [World.cell?_setCell_other _ _ _ _ (fun q=>by injection q with q;omega)];exact hn j hj
    · exact hn j hj
  have HNN:=Lib.hid hnn
  clear hnn hn p1 p2 p3 p5
  generalize (if e=0 then w.setCell ⟨g,1,none⟩ (.int .i64 E) else w)=W1 at *
  obtain⟨i0,hi,hz0,hz1,hz2⟩:=info_partsP str_infoP
  go_enter Tryz.func236,Tryz.ntmps236
  go_wp2_with fail
  refine (HN.out).mono ?_
  rintro e w' ⟨rfl,rfl⟩
  obtain⟨q0,q1,q2,q3,q4,q5⟩:=HP1.out
  have HQ5:=Lib.hid q5
  have z2:=q3 2
  clear q0 q1 q3 q5 HN p0
  go_wp2_with (at_builtin;refine wpList_append_lies _ rfl _ _ 22 rfl (g+1) 9 i0 (.string ByteArray.empty) 1 16 Tryz.underlying22 hi hz0 hz1 hz2 rfl (by decide) _ _ _ rfl HQ5.out ⟨h,0,none⟩ S.length S.length (S.map Value.string) rfl (by simp) ?c1 ?c2 hm ?c3 ?c4 ?c5 _ rfl ?_)
  case c1=>
    intro j u hu
    rw [List.getElem?_map] at hu
    have hj:j < S.length:=by
      rcases Nat.lt_or_ge j S.length with k | k
      · exact k
      · rw [List.getElem?_eq_none k] at hu;cases hu
    rw [List.getElem?_eq_getElem hj] at hu
    injection hu with hu
    have e1:(⟨h,0,none⟩:Addr).add j=⟨h,j,none⟩:=by unfold Addr.add;split <;> simp_all
    rw [e1,HNN.out j hj,← hu]
  case c2=>intro u hu;obtain⟨s,-,rfl⟩:=List.mem_map.1 hu;rfl
  case c3=>unfold maxLen;omega
  case c4=>omega
  case c5=>omega
  intro g2 cap w2 hown' hgrow hlies hg2
  obtain⟨p0,p1,p2,p3,p4',p5⟩:=HP1.out
  have hne:some g≠v.ownBlock:=fun q=>by have:=(p5.lt g q.symm).1;omega
  have hc:∀ o,w2.cell? ⟨g,o,none⟩=w'.cell? ⟨g,o,none⟩:=fun o=>World.cell?_of_block (a:=⟨g,o,none⟩) (hgrow.block g p4' hne)
  have hfz:∀ o,w2.frozen? ⟨g,o,none⟩=false:=fun o=>(World.frozen?_of_block (a:=⟨g,o,none⟩) (hgrow.block g p4' hne)).trans (p3 o)
  have hz2':w2.frozen? ⟨g,2,none⟩=false:=hfz 2
  have hc2:w2.cell? ⟨g,2,none⟩=some v:=(hc 2).trans p2
  have hsz2:=hgrow.size
  have hgg:g+1≤g2:=by
    rcases hlies with q | q
    · exact (p5.lt g2 q).1
    · omega
  have HPOST:Hid (PutPost23 g e E v L S w (.returned (.tuple #[])) (w2.setCell ⟨g,2,none⟩ (.slice (some ⟨g2,0,none⟩) (L.length+S.length) cap))):=by
    refine⟨rfl,.slice (some ⟨g2,0,none⟩) (L.length+S.length) cap,⟨?_,?_,World.cell?_setCell_same _ _ _ hc2,fun o=>by simpa using hfz o,by simp;omega,?_⟩,?_,?_⟩
    · rw [World.cell?_setCell_other _ _ _ _ (by simp),hc];exact p0
    · rw [World.cell?_setCell_other _ _ _ _ (by simp),hc];exact p1
    · rw [List.length_append,List.map_append]
      refine hown'.kept (row:=some g) ⟨rfl,rfl,rfl,by simp,fun k _ hk=>Below.heap_setCell _ _ _ _ (fun e=>hk (by rw [e]))⟩ (.inr fun q=>?_)
      have:g2=g:=by simpa [Value.ownBlock] using q
      omega
    · refine Frm.set ?_ _ _
      exact⟨hgrow.os.trans HF1.out.os,hgrow.tape.trans HF1.out.tape,hgrow.output.trans HF1.out.output,Nat.le_trans HF1.out.size hgrow.size,fun k hk h1 h2=>(hgrow.block k (Nat.lt_of_lt_of_le hk HF1.out.size) (fun q=>h2 q.symm)).trans (HF1.out.block k hk h1 h2)⟩
    · rcases hlies with q | q
      · exact .inl (by rw [q];rfl)
      · refine .inr fun k hk=>?_
        have:g2=k:=by simpa [Value.ownBlock] using hk
        have:=HF1.out.size
        omega
  clear hown' hgrow hlies hg2 p0 p1 p2 p3 p5 hne hc hfz HP1 HF1 HNN HQ5 q2 z2
  go_wp2_with fail
  go_end0
  exact HPOST.out
theorem PutPost23.after {g:Nat} {e E:Int} {v:Value} {L S:List ByteArray} {w W w':World} {r:Ending} (hb:Below w.heap.size w W) (h:PutPost23 g e E v L S W r w'):PutPost23 g e E v L S w r w':=by
  obtain⟨h0,v',h1,h2,h3⟩:=h
  exact⟨h0,v',h1,(Frm.of_below hb).trans h2 (.inl rfl),h3.elim .inl fun q=>.inr fun k hk=>Nat.le_trans hb.size (q k hk)⟩
theorem news1 (w:World) (a:ByteArray):News (w.alloc (.cells #[.string a] 9)) w.heap.size [a]:=fun j hj=>by
  obtain rfl:j=0:=by simpa using hj
  rw [World.cell?_alloc_at _ _ _ _ rfl]
  rfl
theorem news2 (w:World) (a b:ByteArray):News (w.alloc (.cells #[.string a,.string b] 9)) w.heap.size [a,b]:=fun j hj=>by
  rw [World.cell?_alloc_at _ _ _ _ rfl]
  have hj2:j < 2:=by simpa using hj
  rcases (by omega:j=0∨j=1) with rfl | rfl <;> rfl
theorem PenOk.own_ne {w W:World} {g:Nat} {e:Int} {v:Value} {L:List ByteArray} (h:PenOk w g e v L) (hz:w.heap.size≤W.heap.size):v.ownBlock≠some W.heap.size:=fun q=>by
  have:=(h.2.2.2.2.2.lt _ q).2
  omega
set_option maxHeartbeats 1000000 in
theorem PenText_any (g:Nat) (e E:Int) (v:Value) (L:List ByteArray) (s:ByteArray) (w:World) (hp:PenOk w g e v L) (hL:L.length+2≤1000000) :
    Calls Tryz.prog 230 #[.pointer (some ⟨g,0,none⟩),.string s,.int .i64 E] w (PutPost23 g e E v L [s] w):=by
  have HQ:=Lib.hid (Penput_any g w.heap.size 1 e E v L [s] (w.alloc (.cells #[.string s] 9)) (hp.keep (below_new w _)) rfl hp.2.2.2.2.1 (news1 w s) (hp.own_ne (Nat.le_refl _)) (by omega) (by omega))
  have HB:=Lib.hid (below_new w (.cells #[.string s] 9))
  clear hp
  go_enter Tryz.func230,Tryz.ntmps230
  go_wp2_with fail
  refine (HQ.out).mono ?_
  rintro e w' hpost
  have HPO:=Lib.hid (PutPost23.after HB.out hpost)
  obtain⟨rfl,-⟩:=hpost
  go_wp2_with fail
  go_end0
  exact HPO.out
set_option maxHeartbeats 1000000 in
theorem PenNum_any (g:Nat) (e:Int) (v:Value) (L:List ByteArray) (b:Bool) (n W M F H' K:Int) (w:World) (hp:PenOk w g e v L) (hL:L.length+2≤1000000) :
    Calls Tryz.prog 228 #[.pointer (some ⟨g,0,none⟩),numV b n,colV W M F H' K] w (PutPost23 g e (putN b n W M F H' K).2 v L [(putN b n W M F H' K).1] w):=by
  have HP:=fun W'=>Lib.hid (Put23_any b n W M F H' K W')
  generalize (putN b n W M F H' K).1=s at *
  generalize (putN b n W M F H' K).2=E at *
  have HQ:=fun W' (hb:Below w.heap.size w W')=>Lib.hid (Penput_any g W'.heap.size 1 e E v L [s] (W'.alloc (.cells #[.string s] 9)) ((hp.keep hb).keep (below_new W' _)) rfl (Nat.lt_of_lt_of_le hp.2.2.2.2.1 hb.size) (news1 W' s) (hp.own_ne hb.size) (by omega) (by omega))
  clear hp
  go_enter Tryz.func228,Tryz.ntmps228
  go_wp2_with fail
  refine ((HP _).out).mono ?_
  rintro e w1 ⟨rfl,hb1⟩
  have b1:=Lib.hid (bthen (bthen (below_new w _) (below_new _ _)) hb1)
  go_wp2_with fail
  refine ((HQ w1 b1.out).out).mono ?_
  rintro e w' hpost
  have HPO:=Lib.hid (PutPost23.after (bthen b1.out (below_new w1 _)) hpost)
  obtain⟨rfl,-⟩:=hpost
  go_wp2_with fail
  go_end0
  exact HPO.out
set_option maxHeartbeats 1000000 in
theorem PenAngle_any (g:Nat) (e:Int) (v:Value) (L:List ByteArray) (b:Bool) (n:Int) (lat:Bool) (w:World) (hp:PenOk w g e v L) (hL:L.length+2≤1000000) :
    Calls Tryz.prog 229 #[.pointer (some ⟨g,0,none⟩),numV b n,.bool lat] w (PutPost23 g e (angN b n lat).2.2 v L [(angN b n lat).1,(angN b n lat).2.1] w):=by
  have HP:=fun W'=>Lib.hid (Angle23_any b n lat W')
  generalize (angN b n lat).1=s at *
  generalize (angN b n lat).2.1=d at *
  generalize (angN b n lat).2.2=E at *
  have HQ:=fun W' (hb:Below w.heap.size w W')=>Lib.hid (Penput_any g W'.heap.size 2 e E v L [s,d] (W'.alloc (.cells #[.string s,.string d] 9)) ((hp.keep hb).keep (below_new W' _)) rfl (Nat.lt_of_lt_of_le hp.2.2.2.2.1 hb.size) (news2 W' s d) (hp.own_ne hb.size) (by omega) (by omega))
  clear hp
  go_enter Tryz.func229,Tryz.ntmps229
  go_wp2_with fail
  refine ((HP _).out).mono ?_
  rintro e w1 ⟨rfl,hb1⟩
  have b1:=Lib.hid (bthen (below_new w _) hb1)
  go_wp2_with fail
  refine ((HQ w1 b1.out).out).mono ?_
  rintro e w' hpost
  have HPO:=Lib.hid (PutPost23.after (bthen b1.out (below_new w1 _)) hpost)
  obtain⟨rfl,-⟩:=hpost
  go_wp2_with fail
  go_end0
  exact HPO.out
theorem strs_of_ownP {w:World} {B:Nat} {e:TypeId} {A:Option Addr} {n c:Nat} {fs:List ByteArray} (h:w.ownsRow B e 1 (.slice A n c) n (fs.map Value.string)):fs.length=n∧Strs w w.heap.size A fs∧FreshA B A:=by
  have hl:fs.length=n:=by have:=h.1;simpa using this
  refine⟨hl,?_,fun a ha=>?_⟩
  · intro k hk
    rcases h.2 with ⟨hv,h0⟩ | ⟨g,cap,cur,hv,_,hg,_⟩
    · omega
    · have hA:A=some ⟨g,0,none⟩:=by injection hv
      subst hA
      have hc:=h.cells (g:=g) rfl k (.string fs[k]) (by simp [hk])
      exact⟨g,0,rfl,(Array.getElem?_eq_some_iff.1 hg).1,by
        have:(⟨g,0,none⟩:Addr).add k=⟨g,0+k,none⟩:=by unfold Addr.add;split <;> simp_all
        rw [← this];exact hc⟩
  · rcases h.2 with ⟨hv,h0⟩ | ⟨g,cap,cur,hv,hb,hg,_⟩
    · have hA:A=none:=by injection hv
      rw [hA] at ha
      cases ha
    · have hA:A=some ⟨g,0,none⟩:=by injection hv
      rw [hA] at ha
      injection ha with ha
      rw [← ha]
      exact hb
theorem own_formP {w:World} {B:Nat} {e:TypeId} {size n:Nat} {v:Value} {xs:List Value} (h:w.ownsRow B e size v n xs):∃ A c,v=.slice A n c:=by
  rcases h.2 with ⟨hv,h0⟩ | ⟨g,cap,cur,hv,_⟩
  · exact⟨none,0,by rw [hv,h0]⟩
  · exact⟨_,_,hv⟩
def TextsPost (fs:List ByteArray) (w:World) (v:Value) (w':World):Prop:=
  ∃ A c,v=.slice A fs.length c∧(A=none→c=0)∧Strs w' w'.heap.size A fs∧FreshA w.heap.size A∧Below w.heap.size w w'
set_option maxRecDepth 8000 in
set_option maxHeartbeats 2000000 in
theorem Clone_any (A:Option Addr) (fs:List ByteArray) (c:Nat) (w:World) (hA:A=none→c=0) (hs:Strs w w.heap.size A fs) (hn:fs.length≤1000000) :
    Calls Tryz.prog 168 #[.slice A fs.length c] w fun e w'=>∃ v,e=.returned v∧TextsPost fs w v w':=by
  cases A with
  | none=>
    obtain rfl:=hA rfl
    have hl:fs=[]:=by
      cases fs with
      | nil=>rfl
      | cons a l=>obtain⟨b,off,hA,-⟩:=hs 0 (by simp);cases hA
    subst hl
    clear hs hA
    change Calls Tryz.prog 168 #[.slice none 0 0] w _
    have EQ:∀ W:World,(binOp .eql 22 (.slice none 0 0) (.slice none 0 0)).run Tryz.prog W=.ok (.bool true) W:=fun W=>Lib.run_eql_slice_nil W 22 9 none 0 0 0 0 Tryz.underlying22
    go_enter Tryz.func168,Tryz.ntmps168
    go_wp2
    go_ret
    exact⟨_,rfl,none,0,rfl,fun _=>rfl,fun k hk=>absurd hk (by simp),FreshA.none_,Below.refl _ _⟩
  | some a=>
    obtain⟨i0,hi,hz0,hz1,hz2⟩:=info_partsP str_infoP
    obtain⟨n,hln⟩:∃ n,fs.length=n:=⟨_,rfl⟩
    have HLN:=Lib.hid hln
    have HS:=Lib.hid hs
    rw [hln] at hn ⊢
    clear hs hA hln
    have hown:(w.alloc (.cells #[] 9)).ownsRow w.heap.size 9 1 (.slice (some ⟨w.heap.size,0,none⟩) 0 0) 0 []:=World.ownsRow_made w #[] 0 (Nat.le_refl _) (by decide) rfl
    have HO:=Lib.hid hown
    clear hown
    have EQ:∀ W:World,(binOp .eql 22 (.slice (some a) n c) (.slice none 0 0)).run Tryz.prog W=.ok (.bool false) W:=fun W=>Lib.run_eql_slice_nil W 22 9 (some a) n c 0 0 Tryz.underlying22
    go_enter Tryz.func168,Tryz.ntmps168
    go_wp2_with (at_builtin;refine wpList_append_own _ rfl _ _ 22 rfl w.heap.size 9 i0 (.string ByteArray.empty) 1 16 Tryz.underlying22 hi hz0 hz1 hz2 rfl (by decide) _ _ _ rfl HO.out a n c (fs.map Value.string) rfl (by simp [HLN.out]) ?c1 ?c2 ?c3 ?c4 ?c5 ?_)
    case c1=>
      intro j u hu
      rw [List.getElem?_map] at hu
      have hj:j < fs.length:=by
        rcases Nat.lt_or_ge j fs.length with k | k
        · exact k
        · rw [List.getElem?_eq_none k] at hu;cases hu
      rw [List.getElem?_eq_getElem hj] at hu
      injection hu with hu
      obtain⟨b,off,hA,hb,hc⟩:=HS.out j hj
      injection hA with hA
      subst hA
      have e1:(⟨b,off,none⟩:Addr).add j=⟨b,off+j,none⟩:=by unfold Addr.add;split <;> simp_all
      rw [e1,World.cell?_alloc_past _ _ _ hb,hc,← hu]
    case c2=>intro u hu;obtain⟨s,-,rfl⟩:=List.mem_map.1 hu;rfl
    case c3=>unfold maxLen;omega
    case c4=>omega
    case c5=>simp
    intro v' w2 hown' hgrow _
    have HPOST:Hid (TextsPost fs w v' w2):=by
      obtain⟨A,c',rfl⟩:=own_formP hown'
      obtain⟨h1,h2,h3⟩:=strs_of_ownP hown'
      refine⟨A,c',by rw [h1],fun hA=>?_,h2,h3,((below_new w _).grown hgrow (by simp) (fun k hk=>(HO.out.lt k hk).1))⟩
      subst hA
      rcases hown'.2 with ⟨hv,_⟩ | ⟨g,cap,cur,hv,_⟩
      · injection hv
      · cases hv
    clear hown' hgrow HO HS
    go_wp2_with fail
    go_ret
    exact⟨_,rfl,HPOST.out⟩
def DonePost (e:Int) (L:List ByteArray) (w:World) (r:Ending) (w':World):Prop:=
  ∃ v,r=.returned (.tuple #[v,.int .i64 e])∧TextsPost (if e=0 then L else []) w v w'
set_option maxRecDepth 8000 in
set_option maxHeartbeats 2000000 in
theorem PenDone_any (g:Nat) (e:Int) (v:Value) (L:List ByteArray) (w:World) (hp:PenOk w g e v L) (hL:L.length≤1000000) :
    Calls Tryz.prog 234 #[.pointer (some ⟨g,0,none⟩)] w (DonePost e L w):=by
  obtain⟨p0,p1,p2,-,p4,p5⟩:=hp
  by_cases h:e=0
  · subst h
    obtain⟨A,c,rfl⟩:=own_formP p5
    have hA:A=none→c=0:=fun q=>by
      subst q
      rcases p5.2 with ⟨hv,_⟩ | ⟨_,_,_,hv,_⟩
      · injection hv
      · cases hv
    have HC:=Lib.hid (Clone_any A L c w hA (strs_of_ownP p5).2.1 hL)
    have HE:Hid (DonePost 0 L w=fun r w'=>∃ v,r=.returned (.tuple #[v,.int .i64 0])∧TextsPost L w v w'):=rfl
    clear hA p5
    go_enter Tryz.func234,Tryz.ntmps234
    go_wp2_with fail
    refine HC.out.mono ?_
    rintro e w' ⟨v,rfl,ht⟩
    have HT:=Lib.hid ht
    clear ht
    go_wp2_with fail
    go_ret2
    rw [HE.out]
    exact⟨v,rfl,HT.out⟩
  · have hne:(e==0)=false:=by rw [beq_eq_false_iff_ne];exact h
    have hne2:(e != 0)=true:=by rw [bne_iff_ne];exact h
    have HE:Hid (∀ n,DonePost e L w (.returned (.tuple #[.slice none 0 0,.int .i64 e])) (w.drewN n)):=fun n=>by
      refine⟨_,rfl,none,0,?_,fun _=>rfl,?_,FreshA.none_,below_draws n⟩
      · rw [if_neg h];rfl
      · rw [if_neg h];exact fun k hk=>absurd hk (by simp)
    clear h p5
    go_enter Tryz.func234,Tryz.ntmps234
    go_wp2_with fail
    go_quiet (fail)
    go_wp2_with fail
    go_ret2
    exact HE.out _
theorem Row_any (w:World):Calls Tryz.prog 227 #[] w fun r w'=>r=.returned (.pointer (some ⟨w.heap.size,0,none⟩))∧PenOk w' w.heap.size 0 (.slice none 0 0) []∧Below w.heap.size w w'∧w'.heap.size=w.heap.size+1:=by
  go_enter Tryz.func227,Tryz.ntmps227
  go_wp2
  go_ret
  refine⟨rfl,⟨by simp [World.cell?_alloc_at],by simp [World.cell?_alloc_at],by simp [World.cell?_alloc_at],fun o=>?_,by simp,World.ownsRow_nil _ _ _ _⟩,below_new _ _,by simp⟩
  rw [frozen?_alloc_cells]
  exact frozen_past _ _ _ (Nat.le_refl _)
def RowW (w:World) (g:Nat) (e:Int) (v:Value) (L:List ByteArray):Prop:=
  w.cell? ⟨g,0,none⟩=some v∧w.cell? ⟨g,2,none⟩=some (.int .i64 e)∧(∀ o,w.frozen? ⟨g,o,none⟩=false)∧g < w.heap.size∧w.ownsRow (g+1) 9 1 v L.length (L.map Value.string)
theorem RowW.keep {w w':World} {g:Nat} {e:Int} {v:Value} {L:List ByteArray} (h:RowW w g e v L) (hb:Below w.heap.size w w'):RowW w' g e v L:=by
  obtain⟨h0,h1,h3,h4,h5⟩:=h
  obtain⟨c,f⟩:=bcell hb
  exact⟨(c g 0 h4).trans h0,(c g 2 h4).trans h1,fun o=>(f g o h4).trans (h3 o),Nat.lt_of_lt_of_le h4 hb.size,ownP_below h5 hb⟩
set_option maxHeartbeats 1000000 in
theorem First_any (g:Nat) (e E:Int) (w:World) (h1:w.cell? ⟨g,2,none⟩=some (.int .i64 e)) (hf:w.frozen? ⟨g,2,none⟩=false) :
    Calls Tryz.prog 60 #[.pointer (some ⟨g,0,none⟩),.int .i64 E] w fun r w'=>r=.returned (.tuple #[])∧w'=if e=0 then w.setCell ⟨g,2,none⟩ (.int .i64 E) else w:=by
  by_cases h:e=0
  · subst h
    go_enter Tryz.func60,Tryz.ntmps60
    go_wp2
    go_end0
    exact⟨rfl,rfl⟩
  · have hne:(e==0)=false:=by rw [beq_eq_false_iff_ne];exact h
    rw [if_neg h]
    clear h
    go_enter Tryz.func60,Tryz.ntmps60
    go_wp2
    go_end0
    exact⟨rfl,rfl⟩
theorem RowW.noted {w:World} {g:Nat} {e E:Int} {v:Value} {L:List ByteArray} (h:RowW w g e v L):RowW (if e=0 then w.setCell ⟨g,2,none⟩ (.int .i64 E) else w) g (firstE e E) v L:=by
  unfold firstE
  by_cases he:e=0
  · rw [if_pos he,if_pos he]
    obtain⟨h0,h1,h3,h4,h5⟩:=h
    refine⟨?_,World.cell?_setCell_same _ _ _ h1,fun o=>by simpa using h3 o,by simpa using h4,?_⟩
    · rw [World.cell?_setCell_other _ _ _ _ (by simp)];exact h0
    · refine h5.kept (row:=some g) ⟨rfl,rfl,rfl,by simp,fun k _ hk=>Below.heap_setCell _ _ _ _ (fun e=>hk (by rw [e]))⟩ (.inr fun e=>?_)
      have:=(h5.lt g e).1
      omega
  · rw [if_neg he,if_neg he];exact h
theorem frm_notedR (w:World) (g:Nat) (e E:Int) (v:Value):Frm g v w (if e=0 then w.setCell ⟨g,2,none⟩ (.int .i64 E) else w):=by
  split
  · exact (Frm.of_below (Below.refl _ _)).set _ _
  · exact Frm.of_below (Below.refl _ _)
def RowPost (g:Nat) (e E:Int) (v:Value) (L S:List ByteArray) (w:World) (r:Ending) (w':World):Prop:=
  r=.returned (.tuple #[])∧∃ v',RowW w' g (firstE e E) v' (L++S)∧Frm g v w w'∧Moved w v v'
theorem row_append {g g2 cap:Nat} {e E:Int} {v:Value} {L S:List ByteArray} {w w1 w2:World} (HP1:RowW w1 g (firstE e E) v L) (HF1:Frm g v w w1)
    (hown':w2.ownsRow (g+1) 9 1 (.slice (some ⟨g2,0,none⟩) (L.length+S.length) cap) (L.length+S.length) (L.map Value.string++S.map Value.string)) (hgrow:w1.grownBy w2 v.ownBlock) (hlies:v.ownBlock=some g2∨g2=w1.heap.size) :
    RowPost g e E v L S w (.returned (.tuple #[])) (w2.setCell ⟨g,0,none⟩ (.slice (some ⟨g2,0,none⟩) (L.length+S.length) cap))∧w2.cell? ⟨g,0,none⟩=some v∧w2.frozen? ⟨g,0,none⟩=false:=by
  obtain⟨p0,p1,p3,p4',p5⟩:=HP1
  have hne:some g≠v.ownBlock:=fun q=>by have:=(p5.lt g q.symm).1;omega
  have hc:∀ o,w2.cell? ⟨g,o,none⟩=w1.cell? ⟨g,o,none⟩:=fun o=>World.cell?_of_block (a:=⟨g,o,none⟩) (hgrow.block g p4' hne)
  have hfz:∀ o,w2.frozen? ⟨g,o,none⟩=false:=fun o=>(World.frozen?_of_block (a:=⟨g,o,none⟩) (hgrow.block g p4' hne)).trans (p3 o)
  have hc2:w2.cell? ⟨g,0,none⟩=some v:=(hc 0).trans p0
  have hsz2:=hgrow.size
  have hgg:g+1≤g2:=by
    rcases hlies with q | q
    · exact (p5.lt g2 q).1
    · omega
  refine⟨⟨rfl,.slice (some ⟨g2,0,none⟩) (L.length+S.length) cap,⟨World.cell?_setCell_same _ _ _ hc2,?_,fun o=>by simpa using hfz o,by simp;omega,?_⟩,?_,?_⟩,hc2,hfz 0⟩
  · rw [World.cell?_setCell_other _ _ _ _ (by simp),hc];exact p1
  · rw [List.length_append,List.map_append]
    refine hown'.kept (row:=some g) ⟨rfl,rfl,rfl,by simp,fun k _ hk=>Below.heap_setCell _ _ _ _ (fun e=>hk (by rw [e]))⟩ (.inr fun q=>?_)
    have:g2=g:=by simpa [Value.ownBlock] using q
    omega
  · refine Frm.set ?_ _ _
    exact⟨hgrow.os.trans HF1.os,hgrow.tape.trans HF1.tape,hgrow.output.trans HF1.output,Nat.le_trans HF1.size hgrow.size,fun k hk h1 h2=>(hgrow.block k (Nat.lt_of_lt_of_le hk HF1.size) (fun q=>h2 q.symm)).trans (HF1.block k hk h1 h2)⟩
  · rcases hlies with q | q
    · exact .inl (by rw [q];rfl)
    · refine .inr fun k hk=>?_
      have:g2=k:=by simpa [Value.ownBlock] using hk
      have:=HF1.size
      omega
theorem news_get {w:World} {h:Nat} {S:List ByteArray} (hn:News w h S):∀ j u,(S.map Value.string)[j]?=some u→w.cell? ((⟨h,0,none⟩:Addr).add j)=some u:=by
  intro j u hu
  rw [List.getElem?_map] at hu
  have hj:j < S.length:=by
    rcases Nat.lt_or_ge j S.length with k | k
    · exact k
    · rw [List.getElem?_eq_none k] at hu;cases hu
  rw [List.getElem?_eq_getElem hj] at hu
  injection hu with hu
  have e1:(⟨h,0,none⟩:Addr).add j=⟨h,j,none⟩:=by unfold Addr.add;split <;> simp_all
  rw [e1,hn j hj,← hu]
set_option maxRecDepth 8000 in
set_option maxHeartbeats 2000000 in
theorem RowText_any (g:Nat) (e:Int) (v:Value) (L:List ByteArray) (s:ByteArray) (E:Int) (w:World) (hp:RowW w g e v L) (hL:L.length+2≤1000000) :
    Calls Tryz.prog 91 #[.pointer (some ⟨g,0,none⟩),.string s,.int .i64 E] w (RowPost g e E v L [s] w):=by
  have HQ:=fun W' (hb:Below w.heap.size w W')=>Lib.hid (First_any g e E W' (hp.keep hb).2.1 ((hp.keep hb).2.2.1 2))
  have HR:=fun W' (hb:Below w.heap.size w W')=>Lib.hid ((hp.keep hb).noted (E:=E))
  have HM:=fun W' (hb:Below w.heap.size w W')=>Lib.hid ((Frm.of_below (g:=g) (v:=v) hb).trans (frm_notedR W' g e E v) (.inl rfl))
  obtain⟨i0,hi,hz0,hz1,hz2⟩:=info_partsP str_infoP
  clear hp
  go_enter Tryz.func91,Tryz.ntmps91
  go_wp2_with fail
  refine (HQ _ (Below.refl _ _)).out.mono ?_
  rintro r w2 ⟨rfl,hw2⟩
  have HRR:=HR _ (Below.refl _ _)
  have HMM:=HM _ (Below.refl _ _)
  rw [← hw2] at HRR HMM
  clear hw2 HQ HR HM
  have HRK:=Lib.hid (HRR.out.keep (below_new w2 (.cells #[.string s] 9)))
  have HMK:=Lib.hid (HMM.out.then_below (below_new w2 (.cells #[.string s] 9)))
  obtain⟨q0,q1,q3,q4,q5⟩:=HRR.out
  have HO:=Lib.hid HRK.out.2.2.2.2
  clear q1 q3 q5 HRR HMM
  go_wp2_with (at_builtin;refine wpList_append_lies _ rfl _ _ 22 rfl (g+1) 9 i0 (.string ByteArray.empty) 1 16 Tryz.underlying22 hi hz0 hz1 hz2 rfl (by decide) _ _ _ rfl HO.out ⟨w2.heap.size,0,none⟩ 1 1 ([s].map Value.string) rfl rfl ?c1 ?c2 (by decide) ?c3 ?c4 ?c5 _ rfl ?_)
  case c1=>exact news_get (news1 w2 s)
  case c2=>intro u hu;obtain⟨s,-,rfl⟩:=List.mem_map.1 hu;rfl
  case c3=>unfold maxLen;omega
  case c4=>omega
  case c5=>simp;omega
  intro g2 cap w3 hown' hgrow hlies hg2
  obtain⟨hpost,hc0,hf0⟩:=row_append (S:=[s]) HRK.out HMK.out hown' hgrow (by simpa using hlies)
  have HPO:=Lib.hid hpost
  clear hpost hown' hgrow hlies hg2 HRK HMK HO q0
  go_wp2_with fail
  go_end0
  exact HPO.out
set_option maxRecDepth 8000 in
set_option maxHeartbeats 2000000 in
theorem RowNum_any (g:Nat) (e:Int) (v:Value) (L:List ByteArray) (b:Bool) (n W M F H K:Int) (w:World) (hp:RowW w g e v L) (hL:L.length+2≤1000000) :
    Calls Tryz.prog 88 #[.pointer (some ⟨g,0,none⟩),numV b n,colV W M F H K] w (RowPost g e (putN b n W M F H K).2 v L [(putN b n W M F H K).1] w):=by
  have HP:=fun W'=>Lib.hid (r23Put_any b n W M F H K W')
  generalize (putN b n W M F H K).1=s at *
  generalize (putN b n W M F H K).2=E at *
  have HQ:=fun W' (hb:Below w.heap.size w W')=>Lib.hid (First_any g e E W' (hp.keep hb).2.1 ((hp.keep hb).2.2.1 2))
  have HR:=fun W' (hb:Below w.heap.size w W')=>Lib.hid ((hp.keep hb).noted (E:=E))
  have HM:=fun W' (hb:Below w.heap.size w W')=>Lib.hid ((Frm.of_below (g:=g) (v:=v) hb).trans (frm_notedR W' g e E v) (.inl rfl))
  obtain⟨i0,hi,hz0,hz1,hz2⟩:=info_partsP str_infoP
  clear hp
  go_enter Tryz.func88,Tryz.ntmps88
  go_wp2_with fail
  refine ((HP _).out).mono ?_
  rintro e w1 ⟨rfl,hb1⟩
  have b1:=Lib.hid (bthen (bthen (below_new w _) (below_new _ _)) hb1)
  go_wp2_with fail
  refine (HQ w1 b1.out).out.mono ?_
  rintro r w2 ⟨rfl,hw2⟩
  have HRR:=HR w1 b1.out
  have HMM:=HM w1 b1.out
  rw [← hw2] at HRR HMM
  clear hw2 HQ HR HM
  have HRK:=Lib.hid (HRR.out.keep (below_new w2 (.cells #[.string s] 9)))
  have HMK:=Lib.hid (HMM.out.then_below (below_new w2 (.cells #[.string s] 9)))
  obtain⟨q0,q1,q3,q4,q5⟩:=HRR.out
  have HO:=Lib.hid HRK.out.2.2.2.2
  clear q1 q3 q5 HRR HMM
  go_wp2_with (at_builtin;refine wpList_append_lies _ rfl _ _ 22 rfl (g+1) 9 i0 (.string ByteArray.empty) 1 16 Tryz.underlying22 hi hz0 hz1 hz2 rfl (by decide) _ _ _ rfl HO.out ⟨w2.heap.size,0,none⟩ 1 1 ([s].map Value.string) rfl rfl ?c1 ?c2 (by decide) ?c3 ?c4 ?c5 _ rfl ?_)
  case c1=>exact news_get (news1 w2 s)
  case c2=>intro u hu;obtain⟨s,-,rfl⟩:=List.mem_map.1 hu;rfl
  case c3=>unfold maxLen;omega
  case c4=>omega
  case c5=>simp;omega
  intro g2 cap w3 hown' hgrow hlies hg2
  obtain⟨hpost,hc0,hf0⟩:=row_append (S:=[s]) HRK.out HMK.out hown' hgrow (by simpa using hlies)
  have HPO:=Lib.hid hpost
  clear hpost hown' hgrow hlies hg2 HRK HMK HO q0
  go_wp2_with fail
  go_end0
  exact HPO.out
set_option maxRecDepth 8000 in
set_option maxHeartbeats 2000000 in
theorem RowAngle_any (g:Nat) (e:Int) (v:Value) (L:List ByteArray) (b:Bool) (n:Int) (lat:Bool) (w:World) (hp:RowW w g e v L) (hL:L.length+2≤1000000) :
    Calls Tryz.prog 86 #[.pointer (some ⟨g,0,none⟩),numV b n,.bool lat] w (RowPost g e (angN b n lat).2.2 v L [(angN b n lat).1,(angN b n lat).2.1] w):=by
  have HP:=fun W'=>Lib.hid (r23Angle_any b n lat W')
  generalize (angN b n lat).1=s at *
  generalize (angN b n lat).2.1=d at *
  generalize (angN b n lat).2.2=E at *
  have HQ:=fun W' (hb:Below w.heap.size w W')=>Lib.hid (First_any g e E W' (hp.keep hb).2.1 ((hp.keep hb).2.2.1 2))
  have HR:=fun W' (hb:Below w.heap.size w W')=>Lib.hid ((hp.keep hb).noted (E:=E))
  have HM:=fun W' (hb:Below w.heap.size w W')=>Lib.hid ((Frm.of_below (g:=g) (v:=v) hb).trans (frm_notedR W' g e E v) (.inl rfl))
  obtain⟨i0,hi,hz0,hz1,hz2⟩:=info_partsP str_infoP
  clear hp
  go_enter Tryz.func86,Tryz.ntmps86
  go_wp2_with fail
  refine ((HP _).out).mono ?_
  rintro e w1 ⟨rfl,hb1⟩
  have b1:=Lib.hid (bthen (below_new w _) hb1)
  go_wp2_with fail
  refine (HQ w1 b1.out).out.mono ?_
  rintro r w2 ⟨rfl,hw2⟩
  have HRR:=HR w1 b1.out
  have HMM:=HM w1 b1.out
  rw [← hw2] at HRR HMM
  clear hw2 HQ HR HM
  have HRK:=Lib.hid (HRR.out.keep (below_new w2 (.cells #[.string s,.string d] 9)))
  have HMK:=Lib.hid (HMM.out.then_below (below_new w2 (.cells #[.string s,.string d] 9)))
  obtain⟨q0,q1,q3,q4,q5⟩:=HRR.out
  have HO:=Lib.hid HRK.out.2.2.2.2
  clear q1 q3 q5 HRR HMM
  go_wp2_with (at_builtin;refine wpList_append_lies _ rfl _ _ 22 rfl (g+1) 9 i0 (.string ByteArray.empty) 1 16 Tryz.underlying22 hi hz0 hz1 hz2 rfl (by decide) _ _ _ rfl HO.out ⟨w2.heap.size,0,none⟩ 2 2 ([s,d].map Value.string) rfl rfl ?c1 ?c2 (by decide) ?c3 ?c4 ?c5 _ rfl ?_)
  case c1=>exact news_get (news2 w2 s d)
  case c2=>intro u hu;obtain⟨s,-,rfl⟩:=List.mem_map.1 hu;rfl
  case c3=>unfold maxLen;omega
  case c4=>omega
  case c5=>simp;omega
  intro g2 cap w3 hown' hgrow hlies hg2
  obtain⟨hpost,hc0,hf0⟩:=row_append (S:=[s,d]) HRK.out HMK.out hown' hgrow (by simpa using hlies)
  have HPO:=Lib.hid hpost
  clear hpost hown' hgrow hlies hg2 HRK HMK HO q0
  go_wp2_with fail
  go_end0
  exact HPO.out
set_option maxRecDepth 8000 in
set_option maxHeartbeats 2000000 in
theorem RowDone_any (g:Nat) (e:Int) (v:Value) (L:List ByteArray) (w:World) (hp:RowW w g e v L) (hL:L.length≤1000000) :
    Calls Tryz.prog 90 #[.pointer (some ⟨g,0,none⟩)] w (DonePost e L w):=by
  obtain⟨p0,p1,-,p4,p5⟩:=hp
  by_cases h:e=0
  · subst h
    have HE:Hid (DonePost 0 L w=fun r w'=>∃ v,r=.returned (.tuple #[v,.int .i64 0])∧TextsPost L w v w'):=rfl
    obtain⟨i0,hi,hz0,hz1,hz2⟩:=info_partsP str_infoP
    have hown:(w.alloc (.cells #[] 9)).ownsRow w.heap.size 9 1 (.slice (some ⟨w.heap.size,0,none⟩) 0 0) 0 []:=World.ownsRow_made w #[] 0 (Nat.le_refl _) (by decide) rfl
    have HO:=Lib.hid hown
    clear hown
    rcases p5.2 with ⟨rfl,h0⟩ | ⟨k,cap,cur,rfl,hb,hg,-,-,-,-⟩
    · have hl:L=[]:=List.eq_nil_of_length_eq_zero h0
      subst hl
      clear p5 h0
      go_enter Tryz.func90,Tryz.ntmps90
      go_wp2_with fail
      go_ret2
      rw [HE.out]
      exact⟨_,rfl,some ⟨w.heap.size,0,none⟩,0,rfl,(fun q=>by cases q),(fun k hk=>absurd hk (by simp)),(fun a ha=>by injection ha with ha;rw [← ha];exact Nat.le_refl _),below_new w _⟩
    · have hnews:=strs_of_ownP p5
      have HS:=Lib.hid hnews.2.1
      obtain⟨n,hln⟩:∃ n,L.length=n:=⟨_,rfl⟩
      have HLN:=Lib.hid hln
      rw [hln] at p0 hL
      obtain⟨NW,hNW⟩:∃ NW,L.map Value.string=NW:=⟨_,rfl⟩
      have HNW:=Lib.hid hNW
      have HC1:Hid (∀ j u,NW[j]?=some u→(w.alloc (.cells #[] 9)).cell? ((⟨k,0,none⟩:Addr).add j)=some u):=by
        intro j u hu
        rw [← hNW,List.getElem?_map] at hu
        have hj:j < L.length:=by
          rcases Nat.lt_or_ge j L.length with k | k
          · exact k
          · rw [List.getElem?_eq_none k] at hu;cases hu
        rw [List.getElem?_eq_getElem hj] at hu
        injection hu with hu
        obtain⟨b,off,hA,hb,hc⟩:=HS.out j hj
        injection hA with hA
        rw [hA]
        have e1:(⟨b,off,none⟩:Addr).add j=⟨b,off+j,none⟩:=by unfold Addr.add;split <;> simp_all
        rw [e1,World.cell?_alloc_past _ _ _ hb,hc,← hu]
      have HC2:Hid (∀ u∈NW,u.oneCell'=true):=by intro u hu;rw [← hNW] at hu;obtain⟨s,-,rfl⟩:=List.mem_map.1 hu;rfl
      have HC3:Hid (NW.length=n * 1):=by show _=_;rw [← hNW,List.length_map,hln,Nat.mul_one]
      clear p5 hb hg hnews hln hNW
      go_enter Tryz.func90,Tryz.ntmps90
      go_wp2_with (at_builtin;refine wpList_append_own _ rfl _ _ 22 rfl w.heap.size 9 i0 (.string ByteArray.empty) 1 16 Tryz.underlying22 hi hz0 hz1 hz2 rfl (by decide) _ _ _ rfl HO.out ⟨k,0,none⟩ n cap NW rfl HC3.out HC1.out HC2.out ?c3 ?c4 ?c5 ?_)
      case c3=>unfold maxLen;omega
      case c4=>omega
      case c5=>simp
      intro v' w2 hown' hgrow _
      have HPOST:Hid (TextsPost L w v' w2):=by
        obtain⟨A,c',rfl⟩:=own_formP hown'
        rw [← HNW.out] at hown'
        obtain⟨h1,h2,h3⟩:=strs_of_ownP (fs:=L) (by simpa using hown')
        refine⟨A,c',by rw [h1],fun hA=>?_,h2,h3,((below_new w _).grown hgrow (by simp) (fun k hk=>(HO.out.lt k hk).1))⟩
        subst hA
        rcases hown'.2 with ⟨hv,_⟩ | ⟨g,cap,cur,hv,_⟩
        · injection hv
        · cases hv
      clear hown' hgrow HO HS
      go_wp2_with fail
      go_ret2
      rw [HE.out]
      exact⟨_,rfl,HPOST.out⟩
  · have hne:(e==0)=false:=by rw [beq_eq_false_iff_ne];exact h
    have hne2:(e != 0)=true:=by rw [bne_iff_ne];exact h
    have HE:Hid (∀ n,DonePost e L w (.returned (.tuple #[.slice none 0 0,.int .i64 e])) (w.drewN n)):=fun n=>by
      refine⟨_,rfl,none,0,?_,fun _=>rfl,?_,FreshA.none_,below_draws n⟩
      · rw [if_neg h];rfl
      · rw [if_neg h];exact fun k hk=>absurd hk (by simp)
    clear h p5
    go_enter Tryz.func90,Tryz.ntmps90
    go_wp2_with fail
    go_quiet (fail)
    go_wp2_with fail
    go_ret2
    exact HE.out _
variable {Q : Nat → Prop}
abbrev nilV:Value:=.slice none 0 0
def textE (e:Int) (R:List ByteArray):Int:=if R=[] then firstE e 3 else e
def StrsQ (Q:Nat→Prop) (w:World) (A:Option Addr) (fs:List ByteArray):Prop:=
  ∀ k (hk:k < fs.length),∃ b off,A=some ⟨b,off,none⟩∧Q b∧w.cell? ⟨b,off+k,none⟩=some (.string (fs[k]'hk))
def EyeR (Q:Nat→Prop) (w:World) (g:Nat) (e:Int) (R:List ByteArray):Prop:=
  ∃ A c,w.cell? ⟨g,0,none⟩=some (.bool true)∧w.cell? ⟨g,1,none⟩=some (.int .i64 e)∧w.cell? ⟨g,2,none⟩=some (.slice A R.length c)∧(∀ o,w.frozen? ⟨g,o,none⟩=false)∧g < w.heap.size∧StrsQ Q w A R∧(∀ b,Q b→b < w.heap.size)∧(∀ b,Q b→b≠g)∧R.length≤1000000∧R.length≤c
theorem strs_keep {w w':World} {A:Option Addr} {R:List ByteArray} {g:Nat} (h:StrsQ Q w A R) (hB:∀ b,Q b→b < w.heap.size) (hA:∀ b,Q b→b≠g) (hf:Frm g nilV w w'):StrsQ Q w' A R:=by
  intro k hk
  obtain⟨b,off,h1,h2,h3⟩:=h k hk
  exact⟨b,off,h1,h2,(hf.cell (hB b h2) (hA b h2) (by simp [Value.ownBlock])).trans h3⟩
theorem EyeR.keep {w w':World} {g:Nat} {e:Int} {R:List ByteArray} (h:EyeR Q w g e R) (hb:Below w.heap.size w w'):EyeR Q w' g e R:=by
  obtain⟨A,c,h0,h1,h2,h3,h4,h5,hB,h6,h7,h8⟩:=h
  obtain⟨cc,ff⟩:=bcell hb
  exact⟨A,c,(cc g 0 h4).trans h0,(cc g 1 h4).trans h1,(cc g 2 h4).trans h2,fun o=>(ff g o h4).trans (h3 o),Nat.lt_of_lt_of_le h4 hb.size,strs_keep h5 hB h6 (Frm.of_below hb),(fun b q=>Nat.lt_of_lt_of_le (hB b q) hb.size),h6,h7,h8⟩
theorem frm_set (w:World) (g o:Nat) (u:Value):Frm g nilV w (w.setCell ⟨g,o,none⟩ u):=(Frm.of_below (Below.refl _ _)).set _ _
theorem EyeR.err {w:World} {g:Nat} {e E:Int} {R:List ByteArray} (h:EyeR Q w g e R):EyeR Q (w.setCell ⟨g,1,none⟩ (.int .i64 E)) g E R:=by
  obtain⟨A,c,h0,h1,h2,h3,h4,h5,hB,h6,h7,h8⟩:=h
  refine⟨A,c,?_,World.cell?_setCell_same _ _ _ h1,?_,fun o=>by simpa using h3 o,by simpa using h4,strs_keep h5 hB h6 (frm_set _ _ _ _),by simpa using hB,h6,h7,h8⟩
  · rw [World.cell?_setCell_other _ _ _ _ (by simp)];exact h0
  · rw [World.cell?_setCell_other _ _ _ _ (by simp)];exact h2
def EyePost (Q:Nat→Prop) (g:Nat) (x:Value) (e:Int) (R:List ByteArray) (w:World) (r:Ending) (w':World):Prop:=r=.returned x∧EyeR Q w' g e R∧Frm g nilV w w'
theorem EyeR.noted {w:World} {g:Nat} {e E:Int} {R:List ByteArray} (h:EyeR Q w g e R):EyeR Q (if e=0 then w.setCell ⟨g,1,none⟩ (.int .i64 E) else w) g (firstE e E) R:=by
  unfold firstE
  by_cases he:e=0
  · rw [if_pos he,if_pos he];exact h.err
  · rw [if_neg he,if_neg he];exact h
theorem frm_note (w:World) (g o:Nat) (e E:Int):Frm g nilV w (if e=0 then w.setCell ⟨g,o,none⟩ (.int .i64 E) else w):=by
  split
  · exact frm_set _ _ _ _
  · exact Frm.of_below (Below.refl _ _)
set_option maxHeartbeats 1000000 in
theorem EyeFail_any (g:Nat) (e E:Int) (R:List ByteArray) (w:World) (h:EyeR Q w g e R) :
    Calls Tryz.prog 109 #[.pointer (some ⟨g,0,none⟩),.int .i64 E] w (EyePost Q g (.tuple #[]) (firstE e E) R w):=by
  have HN:Hid (EyePost Q g (.tuple #[]) (firstE e E) R w (.returned (.tuple #[])) (if e=0 then w.setCell ⟨g,1,none⟩ (.int .i64 E) else w)):=⟨rfl,h.noted,frm_note _ _ _ _ _⟩
  obtain⟨A,c,h0,h1,h2,h3,h4,h5,hB,h6,h7,h8⟩:=h
  have HC:=Lib.hid (note_any g e E w h1 (h3 1))
  clear h1 h2 h3 h4 h5 h6
  generalize (if e=0 then w.setCell ⟨g,1,none⟩ (.int .i64 E) else w)=W at *
  go_enter Tryz.func109,Tryz.ntmps109
  go_wp2_with fail
  refine (HC.out).mono ?_
  rintro e w' ⟨rfl,rfl⟩
  go_wp2_with fail
  go_end0
  exact HN.out
theorem EyeErr_any (g:Nat) (e:Int) (R:List ByteArray) (w:World) (h:EyeR Q w g e R) :
    Calls Tryz.prog 107 #[.pointer (some ⟨g,0,none⟩)] w fun r w'=>r=.returned (.int .i64 e)∧w=w':=by
  obtain⟨A,c,h0,h1,h2,h3,h4,h5,hB,h6,h7,h8⟩:=h
  clear h5 h6 h3
  go_enter Tryz.func107,Tryz.ntmps107
  go_wp2
  go_ret
  exact⟨rfl,rfl⟩
theorem EyeLeft_any (g:Nat) (e:Int) (R:List ByteArray) (w:World) (h:EyeR Q w g e R) :
    Calls Tryz.prog 135 #[.pointer (some ⟨g,0,none⟩)] w fun r w'=>r=.returned (.int .i64 (R.length:Int))∧w=w':=by
  obtain⟨A,c,h0,h1,h2,h3,h4,h5,hB,h6,h7,h8⟩:=h
  clear h5 h6 h3
  generalize R.length=n at *
  go_enter Tryz.func135,Tryz.ntmps135
  go_wp2
  go_ret
  exact⟨rfl,rfl⟩
variable {Q : Nat → Prop}
set_option maxRecDepth 8000 in
set_option maxHeartbeats 1000000 in
theorem EyeText_any (g:Nat) (e:Int) (R:List ByteArray) (w:World) (h:EyeR Q w g e R) :
    Calls Tryz.prog 112 #[.pointer (some ⟨g,0,none⟩)] w (EyePost Q g (.string (R.headD ByteArray.empty)) (textE e R) R.tail w):=by
  cases R with
  | nil=>
    have HN:Hid (EyePost Q g (.string ByteArray.empty) (firstE e 3) [] w (.returned (.string ByteArray.empty)) (if e=0 then w.setCell ⟨g,1,none⟩ (.int .i64 3) else w)):=⟨rfl,h.noted,frm_note _ _ _ _ _⟩
    obtain⟨A,c,h0,h1,h2,h3,h4,h5,hB,h6,h7,h8⟩:=h
    have HC:=Lib.hid (note_any g e 3 w h1 (h3 1))
    change Calls Tryz.prog 112 #[.pointer (some ⟨g,0,none⟩)] w (EyePost Q g (.string ByteArray.empty) (firstE e 3) [] w)
    replace h2:w.cell? ⟨g,2,none⟩=some (.slice A 0 c):=h2
    clear h1 h3 h4 h5 h6 h7 h8
    generalize (if e=0 then w.setCell ⟨g,1,none⟩ (.int .i64 3) else w)=W at *
    go_enter Tryz.func112,Tryz.ntmps112
    go_wp2_with fail
    refine (HC.out).mono ?_
    rintro e w' ⟨rfl,rfl⟩
    go_wp2_with fail
    go_ret
    exact HN.out
  | cons s t=>
    obtain⟨A,c,h0,h1,h2,h3,h4,h5,hB,h6,h7,h8⟩:=h
    obtain⟨b,off,rfl,hb,hc⟩:=h5 0 (by simp)
    have hbg:=h6 b hb
    have H6:=Lib.hid h6
    replace hc:w.cell? ⟨b,off,none⟩=some (.string s):=hc
    have hn:(s :: t).length=t.length+1:=rfl
    rw [hn] at h2 h7 h8
    have z2:=h3 2
    have HN:Hid (EyePost Q g (.string s) e t w (.returned (.string s)) (w.setCell ⟨g,2,none⟩ (.slice (some ⟨b,off+1,none⟩) t.length (c - 1)))):=by
      refine⟨rfl,⟨some ⟨b,off+1,none⟩,c - 1,?_,?_,World.cell?_setCell_same _ _ _ h2,fun o=>by simpa using h3 o,by simpa using h4,?_,by simpa using hB,?_,by omega,by omega⟩,frm_set _ _ _ _⟩
      · rw [World.cell?_setCell_other _ _ _ _ (by simp)];exact h0
      · rw [World.cell?_setCell_other _ _ _ _ (by simp)];exact h1
      · intro k hk
        obtain⟨b2,off2,e1,e2,e3⟩:=h5 (k+1) (by simpa using hk)
        injection e1 with e1
        injection e1 with e1 e1'
        subst e1 e1'
        refine⟨b,off+1,rfl,hb,?_⟩
        rw [World.cell?_setCell_other _ _ _ _ (fun q=>by injection q with q;exact hbg q.symm),show off+1+k=off+(k+1) from by omega,e3]
        rfl
      · exact H6.out
    change Calls Tryz.prog 112 #[.pointer (some ⟨g,0,none⟩)] w (EyePost Q g (.string s) e t w)
    have HF:=Lib.hid h3
    clear h3 h5 h6 hn
    have i1:(1:Int)≤((t.length+1:Nat):Int):=by omega
    have i2:((t.length+1:Nat):Int)≤(c:Int):=by omega
    have i3:(((t.length+1:Nat):Int)==0)=false:=by rw [beq_eq_false_iff_ne];omega
    have i4:(0:Int) < ((t.length+1:Nat):Int):=by omega
    have i5:t.length+1 - 1=t.length:=by omega
    by_cases hc1:c=1
    · subst hc1
      have ht:t=[]:=List.eq_nil_of_length_eq_zero (by omega)
      subst ht
      have HN2:Hid (EyePost Q g (.string s) e [] w (.returned (.string s)) (w.setCell ⟨g,2,none⟩ (.slice (some ⟨b,off,none⟩) 0 0))):=by
        refine⟨rfl,⟨some ⟨b,off,none⟩,0,?_,?_,World.cell?_setCell_same _ _ _ h2,fun o=>by simpa using HF.out o,by simpa using h4,fun k hk=>absurd hk (by simp),by simpa using hB,H6.out,by simp,by simp⟩,frm_set _ _ _ _⟩
        · rw [World.cell?_setCell_other _ _ _ _ (by simp)];exact h0
        · rw [World.cell?_setCell_other _ _ _ _ (by simp)];exact h1
      replace h2:w.cell? ⟨g,2,none⟩=some (.slice (some ⟨b,off,none⟩) 1 1):=h2
      clear HN i1 i2 i3 i4 i5 h7 h8 HF
      go_enter Tryz.func112,Tryz.ntmps112
      go_wp2_with fail
      go_ret
      exact HN2.out
    · clear HF
      generalize t.length+1=n at *
      generalize t.length=m at *
      go_enter Tryz.func112,Tryz.ntmps112
      go_wp2_with fail
      go_ret
      exact HN.out
theorem digF_isD (f:Nat):∀ n l,∀ c∈digF f n l,isD c=true:=by
  induction f with
  | zero=>intro n l c h;simp [digF] at h
  | succ f ih=>
    intro n l c h
    unfold digF at h
    split at h
    · rcases List.mem_append.1 h with h | h
      · exact ih _ _ c h
      · have:c=UInt8.ofNat (48+n % 10):=by simpa using h
        subst this
        refine decide_eq_true ?_
        simp
        omega
    · simp at h
theorem digF_val (f:Nat):∀ n l,n < 10 ^ f→valD (digF f n l)=n:=by
  induction f with
  | zero => intro n l h; have : n < 1 := h; have : n = 0 := by omega
            subst this;rfl
  | succ f ih=>
    intro n l h
    unfold digF
    split
    · rw [valD_snoc,ih _ _ (by rw [Nat.pow_succ] at h;omega)]
      simp
      omega
    · have:n=0:=by omega
      subst this;rfl
theorem digF_ge (f:Nat):∀ n l,l≤f→l≤(digF f n l).length:=by
  induction f with
  | zero=>intro n l h;omega
  | succ f ih=>
    intro n l h
    unfold digF
    split
    · have:=ih (n / 10) (l - 1) (by omega)
      simp
      omega
    · simp;omega
theorem digF_le (f:Nat):∀ n l k,n < 10 ^ k→l≤k→(digF f n l).length≤k:=by
  induction f with
  | zero=>intro n l k _ _;simp [digF]
  | succ f ih=>
    intro n l k h1 h2
    unfold digF
    split
    · rename_i h
      cases k with
      | zero=>have:n < 1:=h1;omega
      | succ k=>
        have:=ih (n / 10) (l - 1) k (by rw [Nat.pow_succ] at h1;omega) (by omega)
        simp
        omega
    · simp
theorem big20 {n:Nat} (h:n≤1000000000000000000):n < 10 ^ 20:=by
  have:(10:Nat) ^ 20=100000000000000000000:=by decide
  omega
theorem digL_isD (n l:Nat):∀ c∈digL n l,isD c=true:=digF_isD 20 n l
theorem digL_val {n l:Nat} (h:n≤1000000000000000000):valD (digL n l)=n:=digF_val 20 n l (big20 h)
theorem digL_ge {n l:Nat} (h:l≤20):l≤(digL n l).length:=digF_ge 20 n l h
theorem digL_le {n l k:Nat} (h:n < 10 ^ k) (hl:l≤k):(digL n l).length≤k:=digF_le 20 n l k h hl
theorem digL_eq {n l:Nat} (h:n < 10 ^ l) (hl:l≤20):(digL n l).length=l:=Nat.le_antisymm (digL_le h (Nat.le_refl _)) (digL_ge hl)
theorem tail_form (f:Nat):∀ r,0 < r→r < 10 ^ f→f≤18→∃ r' k,r=r' * 10 ^ k∧k < f∧r' % 10≠0∧Lib.trimRightB (46 :: digL r f) 48=46 :: digL r' (f - k):=by
  induction f with
  | zero=>intro r h1 h2 _;have:r < 1:=h2;omega
  | succ f ih=>
    intro r h1 h2 h3
    have hm:r≤1000000000000000000:=by
      have h4:(10:Nat) ^ (f+1)≤10 ^ 18:=Nat.pow_le_pow_right (by decide) h3
      have e:(10:Nat) ^ 18=1000000000000000000:=by decide
      omega
    by_cases h:r % 10=0
    · rw [trim_down r (f+1) h1 h hm h3,Nat.add_sub_cancel]
      obtain⟨r',k,e1,e2,e3,e4⟩:=ih (r / 10) (by omega) (by rw [Nat.pow_succ] at h2;omega) (by omega)
      refine⟨r',k+1,?_,by omega,e3,?_⟩
      · rw [Nat.pow_succ,← Nat.mul_assoc,← e1];omega
      · rw [e4,show f+1 - (k+1)=f - k from by omega]
    · exact⟨r,0,by simp,by omega,h,trim_stay r (f+1) h1 h hm h3⟩
theorem tail_cut {r' k v j:Nat} (h:r' * 10 ^ k=v * 10 ^ j) (hr:r' % 10≠0):j≤k:=by
  rcases Nat.lt_or_ge k j with h1 | h1
  · exfalso
    obtain⟨d,rfl⟩:∃ d,j=k+(d+1):=⟨j - k - 1,by omega⟩
    have e1:r'=v * 10 ^ (d+1):=by
      have:r' * 10 ^ k=v * 10 ^ (d+1) * 10 ^ k:=by rw [h,Nat.pow_add,Nat.mul_assoc,Nat.mul_comm (10 ^ k)]
      exact Nat.eq_of_mul_eq_mul_right (Nat.pow_pos (by decide)) this
    rw [Nat.pow_succ,← Nat.mul_assoc] at e1
    omega
  · exact h1
theorem cntD_parts {A T:List UInt8} (hA:∀ c∈A,isD c=true) (hT:∀ c,T.head?=some c→isD c=false):cntD (A++T)=A.length:=by
  unfold cntD
  rw [List.takeWhile_append_of_pos hA]
  have:T.takeWhile isD=[]:=by
    cases T with
    | nil=>rfl
    | cons c T=>rw [List.takeWhile_cons_of_neg (by rw [hT c rfl];decide)]
  rw [this,List.append_nil]
theorem cntD_all {B:List UInt8} (hB:∀ c∈B,isD c=true):cntD B=B.length:=by
  have:=cntD_parts (T:=[]) hB (fun c h=>by simp at h)
  rwa [List.append_nil] at this
def NumText (l:List UInt8) (a m f n:Nat):Prop:=
  ∃ A T,l=A++T∧(∀ c∈A,isD c=true)∧a≤A.length∧A.length≤m ∧
    (T=[]∧n=valD A * 10 ^ f∨∃ B,T=46 :: B∧(∀ c∈B,isD c=true)∧1≤B.length∧B.length≤f∧n=valD A * 10 ^ f+valD B * 10 ^ (f - B.length))
theorem parseN_of {l:List UInt8} {a m f n:Nat} (h:NumText l a m f n):parseN l a m f=some n:=by
  obtain⟨A,T,rfl,hA,h1,h2,h3⟩:=h
  rcases h3 with ⟨rfl,rfl⟩ | ⟨B,rfl,hB,h4,h5,rfl⟩
  · rw [List.append_nil]
    unfold parseN
    rw [cntD_all hA,if_neg (by omega),if_pos rfl]
  · have hc:=cntD_parts (T:=46 :: B) hA (fun c h=>by
      have:c=46:=by simpa using h.symm
      subst this
      decide)
    have hd:(A++46 :: B).drop (A.length+1)=B:=by
      rw [← List.drop_drop,List.drop_left]
      rfl
    unfold parseN
    have g:(A++46 :: B)[A.length]?=some 46:=by simp
    have g2:(A++46 :: B).length=A.length+1+B.length:=by simp;omega
    rw [hc,hd,cntD_all hB,if_neg (by omega),if_neg (by omega),if_neg (by
      intro k
      rcases k with k | k | k | k
      · exact k g
      · omega
      · omega
      · exact k g2.symm)]
    rw [List.take_left]
theorem parseN_inv {l:List UInt8} {a m f n:Nat} (h:parseN l a m f=some n):NumText l a m f n:=by
  unfold parseN at h
  have hA:=cntD_take l
  split at h
  · cases h
  rename_i g1
  split at h
  · rename_i g2
    injection h with h
    rw [g2,List.take_length] at hA
    exact⟨l,[],by simp,hA,by omega,by omega,.inl ⟨rfl,h.symm⟩⟩
  rename_i g2
  split at h
  · cases h
  rename_i g3
  injection h with h
  have hle:=cntD_le l
  have g4:l[cntD l]?=some 46:=Classical.not_not.1 fun k=>g3 (.inl k)
  have hB:=cntD_take (l.drop (cntD l+1))
  have e1:cntD (l.drop (cntD l+1))=(l.drop (cntD l+1)).length:=by rw [List.length_drop];omega
  rw [e1,List.take_length] at hB
  refine⟨l.take (cntD l),l.drop (cntD l),(List.take_append_drop _ _).symm,hA,by rw [List.length_take];omega,by rw [List.length_take];omega,.inr ⟨l.drop (cntD l+1),?_,hB,by omega,by omega,by rw [← e1];exact h.symm⟩⟩
  have hlt:cntD l < l.length:=by omega
  rw [List.drop_eq_getElem_cons hlt]
  rw [List.getElem?_eq_getElem hlt] at g4
  injection g4 with g4
  rw [g4]
theorem tailB_text (r f:Nat) (hr:r < 10 ^ f) (hf:f≤18):tailB r f=[]∧r=0∨∃ B,tailB r f=46 :: B∧(∀ c∈B,isD c=true)∧1≤B.length∧B.length≤f∧valD B * 10 ^ (f - B.length)=r:=by
  unfold tailB
  by_cases h0:r=0
  · rw [if_pos h0];exact .inl ⟨rfl,h0⟩
  · rw [if_neg h0]
    obtain⟨r',k,e1,e2,e3,e4⟩:=tail_form f r (by omega) hr hf
    have hr':r' < 10 ^ (f - k):=by
      rw [e1,show f=(f - k)+k from by omega,Nat.pow_add] at hr
      exact Nat.lt_of_mul_lt_mul_right (a:=10 ^ k) hr
    have hm:r'≤1000000000000000000:=by
      have h4:(10:Nat) ^ (f - k)≤10 ^ 18:=Nat.pow_le_pow_right (by decide) (by omega)
      have e:(10:Nat) ^ 18=1000000000000000000:=by decide
      omega
    have hl:(digL r' (f - k)).length=f - k:=digL_eq hr' (by omega)
    refine .inr ⟨digL r' (f - k),e4,digL_isD _ _,by omega,by omega,?_⟩
    rw [hl,digL_val hm,show f - (f - k)=k from by omega,e1]
theorem tailB_short (v j f:Nat) (h:v * 10 ^ j < 10 ^ f) (hf:f≤18) (hj:j≤f):(tailB (v * 10 ^ j) f).length≤1+(f - j):=by
  unfold tailB
  by_cases h0:v * 10 ^ j=0
  · rw [if_pos h0];simp
  · rw [if_neg h0]
    obtain⟨r',k,e1,e2,e3,e4⟩:=tail_form f _ (by omega) h hf
    have hk:=tail_cut e1.symm e3
    have hr':r' < 10 ^ (f - k):=by
      rw [e1,show f=(f - k)+k from by omega,Nat.pow_add] at h
      exact Nat.lt_of_mul_lt_mul_right (a:=10 ^ k) h
    rw [e4,List.length_cons,digL_eq hr' (by omega)]
    omega
theorem pointL_text (n w m f:Nat) (hn:n < 10 ^ (m+f)) (hmf:m+f≤18) (hw:1≤w) (hwm:w≤m):NumText (pointL n w f) 1 m f n:=by
  have hn2:n≤1000000000000000000:=by
    have h4:(10:Nat) ^ (m+f)≤10 ^ 18:=Nat.pow_le_pow_right (by decide) (by omega)
    have e:(10:Nat) ^ 18=1000000000000000000:=by decide
    omega
  have hq:n / 10 ^ f < 10 ^ m:=by
    rw [Nat.pow_add] at hn
    exact Nat.div_lt_of_lt_mul (by rwa [Nat.mul_comm])
  have hq2:n / 10 ^ f≤1000000000000000000:=Nat.le_trans (Nat.div_le_self _ _) hn2
  have hr:n % 10 ^ f < 10 ^ f:=Nat.mod_lt _ (Nat.pow_pos (by decide))
  have hdm:n / 10 ^ f * 10 ^ f+n % 10 ^ f=n:=by rw [Nat.mul_comm];exact Nat.div_add_mod n (10 ^ f)
  refine⟨digL (n / 10 ^ f) w,tailB (n % 10 ^ f) f,rfl,digL_isD _ _,Nat.le_trans hw (digL_ge (by omega)),digL_le hq hwm,?_⟩
  rw [digL_val hq2]
  rcases tailB_text (n % 10 ^ f) f hr (by omega) with ⟨h1,h2⟩ | ⟨B,h1,h2,h3,h4,h5⟩
  · exact .inl ⟨h1,by omega⟩
  · exact .inr ⟨B,h1,h2,h3,h4,by omega⟩
theorem bodyL_neg (l:List UInt8):negL (45 :: l)=true∧bodyL (45 :: l)=l:=⟨rfl,rfl⟩
theorem bodyL_pos {l:List UInt8} {a m f n:Nat} (h:NumText l a m f n) (ha:1≤a):negL l=false∧bodyL l=l∧l≠[]:=by
  obtain⟨A,T,rfl,hA,h1,-⟩:=h
  cases A with
  | nil=>simp at h1;omega
  | cons c A=>
    have hc:=of_decide_eq_true (hA c (by simp))
    have:negL (c :: A++T)=false:=by
      show (some c==some 45)=false
      have:c≠45:=by rintro rfl;exact absurd hc (by decide)
      simpa using this
    refine⟨this,?_,by simp⟩
    unfold bodyL
    rw [this]
    rfl
theorem right_mf {W M F L H:Int} (h:rightB W M F L H=true):∃ w m f:Nat,W=(w:Int)∧M=(m:Int)∧F=(f:Int)∧1≤w∧w≤m∧m≤12∧f≤6∧-tenI (m+f) < L∧H < tenI (m+f):=by
  have h:=of_decide_eq_true h
  refine⟨W.toNat,M.toNat,F.toNat,by omega,by omega,by omega,by omega,by omega,by omega,by omega,?_⟩
  rw [show M.toNat+F.toNat=(M+F).toNat from by omega]
  exact⟨h.2.2.2.2.2.2.1,h.2.2.2.2.2.2.2⟩
theorem put_take {b:Bool} {n W M F L H:Int} (h:(putN b n W M F L H).2=0):takeN (putN b n W M F L H).1.data.toList W M F L H=(b,n,0):=by
  unfold putN at h ⊢
  by_cases hr:rightB W M F L H=false
  · rw [if_pos hr] at h;exact absurd h (by decide)
  rw [if_neg hr] at h ⊢
  by_cases hf:fitsB b n L H=false
  · rw [if_pos hf] at h;exact absurd h (by decide)
  rw [if_neg hf] at h ⊢
  cases b with
  | false=>
    rw [if_pos rfl]
    have:n=0:=by
      unfold fitsB at hf
      simpa using hf
    subst this
    unfold takeN
    rw [if_neg hr]
    rfl
  | true=>
    rw [if_neg (by decide)]
    have hfit:fitsB true n L H=true:=by simpa using hf
    have hb:=fitsB_true hfit
    obtain⟨w,m,f,rfl,rfl,rfl,h1,h2,h3,h4,h5,h6⟩:=right_mf (by simpa using hr)
    have hx:n.natAbs < 10 ^ (m+f):=by
      rw [tenI_cast] at h5 h6
      omega
    by_cases hn:n < 0
    · rw [if_pos hn]
      have ht:=pointL_text n.natAbs w m f hx (by omega) h1 h2
      have hp:=parseN_of ht
      show takeN (toB (45 :: pointL (-n).toNat w f)).data.toList w m f L H=_
      rw [toList_B,show (-n).toNat=n.natAbs from by omega]
      unfold takeN
      rw [if_neg hr,if_neg (by simp),(bodyL_neg _).1,(bodyL_neg _).2,Int.toNat_natCast,Int.toNat_natCast,hp]
      simp only [if_true]
      rw [show -((n.natAbs:Nat):Int)=n from by omega,hfit]
      rfl
    · rw [if_neg hn]
      have ht:=pointL_text n.natAbs w m f hx (by omega) h1 h2
      have hp:=parseN_of ht
      obtain⟨k1,k2,k3⟩:=bodyL_pos ht (Nat.le_refl _)
      show takeN (toB (pointL n.toNat w f)).data.toList w m f L H=_
      rw [toList_B,show n.toNat=n.natAbs from by omega]
      unfold takeN
      rw [if_neg hr,if_neg k3,k1,k2,Int.toNat_natCast,Int.toNat_natCast,hp]
      simp only [Bool.false_eq_true,if_false]
      rw [show ((n.natAbs:Nat):Int)=n from by omega,hfit]
      rfl
end Go.Proofs.YtoabkoniegmkaaaGreat
