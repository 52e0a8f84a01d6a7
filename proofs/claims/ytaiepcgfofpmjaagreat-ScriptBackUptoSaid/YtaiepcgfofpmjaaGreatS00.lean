/- General small lemmas over any program: texts, bytes, the worlds of a walk. -/
import Derived.WalkKit
import Derived.WalkSpells
import Derived.WalkLawsBesides
import Derived.Lib.Hide
import Derived.Deep.Upon
import Derived.Deep.AppendLies
import Derived.ArgAppend
import Derived.Laws.IdiomCopy
import Derived.Maps.RangeWalk
import Derived.Maps.OwnSet
import Derived.Test.YtaiepcgfofpmjaaGreatChecked
import Derived.BigQuiet
import Derived.Deep.QuietTactic
import Derived.Deep.MidRow
namespace Go.Proofs.YtaiepcgfofpmjaaGreat
set_option linter.unusedVariables false
open Go.RowKit
theorem ret_str {a b:ByteArray} (h:a=b):Ending.returned (.string a)=.returned (.string b):=by rw [h]
theorem bthen {w w1 w2:World} (h1:Below w.heap.size w w1) (h2:Below w1.heap.size w1 w2):Below w.heap.size w w2:=h1.trans (h2.mono h1.size)
theorem bdrewN {B:Nat} {a w:World} (h:Below B a w) (n:Nat):Below B a (w.drewN n):=⟨h.os,h.tape,h.output,h.size,h.block⟩
theorem bdrew {B:Nat} {a w:World} (h:Below B a w):Below B a w.drew:=⟨h.os,h.tape,h.output,h.size,h.block⟩
theorem take_snoc (s:ByteArray) (k:Nat) (h:k < s.size):s.data.toList.take (k+1)=s.data.toList.take k++[s[k]]:=by
  rw [List.take_succ_eq_append_getElem (by simpa using h)];rfl
theorem run_conv_row {P:Program} (w:World) (src dst e:TypeId) (a:Addr) (cap:Nat) (ns:List Int)
    (hs:P.underlying src=some (.slice e)) (he:P.underlying e=some (.int .u8)) (hd:P.underlying dst=some .string)
    (hc:∀ j (hj:j < ns.length),w.cell? (a.add j)=some (.int .u8 ns[j])) :
    (convert src dst (.slice (some a) ns.length cap)).run P w=.ok (.string ⟨(ns.map fun n=>UInt8.ofNat n.toNat).toArray⟩) w:=by
  rw [run_convert_bytes_string w src dst e (some a) ns.length cap hs he hd]
  have hl:=run_loadCells_list (P:=P) w a (ns.map (Value.int .u8)) (fun j v hj=>by
    have hjl:j < ns.length:=by
      rcases Nat.lt_or_ge j ns.length with h | h
      · exact h
      · simp [List.getElem?_eq_none (show (ns.map (Value.int .u8)).length≤j by simpa using h)] at hj
    rw [hc j hjl]
    simpa [List.getElem?_eq_getElem hjl] using hj)
  rw [List.length_map] at hl
  rw [run_bytesToString w a ns.length cap ns hl]
  congr 2
  have:∀ (l:List Int) (r:ByteArray),l.foldl (fun r n=>r.push (UInt8.ofNat n.toNat)) r=⟨r.data++(l.map fun n=>UInt8.ofNat n.toNat).toArray⟩:=by
    intro l
    induction l with
    | nil=>intro r;simp
    | cons n l ih=>
      intro r
      simp only [List.foldl_cons,List.map_cons]
      rw [ih]
      congr 1
      apply Array.ext'
      simp [ByteArray.push]
  rw [this]
  simp
theorem run_conv1 {P:Program} (src dst e:TypeId) (hs:P.underlying src=some (.slice e)) (he:P.underlying e=some (.int .u8)) (hd:P.underlying dst=some .string)
    (w:World) (a:Int) (n:Nat) (hn:n=w.heap.size) :
    (convert src dst (.slice (some ⟨n,0,none⟩) 1 1)).run P (w.alloc (.cells #[.int .u8 a] e))=.ok (.string ⟨#[UInt8.ofNat a.toNat]⟩) (w.alloc (.cells #[.int .u8 a] e)):=by
  subst hn
  exact run_conv_row (w.alloc (.cells #[.int .u8 a] e)) src dst e ⟨w.heap.size,0,none⟩ 1 [a] hs he hd (fun j hj=>by
    have:j=0:=by simp at hj;omega
    subst this
    simp [Addr.add,World.cell?_alloc_new])
theorem run_conv2 {P:Program} (src dst e:TypeId) (hs:P.underlying src=some (.slice e)) (he:P.underlying e=some (.int .u8)) (hd:P.underlying dst=some .string)
    (w:World) (a b:Int) (n:Nat) (hn:n=w.heap.size) :
    (convert src dst (.slice (some ⟨n,0,none⟩) 2 2)).run P (w.alloc (.cells #[.int .u8 a,.int .u8 b] e))=.ok (.string ⟨#[UInt8.ofNat a.toNat,UInt8.ofNat b.toNat]⟩) (w.alloc (.cells #[.int .u8 a,.int .u8 b] e)):=by
  subst hn
  exact run_conv_row (w.alloc (.cells #[.int .u8 a,.int .u8 b] e)) src dst e ⟨w.heap.size,0,none⟩ 2 [a,b] hs he hd (fun j hj=>by
    have hj2:j < 2:=by simpa using hj
    have:j=0∨j=1:=by omega
    rcases this with rfl | rfl <;> simp [Addr.add,World.cell?_alloc_new])
theorem below_new (w:World) (o:Obj):Below w.heap.size w (w.alloc o):=(Below.refl _ _).alloc (Nat.le_refl _) _
structure Tm where
  b:Nat
  id:Int
  t:Int
  ev:Int
def befT (x y:Tm):Bool:=decide (x.t < y.t∨x.t=y.t∧x.id < y.id)
theorem befT_iff {x y:Tm}:befT x y=true↔x.t < y.t∨x.t=y.t∧x.id < y.id:=by simp [befT]
theorem befT_no {x y:Tm}:befT x y=false↔¬ (x.t < y.t∨x.t=y.t∧x.id < y.id):=by simp [befT]
theorem befT_asymm {x y:Tm} (h:befT x y=true):befT y x=false:=by rw [befT_iff] at h;rw [befT_no];omega
theorem not_trans {x y z:Tm} (h:befT x y=false) (k:befT y z=false):befT x z=false:=by rw [befT_no] at *;omega
def swapF (f:Nat→Tm) (i k:Nat):Nat→Tm:=fun x=>if x=i then f k else if x=k then f i else f x
theorem swapF_l (f:Nat→Tm) (i k:Nat):swapF f i k i=f k:=by simp [swapF]
theorem swapF_r (f:Nat→Tm) (i k:Nat):swapF f i k k=f i:=by unfold swapF;split <;> simp_all
theorem swapF_o (f:Nat→Tm) (i k:Nat) {x:Nat} (h1:x≠i) (h2:x≠k):swapF f i k x=f x:=by simp [swapF,h1,h2]
def SameS (f g:Nat→Tm) (n:Nat):Prop:=(∀ i,i < n→∃ j,j < n∧g i=f j)∧(∀ j,j < n→∃ i,i < n∧g i=f j)
theorem SameS.refl (f:Nat→Tm) (n:Nat):SameS f f n:=⟨fun i h=>⟨i,h,rfl⟩,fun i h=>⟨i,h,rfl⟩⟩
theorem SameS.trans {f g h:Nat→Tm} {n:Nat} (a:SameS f g n) (b:SameS g h n):SameS f h n:=by
  refine⟨fun i hi=>?_,fun j hj=>?_⟩
  · obtain⟨k,hk,e⟩:=b.1 i hi
    obtain⟨m,hm,e'⟩:=a.1 k hk
    exact⟨m,hm,e.trans e'⟩
  · obtain⟨k,hk,e⟩:=a.2 j hj
    obtain⟨m,hm,e'⟩:=b.2 k hk
    exact⟨m,hm,e'.trans e⟩
theorem SameS.swap (f:Nat→Tm) {n i k:Nat} (hi:i < n) (hk:k < n):SameS f (swapF f i k) n:=by
  refine⟨fun x hx=>?_,fun x hx=>?_⟩
  · by_cases h1:x=i
    · exact⟨k,hk,by rw [h1,swapF_l]⟩
    · by_cases h2:x=k
      · exact⟨i,hi,by rw [h2,swapF_r]⟩
      · exact⟨x,hx,swapF_o f i k h1 h2⟩
  · by_cases h1:x=i
    · exact⟨k,hk,by rw [h1,swapF_r]⟩
    · by_cases h2:x=k
      · exact⟨i,hi,by rw [h2,swapF_l]⟩
      · exact⟨x,hx,swapF_o f i k h1 h2⟩
def InjT (f:Nat→Tm) (n:Nat):Prop:=∀ i j,i < n→j < n→(f i).b=(f j).b→i=j
theorem InjT.swap {f:Nat→Tm} {n i k:Nat} (h:InjT f n) (hi:i < n) (hk:k < n):InjT (swapF f i k) n:=by
  have hσ:∀ x,x < n→∃ y,y < n∧swapF f i k x=f y∧(y=if x=i then k else if x=k then i else x):=fun x hx=>by
    by_cases h1:x=i
    · exact⟨k,hk,by rw [h1,swapF_l],by rw [if_pos h1]⟩
    · by_cases h2:x=k
      · exact⟨i,hi,by rw [h2,swapF_r],by rw [if_neg h1,if_pos h2]⟩
      · exact⟨x,hx,swapF_o f i k h1 h2,by rw [if_neg h1,if_neg h2]⟩
  intro x y hx hy e
  obtain⟨x',hx',ex,qx⟩:=hσ x hx
  obtain⟨y',hy',ey,qy⟩:=hσ y hy
  rw [ex,ey] at e
  have:=h x' y' hx' hy' e
  subst qx qy
  split at this <;> split at this <;> (try split at this) <;> (try split at this) <;> omega
abbrev par (k:Nat):Nat:=(k - 1) / 2
def edge (f:Nat→Tm) (k:Nat):Prop:=befT (f k) (f (par k))=false
def HeapF (f:Nat→Tm) (n:Nat):Prop:=∀ k,k < n→0 < k→edge f k
def UpI (f:Nat→Tm) (n j:Nat):Prop:=(∀ k,k < n→0 < k→k≠j→edge f k)∧(0 < j→∀ k,k < n→0 < k→par k=j→befT (f k) (f (par j))=false)
theorem UpI.root {f:Nat→Tm} {n:Nat} (h:UpI f n 0):HeapF f n:=fun k hk h0=>h.1 k hk h0 (by omega)
theorem UpI.stop {f:Nat→Tm} {n j:Nat} (h:UpI f n j) (hj:befT (f j) (f (par j))=false):HeapF f n:=fun k hk h0=>by
  by_cases e:k=j
  · subst e;exact hj
  · exact h.1 k hk h0 e
theorem UpI.step {f:Nat→Tm} {n j:Nat} (h:UpI f n j) (h0:0 < j) (hjn:j < n) (hj:befT (f j) (f (par j))=true):UpI (swapF f (par j) j) n (par j):=by
  have hp:par j < j:=by show (j - 1) / 2 < j;omega
  refine⟨fun k hk hk0 hkp=>?_,fun hp0 k hk hk0 hkp=>?_⟩
  · show befT _ _=false
    by_cases e:k=j
    · subst e
      rw [swapF_r,swapF_l]
      exact befT_asymm hj
    · rw [swapF_o f _ _ hkp e]
      by_cases e1:par k=par j
      · rw [e1,swapF_l]
        have:=h.1 k hk hk0 e
        unfold edge at this
        rw [e1] at this
        exact not_trans this (befT_asymm hj)
      · by_cases e2:par k=j
        · rw [e2,swapF_r]
          exact h.2 h0 k hk hk0 e2
        · rw [swapF_o f _ _ e1 e2]
          exact h.1 k hk hk0 e
  · have hpp:par (par j) < par j:=by show (par j - 1) / 2 < par j;omega
    rw [swapF_o (x:=par (par j)) f _ _ (by omega) (by omega)]
    have hgp:befT (f (par j)) (f (par (par j)))=false:=h.1 (par j) (by omega) hp0 (by omega)
    by_cases e:k=j
    · subst e
      rw [swapF_r]
      exact hgp
    · rw [swapF_o f _ _ (by have : par k < k := by (show (k - 1) / 2 < k); omega
                            omega) e]
      have:=h.1 k hk hk0 e
      unfold edge at this
      rw [hkp] at this
      exact not_trans this hgp
def DnI (f:Nat→Tm) (n i0 i:Nat):Prop:=i0≤i∧(∀ k,k < n→0 < k→par k≠i→(k≠i0∨i≠i0)→edge f k)∧(0 < i→∀ k,k < n→0 < k→par k=i→befT (f k) (f (par i))=false)
theorem DnI.stop {f:Nat→Tm} {n i0 i:Nat} (h:DnI f n i0 i) (hc:∀ k,k < n→0 < k→par k=i→edge f k):(i=i0→UpI f n i0)∧(i≠i0→HeapF f n):=by
  refine⟨fun e=>?_,fun e k hk h0=>?_⟩
  · subst e
    refine⟨fun k hk h0 hne=>?_,h.2.2⟩
    by_cases e1:par k=i
    · exact hc k hk h0 e1
    · exact h.2.1 k hk h0 e1 (Or.inl hne)
  · by_cases e1:par k=i
    · exact hc k hk h0 e1
    · exact h.2.1 k hk h0 e1 (Or.inr e)
theorem DnI.step {f:Nat→Tm} {n i0 i j:Nat} (h:DnI f n i0 i) (hj:j < n) (hji:par j=i) (hj0:0 < j) (hmin:∀ k,k < n→0 < k→par k=i→befT (f k) (f j)=false) (hlt:befT (f j) (f i)=true):DnI (swapF f i j) n i0 j:=by
  have hij:i < j:=by have:(j - 1) / 2=i:=hji;omega
  refine⟨by have:=h.1;omega,fun k hk hk0 hkj hk1=>?_,fun _ k hk hk0 hkj=>?_⟩
  · show befT _ _=false
    by_cases e:k=j
    · subst e
      rw [swapF_r,hji,swapF_l]
      exact befT_asymm hlt
    · by_cases e1:k=i
      · subst e1
        rw [swapF_l]
        have hp:par k < k:=by show (k - 1) / 2 < k;omega
        rw [swapF_o (x:=par k) f _ _ (by omega) (by omega)]
        exact h.2.2 hk0 j hj hj0 hji
      · rw [swapF_o f _ _ e1 e]
        by_cases e2:par k=i
        · rw [e2,swapF_l]
          exact hmin k hk hk0 e2
        · rw [swapF_o f _ _ e2 hkj]
          refine h.2.1 k hk hk0 e2 ?_
          by_cases e3:i=i0
          · exact Or.inl (by omega)
          · exact Or.inr e3
  · have hp:par k < k:=by show (k - 1) / 2 < k;omega
    rw [hji,swapF_l,swapF_o (x:=k) f _ _ (by omega) (by omega)]
    have h1:edge f k:=h.2.1 k hk hk0 (by omega) (Or.inl (by have:=h.1;omega))
    unfold edge at h1
    rw [hkj] at h1
    exact h1
theorem DnI.root {f g:Nat→Tm} {n:Nat} (h:HeapF f n) (hg:∀ k,0 < k→g k=f k):DnI g n 0 0:=by
  refine⟨Nat.le_refl _,fun k hk h0 hp hk1=>?_,fun q=>by omega⟩
  show befT _ _=false
  rw [hg k h0,hg (par k) (by omega)]
  exact h k hk h0
theorem HeapF.least {f:Nat→Tm} {n:Nat} (h:HeapF f n):∀ k,k < n→befT (f k) (f 0)=false:=by
  intro k
  induction k using Nat.strongRecOn with
  | ind k ih=>
    intro hk
    by_cases h0:k=0
    · subst h0
      rw [befT_no];omega
    · have hp:par k < k:=by show (k - 1) / 2 < k;omega
      exact not_trans (h k hk (by omega)) (ih (par k) hp (by omega))
theorem HeapF.less {f:Nat→Tm} {n m:Nat} (h:HeapF f n) (hm:m≤n):HeapF f m:=fun k hk h0=>h k (by omega) h0
theorem HeapF.push {f g:Nat→Tm} {n:Nat} (h:HeapF f n) (hg:∀ k,k < n→g k=f k):UpI g (n+1) n:=by
  refine⟨fun k hk h0 hne=>?_,fun h0 k hk hk0 hkp=>?_⟩
  · show befT _ _=false
    have hp:par k < k:=by show (k - 1) / 2 < k;omega
    rw [hg k (by omega),hg (par k) (by omega)]
    exact h k (by omega) h0
  · have hp:par k < k:=by show (k - 1) / 2 < k;omega
    omega
theorem HeapF.drop {f g:Nat→Tm} {n i:Nat} (h:HeapF f (n+1)) (hi:i < n) (hg:∀ k,k < n→k≠i→g k=f k) (hgi:g i=f n):DnI g n i i:=by
  refine⟨Nat.le_refl _,fun k hk h0 hp hk1=>?_,fun h0 k hk hk0 hkp=>?_⟩
  · show befT _ _=false
    have hpk:par k < k:=by show (k - 1) / 2 < k;omega
    have hki:k≠i:=by omega
    rw [hg k hk hki,hg (par k) (by omega) hp]
    exact h k (by omega) h0
  · have hpk:par k < k:=by show (k - 1) / 2 < k;omega
    have hpi:par i < i:=by show (i - 1) / 2 < i;omega
    rw [hg k hk (by omega),hg (par i) (by omega) (by omega)]
    have h1:=h k (by omega) hk0
    have h2:=h i (by omega) h0
    unfold edge at h1 h2
    rw [hkp] at h1
    exact not_trans h1 h2
theorem addr_addQ (b off j:Nat):(⟨b,off,none⟩:Addr).add j=⟨b,off+j,none⟩:=by unfold Addr.add;split <;> simp_all
def FlatQ (Q:Nat→Prop) (w:World) (A:Option Addr) (xs:List Value):Prop:=∀ (j:Nat) u,xs[j]?=some u→∃ b off,A=some ⟨b,off,none⟩∧Q b∧w.cell? ⟨b,off+j,none⟩=some u
theorem FlatQ.nil (Q:Nat→Prop) (w:World) (A:Option Addr):FlatQ Q w A []:=fun j u hu=>by simp at hu
theorem FlatQ.less {Q R:Nat→Prop} {w:World} {A:Option Addr} {xs:List Value} (h:FlatQ Q w A xs) (hr:∀ b,Q b→R b):FlatQ R w A xs:=fun j u hu=>by
  obtain⟨b,off,h1,h2,h3⟩:=h j u hu
  exact⟨b,off,h1,hr b h2,h3⟩
theorem FlatQ.keep {Q:Nat→Prop} {w w':World} {A:Option Addr} {xs:List Value} (h:FlatQ Q w A xs) (hk:∀ b,Q b→w'.heap[b]?=w.heap[b]?):FlatQ Q w' A xs:=fun j u hu=>by
  obtain⟨b,off,h1,h2,h3⟩:=h j u hu
  exact⟨b,off,h1,h2,(World.cell?_of_block (a:=⟨b,off+j,none⟩) (hk b h2)).trans h3⟩
theorem FlatQ.below {Q:Nat→Prop} {w w':World} {A:Option Addr} {xs:List Value} {B:Nat} (h:FlatQ Q w A xs) (hb:Below B w w') (hq:∀ b,Q b→b < B):FlatQ Q w' A xs:=h.keep fun b hq'=>hb.block b (hq b hq')
theorem FlatQ.lt {Q:Nat→Prop} {w:World} {A:Option Addr} {xs:List Value} (h:FlatQ Q w A xs):FlatQ (fun b=>Q b∧b < w.heap.size) w A xs:=fun j u hu=>by
  obtain⟨b,off,h1,h2,h3⟩:=h j u hu
  exact⟨b,off,h1,⟨h2,World.block_lt_of_cell? w _ h3⟩,h3⟩
structure KeptS (S:Nat→Prop) (w w':World):Prop where
  os:w'.os=w.os
  tape:w'.tape=w.tape
  output:w'.output=w.output
  size:w.heap.size≤w'.heap.size
  block:∀ k,S k→w'.heap[k]?=w.heap[k]?
theorem KeptS.refl (S:Nat→Prop) (w:World):KeptS S w w:=⟨rfl,rfl,rfl,Nat.le_refl _,fun _ _=>rfl⟩
theorem KeptS.trans {S:Nat→Prop} {w w1 w2:World} (h:KeptS S w w1) (k:KeptS S w1 w2):KeptS S w w2:=
  ⟨k.os.trans h.os,k.tape.trans h.tape,k.output.trans h.output,Nat.le_trans h.size k.size,fun i hi=>(k.block i hi).trans (h.block i hi)⟩
theorem KeptS.of_below {S:Nat→Prop} {B:Nat} {w w':World} (h:Below B w w') (hb:∀ k,S k→k < B):KeptS S w w':=
  ⟨h.os,h.tape,h.output,h.size,fun k hk=>h.block k (hb k hk)⟩
theorem KeptS.below {S:Nat→Prop} {B:Nat} {w w':World} (h:KeptS S w w') (hb:∀ k,k < B→S k):Below B w w':=
  ⟨h.os,h.tape,h.output,h.size,fun k hk=>h.block k (hb k hk)⟩
theorem KeptS.less {S T:Nat→Prop} {w w':World} (h:KeptS S w w') (hT:∀ k,T k→S k):KeptS T w w':=⟨h.os,h.tape,h.output,h.size,fun k hk=>h.block k (hT k hk)⟩
theorem KeptS.cell {S:Nat→Prop} {w w':World} (h:KeptS S w w') {b o:Nat} (hb:S b):w'.cell? ⟨b,o,none⟩=w.cell? ⟨b,o,none⟩:=World.cell?_of_block (a:=⟨b,o,none⟩) (h.block b hb)
theorem KeptS.frozen {S:Nat→Prop} {w w':World} (h:KeptS S w w') {b o:Nat} (hb:S b):w'.frozen? ⟨b,o,none⟩=w.frozen? ⟨b,o,none⟩:=World.frozen?_of_block (a:=⟨b,o,none⟩) (h.block b hb)
theorem KeptS.drewN {S:Nat→Prop} {w w':World} (h:KeptS S w w') (n:Nat):KeptS S w (w'.drewN n):=⟨h.os,h.tape,h.output,h.size,h.block⟩
theorem KeptS.set {S:Nat→Prop} {w w':World} (h:KeptS S w w') {g:Nat} (hg:¬ S g) (o:Nat) (v:Value):KeptS S w (w'.setCell ⟨g,o,none⟩ v):=
  ⟨h.os,h.tape,h.output,by simpa using h.size,fun k hk=>(Below.heap_setCell _ _ _ _ (fun (e:k=g)=>hg (e ▸ hk))).trans (h.block k hk)⟩
theorem flatq_own {w:World} {base:Nat} {e:TypeId} {size n:Nat} {v:Value} {xs:List Value} (h:w.ownsRow base e size v n xs):∃ A c,v=.slice A n c∧n≤c∧FlatQ (fun b=>base≤b∧b < w.heap.size) w A xs∧(A=none→n=0∧c=0):=by
  rcases h.2 with ⟨hv,h0⟩ | ⟨g,cap,cur,hv,hb,hg,hcap,-⟩
  · have hx:xs=[]:=List.eq_nil_of_length_eq_zero (by rw [h.1,h0];simp)
    exact⟨none,0,by rw [hv,h0],by omega,by rw [hx];exact FlatQ.nil _ _ _,fun _=>⟨h0,rfl⟩⟩
  · subst hv
    exact⟨some ⟨g,0,none⟩,cap,rfl,hcap,fun j u hu=>⟨g,0,rfl,⟨hb,(Array.getElem?_eq_some_iff.1 hg).1⟩,by have:=h.cells (g:=g) rfl j u hu;rw [addr_addQ] at this;exact this⟩,fun q=>by cases q⟩
section
variable {P : Program}
theorem run_append_mine (w:World) (t ty e:TypeId) (i:TypeInfo) (z:Value) (size bytes:Nat) (h1:P.underlying t=some (.slice e)) (h2:P.info? e=some i) (h3:i.zero=some z) (h4:i.size=size) (h5:i.bytes=bytes) (h6:z.cells.size=size) (h7:0 < size)
    {R:Nat→Prop} (base:Nat) (v:Value) (n:Nat) (xs:List Value) (hown:w.ownsRow base e size v n xs)
    (X:Option Addr) (m c:Nat) (news:List Value) (hn:news.length=m * size) (hc:FlatQ R w X news) (h1c:∀ u∈news,u.oneCell'=true)
    (b1:n+m≤maxLen) (b2:(n+m) * bytes≤140737488355328) (hb:base≤w.heap.size) :
    ∃ v' w',(Builtin.append_ #[t,t] ty #[v,.slice X m c]).run P w=.ok v' w'∧w'.ownsRow base e size v' (n+m) (xs++news)∧w.grownBy w' v.ownBlock∧(v'.ownBlock=v.ownBlock∨v'.ownBlock=some w.heap.size):=by
  by_cases hm:m=0
  · subst hm
    obtain rfl:news=[]:=List.eq_nil_of_length_eq_zero (by rw [hn];simp)
    obtain⟨A,cap,rfl,hcap,-,-⟩:=flatq_own hown
    have hrun:=run_append_nothing (P:=P) w t t ty e i h1 h2 A n cap hcap (.slice X 0 c) ⟨.inl ⟨e,h1⟩,fun w'=>by simp [Builtin.lenOf],by cases X <;> simp [Builtin.firstCells,h4,loadCells,loadCellsFrom],by cases X <;> simp [Builtin.firstCells,h4,loadCells,loadCellsFrom],by simp,fun u hu=>by cases hu⟩
    exact⟨_,w,hrun,by rw [List.append_nil];exact hown,⟨rfl,rfl,rfl,Nat.le_refl _,fun _ _ _=>rfl⟩,.inl rfl⟩
  · have hpos:0 < news.length:=by rw [hn];exact Nat.mul_pos (by omega) h7
    obtain⟨xb,xo,hX,-,-⟩:=hc 0 news[0] (List.getElem?_eq_getElem hpos)
    subst hX
    have hnews:∀ j u,news[j]?=some u→w.cell? ((⟨xb,xo,none⟩:Addr).add j)=some u:=fun j u hu=>by
      obtain⟨b',off,e1,-,e3⟩:=hc j u hu
      injection e1 with e1
      injection e1 with e1 e2
      subst e1 e2
      rw [addr_addQ]
      exact e3
    obtain⟨v',w',hr,h8,h9,-,h10⟩:=run_append_own_at (P:=P) w base t ty e i z size bytes h1 h2 h3 h4 h5 h6 h7 v n xs hown ⟨xb,xo,none⟩ m c news hn hnews h1c b1 b2 hb
    exact⟨v',w',hr,h8,h9,h10⟩
theorem wp_append_known {w W:World} {o:Oper} {a:Act} {K:Act→World→Prop} {Q:Exit→Act→World→Prop} (s x:Operand) (t:TypeId)
    (ho:o.op=.call { callee:=.builtin .append,args:=#[s,x],argTypes:=#[t,t] }) (v u r:Value) (hs:a.eval s=v) (hx:a.eval x=u)
    (hr:(Builtin.append_ #[t,t] o.type #[v,u]).run P w=.ok r W) (h:K (a.put o.dst r) W):o.wp P a w K Q:=by
  unfold Oper.wp execOp
  simp only [ho,resolve,invoke,builtin,Sem.run_bind,Sem.run_pure,Result.andThen_ok,List.map_toArray,List.map_cons,List.map_nil,hs,hx,hr]
  exact h
theorem wpList_append_known {w W:World} {ops:Array Oper} {rest:List Oper} {o:Oper} {a:Act} {Q:Exit→Act→World→Prop} (hgd:o.guard=none) (s x:Operand) (t:TypeId)
    (ho:o.op=.call { callee:=.builtin .append,args:=#[s,x],argTypes:=#[t,t] }) (v u r:Value) (hs:a.eval s=v) (hx:a.eval x=u)
    (hr:(Builtin.append_ #[t,t] o.type #[v,u]).run P w=.ok r W) (h:wpList P ops Q rest (a.put o.dst r) W):wpList P ops Q (o :: rest) a w:=
  wpList_plain hgd fun _ hK=>wp_append_known s x t ho v u r hs hx hr (hK _ _ h)
theorem step_append_known {w W:World} {ops:Array Oper} {o:Oper} {a:Act} {K:Act→World→Prop} {Q:Exit→Act→World→Prop} {E:Prop} (hgd:o.guard=none) (s x:Operand) (t:TypeId)
    (ho:o.op=.call { callee:=.builtin .append,args:=#[s,x],argTypes:=#[t,t] }) (v u r:Value) (hs:a.eval s=v) (hx:a.eval x=u)
    (hr:(Builtin.append_ #[t,t] o.type #[v,u]).run P w=.ok r W) (h:K (a.put o.dst r) W):if Region.wanted o (yielded ops a.tmps)=true then Oper.wp P o a w K Q else E:=by
  have hw:Region.wanted o (yielded ops a.tmps)=true:=by simp [Region.wanted,hgd]
  rw [if_pos hw]
  exact wp_append_known s x t ho v u r hs hx hr h
end
open Go.Maps (Keyed Tidy IsMap)
def ptrR:Value→Option (DataW Unit×List MemPlace)
  | .pointer (some ⟨b,0,none⟩)=>some (.lit (.int .i64 (b:Int)),[])
  | .pointer none=>some (.lit (.bool false),[])
  | _=>none
theorem ptrR_at (b:Nat):ptrR (.pointer (some ⟨b,0,none⟩))=some (.lit (.int .i64 (b:Int)),[]):=rfl
theorem ptrR_nil:ptrR (.pointer none)=some (.lit (.bool false),[]):=rfl
theorem ptrR_inv {v:Value} {b:Nat} {ps:List MemPlace} (h:ptrR v=some (.lit (.int .i64 (b:Int)),ps)):v=.pointer (some ⟨b,0,none⟩):=by
  unfold ptrR at h
  split at h
  · injection h with h
    injection h with h _
    injection h with h
    injection h with _ h
    rw [Int.ofNat.inj h]
  · injection h with h
    injection h with h _
    injection h with h
    cases h
  · cases h
theorem ptrR_inv0 {v:Value} {ps:List MemPlace} (h:ptrR v=some (.lit (.bool false),ps)):v=.pointer none:=by
  unfold ptrR at h
  split at h
  · injection h with h
    injection h with h _
    injection h with h
    cases h
  · rfl
  · cases h
section
variable {α : Type} {kl : α → Lit} {D : DataW Unit} {L : List (α × Nat)}
def MapsTo (kl:α→Lit) (D:DataW Unit) (L:List (α×Nat)):Prop:=
  (∀ p∈L,Maps.has D (kl p.1)=true∧∀ zd,D.atKey (kl p.1) zd=.lit (.int .i64 (p.2:Int)))∧(∀ l,Maps.has D l=true→∃ p∈L,l=kl p.1)∧Maps.size D=L.length∧L.Pairwise (fun p q=>kl p.1≠kl q.1)
theorem MapsTo.nil:MapsTo kl (.map []) []:=⟨fun p hp=>(by cases hp),fun l hl=>(by simp [Maps.has] at hl),rfl,List.Pairwise.nil⟩
theorem MapsTo.miss (h:MapsTo kl D L) {x:α} (hx:∀ p∈L,kl p.1≠kl x):Maps.has D (kl x)=false:=by
  cases hh:Maps.has D (kl x) with
  | false=>rfl
  | true=>
    obtain⟨p,hp,e⟩:=h.2.1 _ hh
    exact absurd e.symm (hx p hp)
theorem MapsTo.perm {L':List (α×Nat)} (h:MapsTo kl D L) (hp:L.Perm L'):MapsTo kl D L':=
  ⟨fun p hq=>h.1 p (hp.mem_iff.2 hq),fun l hl=>by obtain⟨p,h1,h2⟩:=h.2.1 l hl;exact⟨p,hp.mem_iff.1 h1,h2⟩,h.2.2.1.trans hp.length_eq,(hp.pairwise_iff (fun h=>fun e=>h e.symm)).1 h.2.2.2⟩
theorem MapsTo.put (h:MapsTo kl D L) (ht:Tidy D) {x:α} (hk:WideAt.IsKeyLit (kl x)) (hx:∀ p∈L,kl p.1≠kl x) (b:Nat):MapsTo kl (D.put (kl x) (.lit (.int .i64 (b:Int)))) ((x,b) :: L):=by
  refine⟨fun p hp=>?_,fun l hl=>?_,?_,List.Pairwise.cons (fun p hp e=>hx p hp e.symm) h.2.2.2⟩
  · rcases List.mem_cons.1 hp with rfl | hp
    · exact⟨Maps.has_put_same ht.isMap hk _,fun zd=>Maps.atKey_put_same ht.isMap hk _ zd⟩
    · have hne:=hx p hp
      exact⟨(Maps.has_put_other hne _).trans (h.1 p hp).1,fun zd=>(Maps.atKey_put_other hne _ zd).trans ((h.1 p hp).2 zd)⟩
  · by_cases e:l=kl x
    · exact⟨(x,b),List.mem_cons_self,e⟩
    · rw [Maps.has_put_other e] at hl
      obtain⟨p,h1,h2⟩:=h.2.1 l hl
      exact⟨p,List.mem_cons_of_mem _ h1,h2⟩
  · rw [Maps.size_put ht,h.miss hx,h.2.2.1]
    rfl
theorem MapsTo.del {p:α×Nat} (h:MapsTo kl D (p :: L)) (ht:Tidy D):MapsTo kl (D.del (kl p.1)) L:=by
  have hpw:=List.pairwise_cons.1 h.2.2.2
  refine⟨fun q hq=>?_,fun l hl=>?_,?_,hpw.2⟩
  · have hne:kl q.1≠kl p.1:=fun e=>hpw.1 q hq e.symm
    have hh:=h.1 q (List.mem_cons_of_mem _ hq)
    exact⟨(Maps.has_del_other hne).trans hh.1,fun zd=>(Maps.atKey_del_other hne zd).trans (hh.2 zd)⟩
  · by_cases e:l=kl p.1
    · subst e
      rw [Maps.has_del_same] at hl
      cases hl
    · rw [Maps.has_del_other e] at hl
      obtain⟨q,h1,h2⟩:=h.2.1 l hl
      rcases List.mem_cons.1 h1 with rfl | h1
      · exact absurd h2 e
      · exact⟨q,h1,h2⟩
  · have:=Maps.size_del (k:=kl p.1) ht
    rw [(h.1 p List.mem_cons_self).1,h.2.2.1] at this
    simpa using this
end
def PMap {α:Type} (P:Program) (k:TypeId) (kl:α→Lit) (w:World) (b n:Nat) (L:List (α×Nat)):Prop:=∃ D,w.ownsMap P k ptrR b n D∧MapsTo kl D L
section
variable {α : Type} {P : Program} {k : TypeId} {kl : α → Lit} {w : World} {b n : Nat} {L : List (α × Nat)}
theorem PMap.lt (h:PMap P k kl w b n L):b < w.heap.size:=by obtain⟨D,h,-⟩:=h;exact h.lt
theorem PMap.made (w:World) (P:Program) (k:TypeId) (kl:α→Lit):PMap P k kl (w.alloc (.map #[] 0)) w.heap.size 0 []:=⟨_,World.ownsMap_made w P k ptrR,MapsTo.nil⟩
theorem PMap.block {w':World} (h:PMap P k kl w b n L) (hb:w'.heap[b]?=w.heap[b]?):PMap P k kl w' b n L:=by
  obtain⟨D,⟨es,clock,h1,h2,h3,h4⟩,h5⟩:=h
  exact⟨D,⟨es,clock,hb.trans h1,h2,h3,h4⟩,h5⟩
theorem PMap.perm {L':List (α×Nat)} (h:PMap P k kl w b n L) (hp:L.Perm L'):PMap P k kl w b n L':=by
  obtain⟨D,h1,h2⟩:=h
  exact⟨D,h1,h2.perm hp⟩
theorem PMap.apart (h:PMap P k kl w b n L):L.Pairwise (fun p q=>kl p.1≠kl q.1):=by obtain⟨D,-,h2⟩:=h;exact h2.2.2.2
theorem PMap.cells (h:PMap P k kl w b n L) {g o:Nat} {v:Value} (hg:w.cell? ⟨g,o,none⟩=some v):g≠b:=by
  rintro rfl
  obtain⟨D,⟨es,clock,h1,-⟩,-⟩:=h
  simp [World.cell?,h1] at hg
end
theorem PMap.put_at {α:Type} {P:Program} {k t e:TypeId} {kl:α→Lit} {w:World} {b n:Nat} {L:List (α×Nat)} (hM:PMap P k kl w b n L) (K:Keyed P k) (ht:P.underlying t=some (.map k e)) (hn:n < maxLen) {key:Value} {y:α} (bb:Nat) (hkey:keyOf P k key=some (kl y)) (hno:∀ p∈L,kl p.1≠kl y) :
    ∃ w',(Instr.mapUpdate t (.map (some b)) key (.pointer (some ⟨bb,0,none⟩))).run P w=.ok () w'∧PMap P k kl w' b (n+1) ((y,bb) :: L)∧w.mapTurned w' b:=by
  obtain⟨D,hown,hMT⟩:=hM
  obtain⟨w',hrun,h1,h2⟩:=hown.store K ht hn hkey (ptrR_at bb)
  exact⟨w',hrun,⟨_,h1,hMT.put (hown.tidy K) (K.key hkey) hno bb⟩,h2⟩
theorem PMap.look_hit {α:Type} {P:Program} {k t e:TypeId} {kl:α→Lit} {w:World} {b n:Nat} {L:List (α×Nat)} (hM:PMap P k kl w b n L) (K:Keyed P k) (ht:P.underlying t=some (.map k e)) (hz:(zeroValue e).run P w=.ok (.pointer none) w) {key:Value} {y:α} {bb:Nat} (hkey:keyOf P k key=some (kl y)) (hin:(y,bb)∈L) :
    (Instr.lookup t (.map (some b)) key true).run P w=.ok (.tuple #[.pointer (some ⟨bb,0,none⟩),.bool true]) w:=by
  obtain⟨D,hown,hMT⟩:=hM
  obtain⟨v,ps,hrun,hv⟩:=hown.look_ok K ht hz ptrR_nil hkey
  obtain⟨h1,h2⟩:=hMT.1 _ hin
  rw [h2] at hv
  rw [hrun,h1,ptrR_inv hv]
theorem PMap.look_miss {α:Type} {P:Program} {k t e:TypeId} {kl:α→Lit} {w:World} {b n:Nat} {L:List (α×Nat)} (hM:PMap P k kl w b n L) (K:Keyed P k) (ht:P.underlying t=some (.map k e)) (hz:(zeroValue e).run P w=.ok (.pointer none) w) {key:Value} {y:α} (hkey:keyOf P k key=some (kl y)) (hno:∀ p∈L,kl p.1≠kl y) :
    (Instr.lookup t (.map (some b)) key true).run P w=.ok (.tuple #[.pointer none,.bool false]) w:=by
  obtain⟨D,hown,hMT⟩:=hM
  obtain⟨v,ps,hrun,hv⟩:=hown.look_ok K ht hz ptrR_nil hkey
  have h1:=hMT.miss hno
  rw [Maps.atKey_of_not_has h1] at hv
  rw [hrun,h1,ptrR_inv0 hv]
section
variable {α : Type} {P : Program} (w : World) {ops : Array Oper} {rest : List Oper} {o : Oper} {a : Act} {Q : Exit → Act → World → Prop}
end
structure TimI (S:Nat→Prop) (q B:Nat) (x:Tm) (i:Nat) (w:World):Prop where
  row:w.cell? ⟨B,i,none⟩=some (.pointer (some ⟨x.b,0,none⟩))
  rowf:w.frozen? ⟨B,i,none⟩=false
  id:w.cell? ⟨x.b,0,none⟩=some (.int .i64 x.id)
  t:w.cell? ⟨x.b,1,none⟩=some (.int .i64 x.t)
  ev:w.cell? ⟨x.b,2,none⟩=some (.int .i64 x.ev)
  place:w.cell? ⟨x.b,3,none⟩=some (.int .i64 (i:Int))
  fro:∀ o,w.frozen? ⟨x.b,o,none⟩=false
  neB:x.b≠B
  neq:x.b≠q
  out:¬ S x.b
def BlkS (w:World) (B c:Nat):Prop:=∃ cur,w.heap[B]?=some (.cells cur 195 (0,0))∧cur.size=c∧c≤maxLen
theorem BlkS.set {w:World} {B c:Nat} (h:BlkS w B c) (g o:Nat) (v:Value):BlkS (w.setCell ⟨g,o,none⟩ v) B c:=by
  obtain⟨cur,h1,h2,h3⟩:=h
  by_cases e:B=g
  · subst e
    exact⟨cur.setIfInBounds o v,heap_setCell_same w B o cur _ v h1,by simpa using h2,h3⟩
  · exact⟨cur,(Below.heap_setCell _ _ _ _ e).trans h1,h2,h3⟩
theorem BlkS.keep {w w':World} {B c:Nat} (h:BlkS w B c) (hb:w'.heap[B]?=w.heap[B]?):BlkS w' B c:=by
  obtain⟨cur,h1,h2⟩:=h
  exact⟨cur,hb.trans h1,h2⟩
structure RowI (S:Nat→Prop) (q B c n:Nat) (f:Nat→Tm) (w:World):Prop where
  sl:w.cell? ⟨q,0,none⟩=some (.slice (some ⟨B,0,none⟩) n c)
  tim:∀ i,i < n→TimI S q B (f i) i w
  inj:InjT f n
  neq:B≠q
  out:¬ S B
  le:n≤c
  blk:BlkS w B c
theorem lt_of_cell {w:World} {b o:Nat} {v:Value} (hv:w.cell? ⟨b,o,none⟩=some v):b < w.heap.size:=by
  refine Nat.lt_of_not_le fun q=>?_
  simp [World.cell?,Array.getElem?_eq_none q] at hv
theorem TimI.keep {S T:Nat→Prop} {q B i:Nat} {x:Tm} {w w':World} (h:TimI S q B x i w) (hk:KeptS T w w') (hB:T B) (hx:T x.b):TimI S q B x i w':=
  ⟨(hk.cell hB).trans h.row,(hk.frozen hB).trans h.rowf,(hk.cell hx).trans h.id,(hk.cell hx).trans h.t,(hk.cell hx).trans h.ev,(hk.cell hx).trans h.place,fun o=>(hk.frozen hx).trans (h.fro o),h.neB,h.neq,h.out⟩
theorem RowI.keep {S T:Nat→Prop} {q B c n:Nat} {f:Nat→Tm} {w w':World} (h:RowI S q B c n f w) (hk:KeptS T w w') (hq:T q) (hB:T B) (hx:∀ i,i < n→T (f i).b):RowI S q B c n f w':=
  ⟨(hk.cell hq).trans h.sl,fun i hi=>(h.tim i hi).keep hk hB (hx i hi),h.inj,h.neq,h.out,h.le,h.blk.keep (hk.block B hB)⟩
theorem RowI.drewN {S:Nat→Prop} {q B c n:Nat} {f:Nat→Tm} {w:World} (h:RowI S q B c n f w) (k:Nat):RowI S q B c n f (w.drewN k):=
  h.keep (T:=fun _=>True) ⟨rfl,rfl,rfl,Nat.le_refl _,fun _ _=>rfl⟩ trivial trivial (fun _ _=>trivial)
theorem before_any (b1 b2:Nat) (i1 t1 i2 t2:Int) (r:Bool) (w:World) (hr:r=decide (t1 < t2∨t1=t2∧i1 < i2))
    (h0:w.cell? ⟨b1,0,none⟩=some (.int .i64 i1)) (h1:w.cell? ⟨b1,1,none⟩=some (.int .i64 t1)) (k0:w.cell? ⟨b2,0,none⟩=some (.int .i64 i2)) (k1:w.cell? ⟨b2,1,none⟩=some (.int .i64 t2)) :
    Calls Tryz.prog 91 #[.pointer (some ⟨b1,0,none⟩),.pointer (some ⟨b2,0,none⟩)] w fun e w'=>e=.returned (.bool r)∧∃ k,w'=w.drewN k:=by
  rcases (by omega:t1 < t2∨t1=t2∨t2 < t1) with h | h | h
  · have e:r=true:=by rw [hr];exact decide_eq_true (.inl h)
    subst e
    clear hr
    have d1:decide (t1 < t2)=true:=decide_eq_true h
    go_enter Tryz.func91,Tryz.ntmps91
    go_wp2_with fail
    go_quiet (fail)
    go_wp2_with fail
    go_ret
    exact⟨rfl,_,rfl⟩
  · subst h
    have d1:decide (t1 < t1)=false:=decide_eq_false (by omega)
    have e:r=decide (i1 < i2):=by rw [hr];simp
    clear hr
    subst e
    generalize hd:decide (i1 < i2)=r at *
    go_enter Tryz.func91,Tryz.ntmps91
    go_wp2_with fail
    go_quiet (fail)
    go_wp2_with fail
    go_ret
    exact⟨rfl,_,rfl⟩
  · have e:r=false:=by rw [hr];exact decide_eq_false (by omega)
    subst e
    clear hr
    have d1:decide (t1 < t2)=false:=decide_eq_false (by omega)
    have d2:(t1==t2)=false:=by rw [beq_eq_false_iff_ne];omega
    go_enter Tryz.func91,Tryz.ntmps91
    go_wp2_with fail
    go_quiet (fail)
    go_wp2_with fail
    go_ret
    exact⟨rfl,_,rfl⟩
theorem less_any (B n c i j:Nat) (x y:Tm) (w:World) (hi:i < n) (hj:j < n) (hn:n≤1000000)
    (hx:w.cell? ⟨B,i,none⟩=some (.pointer (some ⟨x.b,0,none⟩))) (hy:w.cell? ⟨B,j,none⟩=some (.pointer (some ⟨y.b,0,none⟩)))
    (h0:w.cell? ⟨x.b,0,none⟩=some (.int .i64 x.id)) (h1:w.cell? ⟨x.b,1,none⟩=some (.int .i64 x.t)) (k0:w.cell? ⟨y.b,0,none⟩=some (.int .i64 y.id)) (k1:w.cell? ⟨y.b,1,none⟩=some (.int .i64 y.t)) :
    Calls Tryz.prog 497 #[.slice (some ⟨B,0,none⟩) n c,.int .i64 (i:Int),.int .i64 (j:Int)] w fun e w'=>e=.returned (.bool (befT x y))∧∃ k,w'=w.drewN k:=by
  have HC:=fun k=>Lib.hid (before_any x.b y.b x.id x.t y.id y.t (befT x y) (w.drewN k) rfl h0 h1 k0 k1)
  generalize befT x y=r at *
  clear h0 h1 k0 k1
  go_enter Tryz.func497,Tryz.ntmps497
  go_wp2_with fail
  go_quiet ((go_at_call 91;exact Calls.quiet_of (HC _).out))
  go_wp2_with fail
  go_ret
  exact⟨rfl,_,rfl⟩
section
variable {P : Program} {ops : Array Oper} {rest : List Oper} {o : Oper} {a : Act} {w W : World} {Q : Exit → Act → World → Prop}
theorem wpList_exec (hgd:o.guard=none) {v:Value} (hex:(execOp a.eval o).run P w=.ok (.value v) W) (h:wpList P ops Q rest (a.put o.dst v) W):wpList P ops Q (o :: rest) a w:=
  wpList_plain hgd fun K hK=>by unfold Oper.wp;rw [hex];exact hK _ _ h
theorem wpList_build (hgd:o.guard=none) (t:TypeId) (parts:Array (Nat×Operand)) (ho:o.op=.build t parts) {v:Value} (ps:Array (Nat×Value)) (hp:(parts.map fun (i,x)=>(i,a.eval x))=ps) (hr:(Instr.build t ps).run P w=.ok v w)
    (h:wpList P ops Q rest (a.put o.dst v) w):wpList P ops Q (o :: rest) a w:=
  wpList_exec hgd (by unfold execOp;rw [ho];simp only [hp,Sem.run_bind,hr,Result.andThen_ok,Sem.run_pure]) h
theorem wpList_build0 (hgd:o.guard=none) (t:TypeId) (ho:o.op=.build t #[]) {v:Value} (hr:(Instr.build t #[]).run P w=.ok v w)
    (h:wpList P ops Q rest (a.put o.dst v) w):wpList P ops Q (o :: rest) a w:=wpList_build hgd t _ ho #[] (by simp) hr h
theorem wpList_build1 (hgd:o.guard=none) (t:TypeId) (i:Nat) (x:Operand) (ho:o.op=.build t #[(i,x)]) {u v:Value} (hx:a.eval x=u) (hr:(Instr.build t #[(i,u)]).run P w=.ok v w)
    (h:wpList P ops Q rest (a.put o.dst v) w):wpList P ops Q (o :: rest) a w:=wpList_build hgd t _ ho #[(i,u)] (by simp [hx]) hr h
theorem wpList_build2 (hgd:o.guard=none) (t:TypeId) (i j:Nat) (x y:Operand) (ho:o.op=.build t #[(i,x),(j,y)]) {u u' v:Value} (hx:a.eval x=u) (hy:a.eval y=u') (hr:(Instr.build t #[(i,u),(j,u')]).run P w=.ok v w)
    (h:wpList P ops Q rest (a.put o.dst v) w):wpList P ops Q (o :: rest) a w:=wpList_build hgd t _ ho #[(i,u),(j,u')] (by simp [hx,hy]) hr h
end
theorem World.rangeAt_append {w:World} {b o:Nat} {l m:List Value}:w.rangeAt b o (l++m)↔w.rangeAt b o l∧w.rangeAt b (o+l.length) m:=by
  constructor
  · intro h
    refine⟨fun j v hv=>h j v ?_,fun j v hv=>?_⟩
    · have hj:j < l.length:=by
        rcases Nat.lt_or_ge j l.length with q | q
        · exact q
        · rw [List.getElem?_eq_none q] at hv;cases hv
      rw [List.getElem?_append_left hj];exact hv
    · have:=h (l.length+j) v (by rw [List.getElem?_append_right (by omega)];simpa using hv)
      rw [Nat.add_assoc];exact this
  · rintro ⟨h1,h2⟩ j v hv
    rcases Nat.lt_or_ge j l.length with q | q
    · exact h1 j v (by rw [List.getElem?_append_left q] at hv;exact hv)
    · rw [List.getElem?_append_right q] at hv
      have:=h2 _ _ hv
      rw [show o+l.length+(j - l.length)=o+j from by omega] at this
      exact this
theorem World.rangeAt_cons {w:World} {b o:Nat} {v:Value} {m:List Value}:w.rangeAt b o (v :: m)↔w.cell? ⟨b,o,none⟩=some v∧w.rangeAt b (o+1) m:=by
  rw [show v :: m=[v]++m from rfl,World.rangeAt_append]
  exact and_congr ⟨fun h=>h 0 v rfl,fun h j u hu=>by
    cases j with
    | zero=>injection hu with hu;subst hu;exact h
    | succ j=>simp at hu⟩ Iff.rfl
theorem range_kept {w w':World} {b o:Nat} {l:List Value} (h:w.rangeAt b o l) (hk:w'.heap[b]?=w.heap[b]?):w'.rangeAt b o l:=fun j v hv=>(World.cell?_of_block (a:=⟨b,o+j,none⟩) hk).trans (h j v hv)
theorem range_below {w w':World} {b o B:Nat} {l:List Value} (h:w.rangeAt b o l) (hb:Below B w w') (hl:b < B):w'.rangeAt b o l:=range_kept h (hb.block b hl)
theorem range_new (w:World) (C:Array Value) (t:TypeId):(w.alloc (.cells C t)).rangeAt w.heap.size 0 C.toList:=fun j v hv=>by
  rw [Nat.zero_add]
  exact (World.cell?_alloc_at (w:=w) _ _ _ _ rfl).trans (by rw [Array.getElem?_toList] at hv;exact hv)
structure Grew (w W:World) (C:Array Value):Prop where
  sz:W.heap.size=w.heap.size+1
  bel:Below w.heap.size w W
  rg:W.rangeAt w.heap.size 0 C.toList
  fz:∀ o,W.frozen? ⟨w.heap.size,o,none⟩=false
theorem grew_alloc (w:World) (C:Array Value) (t:TypeId):Grew w (w.alloc (.cells C t)) C:=
  ⟨by simp,below_new _ _,range_new w C t,fun o=>by rw [frozen?_alloc_cells];simp [World.frozen?]⟩
structure Stored (w W:World) (b o:Nat) (cs:List Value):Prop where
  os:W.os=w.os
  tape:W.tape=w.tape
  output:W.output=w.output
  sz:W.heap.size=w.heap.size
  far:∀ k,k≠b→W.heap[k]?=w.heap[k]?
  fz:∀ x,W.frozen? x=w.frozen? x
  rg:W.rangeAt b o cs
  apart:∀ o' l,w.rangeAt b o' l→(o'+l.length≤o∨o+cs.length≤o')→W.rangeAt b o' l
  there:∀ b' o' n,w.there b' o' n→W.there b' o' n
theorem setCells_heap (b:Nat):∀ (vs:List Value) (o:Nat) (w:World),(w.setCells b o vs).os=w.os∧(w.setCells b o vs).tape=w.tape∧(w.setCells b o vs).output=w.output∧(w.setCells b o vs).heap.size=w.heap.size∧∀ k,k≠b→(w.setCells b o vs).heap[k]?=w.heap[k]?
  | [],o,w=>⟨rfl,rfl,rfl,rfl,fun _ _=>rfl⟩
  | v :: r,o,w=>by
    obtain⟨h1,h2,h3,h4,h5⟩:=setCells_heap b r (o+1) (w.setCell ⟨b,o,none⟩ v)
    have hb:Below b w (w.setCell ⟨b,o,none⟩ v):=(Below.refl b w).setCell (Nat.le_refl _) v
    exact⟨h1.trans hb.os,h2.trans hb.tape,h3.trans hb.output,h4.trans (by simp),fun k hk=>(h5 k hk).trans (Below.heap_setCell _ _ _ _ hk)⟩
theorem stored_setCells {w:World} {b o:Nat} {cs:List Value} (ht:w.there b o cs.length):Stored w (w.setCells b o cs) b o cs:=by
  obtain⟨h1,h2,h3,h4,h5⟩:=setCells_heap b cs o w
  exact⟨h1,h2,h3,h4,h5,fun x=>World.frozen?_setCells _ _ _ _ _,World.rangeAt_setCells_same _ _ _ _ ht,fun o' l hl ha=>World.rangeAt_setCells_apart hl _ _ _ (.inr ha),fun b' o' n h=>World.there_setCells h _ _ _⟩
theorem stored_setCell {w:World} {b o:Nat} {v:Value} (ht:w.there b o 1):Stored w (w.setCell ⟨b,o,none⟩ v) b o [v]:=stored_setCells (cs:=[v]) ht
theorem Stored.below {w W:World} {b o B:Nat} {cs:List Value} (h:Stored w W b o cs) (hb:B≤b):Below B w W:=⟨h.os,h.tape,h.output,by rw [h.sz];exact Nat.le_refl _,fun k hk=>h.far k (by omega)⟩
section
variable {P : Program} {ops : Array Oper} {rest : List Oper} {o : Oper} {a : Act} {w : World} {Q : Exit → Act → World → Prop}
theorem wpList_box_new (hgd:o.guard=none) (T:TypeId) (x:Operand) (ho:o.op=.box T x) (C:Array Value) (hx:a.eval x=.agg C) (h:∀ W,Grew w W C→wpList P ops Q rest (a.put o.dst (.pointer (some ⟨w.heap.size,0,none⟩))) W):wpList P ops Q (o :: rest) a w:=
  wpList_exec hgd (W:=w.alloc (.cells C T)) (by unfold execOp;rw [ho];simp [hx,Instr.box,newVar,newRow,Value.cells]) (h _ (grew_alloc w C T))
theorem wpList_alloc_new (hgd:o.guard=none) (T:TypeId) (ho:o.op=.alloc T) (Z:Array Value) (hz:(zeroValue T).run P w=.ok (.agg Z) w) (h:∀ W,Grew w W Z→wpList P ops Q rest (a.put o.dst (.pointer (some ⟨w.heap.size,0,none⟩))) W):wpList P ops Q (o :: rest) a w:=
  wpList_exec hgd (W:=w.alloc (.cells Z T)) (by unfold execOp;rw [ho];simp [Instr.alloc,hz,newVar,newRow,Value.cells]) (h _ (grew_alloc w Z T))
theorem run_storeAt_one (w:World) (b f:Nat) (ty:TypeId) (v:Value) (ht:w.there b f 1) (hi:(P.info? ty).map (·.size)=some 1) (hc:v.cells=#[v]) (h1:v.oneCell'=true) :
    (Instr.storeAt ty (.pointer (some ⟨b,f,none⟩)) v).run P w=.ok () (w.setCell ⟨b,f,none⟩ v):=by
  have:=run_storeCells_cells (P:=P) b f [v] 0 w (fun j hj=>by simpa using (ht j (by simpa using hj)).1) (fun j hj=>by simpa using (ht j (by simpa using hj)).2) (fun u hu=>by simp at hu;subst hu;exact h1)
  cases hq:P.info? ty with
  | none=>simp [hq] at hi
  | some i=>
    have hs:1=i.size:=by simp [hq] at hi;omega
    simp only [Nat.add_zero] at this
    simp only [Instr.storeAt,Instr.sureAddr,Sem.run_bind,Sem.run_pure,Result.andThen_ok]
    simp [storeVar,sizeOf,typeInfo,hq,hc,← hs,this,World.setCells]
theorem wp_store_one {K:Act→World→Prop} (T:TypeId) (x y:Operand) (ho:o.op=.store T x y) (b f:Nat) (v:Value) (hx:a.eval x=.pointer (some ⟨b,f,none⟩)) (hy:a.eval y=v) (ht:w.there b f 1) (hi:(P.info? T).map (·.size)=some 1) (hc:v.cells=#[v]) (h1:v.oneCell'=true)
    (h:∀ W,Stored w W b f [v]→K (a.put o.dst undef) W):o.wp P a w K Q:=by
  unfold Oper.wp execOp
  simp only [ho,hx,hy,Sem.run_bind,run_storeAt_one w b f T v ht hi hc h1,Result.andThen_ok,Sem.run_pure]
  exact h _ (stored_setCell ht)
theorem wp_store_in {K:Act→World→Prop} (T:TypeId) (x y:Operand) (ho:o.op=.store T x y) (b f:Nat) (C:Array Value) (hx:a.eval x=.pointer (some ⟨b,f,none⟩)) (hy:a.eval y=.agg C) (ht:w.there b f C.size) (hi:(P.info? T).map (·.size)=some C.size) (h1:C.all (·.oneCell')=true)
    (h:∀ W,Stored w W b f C.toList→K (a.put o.dst undef) W):o.wp P a w K Q:=
  wp_store_mid T x y ho b f C hx hy ht hi h1 (h _ (stored_setCells (by simpa using ht)))
theorem wpList_store_in (hgd:o.guard=none) (T:TypeId) (x y:Operand) (ho:o.op=.store T x y) (b f:Nat) (C:Array Value) (hx:a.eval x=.pointer (some ⟨b,f,none⟩)) (hy:a.eval y=.agg C) (ht:w.there b f C.size) (hi:(P.info? T).map (·.size)=some C.size) (h1:C.all (·.oneCell')=true)
    (h:∀ W,Stored w W b f C.toList→wpList P ops Q rest (a.put o.dst undef) W):wpList P ops Q (o :: rest) a w:=
  wpList_store_mid hgd T x y ho b f C hx hy ht hi h1 (h _ (stored_setCells (by simpa using ht)))
end
end Go.Proofs.YtaiepcgfofpmjaaGreat
