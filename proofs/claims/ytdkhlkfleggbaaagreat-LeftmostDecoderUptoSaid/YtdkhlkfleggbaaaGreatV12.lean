/- Parts. -/
import Derived.Test.YtdkhlkfleggbaaaGreatV11
import Derived.Deep.CutBlock
import Derived.Lib.SliceRun
namespace Go.Proofs.YtdkhlkfleggbaaaGreat
set_option maxHeartbeats 4000000
set_option maxRecDepth 8000
open Tryz
set_option linter.unusedVariables false
open Go.RowKit
theorem a75 {a b:ByteArray} (h:a.toList=b.toList):a=b:=by
 rw[b07,b07]at h;obtain⟨⟨l⟩⟩:=a;obtain⟨⟨m⟩⟩:=b;simp at h;rw[h]
theorem afj (a b:ByteArray):(a.toList==b.toList)=decide (a=b):=by
 by_cases h:a=b
 ·subst h;simp
 ·rw[o7 h,l7];exact λk=>h (a75 k)
abbrev a8j (b0:Bool) (n0:Int) (b1:Bool) (n1:Int) (b2:Bool) (n2:Int) (b3:Bool) (n3:Int):Array Value:=#[.bool b0,.int .i64 n0,.bool b1,.int .i64 n1,.bool b2,.int .i64 n2,.bool b3,.int .i64 n3]
abbrev boo (b0:Bool) (n0:Int) (b1:Bool) (n1:Int) (b2:Bool) (n2:Int) (b3:Bool) (n3:Int):Value:=.agg (a8j b0 n0 b1 n1 b2 n2 b3 n3)
abbrev clC (W M F L H:Int) (c:ByteArray):Array Value:=#[.int .i64 W,.int .i64 M,.int .i64 F,.int .i64 L,.int .i64 H,.string c]
abbrev clV (W M F L H:Int) (c:ByteArray):Value:=.agg (clC W M F L H c)
abbrev avo:Array Value:=#[.int .i64 1,.int .i64 3,.int .i64 2,.int .i64 0,.int .i64 36000,.string ⟨#[84]⟩,.int .i64 1,.int .i64 3,.int .i64 2,.int .i64 0,.int .i64 36000,.string ⟨#[77]⟩,.int .i64 1,.int .i64 4,.int .i64 2,.int .i64 0,.int .i64 999999,.string ⟨#[78]⟩,.int .i64 1,.int .i64 4,.int .i64 2,.int .i64 0,.int .i64 999999,.string ⟨#[75]⟩]
abbrev clO (W M F L H:Int) (c:ByteArray):Obj:=.cells (clC W M F L H c) 310
theorem adk (a:ByteArray):a.toList.isEmpty=decide (a=ByteArray.empty):=by
 rw[<- afj];have:ByteArray.empty.toList=[]:=by rw[b07];rfl
 rw[this];cases a.toList<;>rfl
def bd5 (w:World) (r:Ending) (w':World):Prop:=∃h,r=.returned (.slice (some ⟨h,0,none⟩) 4 4) /\(∀o,w'.cell? ⟨h,o,none⟩=avo[o]?)/\w.1.size<=h/\h<w'.1.size/\Below w.1.size w w'
theorem arz (w:World):Calls prog 172 #[] w (bd5 w):=by
 go_enter func172,ntmps172;go_wp2;go_ret;refine⟨w.1.size+1+1,rfl,λo=>?_,by omega,by simp,qb (qb (qa _ _) (qa _ _)) (qa _ _)⟩;rw[b8 _ _ _ _ sm]
abbrev bna (M:Nat):Array Value:=#[.pointer (some ⟨M,0,none⟩),.pointer (some ⟨M,2,none⟩),.pointer (some ⟨M,4,none⟩),.pointer (some ⟨M,6,none⟩)]
theorem ar0 (M:Nat) (w:World):Calls prog 173 #[.pointer (some ⟨M,0,none⟩)] w λe w'=>e=.returned (.slice (some ⟨w.1.size,0,none⟩) 4 4) /\(∀o,w'.cell? ⟨w.1.size,o,none⟩=(bna M)[o]?)/\w.1.size<w'.1.size/\Below w.1.size w w':=by
 go_enter func173,ntmps173;go_wp2_with fail
 go_region_with (fail)
 all_goals
  go_wp2_with fail;go_ret;refine⟨rfl,λo=>?_,?_,acf (qa _ _)⟩
  ·show (w.alloc _).cell? _=_;rw[b8 _ _ _ _ rfl]
  ·show _<(w.alloc _).1.size;simp
theorem a0y (w:World):Calls prog 178 #[] w λe w'=>e=.returned (j9 1 2 0 0 99)/\Below w.1.size w w':=by
 go_enter func178,ntmps178;go_wp2;refine b9 (v:=j9 1 2 0 0 99) (by simp[results,results178,go_sem]) rfl ⟨rfl,qa _ _⟩
theorem bbd (w:World):Calls prog 179 #[] w λe w'=>e=.returned (j9 1 3 0 1 255)/\Below w.1.size w w':=by
 go_enter func179,ntmps179;go_wp2;refine b9 (v:=j9 1 3 0 1 255) (by simp[results,results179,go_sem]) rfl ⟨rfl,qa _ _⟩
theorem a0x (w:World):Calls prog 180 #[] w λe w'=>e=.returned (j9 1 2 0 0 90)/\Below w.1.size w w':=by
 go_enter func180,ntmps180;go_wp2;refine b9 (v:=j9 1 2 0 0 90) (by simp[results,results180,go_sem]) rfl ⟨rfl,qa _ _⟩
theorem a0w (w:World):Calls prog 181 #[] w λe w'=>e=.returned (j9 1 3 0 0 359)/\Below w.1.size w w':=by
 go_enter func181,ntmps181;go_wp2;refine b9 (v:=j9 1 3 0 0 359) (by simp[results,results181,go_sem]) rfl ⟨rfl,qa _ _⟩
theorem awg (w:World):Calls prog 182 #[] w λe w'=>e=.returned (j9 1 2 0 0 99)/\Below w.1.size w w':=by
 go_enter func182,ntmps182;go_wp2;refine b9 (v:=j9 1 2 0 0 99) (by simp[results,results182,go_sem]) rfl ⟨rfl,qa _ _⟩
theorem aok {C D M P:Nat} {w:World} {I0 I1 I2 I3 I4:World->Prop} (h0:I0 w)
 (HC:Q_ (∀wr,(I0 wr\/I1 wr\/I2 wr\/I3 wr) ->(∀o,wr.cell? ⟨C,o,none⟩=avo[o]?) /\(∀o,wr.cell? ⟨D,o,none⟩=(bna M)[o]?)))
 (H0:∀wr,I0 wr->Q_ (Calls prog 174 #[clV 1 3 2 0 36000 ⟨#[84]⟩,.pointer (some ⟨M,0,none⟩),.pointer (some ⟨P,0,none⟩)] wr.drew λr w'=>r=.returned (.tuple #[])/\I1 w'))
 (H1:∀wr,I1 wr->Q_ (Calls prog 174 #[clV 1 3 2 0 36000 ⟨#[77]⟩,.pointer (some ⟨M,2,none⟩),.pointer (some ⟨P,0,none⟩)] wr.drew λr w'=>r=.returned (.tuple #[])/\I2 w'))
 (H2:∀wr,I2 wr->Q_ (Calls prog 174 #[clV 1 4 2 0 999999 ⟨#[78]⟩,.pointer (some ⟨M,4,none⟩),.pointer (some ⟨P,0,none⟩)] wr.drew λr w'=>r=.returned (.tuple #[])/\I3 w'))
 (H3:∀wr,I3 wr->Q_ (Calls prog 174 #[clV 1 4 2 0 999999 ⟨#[75]⟩,.pointer (some ⟨M,6,none⟩),.pointer (some ⟨P,0,none⟩)] wr.drew λr w'=>r=.returned (.tuple #[])/\I4 w')) :
 Calls prog 171 #[.slice (some ⟨C,0,none⟩) 4 4,.slice (some ⟨D,0,none⟩) 4 4,.func (.func 174) #[] #[.pointer (some ⟨P,0,none⟩)]] w λr w'=>r=.returned (.tuple #[])/\I4 w':=by
 go_enter func171,ntmps171;go_wp2_with fail
 go_loopw [12] (λi wr=>i=.int .i64 0/\I0 wr\/i=.int .i64 1/\I1 wr\/i=.int .i64 2/\I2 wr\/i=.int .i64 3/\I3 wr\/i=.int .i64 4/\I4 wr) (λi _=>4-(intOf i).toNat)
 case atStart=>exact .inl ⟨rfl,h0⟩
 case round=>
  rcases hrel with⟨rfl,hI⟩|⟨rfl,hI⟩|⟨rfl,hI⟩|⟨rfl,hI⟩|⟨rfl,hI⟩
  ·obtain⟨hc,hd⟩:=HC.o _ (.inl hI);have c0:=hc 0;have c1:=hc 1;have c2:=hc 2;have c3:=hc 3;have c4:=hc 4;have c5:=hc 5;have d0:=hd 0;have HH:=H0 _ hI;clear hc hd HC H0 H1 H2 H3 h0;go_wp2_with fail
   go_region_with (go_at_call 174;refine HH.o.mono ?_;rintro r w1 ⟨rfl,hI1⟩)
   all_goals go_wp2_with fail
   all_goals go_roundw
   all_goals first|exact .inr (.inl ⟨rfl,hI1⟩)|(simp[intOf])
  ·obtain⟨hc,hd⟩:=HC.o _ (.inr (.inl hI));have c0:=hc 6;have c1:=hc 7;have c2:=hc 8;have c3:=hc 9;have c4:=hc 10;have c5:=hc 11;have d0:=hd 1;have HH:=H1 _ hI;clear hc hd HC H0 H1 H2 H3 h0;go_wp2_with fail
   go_region_with (go_at_call 174;refine HH.o.mono ?_;rintro r w1 ⟨rfl,hI1⟩)
   all_goals go_wp2_with fail
   all_goals go_roundw
   all_goals first|exact .inr (.inr (.inl ⟨rfl,hI1⟩))|(simp[intOf])
  ·obtain⟨hc,hd⟩:=HC.o _ (.inr (.inr (.inl hI)));have c0:=hc 12;have c1:=hc 13;have c2:=hc 14;have c3:=hc 15;have c4:=hc 16;have c5:=hc 17;have d0:=hd 2;have HH:=H2 _ hI;clear hc hd HC H0 H1 H2 H3 h0;go_wp2_with fail
   go_region_with (go_at_call 174;refine HH.o.mono ?_;rintro r w1 ⟨rfl,hI1⟩)
   all_goals go_wp2_with fail
   all_goals go_roundw
   all_goals first|exact .inr (.inr (.inr (.inl ⟨rfl,hI1⟩)))|(simp[intOf])
  ·obtain⟨hc,hd⟩:=HC.o _ (.inr (.inr (.inr hI)));have c0:=hc 18;have c1:=hc 19;have c2:=hc 20;have c3:=hc 21;have c4:=hc 22;have c5:=hc 23;have d0:=hd 3;have HH:=H3 _ hI;clear hc hd HC H0 H1 H2 H3 h0;go_wp2_with fail
   go_region_with (go_at_call 174;refine HH.o.mono ?_;rintro r w1 ⟨rfl,hI1⟩)
   all_goals go_wp2_with fail
   all_goals go_roundw
   all_goals first|exact .inr (.inr (.inr (.inr ⟨rfl,hI1⟩)))|(simp[intOf])
  ·go_wp2_with fail
   go_end0
   exact⟨rfl,hI⟩
def j5 (v:V4):List Value:=[.bool v.1.1,.int .i64 v.1.2,.bool v.2.1.1,.int .i64 v.2.1.2,.bool v.2.2.1.1,.int .i64 v.2.2.1.2,.bool v.2.2.2.1,.int .i64 v.2.2.2.2]
def Vws (w:World) (B:Nat) (A:Option Addr) (l:List V4):Prop:=
 ∀k (hk:k<l.length),∃b off,A=some ⟨b,off,none⟩/\b<B/\∀(j:Nat) u,(j5 l[k])[j]?=some u->w.cell? ⟨b,off+8*k+j,none⟩=some u
theorem Vws.below {w w':World} {B B':Nat} {A:Option Addr} {l:List V4} (h:Vws w B A l) (hb:Below B' w w') (hB:B<=B'):Vws w' B A l:=by
 intro k hk;obtain⟨b,off,h1,h2,h3⟩:=h k hk;exact⟨b,off,h1,h2,λj u hu=>(hb.cell (p:=⟨b,off+8*k+j,none⟩) (by show b<B';omega)).trans (h3 j u hu)⟩
theorem Vws.more {w:World} {B B':Nat} {A:Option Addr} {l:List V4} (h:Vws w B A l) (hB:B<=B'):Vws w B' A l:=by
 intro k hk;obtain⟨b,off,h1,h2,h3⟩:=h k hk;exact⟨b,off,h1,by omega,h3⟩
abbrev agn (T N S:Int) (A:Option Addr) (n c:Nat):Array Value:=#[.int .i64 T,.int .i64 N,.int .i64 S,.slice A n c]
abbrev a5u (T N S:Int) (A:Option Addr) (n c:Nat):Value:=.agg (agn T N S A n c)
def vsC (l:List V4):List Value:=l.flatMap j5
theorem a9l (l:List V4):(vsC l).length=l.length*8:=by
 induction l with
 | nil=>rfl
 | cons x l ih=>show (j5 x++vsC l).length=_;rw[e9,ih];show 8+_=_;simp;omega
theorem ayg:∀(D:List V4) (k j:Nat) (hk:k<D.length),j<8 ->(vsC D)[8*k+j]?=(j5 D[k])[j]?
 | x::D,0,j,_,hj=>by
  show (j5 x++vsC D)[8*0+j]?=_;rw[b0e (by show 8*0+j<8;omega)];simp
 | x::D,k+1,j,hk,hj=>by
  show (j5 x++vsC D)[8*(k+1)+j]?=_;rw[b0a (by show 8<=_;omega)];have e:8*(k+1)+j-(j5 x).length=8*k+j:=by show 8*(k+1)+j-8=_;omega
  rw[e,ayg D k j (by simpa using hk) hj];rfl
theorem bdt (x:V4):∀u∈j5 x,u.oneCell'=true:=λu hu=>by
 simp only[j5,b03,b2o,b4u]at hu;rcases hu with rfl|rfl|rfl|rfl|rfl|rfl|rfl|rfl<;>rfl
theorem bkr (l:List V4):∀u∈vsC l,u.oneCell'=true:=λu hu=>by
 obtain⟨x,hx,h⟩:=b4d.1 hu;exact bdt x u h
theorem qf.vws {Q:Nat->Prop} {w:World} {A:Option Addr} {L:List V4} (h:qf Q w A (vsC L)):Vws w w.1.size A L:=λk hk=>by
 have hu:∀(j:Nat) u,(j5 L[k])[j]?=some u ->(vsC L)[8*k+j]?=some u:=λj u hu=>by
  have hj:j<8:=by
   rcases b08 j 8 with q|q
   ·exact q
   ·rw[b0c (by show 8<=j;exact q)]at hu;cases hu
  rw[ayg L k j hk hj];exact hu
 obtain⟨b,off,h1,-,h3⟩:=h _ _ (hu 0 _ rfl);refine⟨b,off,h1,b2z w _ h3,λj u hj=>?_⟩;obtain⟨b',off',h1',-,h3'⟩:=h _ _ (hu j u hj);rw[h1]at h1';injection h1' with h1'
 injection h1' with e1 e2
 subst e1 e2;rw[b3c];exact h3'
theorem Vws.flatq {w:World} {B:Nat} {A:Option Addr} {L:List V4} (h:Vws w B A L):qf (λb=>b<B) w A (vsC L):=λj u hu=>by
 have hj:j<(vsC L).length:=by
  rcases b08 j (vsC L).length with q|q
  ·exact q
  ·rw[b0c q]at hu;cases hu
 rw[a9l]at hj;have hk:j / 8<L.length:=by omega
 obtain⟨b,off,h1,h2,h3⟩:=h (j / 8) hk;refine⟨b,off,h1,h2,?_⟩;have e:8*(j / 8)+j%8=j:=by omega
 have:=h3 (j%8) u (by rw[<- ayg L (j / 8) (j%8) hk om,e];exact hu);rw[b3c,e]at this;exact this
theorem ana (c:Nat) (w:World):Calls prog 108 #[.slice none 0 c] w λe w'=>e=.returned (.slice none 0 0)/\Below w.1.size w w':=by
 go_enter func108,ntmps108;go_wp2_with fail;rw[Lib.run_eql_slice_nil _ _ _ _ _ _ _ _ underlying54];go_wp2_with fail;go_ret;exact⟨rfl,n9 _ _⟩
set_option maxRecDepth 100000 in
theorem bdu:∃i,prog.info? 210=some i/\i.zero=some (.agg #[.bool false,.int .i64 0,.bool false,.int .i64 0,.bool false,.int .i64 0,.bool false,.int .i64 0])/\i.size=8/\i.bytes=64:=⟨_,rfl,rfl,rfl,rfl⟩
theorem a32 {Q:Nat->Prop} (A:Option Addr) (L:List V4) (c:Nat) (w:World) (hA:A=none->L.length=0/\c=0) (hs:qf Q w A (vsC L)) (hn:L.length<=1100000) :
 Calls prog 108 #[.slice A L.length c] w λe w'=>∃B d,e=.returned (.slice B L.length d)/\qf (λb=>w.1.size<=b/\b<w'.1.size) w' B (vsC L)/\Below w.1.size w w':=by
 cases A with
 | none=>
  obtain⟨h0,rfl⟩:=hA rfl;obtain rfl:=b0k h0;refine(ana 0 w).mono ?_;rintro e w' ⟨rfl,h⟩;exact⟨none,0,rfl,qf.nil _ _ _,h⟩
 | some a=>
  obtain⟨i0,hi,hz0,hz1,hz2⟩:=bdu;obtain⟨n,hln⟩:∃n,L.length=n:=⟨_,rfl⟩;have HLN:=q_ hln;have hown:(w.alloc (.cells #[] 210)).ownsRow w.1.size 210 8 (.slice (some ⟨w.1.size,0,none⟩) 0 0) 0 []:=b32 w #[] 0 (a8 _) dc rfl;obtain⟨v',w2,hrun,h8,h9,-⟩:=j6 (P:=prog) (w.alloc (.cells #[] 210)) 54 54 210 i0 _ 8 64 underlying54 hi hz0 hz1 hz2 rfl dc w.1.size _ 0 [] hown (some a) n c (vsC L) (by rw[a9l,hln]) (hs.lt.below (qa w _) (λb h=>h.2)) (bkr L) (by unfold maxLen;omega) om sm;rw[b0j,b0y]at h8
  have HE:Q_ (∃B d,v'=.slice B n d/\qf (λb=>w.1.size<=b/\b<w2.1.size) w2 B (vsC L)/\Below w.1.size w w2):=by
   obtain⟨B,d,h1,-,h2,-⟩:=zt h8;refine⟨B,d,h1,h2,(qa w _).trans ⟨h9.os,h9.tape,h9.output,h9.size,λb hb=>h9.block b (by simp;omega) (λe=>by simp[Value.ownBlock]at e;omega)⟩⟩
  have HR:=q_ hrun;rw[hln]at hn ⊢;clear hs hA hln hown hrun h8 h9;have EQ:∀W:World,(binOp .eql 54 (.slice (some a) n c) (.slice none 0 0)).run prog W=.ok (.bool false) W:=λW=>Lib.run_eql_slice_nil W 54 210 (some a) n c 0 0 underlying54
  go_enter func108,ntmps108;go_wp2_with (at_builtin;refine q9 rfl _ _ 54 rfl _ _ _ rfl rfl HR.o ?_);go_ret;obtain⟨B,d,h1,h2,h3⟩:=HE.o;exact⟨B,d,by rw[h1];rfl,h2,h3⟩
theorem a31 {Q:Nat->Prop} (A:Option Addr) (L:List V4) (c:Nat) (w:World) (hs:qf Q w A (vsC L)) (hn:L.length<=1100000) :
 Calls prog 108 #[.slice A L.length c] w λe w'=>∃B d,e=.returned (.slice B L.length d)/\qf (λb=>w.1.size<=b/\b<w'.1.size) w' B (vsC L)/\Below w.1.size w w':=by
 cases A with
 | none=>
  have h0:L=[]:=by
   cases L with
   | nil=>rfl
   | cons x l=>obtain⟨b,off,h,-⟩:=hs 0 _ rfl;cases h
  subst h0;refine(ana c w).mono ?_;rintro e w' ⟨rfl,h⟩;exact⟨none,0,rfl,qf.nil _ _ _,h⟩
 | some a=>exact a32 (some a) L c w (λh=>by cases h) hs hn
structure TkI (X:World->Prop) (g M:Nat) (C:Array Value) (W w:World):Prop where
 x:X w
 c:∀j,w.cell? ⟨M,j,none⟩=C[j]?
 z:∀j,w.frozen? ⟨M,j,none⟩=false
 gm:g<M
 mz:M<w.1.size
 os:w.os=W.os
 tape:w.tape=W.tape
 output:w.output=W.output
 size:W.1.size<=w.1.size
 block:∀k,k<W.1.size->k≠g->k≠M->w.heap[k]?=W.heap[k]?
theorem TkI.frm {X Y:World->Prop} {g M:Nat} {C:Array Value} {W w w':World} (h:TkI X g M C W w) (hy:Y w') (hf:Frm g vm w w'):TkI Y g M C W w':=by
 have gm:=h.gm
 exact⟨hy,λj=>(qj hf h.mz om j).trans (h.c j),λj=>(qx hf h.mz om j).trans (h.z j),gm,i9 h.mz hf.size,hf.os.trans h.os,hf.tape.trans h.tape,hf.output.trans h.output,p9 h.size hf.size,
  λk h1 h2 h3=>(hf.block k (i9 h1 h.size) h2 (by simp[Value.ownBlock])).trans (h.block k h1 h2 h3)⟩
theorem TkI.keep {X Y:World->Prop} {g M:Nat} {C:Array Value} {W w w':World} (h:TkI X g M C W w) (hy:Y w') (hb:Below w.1.size w w'):TkI Y g M C W w':=h.frm hy (Frm.of_below hb)
theorem TkI.store {X Y:World->Prop} {g M o:Nat} {C C':Array Value} {W w:World} {x y x' y':Value} (h:TkI X g M C W w) (h0:C[o]?=some x) (h1:C[o+1]?=some y) (hC:∀j,C'[j]?=if j=o then some x' else if j=o+1 then some y' else C[j]?)
 (hy:Y ((w.setCell ⟨M,o,none⟩ x').setCell ⟨M,o+1,none⟩ y')):TkI Y g M C' W ((w.setCell ⟨M,o,none⟩ x').setCell ⟨M,o+1,none⟩ y'):=by
 refine⟨hy,λj=>?_,λj=>by simpa using h.z j,h.gm,by simpa using h.mz,h.os,h.tape,h.output,by simpa using h.size,λk k1 k2 k3=>?_⟩
 ·rw[hC]
  by_cases e1:j=o
  ·subst e1;rw[if_pos rfl,a9 _ _ _ _ (λq=>by injection q with _ q;omega),b0x _ _ _ ((h.c j).trans h0)]
  ·rw[if_neg e1]
   by_cases e2:j=o+1
   ·subst e2;rw[if_pos rfl,b0x _ _ _ ((a9 _ _ _ _ (λq=>by injection q with _ q;omega)).trans ((h.c _).trans h1))]
   ·rw[if_neg e2,a9 _ _ _ _ (λq=>by injection q with _ q;omega),a9 _ _ _ _ (λq=>by injection q with _ q;omega)];exact h.c j
 ·exact(b14 _ _ _ _ k3).trans ((b14 _ _ _ _ k3).trans (h.block k k1 k2 k3))
theorem TkI.cell {X:World->Prop} {g M:Nat} {C:Array Value} {W w:World} (h:TkI X g M C W w) {b o:Nat} (hb:b<W.1.size) (h1:b≠g) (h2:b≠M):w.cell? ⟨b,o,none⟩=W.cell? ⟨b,o,none⟩:=t7 (a:=⟨b,o,none⟩) (h.block b hb h1 h2)
theorem TkI.frozen {X:World->Prop} {g M:Nat} {C:Array Value} {W w:World} (h:TkI X g M C W w) {b o:Nat} (hb:b<W.1.size) (h1:b≠g) (h2:b≠M):w.frozen? ⟨b,o,none⟩=W.frozen? ⟨b,o,none⟩:=b1t (a:=⟨b,o,none⟩) (h.block b hb h1 h2)
theorem TkI.below {X:World->Prop} {g M B:Nat} {C:Array Value} {W w:World} (h:TkI X g M C W w) (hg:B<=g) (hB:B<=W.1.size):Below B W w:=
 ⟨h.os,h.tape,h.output,h.size,λk hk=>h.block k om om (by have:=h.gm;omega)⟩
theorem au2 (a c:ByteArray) (b:Bool) (s1:Rd) :
 (a.toList==c.toList)=true /\(if a≠c /\(b=true\/a≠ByteArray.empty)then xu 3 s1 else s1)=s1 \/
 (a.toList==c.toList)=false/\b=true /\(if a≠c /\(b=true\/a≠ByteArray.empty)then xu 3 s1 else s1)=xu 3 s1 \/
 (a.toList==c.toList)=false/\b=false/\a.toList.isEmpty=false /\(if a≠c /\(b=true\/a≠ByteArray.empty)then xu 3 s1 else s1)=xu 3 s1 \/
 (a.toList==c.toList)=false/\b=false/\a.toList.isEmpty=true /\(if a≠c /\(b=true\/a≠ByteArray.empty)then xu 3 s1 else s1)=s1:=by
 rw[afj,adk]
 by_cases h:a=c
 ·exact .inl ⟨t8 h,if_neg (λq=>q.1 h)⟩
 ·cases b with
  | true=>exact .inr (.inl ⟨o7 h,rfl,if_pos ⟨h,.inl rfl⟩⟩)
  | false=>
   by_cases h2:a=ByteArray.empty
   ·exact .inr (.inr (.inr ⟨o7 h,rfl,t8 h2,if_neg (λq=>q.2.elim (λq=>by cases q) (λq=>q h2))⟩))
   ·exact .inr (.inr (.inl ⟨o7 h,rfl,o7 h2,if_pos ⟨h,.inr h2⟩⟩))
theorem adp {g P M o:Nat} {s s1 t:Rd} {b:Bool} {n W M' F L H:Int} {c:ByteArray} {C C':Array Value} {x y:Value} {W5 w:World} (h1:Q_ (qu W M' F L H s=((b,n),s1))) (ht:Q_ (vr c b s1=t)) (hT:TkI (qz g s) g M C W5 w)
 (hC0:C[o]?=some x) (hC1:C[o+1]?=some y) (hC:∀j,C'[j]?=if j=o then some (.bool b)else if j=o+1 then some (.int .i64 n)else C[j]?)
 (hP:W5.cell? ⟨P,0,none⟩=some (.pointer (some ⟨g,0,none⟩))) (hPz:P<W5.1.size) (hPg:P≠g) (hPM:P≠M) :
 Calls prog 174 #[clV W M' F L H c,.pointer (some ⟨M,o,none⟩),.pointer (some ⟨P,0,none⟩)] w λr w'=>r=.returned (.tuple #[])/\TkI (qz g t) g M C' W5 w':=by
 have hb0:=qa w (clO W M' F L H c);have hT0:=hT.keep (Y:=qz g s) (hT.x.keep hb0) hb0;have hcol:∀j,(w.alloc (clO W M' F L H c)).cell? ⟨w.1.size,j,none⟩=(clC W M' F L H c)[j]?:=λj=>b8 _ _ _ _ rfl
 have hz0:(w.alloc (clO W M' F L H c)).1.size=w.1.size+1:=by simp
 have hM0:=hT.mz;have hg0:=hT.gm;obtain⟨a,s2,ha⟩:∃a s2,Q_ (qw s1=(a,s2)):=⟨_,_,rfl⟩;have hways:=au2 a c b s2
 have ht2:Q_ (t=if a≠c /\(b=true\/a≠ByteArray.empty)then xu 3 s2 else s2):=by
  show _=_;have q:=ht.o;unfold vr at q;rw[ha.o]at q;exact q.symm
 have HWAYS:=q_ hways;have HC:=q_ hC;have HC0:=q_ hC0;have HC1:=q_ hC1;have HT0:=q_ hT0;have HCOL:=q_ hcol;have HPW:=q_ hP;have p0:=(hT0.cell hPz hPg hPM).trans hP;have c0:=hcol 0;have c1:=hcol 1;have c2:=hcol 2;have c3:=hcol 3;have c4:=hcol 4;clear hT hb0 hcol hT0 hways hC hC0 hC1 hP ht;go_enter func174,ntmps174;go_wp2_with fail;generalize hW0:w.alloc (clO W M' F L H c)=W0 at *;refine(kp h1 HT0.o.x).mono ?_;rintro r w1 ⟨rfl,hx,hf⟩;have hT1:=HT0.o.frm hx hf;have m0:=(hT1.c o).trans HC0.o;have m1:=(hT1.c (o+1)).trans HC1.o;have z0:=hT1.z o;have z1:=hT1.z (o+1);have p1:=(hT1.cell hPz hPg hPM).trans HPW.o;have HT1:=q_ hT1;have hcol5:w1.cell? ⟨w.1.size,5,none⟩=some (.string c):=(qj hf om om 5).trans (HCOL.o 5);have HZ1:Q_ (w.1.size<w1.1.size):=by show _<_;have:=hf.size;omega
 have HX1:=q_ hx;clear hT1 hx hf c0 c1 c2 c3 c4 p0 HT0 HCOL hW0 hz0;go_wp2_with fail;have hx2:qz g s1 ((w1.setCell ⟨M,o,none⟩ (.bool b)).setCell ⟨M,o+1,none⟩ (.int .i64 n)):=(HX1.o.far hg0).far hg0;have hT2:=HT1.o.store (Y:=qz g s1) HC0.o HC1.o HC.o hx2;refine(zd ha hx2).mono ?_;rintro r w3 ⟨rfl,hx3,hf3⟩;have hT3:=hT2.frm hx3 hf3;have p3:=(hT3.cell hPz hPg hPM).trans HPW.o;have k0:=(hT3.c o).trans (HC.o o);rw[if_pos rfl]at k0;have z1':=HZ1.o;have hcol3:w3.cell? ⟨w.1.size,5,none⟩=some (.string c):=(qj hf3 (by simpa using z1') om 5).trans ((a9 _ _ _ _ (λq=>by injection q with q;omega)).trans ((a9 _ _ _ _ (λq=>by injection q with q;omega)).trans hcol5));have HT3:=q_ hT3;clear hT2 hx2 hT3 hx3 hf3 hcol5 z0 z1 m0 m1 p1 HX1 HT1 HC HC0 HC1 HPW z1';rcases HWAYS.o with⟨k1,hq⟩|⟨k1,kb,hq⟩|⟨k1,kb,k2,hq⟩|⟨k1,kb,k2,hq⟩
 ·rw[hq]at ht2;clear hq HWAYS;go_wp2_with fail
  go_end0
  exact⟨rfl,by rw[ht2.o];exact HT3.o⟩
 ·rw[hq]at ht2;subst kb;clear hq HWAYS;go_wp2_with fail;refine(xp rfl HT3.o.x).mono ?_;rintro r w4 ⟨rfl,hx4,hf4⟩;have HT4:=q_ (HT3.o.frm (Y:=qz g t) (by rw[ht2.o];exact hx4) hf4);clear hx4 hf4;go_wp2_with fail
  go_end0
  exact⟨rfl,HT4.o⟩
 ·rw[hq]at ht2;subst kb;clear hq HWAYS;go_wp2_with fail;refine(xp rfl HT3.o.x).mono ?_;rintro r w4 ⟨rfl,hx4,hf4⟩;have HT4:=q_ (HT3.o.frm (Y:=qz g t) (by rw[ht2.o];exact hx4) hf4);clear hx4 hf4;go_wp2_with fail
  go_end0
  exact⟨rfl,HT4.o⟩
 ·rw[hq]at ht2;subst kb;clear hq HWAYS;go_wp2_with fail
  go_end0
  exact⟨rfl,by rw[ht2.o];exact HT3.o⟩
theorem at8 (a:ByteArray):(a.size=0/\a.toList.isEmpty=true/\a=ByteArray.empty) \/(a.toList.isEmpty=false/\a≠ByteArray.empty /\(2<=a.size/\an8 a=false\/∃hz:0<a.size,a.size=1 /\(a[0].toNat<65/\an8 a=false\/90<a[0].toNat/\an8 a=false\/65<=a[0].toNat/\a[0].toNat<=90/\an8 a=true))):=by
 rw[adk]
 by_cases h0:a.size=0
 ·have:a=ByteArray.empty:=by simpa using h0
  exact .inl ⟨h0,t8 this,this⟩
 ·have hne:a≠ByteArray.empty:=λq=>h0 (by rw[q];rfl)
  refine .inr ⟨o7 hne,hne,?_⟩
  by_cases h1:a.size=1
  ·refine .inr ⟨by omega,h1,?_⟩;have hg:(a[0]?.getD 0)=a[0]:=by rw[getElem?_pos a 0 om];rfl
   unfold an8;rw[hg,t8 h1]
   by_cases h2:a[0].toNat<65
   ·exact .inl ⟨h2,by simp;omega⟩
   ·by_cases h3:90<a[0].toNat
    ·exact .inr (.inl ⟨h3,by simp;omega⟩)
    ·exact .inr (.inr ⟨by omega,by omega,by simp;omega⟩)
  ·refine .inl ⟨by omega,?_⟩;unfold an8;simp[h1]
theorem ah9 (a:ByteArray) (w:World):Calls prog 176 #[.string a] w λe w'=>e=.returned (.bool (an8 a))/\w'=w:=by
 rcases at8 a with⟨h,-,rfl⟩|⟨-,-,h|⟨hz,h1,h|h|h⟩⟩
 ·have hc:an8 ByteArray.empty=false:=rfl;rw[hc];go_enter func176,ntmps176;go_wp2;go_ret;exact⟨rfl,rfl⟩
 ·obtain⟨h2,hc⟩:=h;rw[hc];have i1:((a.size:Int)==1)=false:=by rw[l7];omega
  go_enter func176,ntmps176;go_wp2;go_ret;exact⟨rfl,rfl⟩
 ·obtain⟨h2,hc⟩:=h;rw[hc];have i1:((a.size:Int)==1)=true:=by rw[b1w];omega
  have i2:((a[0].toNat:Nat):Int)<65:=by omega
  go_enter func176,ntmps176;go_wp2;go_ret;exact⟨rfl,rfl⟩
 ·obtain⟨h2,hc⟩:=h;rw[hc];have i1:((a.size:Int)==1)=true:=by rw[b1w];omega
  have i2:(65:Int) <=((a[0].toNat:Nat):Int):=by omega
  have i3:decide (((a[0].toNat:Nat):Int)<=90)=false:=o7 om;go_enter func176,ntmps176;go_wp2;go_ret;exact⟨rfl,rfl⟩
 ·obtain⟨h2,h3,hc⟩:=h;rw[hc];have i1:((a.size:Int)==1)=true:=by rw[b1w];omega
  have i2:(65:Int) <=((a[0].toNat:Nat):Int):=by omega
  have i3:((a[0].toNat:Nat):Int)<=90:=by omega
  go_enter func176,ntmps176;go_wp2;go_ret;exact⟨rfl,rfl⟩
theorem ap9 (a:ByteArray):(dgB a=false/\a.size≠1) \/(∃hz:0<a.size,a.size=1 /\(a[0].toNat<48/\dgB a=false\/57<a[0].toNat/\dgB a=false\/48<=a[0].toNat/\a[0].toNat<=57/\dgB a=true/\dgN a=(a[0].toNat:Int)-48)):=by
 by_cases h1:a.size=1
 ·refine .inr ⟨by omega,h1,?_⟩;have hg:(a[0]?.getD 0)=a[0]:=by rw[getElem?_pos a 0 om];rfl
  unfold dgB dgN;rw[hg,t8 h1]
  by_cases h2:a[0].toNat<48
  ·exact .inl ⟨h2,by simp;omega⟩
  ·by_cases h3:57<a[0].toNat
   ·exact .inr (.inl ⟨h3,by simp;omega⟩)
   ·exact .inr (.inr ⟨by omega,by omega,by simp;omega,rfl⟩)
 ·exact .inl ⟨by unfold dgB;simp[h1],h1⟩
theorem aj8 {lo hi:Int} {s s1:Rd} {a:ByteArray} (h:qw s=(a,s1)) :
 (dgB a=false->zl lo hi s=(0,xu 3 s1)) /\(dgB a=true ->(dgN a<lo\/hi<dgN a)->zl lo hi s=(dgN a,xu 5 s1)) /\(dgB a=true->¬(dgN a<lo\/hi<dgN a)->zl lo hi s=(dgN a,s1)):=by
 unfold zl;rw[h];simp only;refine⟨λq=>?_,λq r=>?_,λq r=>?_⟩
 ·rw[if_neg (by rw[q];decide)]
 ·rw[if_pos q,if_pos r]
 ·rw[if_pos q,if_neg r]
theorem ajc {g:Nat} {s t:Rd} {top n:Int} {w:World} (ht:Q_ (zl 1 top s=(n,t))) (hp:qz g s w) :
 Calls prog 177 #[.pointer (some ⟨g,0,none⟩),.int .i64 top] w (jv g (.int .i64 n) t w):=by
 obtain⟨a,s1,ha⟩:∃a s1,Q_ (qw s=(a,s1)):=⟨_,_,rfl⟩;obtain⟨hw1,hw2,hw3⟩:=aj8 (lo:=1) (hi:=top) ha.o;have HP:=q_ hp;have ht:=ht.o;clear hp;rcases ap9 a with⟨hb,h1⟩|⟨hz,h1,⟨h2,hb⟩|⟨h2,hb⟩|⟨h2,h3,hb,hv⟩⟩
 ·have e:=hw1 hb;rw[e]at ht;injection ht with e1 e2
  subst e1 e2;clear e hw1 hw2 hw3 hb;have i1:((a.size:Int)==1)=false:=by rw[l7];omega
  go_enter func177,ntmps177;go_wp2_with fail;refine(zd ha HP.o).mono ?_;rintro r w1 ⟨rfl,hx,hf⟩;have HX:=q_ hx;have HF:=q_ hf;clear hx hf HP;go_wp2_with fail;refine(xp rfl HX.o).mono ?_;rintro r w2 ⟨rfl,hx2,hf2⟩;have HX2:=q_ hx2;have HF2:=q_ (HF.o.step hf2);clear hx2 hf2;go_wp2_with fail;go_ret;exact⟨rfl,HX2.o,HF2.o⟩
 ·have e:=hw1 hb;rw[e]at ht;injection ht with e1 e2
  subst e1 e2;clear e hw1 hw2 hw3 hb;have i1:((a.size:Int)==1)=true:=by rw[b1w];omega
  have i2:((a[0].toNat:Nat):Int)<48:=by omega
  go_enter func177,ntmps177;go_wp2_with fail;refine(zd ha HP.o).mono ?_;rintro r w1 ⟨rfl,hx,hf⟩;have HX:=q_ hx;have HF:=q_ hf;clear hx hf HP;go_wp2_with fail;refine(xp rfl HX.o).mono ?_;rintro r w2 ⟨rfl,hx2,hf2⟩;have HX2:=q_ hx2;have HF2:=q_ (HF.o.step hf2);clear hx2 hf2;go_wp2_with fail;go_ret;exact⟨rfl,HX2.o,HF2.o⟩
 ·have e:=hw1 hb;rw[e]at ht;injection ht with e1 e2
  subst e1 e2;clear e hw1 hw2 hw3 hb;have i1:((a.size:Int)==1)=true:=by rw[b1w];omega
  have i2:(48:Int) <=((a[0].toNat:Nat):Int):=by omega
  have i3:(57:Int)<((a[0].toNat:Nat):Int):=by omega
  go_enter func177,ntmps177;go_wp2_with fail;refine(zd ha HP.o).mono ?_;rintro r w1 ⟨rfl,hx,hf⟩;have HX:=q_ hx;have HF:=q_ hf;clear hx hf HP;go_wp2_with fail;refine(xp rfl HX.o).mono ?_;rintro r w2 ⟨rfl,hx2,hf2⟩;have HX2:=q_ hx2;have HF2:=q_ (HF.o.step hf2);clear hx2 hf2;go_wp2_with fail;go_ret;exact⟨rfl,HX2.o,HF2.o⟩
 ·have i1:((a.size:Int)==1)=true:=by rw[b1w];omega
  have i2:(48:Int) <=((a[0].toNat:Nat):Int):=by omega
  have i3:((a[0].toNat:Nat):Int)<=57:=by omega
  rw[hv]at hw2 hw3
  by_cases hq:(a[0].toNat:Int)-48<1\/top<(a[0].toNat:Int)-48
  ·have e:=hw2 hb hq;rw[e]at ht;injection ht with e1 e2
   subst e1 e2;clear e hw1 hw2 hw3 hb hv
   by_cases hq1:(a[0].toNat:Int)-48<1
   ·clear hq;go_enter func177,ntmps177;go_wp2_with fail;refine(zd ha HP.o).mono ?_;rintro r w1 ⟨rfl,hx,hf⟩;have HX:=q_ hx;have HF:=q_ hf;clear hx hf HP;go_wp2_with fail;refine(xp rfl HX.o).mono ?_;rintro r w2 ⟨rfl,hx2,hf2⟩;have HX2:=q_ hx2;have HF2:=q_ (HF.o.step hf2);clear hx2 hf2;go_wp2_with fail;go_ret;exact⟨rfl,HX2.o,HF2.o⟩
   ·have q1:1 <=(a[0].toNat:Int)-48:=by omega
    have q2:top<(a[0].toNat:Int)-48:=by omega
    clear hq hq1;go_enter func177,ntmps177;go_wp2_with fail;refine(zd ha HP.o).mono ?_;rintro r w1 ⟨rfl,hx,hf⟩;have HX:=q_ hx;have HF:=q_ hf;clear hx hf HP;go_wp2_with fail;refine(xp rfl HX.o).mono ?_;rintro r w2 ⟨rfl,hx2,hf2⟩;have HX2:=q_ hx2;have HF2:=q_ (HF.o.step hf2);clear hx2 hf2;go_wp2_with fail;go_ret;exact⟨rfl,HX2.o,HF2.o⟩
  ·have e:=hw3 hb hq;rw[e]at ht;injection ht with e1 e2
   subst e1 e2;have q1:1 <=(a[0].toNat:Int)-48:=by omega
   have q2:(a[0].toNat:Int)-48<=top:=by omega
   clear e hw1 hw2 hw3 hb hv hq;go_enter func177,ntmps177;go_wp2_with fail;refine(zd ha HP.o).mono ?_;rintro r w1 ⟨rfl,hx,hf⟩;have HX:=q_ hx;have HF:=q_ hf;clear hx hf HP;go_wp2_with fail;go_ret;exact⟨rfl,HX.o,HF.o⟩
def blz (N:List (Bool×Int)):List Value:=N.flatMap λx=>[.bool x.1,.int .i64 x.2]
def a9m (N:List (Bool×Int)):Value:=.agg (blz N).toArray
def aks (x:List (Bool×Int)×Int) (w:World) (r:Ending) (w':World):Prop:=r=.returned (.tuple #[a9m x.1,.int .i64 x.2])/\Below w.1.size w w'
theorem a8k {b0 b1 b2 b3:Bool} {n0 n1 n2 n3:Int} {s u0 s1 u1 s2 u2 s3 u3 s4:Rd} (h0:Q_ (qu 1 3 2 0 36000 s=((b0,n0),u0))) (k0:Q_ (vr ⟨#[84]⟩ b0 u0=s1)) (h1:Q_ (qu 1 3 2 0 36000 s1=((b1,n1),u1))) (k1:Q_ (vr ⟨#[77]⟩ b1 u1=s2))
 (h2:Q_ (qu 1 4 2 0 999999 s2=((b2,n2),u2))) (k2:Q_ (vr ⟨#[78]⟩ b2 u2=s3)) (h3:Q_ (qu 1 4 2 0 999999 s3=((b3,n3),u3))) (k3:Q_ (vr ⟨#[75]⟩ b3 u3=s4)) :
 abo arx s=([(b0,n0),(b1,n1),(b2,n2),(b3,n3)],s4):=by
 have c0:ye ⟨1,3,2,0,36000,⟨#[84]⟩⟩ s=((b0,n0),s1):=by unfold ye;rw[h0.o];simp only;rw[k0.o]
 have c1:ye ⟨1,3,2,0,36000,⟨#[77]⟩⟩ s1=((b1,n1),s2):=by unfold ye;rw[h1.o];simp only;rw[k1.o]
 have c2:ye ⟨1,4,2,0,999999,⟨#[78]⟩⟩ s2=((b2,n2),s3):=by unfold ye;rw[h2.o];simp only;rw[k2.o]
 have c3:ye ⟨1,4,2,0,999999,⟨#[75]⟩⟩ s3=((b3,n3),s4):=by unfold ye;rw[h3.o];simp only;rw[k3.o]
 simp only[arx,abo,c0,c1,c2,c3]
theorem bdw {R:List ByteArray} {N:List (Bool×Int)} {s4 s5:Rd} (hl:¬(R.length≠8/\R.length≠9)) (h:abo arx (0,R)=(N,s4)) (h5:aak s4=s5):jj R=if s5.1=0 then(N,0)else(afg,s5.1):=by
 unfold jj;rw[if_neg hl,h];simp only;rw[h5]
theorem bn4 {s4 s6:Rd} {a:ByteArray} (h:qw s4=(a,s6)) (hn:s4.2≠[]):(a.toList.isEmpty=true/\aak s4=s6) \/(a.toList.isEmpty=false/\an8 a=true/\aak s4=s6) \/(a.toList.isEmpty=false/\an8 a=false/\aak s4=xu 3 s6):=by
 unfold aak;rw[if_neg hn,h];simp only;rw[adk]
 by_cases h0:a=ByteArray.empty
 ·exact .inl ⟨t8 h0,if_neg (λq=>q.1 h0)⟩
 ·cases hc:an8 a with
  | true=>exact .inr (.inl ⟨o7 h0,rfl,if_neg (λq=>by cases q.2)⟩)
  | false=>exact .inr (.inr ⟨o7 h0,rfl,if_pos ⟨h0,rfl⟩⟩)
def AtC (w:World) (R:Nat) (C:Array Value):Prop:=∀j,w.cell? ⟨R,j,none⟩=C[j]?
theorem AtC.set {w:World} {R:Nat} {C:Array Value} (h:AtC w R C) (k:Nat) (v:Value) (hk:k<C.size):AtC (w.setCell ⟨R,k,none⟩ v) R (C.setIfInBounds k v):=by
 intro j;rw[Array.getElem?_setIfInBounds]
 by_cases hj:k=j
 ·subst hj;rw[if_pos rfl,if_pos hk];exact b0x _ _ _ ((h k).trans (Array.getElem?_eq_getElem hk))
 ·rw[if_neg hj,a9 _ _ _ _ (λq=>by injection q with _ q;exact hj q)];exact h j
theorem qv {B R k:Nat} {a w:World} {v:Value} (h:Below B a w) (hR:B<=R):Below B a (w.setCell ⟨R,k,none⟩ v):=h.setCell hR _
abbrev ahb:Array Value:=a8j false 0 false 0 false 0 false 0
theorem an2 (A:Option Addr) (n c:Nat) (w:World) (h8:((n:Int) != 8)=true) (h9:((n:Int) != 9)=true):Calls prog 105 #[.slice A n c] w (aks (afg,3) w):=by
 go_enter func105,ntmps105;go_wp2;exact b9 (v:=.tuple #[a9m afg,.int .i64 3]) (by simp[results,results105,go_sem,a9m,blz,afg]) rfl ⟨rfl,qa _ _⟩
theorem ary (A:Option Addr) (n c:Nat) (R:List ByteArray) (w:World) (hl:R.length=n) (hA:A=none->c=0) (hs:v6 w w.1.size A R) (hn:n<=1100000) (hz:∀t∈R,t.size<=1100000) (hk:((n:Int) != 8)=false \/((n:Int) != 8)=true /\((n:Int) != 9)=false) (h89:¬(R.length≠8/\R.length≠9)) :
 Calls prog 105 #[.slice A n c] w (aks (jj R) w):=by
 obtain⟨b0,n0,u0,h0⟩:∃b n u,Q_ (qu 1 3 2 0 36000 (0,R)=((b,n),u)):=⟨_,_,_,rfl⟩;obtain⟨s1,k0⟩:∃s,Q_ (vr ⟨#[84]⟩ b0 u0=s):=⟨_,rfl⟩;obtain⟨b1,n1,u1,h1⟩:∃b n u,Q_ (qu 1 3 2 0 36000 s1=((b,n),u)):=⟨_,_,_,rfl⟩;obtain⟨s2,k1⟩:∃s,Q_ (vr ⟨#[77]⟩ b1 u1=s):=⟨_,rfl⟩;obtain⟨b2,n2,u2,h2⟩:∃b n u,Q_ (qu 1 4 2 0 999999 s2=((b,n),u)):=⟨_,_,_,rfl⟩;obtain⟨s3,k2⟩:∃s,Q_ (vr ⟨#[78]⟩ b2 u2=s):=⟨_,rfl⟩;obtain⟨b3,n3,u3,h3⟩:∃b n u,Q_ (qu 1 4 2 0 999999 s3=((b,n),u)):=⟨_,_,_,rfl⟩;obtain⟨s4,k3⟩:∃s,Q_ (vr ⟨#[75]⟩ b3 u3=s):=⟨_,rfl⟩;obtain⟨s5,k5⟩:∃s,Q_ (aak s4=s):=⟨_,rfl⟩;obtain⟨X,hX⟩:∃X,jj R=X:=⟨_,rfl⟩;have HT:=q_ (hX.symm.trans (bdw h89 (a8k h0 k0 h1 k1 h2 k2 h3 k3) k5.o));rw[hX];clear hX;have HB0:=q_ (qa w (.cells ahb 53));have HL:=q_ (aky (c:=c) hA ((hs.below HB0.o (a8 _)).more HB0.o.size) om hz)
 rw[hl]at HL;have hR0:∀o,(w.alloc (.cells ahb 53)).cell? ⟨w.1.size,o,none⟩=ahb[o]?:=λo=>b8 _ _ _ _ rfl
 have hR1:∀o,(w.alloc (.cells ahb 53)).frozen? ⟨w.1.size,o,none⟩=false:=λo=>by rw[l6];exact qk _ _ _ (a8 _)
 have HR0:=q_ hR0;have HR1:=q_ hR1;have HZ0:Q_ ((w.alloc (.cells ahb 53)).1.size=w.1.size+1):=by show _=_;simp
 clear hs hA hz hR0 hR1 hl h89;go_enter func105,ntmps105
 try dsimp only
 repeat (fail_if_success (show Code.wp _ (Code.seq (Code.region 1 _ _) _) _ _ _)
         first|go_values|go_skip|go_guarded|go_step|go_upon|go_back|(simp only[b3a,b3b]at *;go_simp)|(go_ite<;>go_prune<;>(try go_simp)))
 go_cut [] (λwx=>wx=w.alloc (.cells ahb 53))
 case first=>
  rcases hk with hk|⟨hk,hk2⟩
  ·go_wp2_with fail
   go_meet
   rfl
  ·go_wp2_with fail
   go_meet
   rfl
 case rest=>
 subst hcut;clear hk;generalize hW0:w.alloc (.cells ahb 53)=W0 at *;clear hW0;go_wp2_with fail;refine HL.o.mono ?_;rintro r w1 ⟨g,rfl,hx1,hg1,hz1,hb1⟩;have HX1:=q_ hx1;have HB1:=q_ hb1;have HZ1:=q_ hz1;have HG1:=q_ hg1;clear hx1 hb1 hz1 hg1 HL;go_wp2_with fail;have HB3:Q_ (Below w1.1.size w1 ((w1.alloc (.cells #[.pointer (some ⟨g,0,none⟩)] 283)).alloc (.cells ahb 53))):=qb (qa w1 _) (qa _ _);have HP3:Q_ (((w1.alloc (.cells #[.pointer (some ⟨g,0,none⟩)] 283)).alloc (.cells ahb 53)).cell? ⟨w1.1.size,0,none⟩=some (.pointer (some ⟨g,0,none⟩))):=(n7 _ _ _ sm).trans (b8 _ _ _ _ rfl);have HZ3:Q_ (((w1.alloc (.cells #[.pointer (some ⟨g,0,none⟩)] 283)).alloc (.cells ahb 53)).1.size=w1.1.size+2):=by show _=_;simp
 have HM3:Q_ (∀o,((w1.alloc (.cells #[.pointer (some ⟨g,0,none⟩)] 283)).alloc (.cells ahb 53)).cell? ⟨w1.1.size+1,o,none⟩=ahb[o]?):=λo=>b8 _ _ _ _ sm
 have HF3:Q_ (∀o,((w1.alloc (.cells #[.pointer (some ⟨g,0,none⟩)] 283)).alloc (.cells ahb 53)).frozen? ⟨w1.1.size+1,o,none⟩=false):=λo=>by rw[l6,l6];exact qk _ _ _ om
 generalize hW3:(w1.alloc (.cells #[.pointer (some ⟨g,0,none⟩)] 283)).alloc (.cells ahb 53)=W3 at *;clear hW3;refine(arz _).mono ?_;rintro r w4 ⟨C,rfl,hc,hC1,hC2,hb4⟩;have HC4:=q_ hc;have HC1:=q_ hC1;have HC2:=q_ hC2;have HB4:=q_ hb4;clear hc hC1 hC2 hb4;go_wp2_with fail;refine(ar0 _ _).mono ?_;rintro r w5 ⟨rfl,hd,hD,hb5⟩;have hz0:=HZ0.o;have hz1:=HZ1.o;have hz3:=HZ3.o;have hC1:=HC1.o;have hC2:=HC2.o;have hg1:=HG1.o;have hz4:=HB4.o.size;have hz5:=hb5.size;have h35:Below W3.1.size W3 w5:=qb HB4.o hb5;have h15:Below w1.1.size w1 w5:=qb HB3.o h35;have h05:Below W0.1.size W0 w5:=qb HB1.o h15;have T0:TkI (qz g (0,R)) g (w1.1.size+1) ahb w5 w5:=⟨HX1.o.keep h15,λj=>((qy h35).1 _ j om).trans (HM3.o j),λj=>((qy h35).2 _ j om).trans (HF3.o j),by omega,by omega,rfl,rfl,rfl,a8 _,λ_ _ _ _=>rfl⟩;have hcP:w5.cell? ⟨w1.1.size,0,none⟩=some (.pointer (some ⟨g,0,none⟩)):=((qy h35).1 _ 0 om).trans HP3.o
 have HPP:Q_ (∀(X:World->Prop) C' wr,TkI X g (w1.1.size+1) C' w5 wr->wr.cell? ⟨w1.1.size,0,none⟩=some (.pointer (some ⟨g,0,none⟩))):=λX C' wr hk=>(hk.cell om om om).trans hcP
 have HCC:Q_ (∀(X:World->Prop) C' wr,TkI X g (w1.1.size+1) C' w5 wr ->(∀o,wr.cell? ⟨C,o,none⟩=avo[o]?) /\(∀o,wr.cell? ⟨w4.1.size,o,none⟩=(bna (w1.1.size+1))[o]?)):=λX C' wr hk=>
  ⟨λo=>(hk.cell om om om).trans (((qy hb5).1 _ o hC2).trans (HC4.o o)),λo=>(hk.cell om om om).trans (hd o)⟩
 have HRR:Q_ (∀(X:World->Prop) C' wr,TkI X g (w1.1.size+1) C' w5 wr ->(∀o,wr.cell? ⟨w.1.size,o,none⟩=ahb[o]?) /\(∀o,wr.frozen? ⟨w.1.size,o,none⟩=false)):=λX C' wr hk=>
  ⟨λo=>(hk.cell om om om).trans (((qy h05).1 _ o om).trans (HR0.o o)),λo=>(hk.frozen om om om).trans (((qy h05).2 _ o om).trans (HR1.o o))⟩
 have HFIN:Q_ (∀(X:World->Prop) C' wr,TkI X g (w1.1.size+1) C' w5 wr->Below w.1.size w wr):=λX C' wr hk=>b2x (HB0.o.trans (h05.mono om)) (hk.below om om)
 have HT0:=q_ T0;have LP:Q_ (w1.1.size<w5.1.size/\w1.1.size≠g):=⟨by omega,by omega⟩;have HCP:=q_ hcP;clear T0 hcP hd hD hz0 hz1 hz3 hC1 hC2 hg1 hz4 hz5 h35 h15 h05 hb5 HC4 HB4 HC1 HC2 HZ3 HP3 HB3 HM3 HF3 HZ1 HB1 HG1 HX1 HR0 HR1 HZ0 HB0;go_wp2_with fail;refine(aok (M:=w1.1.size+1) (P:=w1.1.size) (I0:=TkI (qz g (0,R)) g (w1.1.size+1) ahb w5) (I1:=TkI (qz g s1) g (w1.1.size+1) (a8j b0 n0 false 0 false 0 false 0) w5) (I2:=TkI (qz g s2) g (w1.1.size+1) (a8j b0 n0 b1 n1 false 0 false 0) w5) (I3:=TkI (qz g s3) g (w1.1.size+1) (a8j b0 n0 b1 n1 b2 n2 false 0) w5) (I4:=TkI (qz g s4) g (w1.1.size+1) (a8j b0 n0 b1 n1 b2 n2 b3 n3) w5) HT0.o ?_ ?_ ?_ ?_ ?_).mono ?_
 ·exact λwr h=>by rcases h with h|h|h|h<;>exact HCC.o _ _ wr h
 ·exact λwr h=>adp h0 k0 (h.keep (Y:=qz g (0,R)) (h.x.keep (acf (n9 _ _))) (acf (n9 _ _))) rfl rfl (λj=>by rcases j with _|_|_|_|_|_|_|_|j<;>simp) HCP.o LP.o.1 LP.o.2 om
 ·exact λwr h=>adp h1 k1 (h.keep (Y:=qz g s1) (h.x.keep (acf (n9 _ _))) (acf (n9 _ _))) rfl rfl (λj=>by rcases j with _|_|_|_|_|_|_|_|j<;>simp) HCP.o LP.o.1 LP.o.2 om
 ·exact λwr h=>adp h2 k2 (h.keep (Y:=qz g s2) (h.x.keep (acf (n9 _ _))) (acf (n9 _ _))) rfl rfl (λj=>by rcases j with _|_|_|_|_|_|_|_|j<;>simp) HCP.o LP.o.1 LP.o.2 om
 ·exact λwr h=>adp h3 k3 (h.keep (Y:=qz g s3) (h.x.keep (acf (n9 _ _))) (acf (n9 _ _))) rfl rfl (λj=>by rcases j with _|_|_|_|_|_|_|_|j<;>simp) HCP.o LP.o.1 LP.o.2 om
 rintro r w6 ⟨rfl,h6⟩;have HT6:=q_ h6;clear h6 HCC HT0
 try dsimp only
 repeat (fail_if_success (show Code.wp _ (Code.seq (Code.region 6 _ _) _) _ _ _)
         first|go_values|go_skip|go_guarded|go_step|go_upon|go_back|(simp only[b3a,b3b]at *;go_simp)|(go_ite<;>go_prune<;>(try go_simp)))
 go_cut [] (λwx=>Q_ (TkI (qz g s5) g (w1.1.size+1) (a8j b0 n0 b1 n1 b2 n2 b3 n3) w5 wx))
 case first=>
  have p6:=HPP.o _ _ _ HT6.o;obtain⟨m,hm⟩:∃m,s4.2.length=m:=⟨_,rfl⟩;have HLF:=q_ (akx HT6.o.x);rw[hm]at HLF;have HMM:=q_ hm;clear hm;go_wp2_with fail;refine HLF.o.mono ?_;rintro r w' ⟨rfl,rfl⟩
  by_cases hm0:m=0
  ·subst hm0
   have E:s5=s4:=by
    rw[<- k5.o];unfold aak
    rw[if_pos (b0k HMM.o)]
   have HE:=q_ E;clear E;go_wp2_with fail
   go_meet
   rw[HE.o];exact HT6
  ·have i1:(0:Int)<(m:Int):=by omega
   have hne:s4.2≠[]:=λq=>hm0 (by rw[<- HMM.o,q];rfl)
   obtain⟨a,s6,ha⟩:∃a s6,Q_ (qw s4=(a,s6)):=⟨_,_,rfl⟩;have HW:=q_ (bn4 ha.o hne);clear hne hm0;go_wp2_with fail;refine(zd ha HT6.o.x).mono ?_;rintro r w7 ⟨rfl,hx7,hf7⟩;have HT7:=q_ (HT6.o.frm hx7 hf7);have p7:=HPP.o _ _ _ HT7.o;clear hx7 hf7 p6;rcases HW.o with⟨q1,q2⟩|⟨q1,q2,q3⟩|⟨q1,q2,q3⟩
   ·have HE:Q_ (s5=s6):=k5.o.symm.trans q2;clear q2 HW;go_wp2_with fail
    go_meet
    rw[HE.o];exact HT7
   ·have HE:Q_ (s5=s6):=k5.o.symm.trans q3;clear q3 HW;have HCAP:=q_ (ah9 a w7);rw[q2]at HCAP;go_wp2_with fail;refine HCAP.o.mono ?_;rintro r w' ⟨rfl,rfl⟩;go_wp2_with fail
    go_meet
    rw[HE.o];exact HT7
   ·have HE:Q_ (s5=xu 3 s6):=k5.o.symm.trans q3;clear q3 HW;have HCAP:=q_ (ah9 a w7);rw[q2]at HCAP;go_wp2_with fail;refine HCAP.o.mono ?_;rintro r w' ⟨rfl,rfl⟩;go_wp2_with fail;refine(xp rfl HT7.o.x).mono ?_;rintro r w8 ⟨rfl,hx8,hf8⟩;have HT8:=q_ (HT7.o.frm (Y:=qz g s5) (by rw[HE.o];exact hx8) hf8);clear hx8 hf8;go_wp2_with fail
    go_meet
    exact HT8
 case rest=>
 have p7:=HPP.o _ _ _ hcut.o;obtain⟨hr,hf⟩:=HRR.o _ _ _ hcut.o;have HB:=q_ (HFIN.o _ _ _ hcut.o);have hm:=hcut.o.c;have HX:=q_ hcut.o.x;have r0:=hr 0;have r1:=hr 1;have r2:=hr 2;have r3:=hr 3;have r4:=hr 4;have r5:=hr 5;have r6:=hr 6;have r7:=hr 7;have f0:=hf 0;have f1:=hf 1;have f2:=hf 2;have f3:=hf 3;have f4:=hf 4;have f5:=hf 5;have f6:=hf 6;have f7:=hf 7;have m0:=hm 0;have m1:=hm 1;have m2:=hm 2;have m3:=hm 3;have m4:=hm 4;have m5:=hm 5;have m6:=hm 6;have m7:=hm 7;have HR:=q_ (show AtC _ w.1.size ahb from hr);clear hr hf hm hcut HRR HPP HFIN HT6 HCP LP;obtain⟨E,hE⟩:∃E,s5.1=E:=⟨_,rfl⟩;have HER:=q_ (aqb HX.o);rw[hE]at HER HT;clear hE;go_wp2_with fail;refine HER.o.mono ?_;rintro r w' ⟨rfl,rfl⟩
 by_cases hE:E=0
 ·subst hE;have HX2:Q_ (X=([(b0,n0),(b1,n1),(b2,n2),(b3,n3)],0)):=HT.o.trans (if_pos rfl);clear HT;go_wp2_with fail;have K:=((((((((HR.o.set 0 (.bool b0) sm).set 1 (.int .i64 n0) sm).set 2 (.bool b1) sm).set 3 (.int .i64 n1) sm).set 4 (.bool b2) sm).set 5 (.int .i64 n2) sm).set 6 (.bool b3) sm).set 7 (.int .i64 n3) sm);have k0:=K 0;have k1:=K 1;have k2:=K 2;have k3:=K 3;have k4:=K 4;have k5:=K 5;have k6:=K 6;have k7:=K 7;simp at k0 k1 k2 k3 k4 k5 k6 k7;refine b9 (v:=.tuple #[boo b0 n0 b1 n1 b2 n2 b3 n3,.int .i64 0]) (by simp[results,results105,go_sem,k0,k1,k2,k3,k4,k5,k6,k7]) rfl ⟨by rw[HX2.o];rfl,?_⟩;exact qv (qv (qv (qv (qv (qv (qv (qv HB.o (a8 _)) (a8 _)) (a8 _)) (a8 _)) (a8 _)) (a8 _)) (a8 _)) (a8 _)
 ·have hne:(E != 0)=true:=by rw[b0r];exact hE
  have HX2:Q_ (X=(afg,E)):=HT.o.trans (if_neg hE);clear hE HT;go_wp2_with fail;have K:=((((((((HR.o.set 0 (.bool false) sm).set 1 (.int .i64 0) sm).set 2 (.bool false) sm).set 3 (.int .i64 0) sm).set 4 (.bool false) sm).set 5 (.int .i64 0) sm).set 6 (.bool false) sm).set 7 (.int .i64 0) sm);have k0:=K 0;have k1:=K 1;have k2:=K 2;have k3:=K 3;have k4:=K 4;have k5:=K 5;have k6:=K 6;have k7:=K 7;simp at k0 k1 k2 k3 k4 k5 k6 k7;refine b9 (v:=.tuple #[boo false 0 false 0 false 0 false 0,.int .i64 E]) (by simp[results,results105,go_sem,k0,k1,k2,k3,k4,k5,k6,k7]) rfl ⟨by rw[HX2.o];rfl,?_⟩;exact qv (qv (qv (qv (qv (qv (qv (qv HB.o (a8 _)) (a8 _)) (a8 _)) (a8 _)) (a8 _)) (a8 _)) (a8 _)) (a8 _)
#print axioms ary
theorem bhp {l:List UInt8} {W M F L H:Int} (h:(j4 l W M F L H).1=false):(j4 l W M F L H).2.1=0:=by
 unfold j4 at h ⊢
 by_cases h1:abq W M F L H=false
 ·rw[if_pos h1]
 ·rw[if_neg h1]at h ⊢
  by_cases h2:l=[]
  ·rw[if_pos h2]
  ·rw[if_neg h2]at h ⊢;cases hp:yv (afk l) 1 M.toNat F.toNat with
   | none=>rfl
   | some n=>
    rw[hp]at h;simp only at h ⊢;generalize (if ai5 l=true then -(n:Int)else(n:Int))=x at *
    by_cases hq:aa5 true x L H=true
    ·rw[if_pos hq]at h;exact absurd h sm
    ·rw[if_neg hq]
theorem a1v {W M F L H:Int} {s t:Rd} {n:Int} (h:qu W M F L H s=((false,n),t)):n=0:=by
 have h1:(qu W M F L H s).1=(false,n):=by rw[h]
 have h2:(j4 (s.2.headD ByteArray.empty).data.toList W M F L H).1=false:=congrArg Prod.fst h1;have h3:(j4 (s.2.headD ByteArray.empty).data.toList W M F L H).2.1=n:=congrArg Prod.snd h1;rw[<- h3];exact bhp h2
theorem TkI.put {X Y:World->Prop} {g M o:Nat} {C:Array Value} {W w:World} {u:Value} (h:TkI X g M C W w) (ho:o<C.size) (hy:Y (w.setCell ⟨M,o,none⟩ u)):TkI Y g M (C.setIfInBounds o u) W (w.setCell ⟨M,o,none⟩ u):=by
 refine⟨hy,?_,λj=>by simpa using h.z j,h.gm,by simpa using h.mz,h.os,h.tape,h.output,by simpa using h.size,λk k1 k2 k3=>?_⟩
 ·exact AtC.set (show AtC w M C from h.c) o u ho
 ·exact(b14 _ _ _ _ k3).trans (h.block k k1 k2 k3)
theorem TkI.grow {X Y:World->Prop} {g M:Nat} {C:Array Value} {W w w':World} {v:Value} (h:TkI X g M C W w) (hM:M<W.1.size) (hf:Frm g v w w') (hv:∀k,v.ownBlock=some k->W.1.size<=k) (hy:Y w'):TkI Y g M C W w':=by
 have gm:=h.gm;have o1:v.ownBlock≠some M:=λq=>by have:=hv M q;omega
 refine⟨hy,λj=>(hf.cell h.mz om o1).trans (h.c j),λj=>(b1t (a:=⟨M,j,none⟩) (hf.block M h.mz om o1)).trans (h.z j),gm,i9 h.mz hf.size,hf.os.trans h.os,hf.tape.trans h.tape,hf.output.trans h.output,p9 h.size hf.size,λk k1 k2 k3=>?_⟩;exact(hf.block k (i9 k1 h.size) k2 (λq=>by have:=hv k q;omega)).trans (h.block k k1 k2 k3)
theorem ba4 {X:World->Prop} {g:Nat} {C:Array Value} {o:Obj} {wr z:World} (h:TkI X g wr.1.size C (wr.alloc o) z):Frm g vm wr z:=by
 have hb:=qa wr o;exact⟨h.os.trans hb.os,h.tape.trans hb.tape,h.output.trans hb.output,p9 hb.size h.size,λk hk h1 _=>(h.block k (by simp;omega) h1 om).trans (hb.block k hk)⟩
theorem auc {w w':World} {B g:Nat} {e:TypeId} {size n:Nat} {v:Value} {xs:List Value} (h:w.ownsRow B e size v n xs) (hf:Frm g vm w w') (hg:v.ownBlock≠some g):w'.ownsRow B e size v n xs:=
 h.kept (row:=some g) ⟨hf.os,hf.tape,hf.output,hf.size,λi hi hk=>hf.block i hi (λe=>hk (by rw[e])) (by simp[Value.ownBlock])⟩ (.inr hg)
theorem qz.grow {g g':Nat} {s:Rd} {v:Value} {w w':World} (h:qz g s w) (hf:Frm g' v w w') (h1:g<g') (h2:∀k,v.ownBlock=some k->g<k):qz g s w':=by
 obtain⟨Q,q1,q2,q3⟩:=h;exact⟨Q,q1.other hf om (λq=>by have:=h2 _ q;omega) (λb hb=>⟨by have:=q2 b hb;omega,λq=>by have:=h2 _ q;have:=q2 b hb;omega⟩),q2,q3⟩
theorem at0 {g:Nat} {v:Value} {w w':World} (h:w.grownBy w' v.ownBlock):Frm g v w w':=⟨h.os,h.tape,h.output,h.size,λk hk _ h2=>h.block k hk (λq=>h2 q.symm)⟩
def agz (D:List V4):List Value:=D.flatMap j5
theorem a3n (D:List V4) (v:V4):agz (D++[v])=agz D++j5 v:=by simp[agz]
theorem arw:∀(D:List V4) (k j:Nat) (hk:k<D.length),j<8 ->(agz D)[8*k+j]?=(j5 D[k])[j]?
 | [],k,j,hk,_=>absurd hk (b04 _)
 | v::D,0,j,hk,hj=>by
  show (j5 v++agz D)[8*0+j]?=_;rw[b0e (by simp[j5];omega)];simp
 | v::D,k+1,j,hk,hj=>by
  show (j5 v++agz D)[8*(k+1)+j]?=_;rw[b0a (by simp[j5];omega)];have e:8*(k+1)+j-(j5 v).length=8*k+j:=by simp[j5];omega
  rw[e];exact arw D k j (by simpa using hk) hj
theorem a8l {w:World} {B:Nat} {e:TypeId} {v:Value} {D:List V4} (h:w.ownsRow B e 8 v D.length (agz D)):∃A c,v=.slice A D.length c/\Vws w w.1.size A D/\aav B A /\(A=none->c=0):=by
 rcases h.2 with⟨hv,h0⟩|⟨g,cap,cur,hv,hb,hg,-⟩
 ·exact⟨none,0,by rw[hv,h0],λk hk=>by omega,aav.none_,λ_=>rfl⟩
 ·subst hv;refine⟨some ⟨g,0,none⟩,cap,rfl,λk hk=>⟨g,0,rfl,(o8.1 hg).1,λj u hu=>?_⟩,λa ha=>by injection ha with ha;rw[<- ha];exact hb,λq=>by cases q⟩
  have hj:j<8:=by
   rcases b08 j 8 with q|q
   ·exact q
   ·rw[b0c (by show 8<=j;exact q)]at hu;cases hu
  have hc:=h.cells (g:=g) rfl (8*k+j) u (by rw[arw D k j hk hj];exact hu);have:(⟨g,0,none⟩:Addr).add (8*k+j)=⟨g,0+8*k+j,none⟩:=by unfold Addr.add;split<;>simp_all<;>omega
  rw[<- this];exact hc
def akp (x:a37×Int) (w:World) (r:Ending) (w':World):Prop:=
 ∃A c,r=.returned (.tuple #[a5u x.1.T x.1.N x.1.S A x.1.L.length c,.int .i64 x.2])/\Vws w' w'.1.size A x.1.L/\Below w.1.size w w'
theorem bbc {R:List ByteArray} {T N S:Int} {b:Bool} {k:Nat} {u1 u2 u3 u4 u5:Rd} {L:List V4} (hb:¬avl R.length) (hk:(R.length-3) / 4=k) (h1:Q_ (zl 1 9 (0,R)=(T,u1))) (h2:Q_ (zl 1 T u1=(N,u2))) (h3:Q_ (qu 1 2 0 0 99 u2=((b,S),u3))) (h4:Q_ (u4=if b=true then u3 else xu 3 u3)) (h5:Q_ (jx k u4=(L,u5))) :
 zx R=if u5.1=0 then(⟨T,N,S,L⟩,0)else(vv,u5.1):=by
 have hs:abp u2=(S,u4):=by unfold abp;rw[h3.o,h4.o]
 unfold zx;rw[if_neg hb,hk,h1.o];simp only;rw[h2.o];simp only;rw[hs];simp only;rw[h5.o]
theorem bg2 {W M F L H:Int} {s t:Rd} {x:Bool×Int} (h:qu W M F L H s=(x,t)):t.2=s.2.tail:=by
 have:(qu W M F L H s).2.2=s.2.tail:=rfl;rw[h]at this;exact this
theorem aq0 {lo hi:Int} {s t:Rd} {n:Int} (h:zl lo hi s=(n,t)):t.2=s.2.tail:=by
 have:(zl lo hi s).2.2=s.2.tail:=by
  unfold zl
  split
  ·simp only
   split<;>rfl
  ·rfl
 rw[h]at this;exact this
theorem a1w {s t:Rd} {v:V4} (h:aal s=(v,t)):t.2.length=s.2.length-4:=by
 have:(aal s).2.2=s.2.tail.tail.tail.tail:=rfl;rw[h]at this;rw[this];simp;omega
def ahw (s:Rd):Bool×Rd:=(decide ((qw s).1=⟨#[65]⟩),if(qw s).1 ≠⟨#[65]⟩ /\(qw s).1 ≠⟨#[77]⟩then xu 3 (qw s).2 else(qw s).2)
def yz:Nat->Rd->List Int×Rd
 | 0,s=>([],s)
 | k+1,s=>(if(qu 1 3 0 1 255 s).1.1=true then(qu 1 3 0 1 255 s).1.2::(yz k (qu 1 3 0 1 255 s).2).1 else(yz k (qu 1 3 0 1 255 s).2).1,(yz k (qu 1 3 0 1 255 s).2).2)
structure a36 where
 a:Bool
 f:Int
 ids:List Int
 p0:Bool×Int
 p1:Bool×Int
 p2:Bool×Int
def yk:a36:=⟨false,0,[],(false,0),(false,0),(false,0)⟩
def ajh (s:Rd):(Bool×Int)×Rd:=qu 1 3 2 0 99999 s
def a1t (s:Rd):a36×Rd:=
 (⟨(ahw s).1,(zl 1 3 (ahw s).2).1,(yz 12 (zl 1 3 (ahw s).2).2).1,(ajh (yz 12 (zl 1 3 (ahw s).2).2).2).1,(ajh (ajh (yz 12 (zl 1 3 (ahw s).2).2).2).2).1,(ajh (ajh (ajh (yz 12 (zl 1 3 (ahw s).2).2).2).2).2).1⟩,
  (ajh (ajh (ajh (yz 12 (zl 1 3 (ahw s).2).2).2).2).2).2)
def jz (R:List ByteArray):a36×Int:=if R.length≠17 then(yk,3)else if(a1t (0,R)).2.1=0 then((a1t (0,R)).1,0)else(yk,(a1t (0,R)).2.1)
theorem bba {R:List ByteArray} {a:Bool} {f:Int} {ids:List Int} {d0 d1 d2:Bool×Int} {r1 r2 r3 r4 r5 r6:Rd} (hl:R.length=17) (h1:Q_ (ahw (0,R)=(a,r1))) (h2:Q_ (zl 1 3 r1=(f,r2))) (h3:Q_ (yz 12 r2=(ids,r3))) (h4:Q_ (qu 1 3 2 0 99999 r3=(d0,r4))) (h5:Q_ (qu 1 3 2 0 99999 r4=(d1,r5))) (h6:Q_ (qu 1 3 2 0 99999 r5=(d2,r6))) :
 jz R=if r6.1=0 then(⟨a,f,ids,d0,d1,d2⟩,0)else(yk,r6.1):=by
 have hg:a1t (0,R)=(⟨a,f,ids,d0,d1,d2⟩,r6):=by
  unfold a1t ajh;rw[h1.o];simp only;rw[h2.o];simp only;rw[h3.o];simp only;rw[h4.o];simp only;rw[h5.o];simp only;rw[h6.o]
 unfold jz;rw[if_neg (λq=>q hl),hg]
theorem a6y {k:Nat} {s s':Rd} {b:Bool} {n:Int} (h:qu 1 3 0 1 255 s=((b,n),s')):yz (k+1) s=(if b=true then n::(yz k s').1 else(yz k s').1,(yz k s').2):=by
 simp only[yz,h]
theorem auj:∀(k:Nat) (s:Rd),(yz k s).1.length<=k
 | 0,s=>a8 _
 | k+1,s=>by
  have:=auj k (qu 1 3 0 1 255 s).2;simp only[yz]
  split
  ·simp;omega
  ·omega
theorem bgj (t:ByteArray) (s1:Rd):((t.toList==[65])=true/\decide (t=⟨#[65]⟩)=true /\(if t ≠⟨#[65]⟩/\t ≠⟨#[77]⟩then xu 3 s1 else s1)=s1) \/
 ((t.toList==[65])=false/\decide (t=⟨#[65]⟩)=false /\((t.toList==[77])=true /\(if t ≠⟨#[65]⟩/\t ≠⟨#[77]⟩then xu 3 s1 else s1)=s1 \/(t.toList==[77])=false /\(if t ≠⟨#[65]⟩/\t ≠⟨#[77]⟩then xu 3 s1 else s1)=xu 3 s1)):=by
 have l65:(⟨#[65]⟩:ByteArray).toList=[65]:=by rw[b07]
 have l77:(⟨#[77]⟩:ByteArray).toList=[77]:=by rw[b07]
 have b65:(t.toList==[65])=decide (t=⟨#[65]⟩):=by rw[<- afj,l65]
 have b77:(t.toList==[77])=decide (t=⟨#[77]⟩):=by rw[<- afj,l77]
 rw[b65,b77]
 by_cases h:t=⟨#[65]⟩
 ·exact .inl ⟨t8 h,t8 h,if_neg (λq=>q.1 h)⟩
 ·refine .inr ⟨o7 h,o7 h,?_⟩
  by_cases h2:t=⟨#[77]⟩
  ·exact .inl ⟨t8 h2,if_neg (λq=>q.2 h2)⟩
  ·exact .inr ⟨o7 h2,if_pos ⟨h,h2⟩⟩
theorem bbb (w:World):Calls prog 169 #[] w λe w'=>e=.returned (j9 1 3 0 1 255)/\Below w.1.size w w':=by
 go_enter func169,ntmps169;go_wp2;refine b9 (v:=j9 1 3 0 1 255) (by simp[results,results169,go_sem]) rfl ⟨rfl,qa _ _⟩
theorem aj3 (w:World):Calls prog 170 #[] w λe w'=>e=.returned (j9 1 3 2 0 99999)/\Below w.1.size w w':=by
 go_enter func170,ntmps170;go_wp2;refine b9 (v:=j9 1 3 2 0 99999) (by simp[results,results170,go_sem]) rfl ⟨rfl,qa _ _⟩
theorem asm {g:Nat} {s t:Rd} {b:Bool} {w:World} (ht:Q_ (ahw s=(b,t))) (hp:qz g s w):Calls prog 167 #[.pointer (some ⟨g,0,none⟩)] w (jv g (.bool b) t w):=by
 obtain⟨a,s1,ha⟩:∃a s1,Q_ (qw s=(a,s1)):=⟨_,_,rfl⟩;have ht:=ht.o;unfold ahw at ht;rw[ha.o]at ht;injection ht with e1 e2
 simp only at e1 e2;have HP:=q_ hp;clear hp;rcases bgj a s1 with⟨k1,k2,k3⟩|⟨k1,k2,⟨k3,k4⟩|⟨k3,k4⟩⟩
 ·rw[k2]at e1;rw[k3]at e2;subst e1 e2;clear k2 k3;go_enter func167,ntmps167;go_wp2_with fail;refine(zd ha HP.o).mono ?_;rintro r w1 ⟨rfl,hx,hf⟩;have HX:=q_ hx;have HF:=q_ hf;clear hx hf HP;go_wp2_with fail;go_ret;exact⟨rfl,HX.o,HF.o⟩
 ·rw[k2]at e1;rw[k4]at e2;subst e1 e2;clear k2 k4;go_enter func167,ntmps167;go_wp2_with fail;refine(zd ha HP.o).mono ?_;rintro r w1 ⟨rfl,hx,hf⟩;have HX:=q_ hx;have HF:=q_ hf;clear hx hf HP;go_wp2_with fail;go_ret;exact⟨rfl,HX.o,HF.o⟩
 ·rw[k2]at e1;rw[k4]at e2;subst e1 e2;clear k2 k4;go_enter func167,ntmps167;go_wp2_with fail;refine(zd ha HP.o).mono ?_;rintro r w1 ⟨rfl,hx,hf⟩;have HX:=q_ hx;have HF:=q_ hf;clear hx hf HP;go_wp2_with fail;refine(xp rfl HX.o).mono ?_;rintro r w2 ⟨rfl,hx2,hf2⟩;have HX2:=q_ hx2;have HF2:=q_ (HF.o.step hf2);clear hx2 hf2;go_wp2_with fail;go_ret;exact⟨rfl,HX2.o,HF2.o⟩
theorem a5s {g:Nat} {s t:Rd} {n:Int} {w:World} (ht:Q_ (zl 1 3 s=(n,t))) (hp:qz g s w):Calls prog 168 #[.pointer (some ⟨g,0,none⟩)] w (jv g (.int .i64 n) t w):=by
 obtain⟨a,s1,ha⟩:∃a s1,Q_ (qw s=(a,s1)):=⟨_,_,rfl⟩;obtain⟨hw1,hw2,hw3⟩:=aj8 (lo:=1) (hi:=3) ha.o;have HP:=q_ hp;have ht:=ht.o;clear hp;rcases ap9 a with⟨hb,h1⟩|⟨hz,h1,⟨h2,hb⟩|⟨h2,hb⟩|⟨h2,h3,hb,hv⟩⟩
 ·have e:=hw1 hb;rw[e]at ht;injection ht with e1 e2
  subst e1 e2;clear e hw1 hw2 hw3 hb;have i1:((a.size:Int)==1)=false:=by rw[l7];omega
  go_enter func168,ntmps168;go_wp2_with fail;refine(zd ha HP.o).mono ?_;rintro r w1 ⟨rfl,hx,hf⟩;have HX:=q_ hx;have HF:=q_ hf;clear hx hf HP;go_wp2_with fail;refine(xp rfl HX.o).mono ?_;rintro r w2 ⟨rfl,hx2,hf2⟩;have HX2:=q_ hx2;have HF2:=q_ (HF.o.step hf2);clear hx2 hf2;go_wp2_with fail;go_ret;exact⟨rfl,HX2.o,HF2.o⟩
 ·have e:=hw1 hb;rw[e]at ht;injection ht with e1 e2
  subst e1 e2;clear e hw1 hw2 hw3 hb;have i1:((a.size:Int)==1)=true:=by rw[b1w];omega
  have i2:((a[0].toNat:Nat):Int)<48:=by omega
  go_enter func168,ntmps168;go_wp2_with fail;refine(zd ha HP.o).mono ?_;rintro r w1 ⟨rfl,hx,hf⟩;have HX:=q_ hx;have HF:=q_ hf;clear hx hf HP;go_wp2_with fail;refine(xp rfl HX.o).mono ?_;rintro r w2 ⟨rfl,hx2,hf2⟩;have HX2:=q_ hx2;have HF2:=q_ (HF.o.step hf2);clear hx2 hf2;go_wp2_with fail;go_ret;exact⟨rfl,HX2.o,HF2.o⟩
 ·have e:=hw1 hb;rw[e]at ht;injection ht with e1 e2
  subst e1 e2;clear e hw1 hw2 hw3 hb;have i1:((a.size:Int)==1)=true:=by rw[b1w];omega
  have i2:(48:Int) <=((a[0].toNat:Nat):Int):=by omega
  have i3:(57:Int)<((a[0].toNat:Nat):Int):=by omega
  go_enter func168,ntmps168;go_wp2_with fail;refine(zd ha HP.o).mono ?_;rintro r w1 ⟨rfl,hx,hf⟩;have HX:=q_ hx;have HF:=q_ hf;clear hx hf HP;go_wp2_with fail;refine(xp rfl HX.o).mono ?_;rintro r w2 ⟨rfl,hx2,hf2⟩;have HX2:=q_ hx2;have HF2:=q_ (HF.o.step hf2);clear hx2 hf2;go_wp2_with fail;go_ret;exact⟨rfl,HX2.o,HF2.o⟩
 ·have i1:((a.size:Int)==1)=true:=by rw[b1w];omega
  have i2:(48:Int) <=((a[0].toNat:Nat):Int):=by omega
  have i3:((a[0].toNat:Nat):Int)<=57:=by omega
  rw[hv]at hw2 hw3
  by_cases hq:(a[0].toNat:Int)-48<1\/3<(a[0].toNat:Int)-48
  ·have e:=hw2 hb hq;rw[e]at ht;injection ht with e1 e2
   subst e1 e2;clear e hw1 hw2 hw3 hb hv
   by_cases hq1:(a[0].toNat:Int)<49
   ·clear hq;go_enter func168,ntmps168;go_wp2_with fail;refine(zd ha HP.o).mono ?_;rintro r w1 ⟨rfl,hx,hf⟩;have HX:=q_ hx;have HF:=q_ hf;clear hx hf HP;go_wp2_with fail;refine(xp rfl HX.o).mono ?_;rintro r w2 ⟨rfl,hx2,hf2⟩;have HX2:=q_ hx2;have HF2:=q_ (HF.o.step hf2);clear hx2 hf2;go_wp2_with fail;go_ret;exact⟨rfl,HX2.o,HF2.o⟩
   ·have q1:49 <=(a[0].toNat:Int):=by omega
    have q2:51<(a[0].toNat:Int):=by omega
    clear hq hq1;go_enter func168,ntmps168;go_wp2_with fail;refine(zd ha HP.o).mono ?_;rintro r w1 ⟨rfl,hx,hf⟩;have HX:=q_ hx;have HF:=q_ hf;clear hx hf HP;go_wp2_with fail;refine(xp rfl HX.o).mono ?_;rintro r w2 ⟨rfl,hx2,hf2⟩;have HX2:=q_ hx2;have HF2:=q_ (HF.o.step hf2);clear hx2 hf2;go_wp2_with fail;go_ret;exact⟨rfl,HX2.o,HF2.o⟩
  ·have e:=hw3 hb hq;rw[e]at ht;injection ht with e1 e2
   subst e1 e2;have q1:49 <=(a[0].toNat:Int):=by omega
   have q2:(a[0].toNat:Int)<=51:=by omega
   clear e hw1 hw2 hw3 hb hv hq;go_enter func168,ntmps168;go_wp2_with fail;refine(zd ha HP.o).mono ?_;rintro r w1 ⟨rfl,hx,hf⟩;have HX:=q_ hx;have HF:=q_ hf;clear hx hf HP;go_wp2_with fail;go_ret;exact⟨rfl,HX.o,HF.o⟩
