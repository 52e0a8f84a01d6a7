/- Layer 23: eyes, and the reference's rows that are read: a text, an error. -/
import Derived.Test.YtdkhlkfleggbaaaGreatR12
namespace Go.Proofs.YtdkhlkfleggbaaaGreat
set_option maxHeartbeats 1000000
set_option maxRecDepth 8000
open Lib (hid)
open Tryz
set_option linter.unusedVariables false
open Go.RowKit
variable {Q : Nat → Prop}
abbrev kw:Value:=.slice none 0 0
def ac0 (e:Int) (R:List ByteArray):Int:=if R=[]then aaq e 3 else e
def bbz (Q:Nat→Prop) (w:World) (A:Option Addr) (fs:List ByteArray):Prop:=
 ∀k (hk:k<fs.length),∃b off,A=some ⟨b,off,none⟩∧Q b∧w.cell? ⟨b,off+k,none⟩=some (.string (fs[k]'hk))
def ab8 (Q:Nat→Prop) (w:World) (g:Nat) (e:Int) (R:List ByteArray):Prop:=
 ∃A c,w.cell? ⟨g,0,none⟩=some (.bool true)∧w.cell? ⟨g,1,none⟩=some (.int .i64 e)∧w.cell? ⟨g,2,none⟩=some (.slice A R.length c) ∧(∀o,w.frozen? ⟨g,o,none⟩=false)∧g<w.1.size∧bbz Q w A R ∧(∀b,Q b→b<w.1.size) ∧(∀b,Q b→b≠g)∧R.length≤1000000∧R.length≤c
theorem atq {w w':World} {A:Option Addr} {R:List ByteArray} {g:Nat} (h:bbz Q w A R) (hB:∀b,Q b→b<w.1.size) (hA:∀b,Q b→b≠g) (hf:Frm g kw w w'):bbz Q w' A R:=by
 intro k hk;obtain⟨b,off,h1,h2,h3⟩:=h k hk;exact⟨b,off,h1,h2,(hf.cell (hB b h2) (hA b h2) (by simp[Value.ownBlock])).trans h3⟩
theorem ab8.keep {w w':World} {g:Nat} {e:Int} {R:List ByteArray} (h:ab8 Q w g e R) (hb:Below w.1.size w w'):ab8 Q w' g e R:=by
 obtain⟨A,c,h0,h1,h2,h3,h4,h5,hB,h6,h7,h8⟩:=h;obtain⟨cc,ff⟩:=qx hb;exact⟨A,c,(cc g 0 h4).trans h0,(cc g 1 h4).trans h1,(cc g 2 h4).trans h2,fun o=>(ff g o h4).trans (h3 o),Nat.lt_of_lt_of_le h4 hb.size,atq h5 hB h6 (Frm.of_below hb),(fun b q=>Nat.lt_of_lt_of_le (hB b q) hb.size),h6,h7,h8⟩
theorem ano (w:World) (g o:Nat) (u:Value):Frm g kw w (w.setCell ⟨g,o,none⟩ u):=(Frm.of_below (Below.refl _ _)).set _ _
theorem ab8.err {w:World} {g:Nat} {e E:Int} {R:List ByteArray} (h:ab8 Q w g e R):ab8 Q (w.setCell ⟨g,1,none⟩ (.int .i64 E)) g E R:=by
 obtain⟨A,c,h0,h1,h2,h3,h4,h5,hB,h6,h7,h8⟩:=h;refine⟨A,c,?_,World.cell?_setCell_same _ _ _ h1,?_,fun o=>by simpa using h3 o,by simpa using h4,atq h5 hB h6 (ano _ _ _ _),by simpa using hB,h6,h7,h8⟩
 ·rw[World.cell?_setCell_other _ _ _ _ sm];exact h0
 ·rw[World.cell?_setCell_other _ _ _ _ sm];exact h2
def abw (Q:Nat→Prop) (g:Nat) (x:Value) (e:Int) (R:List ByteArray) (w:World) (r:Ending) (w':World):Prop:=r=.returned x∧ab8 Q w' g e R∧Frm g kw w w'
theorem ab8.noted {w:World} {g:Nat} {e E:Int} {R:List ByteArray} (h:ab8 Q w g e R):ab8 Q (if e=0 then w.setCell ⟨g,1,none⟩ (.int .i64 E)else w) g (aaq e E) R:=by
 unfold aaq
 by_cases he:e=0
 ·rw[if_pos he,if_pos he];exact h.err
 ·rw[if_neg he,if_neg he];exact h
theorem ayu (w:World) (g o:Nat) (e E:Int):Frm g kw w (if e=0 then w.setCell ⟨g,o,none⟩ (.int .i64 E)else w):=by
 split
 ·exact ano _ _ _ _
 ·exact Frm.of_below (Below.refl _ _)
theorem agk (g:Nat) (e E:Int) (R:List ByteArray) (w:World) (h:ab8 Q w g e R) :
 Calls Tryz.prog 149 #[.pointer (some ⟨g,0,none⟩),.int .i64 E] w (abw Q g (.tuple #[]) (aaq e E) R w):=by
 have HN:Hid (abw Q g (.tuple #[]) (aaq e E) R w (.returned (.tuple #[])) (if e=0 then w.setCell ⟨g,1,none⟩ (.int .i64 E)else w)):=⟨rfl,h.noted,ayu _ _ _ _ _⟩;obtain⟨A,c,h0,h1,h2,h3,h4,h5,hB,h6,h7,h8⟩:=h;have HC:=hid (azj g e E w h1 (h3 1));clear h1 h2 h3 h4 h5 h6;generalize (if e=0 then w.setCell ⟨g,1,none⟩ (.int .i64 E)else w)=W at *;go_enter func149,ntmps149;go_wp2_with fail;refine(HC.out).mono ?_;rintro e w' ⟨rfl,rfl⟩;go_wp2_with fail
 go_end0
 exact HN.out
theorem a2c (g:Nat) (e:Int) (R:List ByteArray) (w:World) (h:ab8 Q w g e R) :
 Calls Tryz.prog 147 #[.pointer (some ⟨g,0,none⟩)] w fun r w'=>r=.returned (.int .i64 e)∧w=w':=by
 obtain⟨A,c,h0,h1,h2,h3,h4,h5,hB,h6,h7,h8⟩:=h;clear h5 h6 h3;go_enter func147,ntmps147;go_wp2;go_ret;exact⟨rfl,rfl⟩
theorem axf (g:Nat) (e:Int) (R:List ByteArray) (w:World) (h:ab8 Q w g e R) :
 Calls Tryz.prog 175 #[.pointer (some ⟨g,0,none⟩)] w fun r w'=>r=.returned (.int .i64 (R.length:Int))∧w=w':=by
 obtain⟨A,c,h0,h1,h2,h3,h4,h5,hB,h6,h7,h8⟩:=h;clear h5 h6 h3;generalize R.length=n at *;go_enter func175,ntmps175;go_wp2;go_ret;exact⟨rfl,rfl⟩
variable {Q : Nat → Prop}
theorem ad1 (g:Nat) (e:Int) (R:List ByteArray) (w:World) (h:ab8 Q w g e R) :
 Calls Tryz.prog 152 #[.pointer (some ⟨g,0,none⟩)] w (abw Q g (.string (R.headD ByteArray.empty)) (ac0 e R) R.tail w):=by
 cases R with
 | nil=>
  have HN:Hid (abw Q g (.string ByteArray.empty) (aaq e 3) [] w (.returned (.string ByteArray.empty)) (if e=0 then w.setCell ⟨g,1,none⟩ (.int .i64 3)else w)):=⟨rfl,h.noted,ayu _ _ _ _ _⟩;obtain⟨A,c,h0,h1,h2,h3,h4,h5,hB,h6,h7,h8⟩:=h;have HC:=hid (azj g e 3 w h1 (h3 1));change Calls Tryz.prog 152 #[.pointer (some ⟨g,0,none⟩)] w (abw Q g (.string ByteArray.empty) (aaq e 3) [] w);replace h2:w.cell? ⟨g,2,none⟩=some (.slice A 0 c):=h2;clear h1 h3 h4 h5 h6 h7 h8;generalize (if e=0 then w.setCell ⟨g,1,none⟩ (.int .i64 3)else w)=W at *;go_enter func152,ntmps152;go_wp2_with fail;refine(HC.out).mono ?_;rintro e w' ⟨rfl,rfl⟩;go_wp2_with fail;go_ret;exact HN.out
 | cons s t=>
  obtain⟨A,c,h0,h1,h2,h3,h4,h5,hB,h6,h7,h8⟩:=h;obtain⟨b,off,rfl,hb,hc⟩:=h5 0 sm;have hbg:=h6 b hb;have H6:=hid h6;replace hc:w.cell? ⟨b,off,none⟩=some (.string s):=hc;have hn:(s::t).length=t.length+1:=rfl;rw[hn]at h2 h7 h8;have z2:=h3 2
  have HN:Hid (abw Q g (.string s) e t w (.returned (.string s)) (w.setCell ⟨g,2,none⟩ (.slice (some ⟨b,off+1,none⟩) t.length (c-1)))):=by
   refine⟨rfl,⟨some ⟨b,off+1,none⟩,c-1,?_,?_,World.cell?_setCell_same _ _ _ h2,fun o=>by simpa using h3 o,by simpa using h4,?_,by simpa using hB,?_,by omega,by omega⟩,ano _ _ _ _⟩
   ·rw[World.cell?_setCell_other _ _ _ _ sm];exact h0
   ·rw[World.cell?_setCell_other _ _ _ _ sm];exact h1
   ·intro k hk;obtain⟨b2,off2,e1,e2,e3⟩:=h5 (k+1) (by simpa using hk);injection e1 with e1
    injection e1 with e1 e1'
    subst e1 e1';refine⟨b,off+1,rfl,hb,?_⟩;rw[World.cell?_setCell_other _ _ _ _ (fun q=>by injection q with q;exact hbg q.symm),show off+1+k=off +(k+1)from by omega,e3];rfl
   ·exact H6.out
  change Calls Tryz.prog 152 #[.pointer (some ⟨g,0,none⟩)] w (abw Q g (.string s) e t w);have HF:=hid h3;clear h3 h5 h6 hn;have i1:(1:Int) ≤((t.length+1:Nat):Int):=by omega
  have i2:((t.length+1:Nat):Int) ≤(c:Int):=by omega
  have i3:(((t.length+1:Nat):Int)==0)=false:=by rw[beq_eq_false_iff_ne];omega
  have i4:(0:Int)<((t.length+1:Nat):Int):=by omega
  have i5:t.length+1-1=t.length:=by omega
  by_cases hc1:c=1
  ·subst hc1;have ht:t=[]:=List.eq_nil_of_length_eq_zero om;subst ht
   have HN2:Hid (abw Q g (.string s) e [] w (.returned (.string s)) (w.setCell ⟨g,2,none⟩ (.slice (some ⟨b,off,none⟩) 0 0))):=by
    refine⟨rfl,⟨some ⟨b,off,none⟩,0,?_,?_,World.cell?_setCell_same _ _ _ h2,fun o=>by simpa using HF.out o,by simpa using h4,fun k hk=>absurd hk sm,by simpa using hB,H6.out,by simp,by simp⟩,ano _ _ _ _⟩
    ·rw[World.cell?_setCell_other _ _ _ _ sm];exact h0
    ·rw[World.cell?_setCell_other _ _ _ _ sm];exact h1
   replace h2:w.cell? ⟨g,2,none⟩=some (.slice (some ⟨b,off,none⟩) 1 1):=h2;clear HN i1 i2 i3 i4 i5 h7 h8 HF;go_enter func152,ntmps152;go_wp2_with fail;go_ret;exact HN2.out
  ·clear HF;generalize t.length+1=n at *;generalize t.length=m at *;go_enter func152,ntmps152;go_wp2_with fail;go_ret;exact HN.out
end Go.Proofs.YtdkhlkfleggbaaaGreat
