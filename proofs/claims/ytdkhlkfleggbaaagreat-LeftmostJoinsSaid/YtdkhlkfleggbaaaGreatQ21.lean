/- Parts. -/
import Derived.Test.YtdkhlkfleggbaaaGreatQ20
namespace Go.Proofs.YtdkhlkfleggbaaaGreat
set_option maxHeartbeats 4000000
set_option maxRecDepth 8000
open Lib (hid)
open Tryz
set_option linter.unusedVariables false
open Go.RowKit
abbrev xx (cb:Bool) (ch:Int) (cm:Int) (cs:Int) (cc:Int) (st:Bool) (lb:Bool) (ln:Int) (ob:Bool) (on:Int) (sb:Bool) (sn:Int) (kb:Bool) (kn:Int) (vb:Bool) (vn:Int) (db:Bool) (dd:Int) (dm:Int) (dy:Int):Array Value:=#[.bool cb,.int .i64 ch,.int .i64 cm,.int .i64 cs,.int .i64 cc,.bool st,.bool lb,.int .i64 ln,.bool ob,.int .i64 on,.bool sb,.int .i64 sn,.bool kb,.int .i64 kn,.bool vb,.int .i64 vn,.bool db,.int .i64 dd,.int .i64 dm,.int .i64 dy]
abbrev bh9 (cb:Bool) (ch:Int) (cm:Int) (cs:Int) (cc:Int) (st:Bool) (lb:Bool) (ln:Int) (ob:Bool) (on:Int) (sb:Bool) (sn:Int) (kb:Bool) (kn:Int) (vb:Bool) (vn:Int) (db:Bool) (dd:Int) (dm:Int) (dy:Int):Value:=.agg (xx cb ch cm cs cc st lb ln ob on sb sn kb kn vb vn db dd dm dy)
theorem av8 (w:World):Calls prog 158 #[] w fun e w'=>e=.returned (j7 1 4 2 0 999999)∧Below w.1.size w w':=by
 go_enter func158,ntmps158;go_wp2;refine bodyPost_ret (v:=j7 1 4 2 0 999999) (by simp[results,results158,go_sem]) rfl ⟨rfl,qa _ _⟩
theorem ar3 (w:World):Calls prog 160 #[] w fun e w'=>e=.returned (j7 1 3 2 0 36000)∧Below w.1.size w w':=by
 go_enter func160,ntmps160;go_wp2;refine bodyPost_ret (v:=j7 1 3 2 0 36000) (by simp[results,results160,go_sem]) rfl ⟨rfl,qa _ _⟩
theorem jt (w:World):Calls prog 213 #[] w fun e w'=>e=.returned (j7 1 3 1 0 1800)∧Below w.1.size w w':=by
 go_enter func213,ntmps213;go_wp2;refine bodyPost_ret (v:=j7 1 3 1 0 1800) (by simp[results,results213,go_sem]) rfl ⟨rfl,qa _ _⟩
theorem afr (t:ByteArray) (c:UInt8):(t.toList==[c])=decide (t=⟨#[c]⟩):=by
 have l:(⟨#[c]⟩:ByteArray).toList=[c]:=by rw[ByteArray.toList_eq]
 rw[← afb,l]
theorem bfo {l:List UInt8} {W M F L H:Int} (h:(j4 l W M F L H).1=true):aaz true (j4 l W M F L H).2.1 L H=true:=by
 unfold j4 at h ⊢
 by_cases h1:abi W M F L H=false
 ·rw[if_pos h1]at h;cases h
 ·rw[if_neg h1]at h ⊢
  by_cases h2:l=[]
  ·rw[if_pos h2]at h;cases h
  ·rw[if_neg h2]at h ⊢;cases hp:yo (afc l) 1 M.toNat F.toNat with
   | none=>rw[hp]at h;cases h
   | some n=>
    rw[hp]at h;simp only at h ⊢;generalize (if aii l=true then -(n:Int)else(n:Int))=x at *
    by_cases hq:aaz true x L H=true
    ·rw[if_pos hq];exact hq
    ·rw[if_neg hq]at h;exact absurd h sm
theorem be1 {W M F L H:Int} {s t:Rd} {b:Bool} {n:Int} (h:qq W M F L H s=((b,n),t)) (h0:L≤0∧0≤H):L≤n∧n≤H:=by
 cases b with
 | false=>rw[a0j h];exact h0
 | true=>
  have h1:(qq W M F L H s).1=(true,n):=by rw[h]
  have h2:(j4 (s.2.headD ByteArray.empty).data.toList W M F L H).1=true:=congrArg Prod.fst h1;have h3:(j4 (s.2.headD ByteArray.empty).data.toList W M F L H).2.1=n:=congrArg Prod.snd h1;have:=bfo h2;rw[h3]at this;exact apm this
theorem ar5 {g:Nat} {s t:Rd} {b:Bool} {w:World} (ht:Hid (a99 s=(b,t))) (hp:qw g s w):Calls prog 154 #[.pointer (some ⟨g,0,none⟩)] w (jv g (.bool b) t w):=by
 obtain⟨a,s1,ha⟩:∃a s1,Hid (qt s=(a,s1)):=⟨_,_,rfl⟩;have ht:=ht.out;unfold a99 at ht;rw[ha.out]at ht;injection ht with e1 e2
 simp only at e1 e2;have HP:=hid hp;clear hp
 by_cases hA:a=⟨#[65]⟩
 ·rw[decide_eq_true hA]at e1;rw[if_neg (fun h=>h.1 hA)]at e2;subst e1 e2;have b2:(a.toList==[65])=true:=by rw[afr];exact decide_eq_true hA
  clear hA;go_enter func154,ntmps154;go_wp2_with fail;refine(zc ha HP.out).mono ?_;rintro r w1 ⟨rfl,hx,hf⟩;have HX:=hid hx;have HF:=hid hf;clear hx hf HP;go_wp2_with fail;go_ret;exact⟨rfl,HX.out,HF.out⟩
 ·rw[decide_eq_false hA]at e1;have b2:(a.toList==[65])=false:=by rw[afr];exact decide_eq_false hA
  by_cases hV:a=⟨#[86]⟩
  ·rw[if_neg (fun h=>h.2 hV)]at e2;subst e1 e2;have b3:(a.toList==[86])=true:=by rw[afr];exact decide_eq_true hV
   clear hA hV;go_enter func154,ntmps154;go_wp2_with fail;refine(zc ha HP.out).mono ?_;rintro r w1 ⟨rfl,hx,hf⟩;have HX:=hid hx;have HF:=hid hf;clear hx hf HP;go_wp2_with fail;go_ret;exact⟨rfl,HX.out,HF.out⟩
  ·rw[if_pos ⟨hA,hV⟩]at e2;subst e1 e2;have b3:(a.toList==[86])=false:=by rw[afr];exact decide_eq_false hV
   clear hA hV;go_enter func154,ntmps154;go_wp2_with fail;refine(zc ha HP.out).mono ?_;rintro r w1 ⟨rfl,hx,hf⟩;have HX:=hid hx;have HF:=hid hf;clear hx hf HP;go_wp2_with fail;refine(xl rfl HX.out).mono ?_;rintro r w2 ⟨rfl,hx2,hf2⟩;have HX2:=hid hx2;have HF2:=hid (HF.out.step hf2);clear hx2 hf2;go_wp2_with fail;go_ret;exact⟨rfl,HX2.out,HF2.out⟩
theorem a0q {g:Nat} {s t:Rd} {w:World} (ht:Hid (aae s=t)) (hp:qw g s w):Calls prog 166 #[.pointer (some ⟨g,0,none⟩)] w (jv g (.tuple #[]) t w):=by
 have ht:=ht.out;unfold aae at ht
 by_cases h0:s.2=[]
 ·rw[if_pos h0]at ht;subst ht;have HL:=hid (aj9 hp);rw[h0]at HL;have HP:=hid hp;clear hp h0;go_enter func166,ntmps166;go_wp2_with fail;refine HL.out.mono ?_;rintro r w1 ⟨rfl,rfl⟩;go_wp2_with fail
  go_end0
  exact⟨rfl,HP.out,Frm.of_below (Below.refl _ _)⟩
 ·rw[if_neg h0]at ht;obtain⟨a,s1,ha⟩:∃a s1,Hid (qt s=(a,s1)):=⟨_,_,rfl⟩;rw[ha.out]at ht;simp only at ht;have HL:=hid (aj9 hp);have hlen:0<s.2.length:=List.length_pos_iff.2 h0;obtain⟨n,hn⟩:∃n,s.2.length=n:=⟨_,rfl⟩;rw[hn]at HL hlen;have b0:((n:Int)==0)=false:=by rw[beq_eq_false_iff_ne];omega
  have HP:=hid hp;clear hp h0 hn hlen;rcases atb a with⟨h,h',rfl⟩|⟨h',hne,⟨h2,hc⟩|⟨hz,h1,⟨h2,hc⟩|⟨h2,hc⟩|⟨h2,h3,hc⟩⟩⟩
  ·rw[if_neg (fun q=>q.1 rfl)]at ht;subst ht;clear h h';go_enter func166,ntmps166;go_wp2_with fail;refine HL.out.mono ?_;rintro r w1 ⟨rfl,rfl⟩;go_wp2_with fail;refine(zc ha HP.out).mono ?_;rintro r w1 ⟨rfl,hx,hf⟩;have HX:=hid hx;have HF:=hid hf;clear hx hf HP;go_wp2_with fail
   go_end0
   exact⟨rfl,HX.out,HF.out⟩
  ·rw[if_pos ⟨hne,hc⟩]at ht;subst ht;have i1:(1:Int)<(a.size:Int):=by omega
   clear h' hne hc h2;go_enter func166,ntmps166;go_wp2_with fail;refine HL.out.mono ?_;rintro r w1 ⟨rfl,rfl⟩;go_wp2_with fail;refine(zc ha HP.out).mono ?_;rintro r w1 ⟨rfl,hx,hf⟩;have HX:=hid hx;have HF:=hid hf;clear hx hf HP;go_wp2_with fail;refine(xl rfl HX.out).mono ?_;rintro r w2 ⟨rfl,hx2,hf2⟩;have HX2:=hid hx2;have HF2:=hid (HF.out.step hf2);clear hx2 hf2;go_wp2_with fail
   go_end0
   exact⟨rfl,HX2.out,HF2.out⟩
  ·rw[if_pos ⟨hne,hc⟩]at ht;subst ht;have i1:(a.size:Int)≤1:=by omega
   have i2:((a[0].toNat:Nat):Int)<65:=by omega
   clear hne hc h2 h1;go_enter func166,ntmps166;go_wp2_with fail;refine HL.out.mono ?_;rintro r w1 ⟨rfl,rfl⟩;go_wp2_with fail;refine(zc ha HP.out).mono ?_;rintro r w1 ⟨rfl,hx,hf⟩;have HX:=hid hx;have HF:=hid hf;clear hx hf HP;go_wp2_with fail;refine(xl rfl HX.out).mono ?_;rintro r w2 ⟨rfl,hx2,hf2⟩;have HX2:=hid hx2;have HF2:=hid (HF.out.step hf2);clear hx2 hf2;go_wp2_with fail
   go_end0
   exact⟨rfl,HX2.out,HF2.out⟩
  ·rw[if_pos ⟨hne,hc⟩]at ht;subst ht;have i1:(a.size:Int)≤1:=by omega
   have i2:(65:Int) ≤((a[0].toNat:Nat):Int):=by omega
   have i3:(90:Int)<((a[0].toNat:Nat):Int):=by omega
   clear hne hc h2 h1;go_enter func166,ntmps166;go_wp2_with fail;refine HL.out.mono ?_;rintro r w1 ⟨rfl,rfl⟩;go_wp2_with fail;refine(zc ha HP.out).mono ?_;rintro r w1 ⟨rfl,hx,hf⟩;have HX:=hid hx;have HF:=hid hf;clear hx hf HP;go_wp2_with fail;refine(xl rfl HX.out).mono ?_;rintro r w2 ⟨rfl,hx2,hf2⟩;have HX2:=hid hx2;have HF2:=hid (HF.out.step hf2);clear hx2 hf2;go_wp2_with fail
   go_end0
   exact⟨rfl,HX2.out,HF2.out⟩
  ·rw[if_neg (fun q=>by rw[hc]at q;exact absurd q.2 sm)]at ht;subst ht;have i1:(a.size:Int)≤1:=by omega
   have i2:(65:Int) ≤((a[0].toNat:Nat):Int):=by omega
   have i3:((a[0].toNat:Nat):Int)≤90:=by omega
   clear hne hc h2 h3 h1;go_enter func166,ntmps166;go_wp2_with fail;refine HL.out.mono ?_;rintro r w1 ⟨rfl,rfl⟩;go_wp2_with fail;refine(zc ha HP.out).mono ?_;rintro r w1 ⟨rfl,hx,hf⟩;have HX:=hid hx;have HF:=hid hf;clear hx hf HP;go_wp2_with fail
   go_end0
   exact⟨rfl,HX.out,HF.out⟩
theorem anh {g:Nat} {s s1 s2 t:Rd} {n:Int} {d:ByteArray} {w:World} (h1:Hid (qq 1 3 1 0 1800 s=((true,n),s1))) (hd:Hid (qt s1=(d,s2))) (ht:Hid (s2=t)) (b1:(d.toList==[69])=true) (b2:(d.toList==[87])=false) (b3:d.toList.isEmpty=false) (hw:Hid (IntKind.i64.wrap (-n)=-n)) (hp:qw g s w) :
 Calls prog 164 #[.pointer (some ⟨g,0,none⟩)] w (jv g (jo true n) t w):=by
 have hb0:=qa w (za false 0);have HX0:=hid (hp.keep hb0);have HF0:Hid (Frm g vj w (w.alloc (za false 0))):=Frm.of_below hb0;have HZ0:Hid (w.1.size<(w.alloc (za false 0)).1.size∧g<w.1.size):=⟨by simp,hp.lt⟩;have HR0:Hid (∀o,(w.alloc (za false 0)).cell? ⟨w.1.size,o,none⟩=(#[Value.bool false,.int .i64 0]:Array Value)[o]?):=fun o=>World.cell?_alloc_at _ _ _ _ rfl
 have HRF:Hid (∀o,(w.alloc (za false 0)).frozen? ⟨w.1.size,o,none⟩=false):=fun o=>by rw[frozen?_alloc_cells];exact qj _ _ _ (Nat.le_refl _)
 clear hb0 hp;go_enter func164,ntmps164;go_wp2_with fail;generalize hW0:w.alloc (za false 0)=W0 at *;clear hW0;refine(jt _).mono ?_;rintro r w1 ⟨rfl,hb1⟩;have HX1:=hid (HX0.out.keep hb1);have HF1:Hid (Frm g vj W0 w1):=Frm.of_below hb1;clear hb1;go_wp2_with fail;refine(km h1 HX1.out).mono ?_;rintro r w2 ⟨rfl,hx2,hf2⟩;have hbn:=qa w2 (za true n);have HX2:=hid (hx2.keep hbn);have HF2:Hid (Frm g vj W0 (w2.alloc (za true n))):=(HF1.out.step hf2).step (Frm.of_below hbn);have HZ2:Hid (W0.1.size≤w2.1.size∧w2.1.size<(w2.alloc (za true n)).1.size):=⟨(HF1.out.step hf2).size,by simp⟩;have HN2:Hid (∀o,(w2.alloc (za true n)).cell? ⟨w2.1.size,o,none⟩=(#[Value.bool true,.int .i64 n]:Array Value)[o]?):=fun o=>World.cell?_alloc_at _ _ _ _ rfl
 have HNF:Hid (∀o,(w2.alloc (za true n)).frozen? ⟨w2.1.size,o,none⟩=false):=fun o=>by rw[frozen?_alloc_cells];exact qj _ _ _ (Nat.le_refl _)
 clear hbn hx2 hf2 HX1 HF1 HX0;go_upto_region 2 with fail;generalize hV:w2.alloc (za true n)=V at *;generalize w2.1.size=N at *;clear hV;go_wp2_with fail;refine(zc hd HX2.out).mono ?_;rintro r w3 ⟨rfl,hx3,hf3⟩;have HX3:=hid hx3;have HF3:=hid (HF2.out.step hf3);have n3:∀o,w3.cell? ⟨N,o,none⟩=(#[Value.bool true,.int .i64 n]:Array Value)[o]?:=fun o=>(qi hf3 HZ2.out.2 (by have:=HZ0.out;have:=HZ2.out;omega) o).trans (HN2.out o)
 have f3:∀o,w3.frozen? ⟨N,o,none⟩=false:=fun o=>(qu hf3 HZ2.out.2 (by have:=HZ0.out;have:=HZ2.out;omega) o).trans (HNF.out o)
 have HN3:=hid n3;have HNF3:=hid f3;have n0:=n3 0;have n1:=n3 1;have z1:=f3 1;have HZ3:Hid (N<w3.1.size):=Nat.lt_of_lt_of_le HZ2.out.2 hf3.size;clear hx3 hf3 n3 f3 HX2 HF2;have ht:=ht.out;subst ht;have r0:=(qi HF3.out HZ0.out.1 (by have:=HZ0.out;omega) 0).trans (HR0.out 0);have r1:=(qi HF3.out HZ0.out.1 (by have:=HZ0.out;omega) 1).trans (HR0.out 1);have q0:=(qu HF3.out HZ0.out.1 (by have:=HZ0.out;omega) 0).trans (HRF.out 0);have q1:=(qu HF3.out HZ0.out.1 (by have:=HZ0.out;omega) 1).trans (HRF.out 1);have HP:=hid (zg w3 w.1.size (.bool true) (.int .i64 n) _ _ r0 r1);go_wp2_with fail;obtain⟨p0,p1⟩:=HP.out;have hG:g<w.1.size:=HZ0.out.2;refine bodyPost_ret (v:=jo true n) (by simp[results,results164,go_sem,p0,p1]) rfl ⟨rfl,(HX3.out.far hG).far hG,?_⟩;exact((HF0.out.step HF3.out).put (Nat.le_refl _)).put (Nat.le_refl _)
theorem anj {g:Nat} {s s1 s2 t:Rd} {n:Int} {d:ByteArray} {w:World} (h1:Hid (qq 1 3 1 0 1800 s=((true,n),s1))) (hd:Hid (qt s1=(d,s2))) (ht:Hid (s2=t)) (b1:(d.toList==[69])=false) (b2:(d.toList==[87])=true) (b3:d.toList.isEmpty=false) (hw:Hid (IntKind.i64.wrap (-n)=-n)) (hp:qw g s w) :
 Calls prog 164 #[.pointer (some ⟨g,0,none⟩)] w (jv g (jo true (-n)) t w):=by
 have hb0:=qa w (za false 0);have HX0:=hid (hp.keep hb0);have HF0:Hid (Frm g vj w (w.alloc (za false 0))):=Frm.of_below hb0;have HZ0:Hid (w.1.size<(w.alloc (za false 0)).1.size∧g<w.1.size):=⟨by simp,hp.lt⟩;have HR0:Hid (∀o,(w.alloc (za false 0)).cell? ⟨w.1.size,o,none⟩=(#[Value.bool false,.int .i64 0]:Array Value)[o]?):=fun o=>World.cell?_alloc_at _ _ _ _ rfl
 have HRF:Hid (∀o,(w.alloc (za false 0)).frozen? ⟨w.1.size,o,none⟩=false):=fun o=>by rw[frozen?_alloc_cells];exact qj _ _ _ (Nat.le_refl _)
 clear hb0 hp;go_enter func164,ntmps164;go_wp2_with fail;generalize hW0:w.alloc (za false 0)=W0 at *;clear hW0;refine(jt _).mono ?_;rintro r w1 ⟨rfl,hb1⟩;have HX1:=hid (HX0.out.keep hb1);have HF1:Hid (Frm g vj W0 w1):=Frm.of_below hb1;clear hb1;go_wp2_with fail;refine(km h1 HX1.out).mono ?_;rintro r w2 ⟨rfl,hx2,hf2⟩;have hbn:=qa w2 (za true n);have HX2:=hid (hx2.keep hbn);have HF2:Hid (Frm g vj W0 (w2.alloc (za true n))):=(HF1.out.step hf2).step (Frm.of_below hbn);have HZ2:Hid (W0.1.size≤w2.1.size∧w2.1.size<(w2.alloc (za true n)).1.size):=⟨(HF1.out.step hf2).size,by simp⟩;have HN2:Hid (∀o,(w2.alloc (za true n)).cell? ⟨w2.1.size,o,none⟩=(#[Value.bool true,.int .i64 n]:Array Value)[o]?):=fun o=>World.cell?_alloc_at _ _ _ _ rfl
 have HNF:Hid (∀o,(w2.alloc (za true n)).frozen? ⟨w2.1.size,o,none⟩=false):=fun o=>by rw[frozen?_alloc_cells];exact qj _ _ _ (Nat.le_refl _)
 clear hbn hx2 hf2 HX1 HF1 HX0;go_upto_region 2 with fail;generalize hV:w2.alloc (za true n)=V at *;generalize w2.1.size=N at *;clear hV;go_wp2_with fail;refine(zc hd HX2.out).mono ?_;rintro r w3 ⟨rfl,hx3,hf3⟩;have HX3:=hid hx3;have HF3:=hid (HF2.out.step hf3);have n3:∀o,w3.cell? ⟨N,o,none⟩=(#[Value.bool true,.int .i64 n]:Array Value)[o]?:=fun o=>(qi hf3 HZ2.out.2 (by have:=HZ0.out;have:=HZ2.out;omega) o).trans (HN2.out o)
 have f3:∀o,w3.frozen? ⟨N,o,none⟩=false:=fun o=>(qu hf3 HZ2.out.2 (by have:=HZ0.out;have:=HZ2.out;omega) o).trans (HNF.out o)
 have HN3:=hid n3;have HNF3:=hid f3;have n0:=n3 0;have n1:=n3 1;have z1:=f3 1;have HZ3:Hid (N<w3.1.size):=Nat.lt_of_lt_of_le HZ2.out.2 hf3.size;clear hx3 hf3 n3 f3 HX2 HF2;have ht:=ht.out;subst ht;have r0:=(qi HF3.out HZ0.out.1 (by have:=HZ0.out;omega) 0).trans (HR0.out 0);have r1:=(qi HF3.out HZ0.out.1 (by have:=HZ0.out;omega) 1).trans (HR0.out 1);have q0:=(qu HF3.out HZ0.out.1 (by have:=HZ0.out;omega) 0).trans (HRF.out 0);have q1:=(qu HF3.out HZ0.out.1 (by have:=HZ0.out;omega) 1).trans (HRF.out 1);have hne:N≠w.1.size:=by have:=HZ0.out;have:=HZ2.out;omega
 have hne':w.1.size≠N:=fun q=>hne q.symm
 have y0:(w3.setCell ⟨N,1,none⟩ (.int .i64 (-n))).cell? ⟨w.1.size,0,none⟩=some (.bool false):=(World.cell?_setCell_other _ _ _ _ (fun q=>by injection q with q;exact hne q)).trans r0;have y1:(w3.setCell ⟨N,1,none⟩ (.int .i64 (-n))).cell? ⟨w.1.size,1,none⟩=some (.int .i64 0):=(World.cell?_setCell_other _ _ _ _ (fun q=>by injection q with q;exact hne q)).trans r1;have HP:=hid (zg (w3.setCell ⟨N,1,none⟩ (.int .i64 (-n))) w.1.size (.bool true) (.int .i64 (-n)) _ _ y0 y1);have hw:=hw.out;go_wp2_with fail;obtain⟨p0,p1⟩:=HP.out;have hG:g<w.1.size:=HZ0.out.2;have hN:g<N:=by have:=HZ0.out;have:=HZ2.out;omega
 have hwN:w.1.size≤N:=by have:=HZ0.out;have:=HZ2.out;omega
 refine bodyPost_ret (v:=jo true (-n)) (by simp[results,results164,go_sem,p0,p1]) rfl ⟨rfl,((HX3.out.far hN).far hG).far hG,?_⟩;exact(((HF0.out.step HF3.out).put hwN).put (Nat.le_refl _)).put (Nat.le_refl _)
theorem ank {g:Nat} {s s1 s2 t:Rd} {n:Int} {d:ByteArray} {w:World} (h1:Hid (qq 1 3 1 0 1800 s=((true,n),s1))) (hd:Hid (qt s1=(d,s2))) (ht:Hid (xq 3 s2=t)) (b1:(d.toList==[69])=false) (b2:(d.toList==[87])=false) (b3:d.toList.isEmpty=true) (hw:Hid (IntKind.i64.wrap (-n)=-n)) (hp:qw g s w) :
 Calls prog 164 #[.pointer (some ⟨g,0,none⟩)] w (jv g (jo true n) t w):=by
 have hb0:=qa w (za false 0);have HX0:=hid (hp.keep hb0);have HF0:Hid (Frm g vj w (w.alloc (za false 0))):=Frm.of_below hb0;have HZ0:Hid (w.1.size<(w.alloc (za false 0)).1.size∧g<w.1.size):=⟨by simp,hp.lt⟩;have HR0:Hid (∀o,(w.alloc (za false 0)).cell? ⟨w.1.size,o,none⟩=(#[Value.bool false,.int .i64 0]:Array Value)[o]?):=fun o=>World.cell?_alloc_at _ _ _ _ rfl
 have HRF:Hid (∀o,(w.alloc (za false 0)).frozen? ⟨w.1.size,o,none⟩=false):=fun o=>by rw[frozen?_alloc_cells];exact qj _ _ _ (Nat.le_refl _)
 clear hb0 hp;go_enter func164,ntmps164;go_wp2_with fail;generalize hW0:w.alloc (za false 0)=W0 at *;clear hW0;refine(jt _).mono ?_;rintro r w1 ⟨rfl,hb1⟩;have HX1:=hid (HX0.out.keep hb1);have HF1:Hid (Frm g vj W0 w1):=Frm.of_below hb1;clear hb1;go_wp2_with fail;refine(km h1 HX1.out).mono ?_;rintro r w2 ⟨rfl,hx2,hf2⟩;have hbn:=qa w2 (za true n);have HX2:=hid (hx2.keep hbn);have HF2:Hid (Frm g vj W0 (w2.alloc (za true n))):=(HF1.out.step hf2).step (Frm.of_below hbn);have HZ2:Hid (W0.1.size≤w2.1.size∧w2.1.size<(w2.alloc (za true n)).1.size):=⟨(HF1.out.step hf2).size,by simp⟩;have HN2:Hid (∀o,(w2.alloc (za true n)).cell? ⟨w2.1.size,o,none⟩=(#[Value.bool true,.int .i64 n]:Array Value)[o]?):=fun o=>World.cell?_alloc_at _ _ _ _ rfl
 have HNF:Hid (∀o,(w2.alloc (za true n)).frozen? ⟨w2.1.size,o,none⟩=false):=fun o=>by rw[frozen?_alloc_cells];exact qj _ _ _ (Nat.le_refl _)
 clear hbn hx2 hf2 HX1 HF1 HX0;go_upto_region 2 with fail;generalize hV:w2.alloc (za true n)=V at *;generalize w2.1.size=N at *;clear hV;go_wp2_with fail;refine(zc hd HX2.out).mono ?_;rintro r w3 ⟨rfl,hx3,hf3⟩;have HX3:=hid hx3;have HF3:=hid (HF2.out.step hf3);have n3:∀o,w3.cell? ⟨N,o,none⟩=(#[Value.bool true,.int .i64 n]:Array Value)[o]?:=fun o=>(qi hf3 HZ2.out.2 (by have:=HZ0.out;have:=HZ2.out;omega) o).trans (HN2.out o)
 have f3:∀o,w3.frozen? ⟨N,o,none⟩=false:=fun o=>(qu hf3 HZ2.out.2 (by have:=HZ0.out;have:=HZ2.out;omega) o).trans (HNF.out o)
 have HN3:=hid n3;have HNF3:=hid f3;have n0:=n3 0;have n1:=n3 1;have z1:=f3 1;have HZ3:Hid (N<w3.1.size):=Nat.lt_of_lt_of_le HZ2.out.2 hf3.size;clear hx3 hf3 n3 f3 HX2 HF2;go_wp2_with fail;refine(xl ht HX3.out).mono ?_;rintro r w4 ⟨rfl,hx4,hf4⟩;have HX4:=hid hx4;have HF4:=hid (HF3.out.step hf4);have m0:=(qi hf4 HZ3.out (by have:=HZ0.out;have:=HZ2.out;omega) 0).trans (HN3.out 0);have m1:=(qi hf4 HZ3.out (by have:=HZ0.out;have:=HZ2.out;omega) 1).trans (HN3.out 1);have r0:=(qi HF4.out HZ0.out.1 (by have:=HZ0.out;omega) 0).trans (HR0.out 0);have r1:=(qi HF4.out HZ0.out.1 (by have:=HZ0.out;omega) 1).trans (HR0.out 1);have q0:=(qu HF4.out HZ0.out.1 (by have:=HZ0.out;omega) 0).trans (HRF.out 0);have q1:=(qu HF4.out HZ0.out.1 (by have:=HZ0.out;omega) 1).trans (HRF.out 1);clear hx4 hf4 n0 n1 z1;have HP:=hid (zg w4 w.1.size (.bool true) (.int .i64 n) _ _ r0 r1);go_wp2_with fail;obtain⟨p0,p1⟩:=HP.out
 have hG:g<w.1.size:=HZ0.out.2;refine bodyPost_ret (v:=jo true n) (by simp[results,results164,go_sem,p0,p1]) rfl ⟨rfl,(HX4.out.far hG).far hG,?_⟩;exact((HF0.out.step HF4.out).put (Nat.le_refl _)).put (Nat.le_refl _)
theorem ani {g:Nat} {s s1 s2 t:Rd} {n:Int} {d:ByteArray} {w:World} (h1:Hid (qq 1 3 1 0 1800 s=((true,n),s1))) (hd:Hid (qt s1=(d,s2))) (ht:Hid (xq 3 s2=t)) (b1:(d.toList==[69])=false) (b2:(d.toList==[87])=false) (b3:d.toList.isEmpty=false) (hw:Hid (IntKind.i64.wrap (-n)=-n)) (hp:qw g s w) :
 Calls prog 164 #[.pointer (some ⟨g,0,none⟩)] w (jv g (jo true n) t w):=by
 have hb0:=qa w (za false 0);have HX0:=hid (hp.keep hb0);have HF0:Hid (Frm g vj w (w.alloc (za false 0))):=Frm.of_below hb0;have HZ0:Hid (w.1.size<(w.alloc (za false 0)).1.size∧g<w.1.size):=⟨by simp,hp.lt⟩;have HR0:Hid (∀o,(w.alloc (za false 0)).cell? ⟨w.1.size,o,none⟩=(#[Value.bool false,.int .i64 0]:Array Value)[o]?):=fun o=>World.cell?_alloc_at _ _ _ _ rfl
 have HRF:Hid (∀o,(w.alloc (za false 0)).frozen? ⟨w.1.size,o,none⟩=false):=fun o=>by rw[frozen?_alloc_cells];exact qj _ _ _ (Nat.le_refl _)
 clear hb0 hp;go_enter func164,ntmps164;go_wp2_with fail;generalize hW0:w.alloc (za false 0)=W0 at *;clear hW0;refine(jt _).mono ?_;rintro r w1 ⟨rfl,hb1⟩;have HX1:=hid (HX0.out.keep hb1);have HF1:Hid (Frm g vj W0 w1):=Frm.of_below hb1;clear hb1;go_wp2_with fail;refine(km h1 HX1.out).mono ?_;rintro r w2 ⟨rfl,hx2,hf2⟩;have hbn:=qa w2 (za true n);have HX2:=hid (hx2.keep hbn);have HF2:Hid (Frm g vj W0 (w2.alloc (za true n))):=(HF1.out.step hf2).step (Frm.of_below hbn);have HZ2:Hid (W0.1.size≤w2.1.size∧w2.1.size<(w2.alloc (za true n)).1.size):=⟨(HF1.out.step hf2).size,by simp⟩;have HN2:Hid (∀o,(w2.alloc (za true n)).cell? ⟨w2.1.size,o,none⟩=(#[Value.bool true,.int .i64 n]:Array Value)[o]?):=fun o=>World.cell?_alloc_at _ _ _ _ rfl
 have HNF:Hid (∀o,(w2.alloc (za true n)).frozen? ⟨w2.1.size,o,none⟩=false):=fun o=>by rw[frozen?_alloc_cells];exact qj _ _ _ (Nat.le_refl _)
 clear hbn hx2 hf2 HX1 HF1 HX0;go_upto_region 2 with fail;generalize hV:w2.alloc (za true n)=V at *;generalize w2.1.size=N at *;clear hV;go_wp2_with fail;refine(zc hd HX2.out).mono ?_;rintro r w3 ⟨rfl,hx3,hf3⟩;have HX3:=hid hx3;have HF3:=hid (HF2.out.step hf3);have n3:∀o,w3.cell? ⟨N,o,none⟩=(#[Value.bool true,.int .i64 n]:Array Value)[o]?:=fun o=>(qi hf3 HZ2.out.2 (by have:=HZ0.out;have:=HZ2.out;omega) o).trans (HN2.out o)
 have f3:∀o,w3.frozen? ⟨N,o,none⟩=false:=fun o=>(qu hf3 HZ2.out.2 (by have:=HZ0.out;have:=HZ2.out;omega) o).trans (HNF.out o)
 have HN3:=hid n3;have HNF3:=hid f3;have n0:=n3 0;have n1:=n3 1;have z1:=f3 1;have HZ3:Hid (N<w3.1.size):=Nat.lt_of_lt_of_le HZ2.out.2 hf3.size;clear hx3 hf3 n3 f3 HX2 HF2;go_wp2_with fail;refine(xl ht HX3.out).mono ?_;rintro r w4 ⟨rfl,hx4,hf4⟩;have HX4:=hid hx4;have HF4:=hid (HF3.out.step hf4);have m0:=(qi hf4 HZ3.out (by have:=HZ0.out;have:=HZ2.out;omega) 0).trans (HN3.out 0);have m1:=(qi hf4 HZ3.out (by have:=HZ0.out;have:=HZ2.out;omega) 1).trans (HN3.out 1);have r0:=(qi HF4.out HZ0.out.1 (by have:=HZ0.out;omega) 0).trans (HR0.out 0);have r1:=(qi HF4.out HZ0.out.1 (by have:=HZ0.out;omega) 1).trans (HR0.out 1);have q0:=(qu HF4.out HZ0.out.1 (by have:=HZ0.out;omega) 0).trans (HRF.out 0);have q1:=(qu HF4.out HZ0.out.1 (by have:=HZ0.out;omega) 1).trans (HRF.out 1);clear hx4 hf4 n0 n1 z1;have HP:=hid (zg w4 w.1.size (.bool true) (.int .i64 n) _ _ r0 r1);go_wp2_with fail;obtain⟨p0,p1⟩:=HP.out
 have hG:g<w.1.size:=HZ0.out.2;refine bodyPost_ret (v:=jo true n) (by simp[results,results164,go_sem,p0,p1]) rfl ⟨rfl,(HX4.out.far hG).far hG,?_⟩;exact((HF0.out.step HF4.out).put (Nat.le_refl _)).put (Nat.le_refl _)
theorem aly {g:Nat} {s s1 s2 t:Rd} {n:Int} {d:ByteArray} {w:World} (h1:Hid (qq 1 3 1 0 1800 s=((false,n),s1))) (hd:Hid (qt s1=(d,s2))) (ht:Hid (xq 3 s2=t)) (b1:(d.toList==[69])=true) (b2:(d.toList==[87])=false) (b3:d.toList.isEmpty=false) (hw:Hid (IntKind.i64.wrap (-n)=-n)) (hp:qw g s w) :
 Calls prog 164 #[.pointer (some ⟨g,0,none⟩)] w (jv g (jo false n) t w):=by
 have hb0:=qa w (za false 0);have HX0:=hid (hp.keep hb0);have HF0:Hid (Frm g vj w (w.alloc (za false 0))):=Frm.of_below hb0;have HZ0:Hid (w.1.size<(w.alloc (za false 0)).1.size∧g<w.1.size):=⟨by simp,hp.lt⟩;have HR0:Hid (∀o,(w.alloc (za false 0)).cell? ⟨w.1.size,o,none⟩=(#[Value.bool false,.int .i64 0]:Array Value)[o]?):=fun o=>World.cell?_alloc_at _ _ _ _ rfl
 have HRF:Hid (∀o,(w.alloc (za false 0)).frozen? ⟨w.1.size,o,none⟩=false):=fun o=>by rw[frozen?_alloc_cells];exact qj _ _ _ (Nat.le_refl _)
 clear hb0 hp;go_enter func164,ntmps164;go_wp2_with fail;generalize hW0:w.alloc (za false 0)=W0 at *;clear hW0;refine(jt _).mono ?_;rintro r w1 ⟨rfl,hb1⟩;have HX1:=hid (HX0.out.keep hb1);have HF1:Hid (Frm g vj W0 w1):=Frm.of_below hb1;clear hb1;go_wp2_with fail;refine(km h1 HX1.out).mono ?_;rintro r w2 ⟨rfl,hx2,hf2⟩;have hbn:=qa w2 (za false n);have HX2:=hid (hx2.keep hbn);have HF2:Hid (Frm g vj W0 (w2.alloc (za false n))):=(HF1.out.step hf2).step (Frm.of_below hbn);have HZ2:Hid (W0.1.size≤w2.1.size∧w2.1.size<(w2.alloc (za false n)).1.size):=⟨(HF1.out.step hf2).size,by simp⟩;have HN2:Hid (∀o,(w2.alloc (za false n)).cell? ⟨w2.1.size,o,none⟩=(#[Value.bool false,.int .i64 n]:Array Value)[o]?):=fun o=>World.cell?_alloc_at _ _ _ _ rfl
 have HNF:Hid (∀o,(w2.alloc (za false n)).frozen? ⟨w2.1.size,o,none⟩=false):=fun o=>by rw[frozen?_alloc_cells];exact qj _ _ _ (Nat.le_refl _)
 clear hbn hx2 hf2 HX1 HF1 HX0;go_upto_region 2 with fail;generalize hV:w2.alloc (za false n)=V at *;generalize w2.1.size=N at *;clear hV;go_wp2_with fail;refine(zc hd HX2.out).mono ?_;rintro r w3 ⟨rfl,hx3,hf3⟩;have HX3:=hid hx3;have HF3:=hid (HF2.out.step hf3);have n3:∀o,w3.cell? ⟨N,o,none⟩=(#[Value.bool false,.int .i64 n]:Array Value)[o]?:=fun o=>(qi hf3 HZ2.out.2 (by have:=HZ0.out;have:=HZ2.out;omega) o).trans (HN2.out o)
 have f3:∀o,w3.frozen? ⟨N,o,none⟩=false:=fun o=>(qu hf3 HZ2.out.2 (by have:=HZ0.out;have:=HZ2.out;omega) o).trans (HNF.out o)
 have HN3:=hid n3;have HNF3:=hid f3;have n0:=n3 0;have n1:=n3 1;have z1:=f3 1;have HZ3:Hid (N<w3.1.size):=Nat.lt_of_lt_of_le HZ2.out.2 hf3.size;clear hx3 hf3 n3 f3 HX2 HF2;go_wp2_with fail;refine(xl ht HX3.out).mono ?_;rintro r w4 ⟨rfl,hx4,hf4⟩;have HX4:=hid hx4;have HF4:=hid (HF3.out.step hf4);have m0:=(qi hf4 HZ3.out (by have:=HZ0.out;have:=HZ2.out;omega) 0).trans (HN3.out 0);have m1:=(qi hf4 HZ3.out (by have:=HZ0.out;have:=HZ2.out;omega) 1).trans (HN3.out 1);have r0:=(qi HF4.out HZ0.out.1 (by have:=HZ0.out;omega) 0).trans (HR0.out 0);have r1:=(qi HF4.out HZ0.out.1 (by have:=HZ0.out;omega) 1).trans (HR0.out 1);have q0:=(qu HF4.out HZ0.out.1 (by have:=HZ0.out;omega) 0).trans (HRF.out 0);have q1:=(qu HF4.out HZ0.out.1 (by have:=HZ0.out;omega) 1).trans (HRF.out 1);clear hx4 hf4 n0 n1 z1;have HP:=hid (zg w4 w.1.size (.bool false) (.int .i64 n) _ _ r0 r1);go_wp2_with fail;obtain⟨p0,p1⟩:=HP.out
 have hG:g<w.1.size:=HZ0.out.2;refine bodyPost_ret (v:=jo false n) (by simp[results,results164,go_sem,p0,p1]) rfl ⟨rfl,(HX4.out.far hG).far hG,?_⟩;exact((HF0.out.step HF4.out).put (Nat.le_refl _)).put (Nat.le_refl _)
theorem al0 {g:Nat} {s s1 s2 t:Rd} {n:Int} {d:ByteArray} {w:World} (h1:Hid (qq 1 3 1 0 1800 s=((false,n),s1))) (hd:Hid (qt s1=(d,s2))) (ht:Hid (xq 3 s2=t)) (b1:(d.toList==[69])=false) (b2:(d.toList==[87])=true) (b3:d.toList.isEmpty=false) (hw:Hid (IntKind.i64.wrap (-n)=-n)) (hp:qw g s w) :
 Calls prog 164 #[.pointer (some ⟨g,0,none⟩)] w (jv g (jo false n) t w):=by
 have hb0:=qa w (za false 0);have HX0:=hid (hp.keep hb0);have HF0:Hid (Frm g vj w (w.alloc (za false 0))):=Frm.of_below hb0;have HZ0:Hid (w.1.size<(w.alloc (za false 0)).1.size∧g<w.1.size):=⟨by simp,hp.lt⟩;have HR0:Hid (∀o,(w.alloc (za false 0)).cell? ⟨w.1.size,o,none⟩=(#[Value.bool false,.int .i64 0]:Array Value)[o]?):=fun o=>World.cell?_alloc_at _ _ _ _ rfl
 have HRF:Hid (∀o,(w.alloc (za false 0)).frozen? ⟨w.1.size,o,none⟩=false):=fun o=>by rw[frozen?_alloc_cells];exact qj _ _ _ (Nat.le_refl _)
 clear hb0 hp;go_enter func164,ntmps164;go_wp2_with fail;generalize hW0:w.alloc (za false 0)=W0 at *;clear hW0;refine(jt _).mono ?_;rintro r w1 ⟨rfl,hb1⟩;have HX1:=hid (HX0.out.keep hb1);have HF1:Hid (Frm g vj W0 w1):=Frm.of_below hb1;clear hb1;go_wp2_with fail;refine(km h1 HX1.out).mono ?_;rintro r w2 ⟨rfl,hx2,hf2⟩;have hbn:=qa w2 (za false n);have HX2:=hid (hx2.keep hbn);have HF2:Hid (Frm g vj W0 (w2.alloc (za false n))):=(HF1.out.step hf2).step (Frm.of_below hbn);have HZ2:Hid (W0.1.size≤w2.1.size∧w2.1.size<(w2.alloc (za false n)).1.size):=⟨(HF1.out.step hf2).size,by simp⟩;have HN2:Hid (∀o,(w2.alloc (za false n)).cell? ⟨w2.1.size,o,none⟩=(#[Value.bool false,.int .i64 n]:Array Value)[o]?):=fun o=>World.cell?_alloc_at _ _ _ _ rfl
 have HNF:Hid (∀o,(w2.alloc (za false n)).frozen? ⟨w2.1.size,o,none⟩=false):=fun o=>by rw[frozen?_alloc_cells];exact qj _ _ _ (Nat.le_refl _)
 clear hbn hx2 hf2 HX1 HF1 HX0;go_upto_region 2 with fail;generalize hV:w2.alloc (za false n)=V at *;generalize w2.1.size=N at *;clear hV;go_wp2_with fail;refine(zc hd HX2.out).mono ?_;rintro r w3 ⟨rfl,hx3,hf3⟩;have HX3:=hid hx3;have HF3:=hid (HF2.out.step hf3);have n3:∀o,w3.cell? ⟨N,o,none⟩=(#[Value.bool false,.int .i64 n]:Array Value)[o]?:=fun o=>(qi hf3 HZ2.out.2 (by have:=HZ0.out;have:=HZ2.out;omega) o).trans (HN2.out o)
 have f3:∀o,w3.frozen? ⟨N,o,none⟩=false:=fun o=>(qu hf3 HZ2.out.2 (by have:=HZ0.out;have:=HZ2.out;omega) o).trans (HNF.out o)
 have HN3:=hid n3;have HNF3:=hid f3;have n0:=n3 0;have n1:=n3 1;have z1:=f3 1;have HZ3:Hid (N<w3.1.size):=Nat.lt_of_lt_of_le HZ2.out.2 hf3.size;clear hx3 hf3 n3 f3 HX2 HF2;go_wp2_with fail;refine(xl ht HX3.out).mono ?_;rintro r w4 ⟨rfl,hx4,hf4⟩;have HX4:=hid hx4;have HF4:=hid (HF3.out.step hf4);have m0:=(qi hf4 HZ3.out (by have:=HZ0.out;have:=HZ2.out;omega) 0).trans (HN3.out 0);have m1:=(qi hf4 HZ3.out (by have:=HZ0.out;have:=HZ2.out;omega) 1).trans (HN3.out 1);have r0:=(qi HF4.out HZ0.out.1 (by have:=HZ0.out;omega) 0).trans (HR0.out 0);have r1:=(qi HF4.out HZ0.out.1 (by have:=HZ0.out;omega) 1).trans (HR0.out 1);have q0:=(qu HF4.out HZ0.out.1 (by have:=HZ0.out;omega) 0).trans (HRF.out 0);have q1:=(qu HF4.out HZ0.out.1 (by have:=HZ0.out;omega) 1).trans (HRF.out 1);clear hx4 hf4 n0 n1 z1;have HP:=hid (zg w4 w.1.size (.bool false) (.int .i64 n) _ _ r0 r1);go_wp2_with fail;obtain⟨p0,p1⟩:=HP.out
 have hG:g<w.1.size:=HZ0.out.2;refine bodyPost_ret (v:=jo false n) (by simp[results,results164,go_sem,p0,p1]) rfl ⟨rfl,(HX4.out.far hG).far hG,?_⟩;exact((HF0.out.step HF4.out).put (Nat.le_refl _)).put (Nat.le_refl _)
theorem al1 {g:Nat} {s s1 s2 t:Rd} {n:Int} {d:ByteArray} {w:World} (h1:Hid (qq 1 3 1 0 1800 s=((false,n),s1))) (hd:Hid (qt s1=(d,s2))) (ht:Hid (s2=t)) (b1:(d.toList==[69])=false) (b2:(d.toList==[87])=false) (b3:d.toList.isEmpty=true) (hw:Hid (IntKind.i64.wrap (-n)=-n)) (hp:qw g s w) :
 Calls prog 164 #[.pointer (some ⟨g,0,none⟩)] w (jv g (jo false n) t w):=by
 have hb0:=qa w (za false 0);have HX0:=hid (hp.keep hb0);have HF0:Hid (Frm g vj w (w.alloc (za false 0))):=Frm.of_below hb0;have HZ0:Hid (w.1.size<(w.alloc (za false 0)).1.size∧g<w.1.size):=⟨by simp,hp.lt⟩;have HR0:Hid (∀o,(w.alloc (za false 0)).cell? ⟨w.1.size,o,none⟩=(#[Value.bool false,.int .i64 0]:Array Value)[o]?):=fun o=>World.cell?_alloc_at _ _ _ _ rfl
 have HRF:Hid (∀o,(w.alloc (za false 0)).frozen? ⟨w.1.size,o,none⟩=false):=fun o=>by rw[frozen?_alloc_cells];exact qj _ _ _ (Nat.le_refl _)
 clear hb0 hp;go_enter func164,ntmps164;go_wp2_with fail;generalize hW0:w.alloc (za false 0)=W0 at *;clear hW0;refine(jt _).mono ?_;rintro r w1 ⟨rfl,hb1⟩;have HX1:=hid (HX0.out.keep hb1);have HF1:Hid (Frm g vj W0 w1):=Frm.of_below hb1;clear hb1;go_wp2_with fail;refine(km h1 HX1.out).mono ?_;rintro r w2 ⟨rfl,hx2,hf2⟩;have hbn:=qa w2 (za false n);have HX2:=hid (hx2.keep hbn);have HF2:Hid (Frm g vj W0 (w2.alloc (za false n))):=(HF1.out.step hf2).step (Frm.of_below hbn);have HZ2:Hid (W0.1.size≤w2.1.size∧w2.1.size<(w2.alloc (za false n)).1.size):=⟨(HF1.out.step hf2).size,by simp⟩;have HN2:Hid (∀o,(w2.alloc (za false n)).cell? ⟨w2.1.size,o,none⟩=(#[Value.bool false,.int .i64 n]:Array Value)[o]?):=fun o=>World.cell?_alloc_at _ _ _ _ rfl
 have HNF:Hid (∀o,(w2.alloc (za false n)).frozen? ⟨w2.1.size,o,none⟩=false):=fun o=>by rw[frozen?_alloc_cells];exact qj _ _ _ (Nat.le_refl _)
 clear hbn hx2 hf2 HX1 HF1 HX0;go_upto_region 2 with fail;generalize hV:w2.alloc (za false n)=V at *;generalize w2.1.size=N at *;clear hV;go_wp2_with fail;refine(zc hd HX2.out).mono ?_;rintro r w3 ⟨rfl,hx3,hf3⟩;have HX3:=hid hx3;have HF3:=hid (HF2.out.step hf3);have n3:∀o,w3.cell? ⟨N,o,none⟩=(#[Value.bool false,.int .i64 n]:Array Value)[o]?:=fun o=>(qi hf3 HZ2.out.2 (by have:=HZ0.out;have:=HZ2.out;omega) o).trans (HN2.out o)
 have f3:∀o,w3.frozen? ⟨N,o,none⟩=false:=fun o=>(qu hf3 HZ2.out.2 (by have:=HZ0.out;have:=HZ2.out;omega) o).trans (HNF.out o)
 have HN3:=hid n3;have HNF3:=hid f3;have n0:=n3 0;have n1:=n3 1;have z1:=f3 1;have HZ3:Hid (N<w3.1.size):=Nat.lt_of_lt_of_le HZ2.out.2 hf3.size;clear hx3 hf3 n3 f3 HX2 HF2;have ht:=ht.out;subst ht;have r0:=(qi HF3.out HZ0.out.1 (by have:=HZ0.out;omega) 0).trans (HR0.out 0);have r1:=(qi HF3.out HZ0.out.1 (by have:=HZ0.out;omega) 1).trans (HR0.out 1);have q0:=(qu HF3.out HZ0.out.1 (by have:=HZ0.out;omega) 0).trans (HRF.out 0);have q1:=(qu HF3.out HZ0.out.1 (by have:=HZ0.out;omega) 1).trans (HRF.out 1);have HP:=hid (zg w3 w.1.size (.bool false) (.int .i64 n) _ _ r0 r1);go_wp2_with fail;obtain⟨p0,p1⟩:=HP.out;have hG:g<w.1.size:=HZ0.out.2;refine bodyPost_ret (v:=jo false n) (by simp[results,results164,go_sem,p0,p1]) rfl ⟨rfl,(HX3.out.far hG).far hG,?_⟩;exact((HF0.out.step HF3.out).put (Nat.le_refl _)).put (Nat.le_refl _)
theorem alz {g:Nat} {s s1 s2 t:Rd} {n:Int} {d:ByteArray} {w:World} (h1:Hid (qq 1 3 1 0 1800 s=((false,n),s1))) (hd:Hid (qt s1=(d,s2))) (ht:Hid (xq 3 s2=t)) (b1:(d.toList==[69])=false) (b2:(d.toList==[87])=false) (b3:d.toList.isEmpty=false) (hw:Hid (IntKind.i64.wrap (-n)=-n)) (hp:qw g s w) :
 Calls prog 164 #[.pointer (some ⟨g,0,none⟩)] w (jv g (jo false n) t w):=by
 have hb0:=qa w (za false 0);have HX0:=hid (hp.keep hb0);have HF0:Hid (Frm g vj w (w.alloc (za false 0))):=Frm.of_below hb0;have HZ0:Hid (w.1.size<(w.alloc (za false 0)).1.size∧g<w.1.size):=⟨by simp,hp.lt⟩;have HR0:Hid (∀o,(w.alloc (za false 0)).cell? ⟨w.1.size,o,none⟩=(#[Value.bool false,.int .i64 0]:Array Value)[o]?):=fun o=>World.cell?_alloc_at _ _ _ _ rfl
 have HRF:Hid (∀o,(w.alloc (za false 0)).frozen? ⟨w.1.size,o,none⟩=false):=fun o=>by rw[frozen?_alloc_cells];exact qj _ _ _ (Nat.le_refl _)
 clear hb0 hp;go_enter func164,ntmps164;go_wp2_with fail;generalize hW0:w.alloc (za false 0)=W0 at *;clear hW0;refine(jt _).mono ?_;rintro r w1 ⟨rfl,hb1⟩;have HX1:=hid (HX0.out.keep hb1);have HF1:Hid (Frm g vj W0 w1):=Frm.of_below hb1;clear hb1;go_wp2_with fail;refine(km h1 HX1.out).mono ?_;rintro r w2 ⟨rfl,hx2,hf2⟩;have hbn:=qa w2 (za false n);have HX2:=hid (hx2.keep hbn);have HF2:Hid (Frm g vj W0 (w2.alloc (za false n))):=(HF1.out.step hf2).step (Frm.of_below hbn);have HZ2:Hid (W0.1.size≤w2.1.size∧w2.1.size<(w2.alloc (za false n)).1.size):=⟨(HF1.out.step hf2).size,by simp⟩;have HN2:Hid (∀o,(w2.alloc (za false n)).cell? ⟨w2.1.size,o,none⟩=(#[Value.bool false,.int .i64 n]:Array Value)[o]?):=fun o=>World.cell?_alloc_at _ _ _ _ rfl
 have HNF:Hid (∀o,(w2.alloc (za false n)).frozen? ⟨w2.1.size,o,none⟩=false):=fun o=>by rw[frozen?_alloc_cells];exact qj _ _ _ (Nat.le_refl _)
 clear hbn hx2 hf2 HX1 HF1 HX0;go_upto_region 2 with fail;generalize hV:w2.alloc (za false n)=V at *;generalize w2.1.size=N at *;clear hV;go_wp2_with fail;refine(zc hd HX2.out).mono ?_;rintro r w3 ⟨rfl,hx3,hf3⟩;have HX3:=hid hx3;have HF3:=hid (HF2.out.step hf3);have n3:∀o,w3.cell? ⟨N,o,none⟩=(#[Value.bool false,.int .i64 n]:Array Value)[o]?:=fun o=>(qi hf3 HZ2.out.2 (by have:=HZ0.out;have:=HZ2.out;omega) o).trans (HN2.out o)
 have f3:∀o,w3.frozen? ⟨N,o,none⟩=false:=fun o=>(qu hf3 HZ2.out.2 (by have:=HZ0.out;have:=HZ2.out;omega) o).trans (HNF.out o)
 have HN3:=hid n3;have HNF3:=hid f3;have n0:=n3 0;have n1:=n3 1;have z1:=f3 1;have HZ3:Hid (N<w3.1.size):=Nat.lt_of_lt_of_le HZ2.out.2 hf3.size;clear hx3 hf3 n3 f3 HX2 HF2;go_wp2_with fail;refine(xl ht HX3.out).mono ?_;rintro r w4 ⟨rfl,hx4,hf4⟩;have HX4:=hid hx4;have HF4:=hid (HF3.out.step hf4);have m0:=(qi hf4 HZ3.out (by have:=HZ0.out;have:=HZ2.out;omega) 0).trans (HN3.out 0);have m1:=(qi hf4 HZ3.out (by have:=HZ0.out;have:=HZ2.out;omega) 1).trans (HN3.out 1);have r0:=(qi HF4.out HZ0.out.1 (by have:=HZ0.out;omega) 0).trans (HR0.out 0);have r1:=(qi HF4.out HZ0.out.1 (by have:=HZ0.out;omega) 1).trans (HR0.out 1);have q0:=(qu HF4.out HZ0.out.1 (by have:=HZ0.out;omega) 0).trans (HRF.out 0);have q1:=(qu HF4.out HZ0.out.1 (by have:=HZ0.out;omega) 1).trans (HRF.out 1);clear hx4 hf4 n0 n1 z1;have HP:=hid (zg w4 w.1.size (.bool false) (.int .i64 n) _ _ r0 r1);go_wp2_with fail;obtain⟨p0,p1⟩:=HP.out
 have hG:g<w.1.size:=HZ0.out.2;refine bodyPost_ret (v:=jo false n) (by simp[results,results164,go_sem,p0,p1]) rfl ⟨rfl,(HX4.out.far hG).far hG,?_⟩;exact((HF0.out.step HF4.out).put (Nat.le_refl _)).put (Nat.le_refl _)
set_option linter.unusedSimpArgs false
theorem ar4 {g:Nat} {s t:Rd} {b:Bool} {n:Int} {w:World} (ht:Hid (atm s=((b,n),t))) (hp:qw g s w):Calls prog 164 #[.pointer (some ⟨g,0,none⟩)] w (jv g (jo b n) t w):=by
 obtain⟨b0,n0,s1,h1⟩:∃b n u,Hid (qq 1 3 1 0 1800 s=((b,n),u)):=⟨_,_,_,rfl⟩;obtain⟨d,s2,hd⟩:∃d u,Hid (qt s1=(d,u)):=⟨_,_,rfl⟩;have ht:=ht.out;unfold atm at ht;rw[h1.out]at ht;simp only at ht;rw[hd.out]at ht;simp only at ht;have hin:=be1 h1.out ⟨by omega,by omega⟩;have hw:Hid (IntKind.i64.wrap (-n0)=-n0):=IntWalk.i64_in _ om;have hE:(d.toList==[69])=decide (d=eT):=afr d 69;have hW:(d.toList==[87])=decide (d=wT):=afr d 87;have hZ:=adi d;have nEW:¬eT=wT:=by decide
 have nEZ:¬eT=ByteArray.empty:=by decide
 have nWZ:¬wT=ByteArray.empty:=by decide
 have nWE:¬wT=eT:=by decide
 have nZE:¬ByteArray.empty=eT:=by decide
 have nZW:¬ByteArray.empty=wT:=by decide
 unfold bfb at ht
 by_cases dE:d=eT
 ·subst dE;simp only[nEW,nEZ,decide_true,decide_false]at hE hW hZ;cases b0
  ·rw[if_pos (.inr ⟨rfl,nEZ⟩)]at ht;injection ht with e1 e2
   injection e1 with e1 e3
   subst e1 e3;exact aly h1 hd e2 hE hW hZ hw hp
  ·rw[if_neg (by simp[nEW]),if_neg nEW]at ht;injection ht with e1 e2
   injection e1 with e1 e3
   subst e1 e3;exact anh h1 hd e2 hE hW hZ hw hp
 by_cases dW:d=wT
 ·subst dW;simp only[nWE,nWZ,decide_true,decide_false]at hE hW hZ;cases b0
  ·rw[if_pos (.inr ⟨rfl,nWZ⟩)]at ht;injection ht with e1 e2
   injection e1 with e1 e3
   subst e1 e3;exact al0 h1 hd e2 hE hW hZ hw hp
  ·rw[if_neg sm,if_pos rfl]at ht;injection ht with e1 e2
   injection e1 with e1 e3
   subst e1 e3;exact anj h1 hd e2 hE hW hZ hw hp
 rw[decide_eq_false dE]at hE;rw[decide_eq_false dW]at hW
 by_cases dZ:d=ByteArray.empty
 ·rw[decide_eq_true dZ]at hZ;cases b0
  ·rw[if_neg (by rw[dZ];simp),if_neg dW]at ht;injection ht with e1 e2
   injection e1 with e1 e3
   subst e1 e3;exact al1 h1 hd e2 hE hW hZ hw hp
  ·rw[if_pos (.inl ⟨rfl,dE,dW⟩)]at ht;injection ht with e1 e2
   injection e1 with e1 e3
   subst e1 e3;exact ank h1 hd e2 hE hW hZ hw hp
 ·rw[decide_eq_false dZ]at hZ;cases b0
  ·rw[if_pos (.inr ⟨rfl,dZ⟩)]at ht;injection ht with e1 e2
   injection e1 with e1 e3
   subst e1 e3;exact alz h1 hd e2 hE hW hZ hw hp
  ·rw[if_pos (.inl ⟨rfl,dE,dW⟩)]at ht;injection ht with e1 e2
   injection e1 with e1 e3
   subst e1 e3;exact ani h1 hd e2 hE hW hZ hw hp
theorem akq {g P:Nat} {s t:Rd} {E:Int} {w:World} (ht:Hid (xq E s=t)) (hp:qw g s w) (p0:w.cell? ⟨P,0,none⟩=some (.pointer (some ⟨g,0,none⟩))):Calls prog 148 #[.int .i64 E,.pointer (some ⟨P,0,none⟩)] w (jv g (.tuple #[]) t w):=by
 have HP:=hid hp;clear hp;go_enter func148,ntmps148;go_wp2_with fail;refine(xl ht HP.out).mono ?_;rintro r w1 ⟨rfl,hx,hf⟩;have HX:=hid (And.intro hx hf);clear hx hf;go_wp2_with fail
 go_end0
 exact⟨rfl,HX.out.1,HX.out.2⟩
theorem ar2 {g M P:Nat} {C:Array Value} {W w:World} {s t:Rd} (h:Hid (aae s=t)) (hT:TkI (qw g s) g M C W w) (pW:Hid (W.cell? ⟨P,0,none⟩=some (.pointer (some ⟨g,0,none⟩)))) (sP:Hid (P<W.1.size∧P≠g∧P≠M)) :
 Calls prog 165 #[.pointer (some ⟨P,0,none⟩)] w fun r w'=>r=.returned (.tuple #[])∧TkI (qw g t) g M C W w':=by
 have HT:=hid hT;have p0:=(hT.cell (o:=0) sP.out.1 sP.out.2.1 sP.out.2.2).trans pW.out;clear hT;go_enter func165,ntmps165;go_wp2_with fail;refine(a0q h HT.out.x).mono ?_;rintro r x ⟨rfl,hx,hf⟩;have HT2:=hid (HT.out.frm hx hf);clear hx hf;go_wp2_with fail
 go_end0
 exact⟨rfl,HT2.out⟩
theorem av0 {g M P N:Nat} {W w:World} {s t:Rd} {cb:Bool} {ch:Int} {cm:Int} {cs:Int} {cc:Int} (h:Hid (ait s=((cb,ch,cm,cs,cc),t))) (hT:TkI (qw g s) g M (xx false 0 0 0 0 false false 0 false 0 false 0 false 0 false 0 false 0 0 0) W w) (pW:Hid (W.cell? ⟨P,0,none⟩=some (.pointer (some ⟨g,0,none⟩)))) (sP:Hid (P<W.1.size∧P≠g∧P≠M)) (nW:Hid (W.cell? ⟨N,0,none⟩=some (.func (.func 148) #[] #[.pointer (some ⟨P,0,none⟩)]))) (sN:Hid (N<W.1.size∧N≠g∧N≠M)) :
 Calls prog 150 #[.pointer (some ⟨P,0,none⟩),.pointer (some ⟨M,0,none⟩),.pointer (some ⟨N,0,none⟩)] w fun r w'=>r=.returned (.tuple #[])∧TkI (qw g t) g M (xx cb ch cm cs cc false false 0 false 0 false 0 false 0 false 0 false 0 0 0) W w':=by
 have HT:=hid hT;have p0:=(hT.cell (o:=0) sP.out.1 sP.out.2.1 sP.out.2.2).trans pW.out;clear hT;obtain⟨a,s1,ha⟩:∃a s1,Hid (qt s=(a,s1)):=⟨_,_,rfl⟩;have hsm:=ad2 ha HT.out.x
 obtain⟨E,ht1,ht2⟩:∃E,Hid (aag a.data.toList=((cb,ch,cm,cs,cc),E))∧Hid (xq E s1=t):=by
  have q:=h.out;unfold ait at q;rw[ha.out]at q;injection q with q1 q2
  exact⟨_,Prod.ext q1 rfl,q2⟩
 go_enter func150,ntmps150;go_wp2_with fail;refine(zc ha HT.out.x).mono ?_;rintro r x1 ⟨rfl,hx,hf⟩;have HT1:=hid (HT.out.frm hx hf);clear hx hf HT p0;go_wp2_with fail;refine(amn a _ hsm).mono ?_;rw[ht1.out];rintro r x2 ⟨rfl,hb2⟩;dsimp only;have hbc:=qa x2 (aas cb ch cm cs cc);have hb3:=qb hb2 hbc;have HT3:=hid (HT1.out.keep (Y:=qw g s1) (HT1.out.x.keep hb3) hb3);have HC3:Hid (∀o,(x2.alloc (aas cb ch cm cs cc)).cell? ⟨x2.1.size,o,none⟩=(#[Value.bool cb,.int .i64 ch,.int .i64 cm,.int .i64 cs,.int .i64 cc]:Array Value)[o]?):=fun o=>World.cell?_alloc_at _ _ _ _ rfl
 have HZM:Hid (M<x2.1.size):=Nat.lt_of_lt_of_le HT1.out.mz hb2.size;clear hbc hb2 hb3 HT1;go_upto_region 1 with fail;generalize hx3:x2.alloc (aas cb ch cm cs cc)=x3 at *;generalize x2.1.size=x2z at *;clear hx3;have m0:=HT3.out.c 0;have z0:=HT3.out.z 0;have m1:=HT3.out.c 1;have z1:=HT3.out.z 1;have m2:=HT3.out.c 2;have z2:=HT3.out.z 2;have m3:=HT3.out.c 3;have z3:=HT3.out.z 3;have m4:=HT3.out.c 4;have z4:=HT3.out.z 4;have c0:x3.cell? ⟨x2z,0,none⟩=some (.bool cb):=HC3.out 0;have c1:x3.cell? ⟨x2z,1,none⟩=some (.int .i64 ch):=HC3.out 1;have c2:x3.cell? ⟨x2z,2,none⟩=some (.int .i64 cm):=HC3.out 2;have c3:x3.cell? ⟨x2z,3,none⟩=some (.int .i64 cs):=HC3.out 3;have c4:x3.cell? ⟨x2z,4,none⟩=some (.int .i64 cc):=HC3.out 4;go_upto_region 2 with fail;have HT4:=aau (zd (zd (zd (zd (zd HT3.out 0 (.bool cb) sm) 1 (.int .i64 ch) sm) 2 (.int .i64 cm) sm) 3 (.int .i64 cs) sm) 4 (.int .i64 cc) sm) (xx cb ch cm cs cc false false 0 false 0 false 0 false 0 false 0 false 0 0 0) rfl
 clear HT3 m0 z0 c0 m1 z1 c1 m2 z2 c2 m3 z3 c3 m4 z4 c4;generalize (((((x3.setCell ⟨M,0,none⟩ (.bool cb)).setCell ⟨M,1,none⟩ (.int .i64 ch)).setCell ⟨M,2,none⟩ (.int .i64 cm)).setCell ⟨M,3,none⟩ (.int .i64 cs)).setCell ⟨M,4,none⟩ (.int .i64 cc))=y at *;have p4:=(HT4.out.cell (o:=0) sP.out.1 sP.out.2.1 sP.out.2.2).trans pW.out;have n4:=(HT4.out.cell (o:=0) sN.out.1 sN.out.2.1 sN.out.2.2).trans nW.out;go_wp2_with fail;refine(akq ht2 HT4.out.x p4).mono ?_;rintro r x5 ⟨rfl,hx,hf⟩;have HT5:=hid (HT4.out.frm hx hf);clear hx hf HT4 p4 n4;go_wp2_with fail
 go_end0
 exact⟨rfl,HT5.out⟩
theorem av1 {g M P:Nat} {W w:World} {s t:Rd} {cb:Bool} {ch:Int} {cm:Int} {cs:Int} {cc:Int} {st:Bool} (h:Hid (a99 s=(st,t))) (hT:TkI (qw g s) g M (xx cb ch cm cs cc false false 0 false 0 false 0 false 0 false 0 false 0 0 0) W w) (pW:Hid (W.cell? ⟨P,0,none⟩=some (.pointer (some ⟨g,0,none⟩)))) (sP:Hid (P<W.1.size∧P≠g∧P≠M)) :
 Calls prog 153 #[.pointer (some ⟨P,0,none⟩),.pointer (some ⟨M,0,none⟩)] w fun r w'=>r=.returned (.tuple #[])∧TkI (qw g t) g M (xx cb ch cm cs cc st false 0 false 0 false 0 false 0 false 0 false 0 0 0) W w':=by
 have HT:=hid hT;have p0:=(hT.cell (o:=0) sP.out.1 sP.out.2.1 sP.out.2.2).trans pW.out;clear hT;go_enter func153,ntmps153;go_wp2_with fail;refine(ar5 h HT.out.x).mono ?_;rintro r x ⟨rfl,hx,hf⟩;have HT2:=hid (HT.out.frm hx hf);clear hx hf HT;have m0:=HT2.out.c 5;have z0:=HT2.out.z 5;go_wp2_with fail
 go_end0
 exact⟨rfl,(aau (zd HT2.out 5 (.bool st) sm) (xx cb ch cm cs cc st false 0 false 0 false 0 false 0 false 0 false 0 0 0) rfl).out⟩
theorem av2 {g M P:Nat} {W w:World} {s t:Rd} {cb:Bool} {ch:Int} {cm:Int} {cs:Int} {cc:Int} {st:Bool} {lb:Bool} {ln:Int} (h:Hid (ade true s=((lb,ln),t))) (hT:TkI (qw g s) g M (xx cb ch cm cs cc st false 0 false 0 false 0 false 0 false 0 false 0 0 0) W w) (pW:Hid (W.cell? ⟨P,0,none⟩=some (.pointer (some ⟨g,0,none⟩)))) (sP:Hid (P<W.1.size∧P≠g∧P≠M)) :
 Calls prog 155 #[.pointer (some ⟨P,0,none⟩),.pointer (some ⟨M,0,none⟩)] w fun r w'=>r=.returned (.tuple #[])∧TkI (qw g t) g M (xx cb ch cm cs cc st lb ln false 0 false 0 false 0 false 0 false 0 0 0) W w':=by
 have HT:=hid hT;have p0:=(hT.cell (o:=0) sP.out.1 sP.out.2.1 sP.out.2.2).trans pW.out;clear hT;go_enter func155,ntmps155;go_wp2_with fail;refine(auw h HT.out.x).mono ?_;rintro r x ⟨rfl,hx,hf⟩;have HT2:=hid (HT.out.frm hx hf);clear hx hf HT;have m0:=HT2.out.c 6;have z0:=HT2.out.z 6;have m1:=HT2.out.c 7;have z1:=HT2.out.z 7;go_wp2_with fail
 go_end0
 exact⟨rfl,(aau (zd (zd HT2.out 6 (.bool lb) sm) 7 (.int .i64 ln) sm) (xx cb ch cm cs cc st lb ln false 0 false 0 false 0 false 0 false 0 0 0) rfl).out⟩
theorem av3 {g M P:Nat} {W w:World} {s t:Rd} {cb:Bool} {ch:Int} {cm:Int} {cs:Int} {cc:Int} {st:Bool} {lb:Bool} {ln:Int} {ob:Bool} {on:Int} (h:Hid (ade false s=((ob,on),t))) (hT:TkI (qw g s) g M (xx cb ch cm cs cc st lb ln false 0 false 0 false 0 false 0 false 0 0 0) W w) (pW:Hid (W.cell? ⟨P,0,none⟩=some (.pointer (some ⟨g,0,none⟩)))) (sP:Hid (P<W.1.size∧P≠g∧P≠M)) :
 Calls prog 156 #[.pointer (some ⟨P,0,none⟩),.pointer (some ⟨M,0,none⟩)] w fun r w'=>r=.returned (.tuple #[])∧TkI (qw g t) g M (xx cb ch cm cs cc st lb ln ob on false 0 false 0 false 0 false 0 0 0) W w':=by
 have HT:=hid hT;have p0:=(hT.cell (o:=0) sP.out.1 sP.out.2.1 sP.out.2.2).trans pW.out;clear hT;go_enter func156,ntmps156;go_wp2_with fail;refine(auw h HT.out.x).mono ?_;rintro r x ⟨rfl,hx,hf⟩;have HT2:=hid (HT.out.frm hx hf);clear hx hf HT;have m0:=HT2.out.c 8;have z0:=HT2.out.z 8;have m1:=HT2.out.c 9;have z1:=HT2.out.z 9;go_wp2_with fail
 go_end0
 exact⟨rfl,(aau (zd (zd HT2.out 8 (.bool ob) sm) 9 (.int .i64 on) sm) (xx cb ch cm cs cc st lb ln ob on false 0 false 0 false 0 false 0 0 0) rfl).out⟩
theorem av4 {g M P:Nat} {W w:World} {s t:Rd} {cb:Bool} {ch:Int} {cm:Int} {cs:Int} {cc:Int} {st:Bool} {lb:Bool} {ln:Int} {ob:Bool} {on:Int} {sb:Bool} {sn:Int} (h:Hid (qq 1 4 2 0 999999 s=((sb,sn),t))) (hT:TkI (qw g s) g M (xx cb ch cm cs cc st lb ln ob on false 0 false 0 false 0 false 0 0 0) W w) (pW:Hid (W.cell? ⟨P,0,none⟩=some (.pointer (some ⟨g,0,none⟩)))) (sP:Hid (P<W.1.size∧P≠g∧P≠M)) :
 Calls prog 157 #[.pointer (some ⟨P,0,none⟩),.pointer (some ⟨M,0,none⟩)] w fun r w'=>r=.returned (.tuple #[])∧TkI (qw g t) g M (xx cb ch cm cs cc st lb ln ob on sb sn false 0 false 0 false 0 0 0) W w':=by
 have HT:=hid hT;have p0:=(hT.cell (o:=0) sP.out.1 sP.out.2.1 sP.out.2.2).trans pW.out;clear hT;go_enter func157,ntmps157
 go_region_with (first|(go_at_call 158;refine(av8 _).mono ?_;rintro r y3 ⟨rfl,hb2⟩;have hbb:=Below.trans (ab7 (Below.refl w.1.size w)) hb2;have T2:=hid (HT.out.keep (Y:=qw g s) (HT.out.x.keep hbb) hbb);have zp:=(T2.out.cell (o:=0) sP.out.1 sP.out.2.1 sP.out.2.2).trans pW.out;clear hbb hb2)|(go_at_call 136;refine(km h T2.out.x).mono ?_;rintro r y4 ⟨rfl,hx,hf⟩;have T3:=hid (T2.out.frm hx hf);have m0:=T3.out.c 10;have m1:=T3.out.c 11;have z0:=T3.out.z 10;have z1:=T3.out.z 11;clear hx hf))
 all_goals go_wp2_with fail
 all_goals go_end0
 all_goals exact⟨rfl,(aau (zd (zd T3.out 10 (.bool sb) sm) 11 (.int .i64 sn) sm) (xx cb ch cm cs cc st lb ln ob on sb sn false 0 false 0 false 0 0 0) rfl).out⟩
theorem av5 {g M P:Nat} {W w:World} {s t:Rd} {cb:Bool} {ch:Int} {cm:Int} {cs:Int} {cc:Int} {st:Bool} {lb:Bool} {ln:Int} {ob:Bool} {on:Int} {sb:Bool} {sn:Int} {kb:Bool} {kn:Int} (h:Hid (qq 1 3 2 0 36000 s=((kb,kn),t))) (hT:TkI (qw g s) g M (xx cb ch cm cs cc st lb ln ob on sb sn false 0 false 0 false 0 0 0) W w) (pW:Hid (W.cell? ⟨P,0,none⟩=some (.pointer (some ⟨g,0,none⟩)))) (sP:Hid (P<W.1.size∧P≠g∧P≠M)) :
 Calls prog 159 #[.pointer (some ⟨P,0,none⟩),.pointer (some ⟨M,0,none⟩)] w fun r w'=>r=.returned (.tuple #[])∧TkI (qw g t) g M (xx cb ch cm cs cc st lb ln ob on sb sn kb kn false 0 false 0 0 0) W w':=by
 have HT:=hid hT;have p0:=(hT.cell (o:=0) sP.out.1 sP.out.2.1 sP.out.2.2).trans pW.out;clear hT;go_enter func159,ntmps159
 go_region_with (first|(go_at_call 160;refine(ar3 _).mono ?_;rintro r y3 ⟨rfl,hb2⟩;have hbb:=Below.trans (ab7 (Below.refl w.1.size w)) hb2;have T2:=hid (HT.out.keep (Y:=qw g s) (HT.out.x.keep hbb) hbb);have zp:=(T2.out.cell (o:=0) sP.out.1 sP.out.2.1 sP.out.2.2).trans pW.out;clear hbb hb2)|(go_at_call 136;refine(km h T2.out.x).mono ?_;rintro r y4 ⟨rfl,hx,hf⟩;have T3:=hid (T2.out.frm hx hf);have m0:=T3.out.c 12;have m1:=T3.out.c 13;have z0:=T3.out.z 12;have z1:=T3.out.z 13;clear hx hf))
 all_goals go_wp2_with fail
 all_goals go_end0
 all_goals exact⟨rfl,(aau (zd (zd T3.out 12 (.bool kb) sm) 13 (.int .i64 kn) sm) (xx cb ch cm cs cc st lb ln ob on sb sn kb kn false 0 false 0 0 0) rfl).out⟩
theorem av6 {g M P N:Nat} {W w:World} {s t:Rd} {cb:Bool} {ch:Int} {cm:Int} {cs:Int} {cc:Int} {st:Bool} {lb:Bool} {ln:Int} {ob:Bool} {on:Int} {sb:Bool} {sn:Int} {kb:Bool} {kn:Int} {db:Bool} {dd:Int} {dm:Int} {dy:Int} (h:Hid (a0f s=((db,dd,dm,dy),t))) (hT:TkI (qw g s) g M (xx cb ch cm cs cc st lb ln ob on sb sn kb kn false 0 false 0 0 0) W w) (pW:Hid (W.cell? ⟨P,0,none⟩=some (.pointer (some ⟨g,0,none⟩)))) (sP:Hid (P<W.1.size∧P≠g∧P≠M)) (nW:Hid (W.cell? ⟨N,0,none⟩=some (.func (.func 148) #[] #[.pointer (some ⟨P,0,none⟩)]))) (sN:Hid (N<W.1.size∧N≠g∧N≠M)) :
 Calls prog 161 #[.pointer (some ⟨P,0,none⟩),.pointer (some ⟨M,0,none⟩),.pointer (some ⟨N,0,none⟩)] w fun r w'=>r=.returned (.tuple #[])∧TkI (qw g t) g M (xx cb ch cm cs cc st lb ln ob on sb sn kb kn false 0 db dd dm dy) W w':=by
 have HT:=hid hT;have p0:=(hT.cell (o:=0) sP.out.1 sP.out.2.1 sP.out.2.2).trans pW.out;clear hT;obtain⟨a,s1,ha⟩:∃a s1,Hid (qt s=(a,s1)):=⟨_,_,rfl⟩;have hsm:=ad2 ha HT.out.x
 obtain⟨E,ht1,ht2⟩:∃E,Hid (acf a.data.toList=((db,dd,dm,dy),E))∧Hid (xq E s1=t):=by
  have q:=h.out;unfold a0f at q;rw[ha.out]at q;injection q with q1 q2
  exact⟨_,Prod.ext q1 rfl,q2⟩
 go_enter func161,ntmps161;go_wp2_with fail;refine(zc ha HT.out.x).mono ?_;rintro r x1 ⟨rfl,hx,hf⟩;have HT1:=hid (HT.out.frm hx hf);clear hx hf HT p0;go_wp2_with fail;refine(ayl a _ hsm).mono ?_;rw[ht1.out];rintro r x2 ⟨rfl,hb2⟩;dsimp only;have hbc:=qa x2 (alh db dd dm dy);have hb3:=qb hb2 hbc;have HT3:=hid (HT1.out.keep (Y:=qw g s1) (HT1.out.x.keep hb3) hb3);have HC3:Hid (∀o,(x2.alloc (alh db dd dm dy)).cell? ⟨x2.1.size,o,none⟩=(#[Value.bool db,.int .i64 dd,.int .i64 dm,.int .i64 dy]:Array Value)[o]?):=fun o=>World.cell?_alloc_at _ _ _ _ rfl
 have HZM:Hid (M<x2.1.size):=Nat.lt_of_lt_of_le HT1.out.mz hb2.size;clear hbc hb2 hb3 HT1;go_upto_region 1 with fail;generalize hx3:x2.alloc (alh db dd dm dy)=x3 at *;generalize x2.1.size=x2z at *;clear hx3;have m0:=HT3.out.c 16;have z0:=HT3.out.z 16;have m1:=HT3.out.c 17;have z1:=HT3.out.z 17;have m2:=HT3.out.c 18;have z2:=HT3.out.z 18;have m3:=HT3.out.c 19;have z3:=HT3.out.z 19;have c0:x3.cell? ⟨x2z,0,none⟩=some (.bool db):=HC3.out 0;have c1:x3.cell? ⟨x2z,1,none⟩=some (.int .i64 dd):=HC3.out 1;have c2:x3.cell? ⟨x2z,2,none⟩=some (.int .i64 dm):=HC3.out 2;have c3:x3.cell? ⟨x2z,3,none⟩=some (.int .i64 dy):=HC3.out 3;go_upto_region 2 with fail;have HT4:=aau (zd (zd (zd (zd HT3.out 16 (.bool db) sm) 17 (.int .i64 dd) sm) 18 (.int .i64 dm) sm) 19 (.int .i64 dy) sm) (xx cb ch cm cs cc st lb ln ob on sb sn kb kn false 0 db dd dm dy) rfl;clear HT3 m0 z0 c0 m1 z1 c1 m2 z2 c2 m3 z3 c3
 generalize ((((x3.setCell ⟨M,16,none⟩ (.bool db)).setCell ⟨M,17,none⟩ (.int .i64 dd)).setCell ⟨M,18,none⟩ (.int .i64 dm)).setCell ⟨M,19,none⟩ (.int .i64 dy))=y at *;have p4:=(HT4.out.cell (o:=0) sP.out.1 sP.out.2.1 sP.out.2.2).trans pW.out;have n4:=(HT4.out.cell (o:=0) sN.out.1 sN.out.2.1 sN.out.2.2).trans nW.out;go_wp2_with fail;refine(akq ht2 HT4.out.x p4).mono ?_;rintro r x5 ⟨rfl,hx,hf⟩;have HT5:=hid (HT4.out.frm hx hf);clear hx hf HT4 p4 n4;go_wp2_with fail
 go_end0
 exact⟨rfl,HT5.out⟩
theorem av7 {g M P:Nat} {W w:World} {s t:Rd} {cb:Bool} {ch:Int} {cm:Int} {cs:Int} {cc:Int} {st:Bool} {lb:Bool} {ln:Int} {ob:Bool} {on:Int} {sb:Bool} {sn:Int} {kb:Bool} {kn:Int} {vb:Bool} {vn:Int} {db:Bool} {dd:Int} {dm:Int} {dy:Int} (h:Hid (atm s=((vb,vn),t))) (hT:TkI (qw g s) g M (xx cb ch cm cs cc st lb ln ob on sb sn kb kn false 0 db dd dm dy) W w) (pW:Hid (W.cell? ⟨P,0,none⟩=some (.pointer (some ⟨g,0,none⟩)))) (sP:Hid (P<W.1.size∧P≠g∧P≠M)) :
 Calls prog 163 #[.pointer (some ⟨P,0,none⟩),.pointer (some ⟨M,0,none⟩)] w fun r w'=>r=.returned (.tuple #[])∧TkI (qw g t) g M (xx cb ch cm cs cc st lb ln ob on sb sn kb kn vb vn db dd dm dy) W w':=by
 have HT:=hid hT;have p0:=(hT.cell (o:=0) sP.out.1 sP.out.2.1 sP.out.2.2).trans pW.out;clear hT;go_enter func163,ntmps163;go_wp2_with fail;refine(ar4 h HT.out.x).mono ?_;rintro r x ⟨rfl,hx,hf⟩;have HT2:=hid (HT.out.frm hx hf);clear hx hf HT;have m0:=HT2.out.c 14;have z0:=HT2.out.z 14;have m1:=HT2.out.c 15;have z1:=HT2.out.z 15;go_wp2_with fail
 go_end0
 exact⟨rfl,(aau (zd (zd HT2.out 14 (.bool vb) sm) 15 (.int .i64 vn) sm) (xx cb ch cm cs cc st lb ln ob on sb sn kb kn vb vn db dd dm dy) rfl).out⟩
