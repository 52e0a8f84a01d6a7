/- Parts. -/
import Derived.Test.YtdkhlkfleggbaaaGreatV17
import Derived.Test.YtdkhlkfleggbaaaGreatV14
namespace Go.Proofs.YtdkhlkfleggbaaaGreat
set_option maxHeartbeats 16000000
set_option maxRecDepth 8000
open Tryz
set_option linter.unusedVariables false
open Go.RowKit
abbrev jb (cb:Bool) (ch:Int) (cm:Int) (cs:Int) (cc:Int) (st:Bool) (lb:Bool) (ln:Int) (ob:Bool) (on:Int) (sb:Bool) (sn:Int) (kb:Bool) (kn:Int) (vb:Bool) (vn:Int) (db:Bool) (dd:Int) (dm:Int) (dy:Int):Array Value:=#[.bool cb,.int .i64 ch,.int .i64 cm,.int .i64 cs,.int .i64 cc,.bool st,.bool lb,.int .i64 ln,.bool ob,.int .i64 on,.bool sb,.int .i64 sn,.bool kb,.int .i64 kn,.bool vb,.int .i64 vn,.bool db,.int .i64 dd,.int .i64 dm,.int .i64 dy]
abbrev bki (cb:Bool) (ch:Int) (cm:Int) (cs:Int) (cc:Int) (st:Bool) (lb:Bool) (ln:Int) (ob:Bool) (on:Int) (sb:Bool) (sn:Int) (kb:Bool) (kn:Int) (vb:Bool) (vn:Int) (db:Bool) (dd:Int) (dm:Int) (dy:Int):Value:=.agg (jb cb ch cm cs cc st lb ln ob on sb sn kb kn vb vn db dd dm dy)
theorem axa (w:World):Calls prog 158 #[] w λe w'=>e=.returned (j9 1 4 2 0 999999)/\Below w.1.size w w':=by
 go_enter func158,ntmps158;go_wp2;refine b9 (v:=j9 1 4 2 0 999999) (by simp[results,results158,go_sem]) rfl ⟨rfl,qa _ _⟩
theorem ass (w:World):Calls prog 160 #[] w λe w'=>e=.returned (j9 1 3 2 0 36000)/\Below w.1.size w w':=by
 go_enter func160,ntmps160;go_wp2;refine b9 (v:=j9 1 3 2 0 36000) (by simp[results,results160,go_sem]) rfl ⟨rfl,qa _ _⟩
theorem jt (w:World):Calls prog 213 #[] w λe w'=>e=.returned (j9 1 3 1 0 1800)/\Below w.1.size w w':=by
 go_enter func213,ntmps213;go_wp2;refine b9 (v:=j9 1 3 1 0 1800) (by simp[results,results213,go_sem]) rfl ⟨rfl,qa _ _⟩
theorem afx (t:ByteArray) (c:UInt8):(t.toList==[c])=decide (t=⟨#[c]⟩):=by
 have l:(⟨#[c]⟩:ByteArray).toList=[c]:=by rw[b07]
 rw[<- afj,l]
theorem bho {l:List UInt8} {W M F L H:Int} (h:(j4 l W M F L H).1=true):aa5 true (j4 l W M F L H).2.1 L H=true:=by
 unfold j4 at h ⊢
 by_cases h1:abq W M F L H=false
 ·rw[if_pos h1]at h;cases h
 ·rw[if_neg h1]at h ⊢
  by_cases h2:l=[]
  ·rw[if_pos h2]at h;cases h
  ·rw[if_neg h2]at h ⊢;cases hp:yv (afk l) 1 M.toNat F.toNat with
   | none=>rw[hp]at h;cases h
   | some n=>
    rw[hp]at h;simp only at h ⊢;generalize (if ai5 l=true then -(n:Int)else(n:Int))=x at *
    by_cases hq:aa5 true x L H=true
    ·rw[if_pos hq];exact hq
    ·rw[if_neg hq]at h;exact absurd h sm
theorem bg1 {W M F L H:Int} {s t:Rd} {b:Bool} {n:Int} (h:qu W M F L H s=((b,n),t)) (h0:L<=0/\0<=H):L<=n/\n<=H:=by
 cases b with
 | false=>rw[a1v h];exact h0
 | true=>
  have h1:(qu W M F L H s).1=(true,n):=by rw[h]
  have h2:(j4 (s.2.headD ByteArray.empty).data.toList W M F L H).1=true:=congrArg Prod.fst h1;have h3:(j4 (s.2.headD ByteArray.empty).data.toList W M F L H).2.1=n:=congrArg Prod.snd h1;have:=bho h2;rw[h3]at this;exact aqd this
theorem asu {g:Nat} {s t:Rd} {b:Bool} {w:World} (ht:Q_ (bb8 s=(b,t))) (hp:qz g s w):Calls prog 154 #[.pointer (some ⟨g,0,none⟩)] w (jv g (.bool b) t w):=by
 obtain⟨a,s1,ha⟩:∃a s1,Q_ (qw s=(a,s1)):=⟨_,_,rfl⟩;have ht:=ht.o;unfold bb8 at ht;rw[ha.o]at ht;injection ht with e1 e2
 simp only at e1 e2;have HP:=q_ hp;clear hp
 by_cases hA:a=⟨#[65]⟩
 ·rw[t8 hA]at e1;rw[if_neg (λh=>h.1 hA)]at e2;subst e1 e2;have b2:(a.toList==[65])=true:=by rw[afx];exact t8 hA
  clear hA;go_enter func154,ntmps154;go_wp2_with fail;refine(zd ha HP.o).mono ?_;rintro r w1 ⟨rfl,hx,hf⟩;have HX:=q_ hx;have HF:=q_ hf;clear hx hf HP;go_wp2_with fail;go_ret;exact⟨rfl,HX.o,HF.o⟩
 ·rw[o7 hA]at e1;have b2:(a.toList==[65])=false:=by rw[afx];exact o7 hA
  by_cases hV:a=⟨#[86]⟩
  ·rw[if_neg (λh=>h.2 hV)]at e2;subst e1 e2;have b3:(a.toList==[86])=true:=by rw[afx];exact t8 hV
   clear hA hV;go_enter func154,ntmps154;go_wp2_with fail;refine(zd ha HP.o).mono ?_;rintro r w1 ⟨rfl,hx,hf⟩;have HX:=q_ hx;have HF:=q_ hf;clear hx hf HP;go_wp2_with fail;go_ret;exact⟨rfl,HX.o,HF.o⟩
  ·rw[if_pos ⟨hA,hV⟩]at e2;subst e1 e2;have b3:(a.toList==[86])=false:=by rw[afx];exact o7 hV
   clear hA hV;go_enter func154,ntmps154;go_wp2_with fail;refine(zd ha HP.o).mono ?_;rintro r w1 ⟨rfl,hx,hf⟩;have HX:=q_ hx;have HF:=q_ hf;clear hx hf HP;go_wp2_with fail;refine(xp rfl HX.o).mono ?_;rintro r w2 ⟨rfl,hx2,hf2⟩;have HX2:=q_ hx2;have HF2:=q_ (HF.o.step hf2);clear hx2 hf2;go_wp2_with fail;go_ret;exact⟨rfl,HX2.o,HF2.o⟩
theorem a12 {g:Nat} {s t:Rd} {w:World} (ht:Q_ (aak s=t)) (hp:qz g s w):Calls prog 166 #[.pointer (some ⟨g,0,none⟩)] w (jv g (.tuple #[]) t w):=by
 have ht:=ht.o;unfold aak at ht
 by_cases h0:s.2=[]
 ·rw[if_pos h0]at ht;subst ht;have HL:=q_ (akx hp);rw[h0]at HL;have HP:=q_ hp;clear hp h0;go_enter func166,ntmps166;go_wp2_with fail;refine HL.o.mono ?_;rintro r w1 ⟨rfl,rfl⟩;go_wp2_with fail
  go_end0
  exact⟨rfl,HP.o,Frm.of_below (n9 _ _)⟩
 ·rw[if_neg h0]at ht;obtain⟨a,s1,ha⟩:∃a s1,Q_ (qw s=(a,s1)):=⟨_,_,rfl⟩;rw[ha.o]at ht;simp only at ht;have HL:=q_ (akx hp);have hlen:0<s.2.length:=b2q.2 h0;obtain⟨n,hn⟩:∃n,s.2.length=n:=⟨_,rfl⟩;rw[hn]at HL hlen;have b0:((n:Int)==0)=false:=by rw[l7];omega
  have HP:=q_ hp;clear hp h0 hn hlen;rcases at8 a with⟨h,h',rfl⟩|⟨h',hne,⟨h2,hc⟩|⟨hz,h1,⟨h2,hc⟩|⟨h2,hc⟩|⟨h2,h3,hc⟩⟩⟩
  ·rw[if_neg (λq=>q.1 rfl)]at ht;subst ht;clear h h';go_enter func166,ntmps166;go_wp2_with fail;refine HL.o.mono ?_;rintro r w1 ⟨rfl,rfl⟩;go_wp2_with fail;refine(zd ha HP.o).mono ?_;rintro r w1 ⟨rfl,hx,hf⟩;have HX:=q_ hx;have HF:=q_ hf;clear hx hf HP;go_wp2_with fail
   go_end0
   exact⟨rfl,HX.o,HF.o⟩
  ·rw[if_pos ⟨hne,hc⟩]at ht;subst ht;have i1:(1:Int)<(a.size:Int):=by omega
   clear h' hne hc h2;go_enter func166,ntmps166;go_wp2_with fail;refine HL.o.mono ?_;rintro r w1 ⟨rfl,rfl⟩;go_wp2_with fail;refine(zd ha HP.o).mono ?_;rintro r w1 ⟨rfl,hx,hf⟩;have HX:=q_ hx;have HF:=q_ hf;clear hx hf HP;go_wp2_with fail;refine(xp rfl HX.o).mono ?_;rintro r w2 ⟨rfl,hx2,hf2⟩;have HX2:=q_ hx2;have HF2:=q_ (HF.o.step hf2);clear hx2 hf2;go_wp2_with fail
   go_end0
   exact⟨rfl,HX2.o,HF2.o⟩
  ·rw[if_pos ⟨hne,hc⟩]at ht;subst ht;have i1:(a.size:Int)<=1:=by omega
   have i2:((a[0].toNat:Nat):Int)<65:=by omega
   clear hne hc h2 h1;go_enter func166,ntmps166;go_wp2_with fail;refine HL.o.mono ?_;rintro r w1 ⟨rfl,rfl⟩;go_wp2_with fail;refine(zd ha HP.o).mono ?_;rintro r w1 ⟨rfl,hx,hf⟩;have HX:=q_ hx;have HF:=q_ hf;clear hx hf HP;go_wp2_with fail;refine(xp rfl HX.o).mono ?_;rintro r w2 ⟨rfl,hx2,hf2⟩;have HX2:=q_ hx2;have HF2:=q_ (HF.o.step hf2);clear hx2 hf2;go_wp2_with fail
   go_end0
   exact⟨rfl,HX2.o,HF2.o⟩
  ·rw[if_pos ⟨hne,hc⟩]at ht;subst ht;have i1:(a.size:Int)<=1:=by omega
   have i2:(65:Int) <=((a[0].toNat:Nat):Int):=by omega
   have i3:(90:Int)<((a[0].toNat:Nat):Int):=by omega
   clear hne hc h2 h1;go_enter func166,ntmps166;go_wp2_with fail;refine HL.o.mono ?_;rintro r w1 ⟨rfl,rfl⟩;go_wp2_with fail;refine(zd ha HP.o).mono ?_;rintro r w1 ⟨rfl,hx,hf⟩;have HX:=q_ hx;have HF:=q_ hf;clear hx hf HP;go_wp2_with fail;refine(xp rfl HX.o).mono ?_;rintro r w2 ⟨rfl,hx2,hf2⟩;have HX2:=q_ hx2;have HF2:=q_ (HF.o.step hf2);clear hx2 hf2;go_wp2_with fail
   go_end0
   exact⟨rfl,HX2.o,HF2.o⟩
  ·rw[if_neg (λq=>by rw[hc]at q;exact absurd q.2 sm)]at ht;subst ht;have i1:(a.size:Int)<=1:=by omega
   have i2:(65:Int) <=((a[0].toNat:Nat):Int):=by omega
   have i3:((a[0].toNat:Nat):Int)<=90:=by omega
   clear hne hc h2 h3 h1;go_enter func166,ntmps166;go_wp2_with fail;refine HL.o.mono ?_;rintro r w1 ⟨rfl,rfl⟩;go_wp2_with fail;refine(zd ha HP.o).mono ?_;rintro r w1 ⟨rfl,hx,hf⟩;have HX:=q_ hx;have HF:=q_ hf;clear hx hf HP;go_wp2_with fail
   go_end0
   exact⟨rfl,HX.o,HF.o⟩
theorem aob {g:Nat} {s s1 s2 t:Rd} {n:Int} {d:ByteArray} {w:World} (h1:Q_ (qu 1 3 1 0 1800 s=((true,n),s1))) (hd:Q_ (qw s1=(d,s2))) (ht:Q_ (s2=t)) (b1:(d.toList==[69])=true) (b2:(d.toList==[87])=false) (b3:d.toList.isEmpty=false) (hw:Q_ (IntKind.i64.wrap (-n)=-n)) (hp:qz g s w) :
 Calls prog 164 #[.pointer (some ⟨g,0,none⟩)] w (jv g (jo true n) t w):=by
 have hb0:=qa w (zb false 0);have HX0:=q_ (hp.keep hb0);have HF0:Q_ (Frm g vm w (w.alloc (zb false 0))):=Frm.of_below hb0;have HZ0:Q_ (w.1.size<(w.alloc (zb false 0)).1.size/\g<w.1.size):=⟨by simp,hp.lt⟩;have HR0:Q_ (∀o,(w.alloc (zb false 0)).cell? ⟨w.1.size,o,none⟩=(#[Value.bool false,.int .i64 0]:Array Value)[o]?):=λo=>b8 _ _ _ _ rfl
 have HRF:Q_ (∀o,(w.alloc (zb false 0)).frozen? ⟨w.1.size,o,none⟩=false):=λo=>by rw[l6];exact qk _ _ _ (a8 _)
 clear hb0 hp;go_enter func164,ntmps164;go_wp2_with fail;generalize hW0:w.alloc (zb false 0)=W0 at *;clear hW0;refine(jt _).mono ?_;rintro r w1 ⟨rfl,hb1⟩;have HX1:=q_ (HX0.o.keep hb1);have HF1:Q_ (Frm g vm W0 w1):=Frm.of_below hb1;clear hb1;go_wp2_with fail;refine(kp h1 HX1.o).mono ?_;rintro r w2 ⟨rfl,hx2,hf2⟩;have hbn:=qa w2 (zb true n);have HX2:=q_ (hx2.keep hbn);have HF2:Q_ (Frm g vm W0 (w2.alloc (zb true n))):=(HF1.o.step hf2).step (Frm.of_below hbn);have HZ2:Q_ (W0.1.size<=w2.1.size/\w2.1.size<(w2.alloc (zb true n)).1.size):=⟨(HF1.o.step hf2).size,by simp⟩;have HN2:Q_ (∀o,(w2.alloc (zb true n)).cell? ⟨w2.1.size,o,none⟩=(#[Value.bool true,.int .i64 n]:Array Value)[o]?):=λo=>b8 _ _ _ _ rfl
 have HNF:Q_ (∀o,(w2.alloc (zb true n)).frozen? ⟨w2.1.size,o,none⟩=false):=λo=>by rw[l6];exact qk _ _ _ (a8 _)
 clear hbn hx2 hf2 HX1 HF1 HX0;go_upto_region 2 with fail;generalize hV:w2.alloc (zb true n)=V at *;generalize w2.1.size=N at *;clear hV;go_wp2_with fail;refine(zd hd HX2.o).mono ?_;rintro r w3 ⟨rfl,hx3,hf3⟩;have HX3:=q_ hx3;have HF3:=q_ (HF2.o.step hf3);have n3:∀o,w3.cell? ⟨N,o,none⟩=(#[Value.bool true,.int .i64 n]:Array Value)[o]?:=λo=>(qj hf3 HZ2.o.2 (by have:=HZ0.o;have:=HZ2.o;omega) o).trans (HN2.o o)
 have f3:∀o,w3.frozen? ⟨N,o,none⟩=false:=λo=>(qx hf3 HZ2.o.2 (by have:=HZ0.o;have:=HZ2.o;omega) o).trans (HNF.o o)
 have HN3:=q_ n3;have HNF3:=q_ f3;have n0:=n3 0;have n1:=n3 1;have z1:=f3 1;have HZ3:Q_ (N<w3.1.size):=i9 HZ2.o.2 hf3.size;clear hx3 hf3 n3 f3 HX2 HF2;have ht:=ht.o;subst ht;have r0:=(qj HF3.o HZ0.o.1 (by have:=HZ0.o;omega) 0).trans (HR0.o 0);have r1:=(qj HF3.o HZ0.o.1 (by have:=HZ0.o;omega) 1).trans (HR0.o 1);have q0:=(qx HF3.o HZ0.o.1 (by have:=HZ0.o;omega) 0).trans (HRF.o 0);have q1:=(qx HF3.o HZ0.o.1 (by have:=HZ0.o;omega) 1).trans (HRF.o 1);have HP:=q_ (zi w3 w.1.size (.bool true) (.int .i64 n) _ _ r0 r1);go_wp2_with fail;obtain⟨p0,p1⟩:=HP.o;have hG:g<w.1.size:=HZ0.o.2;refine b9 (v:=jo true n) (by simp[results,results164,go_sem,p0,p1]) rfl ⟨rfl,(HX3.o.far hG).far hG,?_⟩;exact((HF0.o.step HF3.o).put (a8 _)).put (a8 _)
theorem aod {g:Nat} {s s1 s2 t:Rd} {n:Int} {d:ByteArray} {w:World} (h1:Q_ (qu 1 3 1 0 1800 s=((true,n),s1))) (hd:Q_ (qw s1=(d,s2))) (ht:Q_ (s2=t)) (b1:(d.toList==[69])=false) (b2:(d.toList==[87])=true) (b3:d.toList.isEmpty=false) (hw:Q_ (IntKind.i64.wrap (-n)=-n)) (hp:qz g s w) :
 Calls prog 164 #[.pointer (some ⟨g,0,none⟩)] w (jv g (jo true (-n)) t w):=by
 have hb0:=qa w (zb false 0);have HX0:=q_ (hp.keep hb0);have HF0:Q_ (Frm g vm w (w.alloc (zb false 0))):=Frm.of_below hb0;have HZ0:Q_ (w.1.size<(w.alloc (zb false 0)).1.size/\g<w.1.size):=⟨by simp,hp.lt⟩;have HR0:Q_ (∀o,(w.alloc (zb false 0)).cell? ⟨w.1.size,o,none⟩=(#[Value.bool false,.int .i64 0]:Array Value)[o]?):=λo=>b8 _ _ _ _ rfl
 have HRF:Q_ (∀o,(w.alloc (zb false 0)).frozen? ⟨w.1.size,o,none⟩=false):=λo=>by rw[l6];exact qk _ _ _ (a8 _)
 clear hb0 hp;go_enter func164,ntmps164;go_wp2_with fail;generalize hW0:w.alloc (zb false 0)=W0 at *;clear hW0;refine(jt _).mono ?_;rintro r w1 ⟨rfl,hb1⟩;have HX1:=q_ (HX0.o.keep hb1);have HF1:Q_ (Frm g vm W0 w1):=Frm.of_below hb1;clear hb1;go_wp2_with fail;refine(kp h1 HX1.o).mono ?_;rintro r w2 ⟨rfl,hx2,hf2⟩;have hbn:=qa w2 (zb true n);have HX2:=q_ (hx2.keep hbn);have HF2:Q_ (Frm g vm W0 (w2.alloc (zb true n))):=(HF1.o.step hf2).step (Frm.of_below hbn);have HZ2:Q_ (W0.1.size<=w2.1.size/\w2.1.size<(w2.alloc (zb true n)).1.size):=⟨(HF1.o.step hf2).size,by simp⟩;have HN2:Q_ (∀o,(w2.alloc (zb true n)).cell? ⟨w2.1.size,o,none⟩=(#[Value.bool true,.int .i64 n]:Array Value)[o]?):=λo=>b8 _ _ _ _ rfl
 have HNF:Q_ (∀o,(w2.alloc (zb true n)).frozen? ⟨w2.1.size,o,none⟩=false):=λo=>by rw[l6];exact qk _ _ _ (a8 _)
 clear hbn hx2 hf2 HX1 HF1 HX0;go_upto_region 2 with fail;generalize hV:w2.alloc (zb true n)=V at *;generalize w2.1.size=N at *;clear hV;go_wp2_with fail;refine(zd hd HX2.o).mono ?_;rintro r w3 ⟨rfl,hx3,hf3⟩;have HX3:=q_ hx3;have HF3:=q_ (HF2.o.step hf3);have n3:∀o,w3.cell? ⟨N,o,none⟩=(#[Value.bool true,.int .i64 n]:Array Value)[o]?:=λo=>(qj hf3 HZ2.o.2 (by have:=HZ0.o;have:=HZ2.o;omega) o).trans (HN2.o o)
 have f3:∀o,w3.frozen? ⟨N,o,none⟩=false:=λo=>(qx hf3 HZ2.o.2 (by have:=HZ0.o;have:=HZ2.o;omega) o).trans (HNF.o o)
 have HN3:=q_ n3;have HNF3:=q_ f3;have n0:=n3 0;have n1:=n3 1;have z1:=f3 1;have HZ3:Q_ (N<w3.1.size):=i9 HZ2.o.2 hf3.size;clear hx3 hf3 n3 f3 HX2 HF2;have ht:=ht.o;subst ht;have r0:=(qj HF3.o HZ0.o.1 (by have:=HZ0.o;omega) 0).trans (HR0.o 0);have r1:=(qj HF3.o HZ0.o.1 (by have:=HZ0.o;omega) 1).trans (HR0.o 1);have q0:=(qx HF3.o HZ0.o.1 (by have:=HZ0.o;omega) 0).trans (HRF.o 0);have q1:=(qx HF3.o HZ0.o.1 (by have:=HZ0.o;omega) 1).trans (HRF.o 1);have hne:N≠w.1.size:=by have:=HZ0.o;have:=HZ2.o;omega
 have hne':w.1.size≠N:=λq=>hne q.symm
 have y0:(w3.setCell ⟨N,1,none⟩ (.int .i64 (-n))).cell? ⟨w.1.size,0,none⟩=some (.bool false):=(a9 _ _ _ _ (λq=>by injection q with q;exact hne q)).trans r0;have y1:(w3.setCell ⟨N,1,none⟩ (.int .i64 (-n))).cell? ⟨w.1.size,1,none⟩=some (.int .i64 0):=(a9 _ _ _ _ (λq=>by injection q with q;exact hne q)).trans r1;have HP:=q_ (zi (w3.setCell ⟨N,1,none⟩ (.int .i64 (-n))) w.1.size (.bool true) (.int .i64 (-n)) _ _ y0 y1);have hw:=hw.o;go_wp2_with fail;obtain⟨p0,p1⟩:=HP.o;have hG:g<w.1.size:=HZ0.o.2;have hN:g<N:=by have:=HZ0.o;have:=HZ2.o;omega
 have hwN:w.1.size<=N:=by have:=HZ0.o;have:=HZ2.o;omega
 refine b9 (v:=jo true (-n)) (by simp[results,results164,go_sem,p0,p1]) rfl ⟨rfl,((HX3.o.far hN).far hG).far hG,?_⟩;exact(((HF0.o.step HF3.o).put hwN).put (a8 _)).put (a8 _)
theorem aoe {g:Nat} {s s1 s2 t:Rd} {n:Int} {d:ByteArray} {w:World} (h1:Q_ (qu 1 3 1 0 1800 s=((true,n),s1))) (hd:Q_ (qw s1=(d,s2))) (ht:Q_ (xu 3 s2=t)) (b1:(d.toList==[69])=false) (b2:(d.toList==[87])=false) (b3:d.toList.isEmpty=true) (hw:Q_ (IntKind.i64.wrap (-n)=-n)) (hp:qz g s w) :
 Calls prog 164 #[.pointer (some ⟨g,0,none⟩)] w (jv g (jo true n) t w):=by
 have hb0:=qa w (zb false 0);have HX0:=q_ (hp.keep hb0);have HF0:Q_ (Frm g vm w (w.alloc (zb false 0))):=Frm.of_below hb0;have HZ0:Q_ (w.1.size<(w.alloc (zb false 0)).1.size/\g<w.1.size):=⟨by simp,hp.lt⟩;have HR0:Q_ (∀o,(w.alloc (zb false 0)).cell? ⟨w.1.size,o,none⟩=(#[Value.bool false,.int .i64 0]:Array Value)[o]?):=λo=>b8 _ _ _ _ rfl
 have HRF:Q_ (∀o,(w.alloc (zb false 0)).frozen? ⟨w.1.size,o,none⟩=false):=λo=>by rw[l6];exact qk _ _ _ (a8 _)
 clear hb0 hp;go_enter func164,ntmps164;go_wp2_with fail;generalize hW0:w.alloc (zb false 0)=W0 at *;clear hW0;refine(jt _).mono ?_;rintro r w1 ⟨rfl,hb1⟩;have HX1:=q_ (HX0.o.keep hb1);have HF1:Q_ (Frm g vm W0 w1):=Frm.of_below hb1;clear hb1;go_wp2_with fail;refine(kp h1 HX1.o).mono ?_;rintro r w2 ⟨rfl,hx2,hf2⟩;have hbn:=qa w2 (zb true n);have HX2:=q_ (hx2.keep hbn);have HF2:Q_ (Frm g vm W0 (w2.alloc (zb true n))):=(HF1.o.step hf2).step (Frm.of_below hbn);have HZ2:Q_ (W0.1.size<=w2.1.size/\w2.1.size<(w2.alloc (zb true n)).1.size):=⟨(HF1.o.step hf2).size,by simp⟩;have HN2:Q_ (∀o,(w2.alloc (zb true n)).cell? ⟨w2.1.size,o,none⟩=(#[Value.bool true,.int .i64 n]:Array Value)[o]?):=λo=>b8 _ _ _ _ rfl
 have HNF:Q_ (∀o,(w2.alloc (zb true n)).frozen? ⟨w2.1.size,o,none⟩=false):=λo=>by rw[l6];exact qk _ _ _ (a8 _)
 clear hbn hx2 hf2 HX1 HF1 HX0;go_upto_region 2 with fail;generalize hV:w2.alloc (zb true n)=V at *;generalize w2.1.size=N at *;clear hV;go_wp2_with fail;refine(zd hd HX2.o).mono ?_;rintro r w3 ⟨rfl,hx3,hf3⟩;have HX3:=q_ hx3;have HF3:=q_ (HF2.o.step hf3);have n3:∀o,w3.cell? ⟨N,o,none⟩=(#[Value.bool true,.int .i64 n]:Array Value)[o]?:=λo=>(qj hf3 HZ2.o.2 (by have:=HZ0.o;have:=HZ2.o;omega) o).trans (HN2.o o)
 have f3:∀o,w3.frozen? ⟨N,o,none⟩=false:=λo=>(qx hf3 HZ2.o.2 (by have:=HZ0.o;have:=HZ2.o;omega) o).trans (HNF.o o)
 have HN3:=q_ n3;have HNF3:=q_ f3;have n0:=n3 0;have n1:=n3 1;have z1:=f3 1;have HZ3:Q_ (N<w3.1.size):=i9 HZ2.o.2 hf3.size;clear hx3 hf3 n3 f3 HX2 HF2;go_wp2_with fail;refine(xp ht HX3.o).mono ?_;rintro r w4 ⟨rfl,hx4,hf4⟩;have HX4:=q_ hx4;have HF4:=q_ (HF3.o.step hf4);have m0:=(qj hf4 HZ3.o (by have:=HZ0.o;have:=HZ2.o;omega) 0).trans (HN3.o 0);have m1:=(qj hf4 HZ3.o (by have:=HZ0.o;have:=HZ2.o;omega) 1).trans (HN3.o 1);have r0:=(qj HF4.o HZ0.o.1 (by have:=HZ0.o;omega) 0).trans (HR0.o 0);have r1:=(qj HF4.o HZ0.o.1 (by have:=HZ0.o;omega) 1).trans (HR0.o 1);have q0:=(qx HF4.o HZ0.o.1 (by have:=HZ0.o;omega) 0).trans (HRF.o 0);have q1:=(qx HF4.o HZ0.o.1 (by have:=HZ0.o;omega) 1).trans (HRF.o 1);clear hx4 hf4 n0 n1 z1;have HP:=q_ (zi w4 w.1.size (.bool true) (.int .i64 n) _ _ r0 r1);go_wp2_with fail;obtain⟨p0,p1⟩:=HP.o
 have hG:g<w.1.size:=HZ0.o.2;refine b9 (v:=jo true n) (by simp[results,results164,go_sem,p0,p1]) rfl ⟨rfl,(HX4.o.far hG).far hG,?_⟩;exact((HF0.o.step HF4.o).put (a8 _)).put (a8 _)
theorem aoc {g:Nat} {s s1 s2 t:Rd} {n:Int} {d:ByteArray} {w:World} (h1:Q_ (qu 1 3 1 0 1800 s=((true,n),s1))) (hd:Q_ (qw s1=(d,s2))) (ht:Q_ (xu 3 s2=t)) (b1:(d.toList==[69])=false) (b2:(d.toList==[87])=false) (b3:d.toList.isEmpty=false) (hw:Q_ (IntKind.i64.wrap (-n)=-n)) (hp:qz g s w) :
 Calls prog 164 #[.pointer (some ⟨g,0,none⟩)] w (jv g (jo true n) t w):=by
 have hb0:=qa w (zb false 0);have HX0:=q_ (hp.keep hb0);have HF0:Q_ (Frm g vm w (w.alloc (zb false 0))):=Frm.of_below hb0;have HZ0:Q_ (w.1.size<(w.alloc (zb false 0)).1.size/\g<w.1.size):=⟨by simp,hp.lt⟩;have HR0:Q_ (∀o,(w.alloc (zb false 0)).cell? ⟨w.1.size,o,none⟩=(#[Value.bool false,.int .i64 0]:Array Value)[o]?):=λo=>b8 _ _ _ _ rfl
 have HRF:Q_ (∀o,(w.alloc (zb false 0)).frozen? ⟨w.1.size,o,none⟩=false):=λo=>by rw[l6];exact qk _ _ _ (a8 _)
 clear hb0 hp;go_enter func164,ntmps164;go_wp2_with fail;generalize hW0:w.alloc (zb false 0)=W0 at *;clear hW0;refine(jt _).mono ?_;rintro r w1 ⟨rfl,hb1⟩;have HX1:=q_ (HX0.o.keep hb1);have HF1:Q_ (Frm g vm W0 w1):=Frm.of_below hb1;clear hb1;go_wp2_with fail;refine(kp h1 HX1.o).mono ?_;rintro r w2 ⟨rfl,hx2,hf2⟩;have hbn:=qa w2 (zb true n);have HX2:=q_ (hx2.keep hbn);have HF2:Q_ (Frm g vm W0 (w2.alloc (zb true n))):=(HF1.o.step hf2).step (Frm.of_below hbn);have HZ2:Q_ (W0.1.size<=w2.1.size/\w2.1.size<(w2.alloc (zb true n)).1.size):=⟨(HF1.o.step hf2).size,by simp⟩;have HN2:Q_ (∀o,(w2.alloc (zb true n)).cell? ⟨w2.1.size,o,none⟩=(#[Value.bool true,.int .i64 n]:Array Value)[o]?):=λo=>b8 _ _ _ _ rfl
 have HNF:Q_ (∀o,(w2.alloc (zb true n)).frozen? ⟨w2.1.size,o,none⟩=false):=λo=>by rw[l6];exact qk _ _ _ (a8 _)
 clear hbn hx2 hf2 HX1 HF1 HX0;go_upto_region 2 with fail;generalize hV:w2.alloc (zb true n)=V at *;generalize w2.1.size=N at *;clear hV;go_wp2_with fail;refine(zd hd HX2.o).mono ?_;rintro r w3 ⟨rfl,hx3,hf3⟩;have HX3:=q_ hx3;have HF3:=q_ (HF2.o.step hf3);have n3:∀o,w3.cell? ⟨N,o,none⟩=(#[Value.bool true,.int .i64 n]:Array Value)[o]?:=λo=>(qj hf3 HZ2.o.2 (by have:=HZ0.o;have:=HZ2.o;omega) o).trans (HN2.o o)
 have f3:∀o,w3.frozen? ⟨N,o,none⟩=false:=λo=>(qx hf3 HZ2.o.2 (by have:=HZ0.o;have:=HZ2.o;omega) o).trans (HNF.o o)
 have HN3:=q_ n3;have HNF3:=q_ f3;have n0:=n3 0;have n1:=n3 1;have z1:=f3 1;have HZ3:Q_ (N<w3.1.size):=i9 HZ2.o.2 hf3.size;clear hx3 hf3 n3 f3 HX2 HF2;go_wp2_with fail;refine(xp ht HX3.o).mono ?_;rintro r w4 ⟨rfl,hx4,hf4⟩;have HX4:=q_ hx4;have HF4:=q_ (HF3.o.step hf4);have m0:=(qj hf4 HZ3.o (by have:=HZ0.o;have:=HZ2.o;omega) 0).trans (HN3.o 0);have m1:=(qj hf4 HZ3.o (by have:=HZ0.o;have:=HZ2.o;omega) 1).trans (HN3.o 1);have r0:=(qj HF4.o HZ0.o.1 (by have:=HZ0.o;omega) 0).trans (HR0.o 0);have r1:=(qj HF4.o HZ0.o.1 (by have:=HZ0.o;omega) 1).trans (HR0.o 1);have q0:=(qx HF4.o HZ0.o.1 (by have:=HZ0.o;omega) 0).trans (HRF.o 0);have q1:=(qx HF4.o HZ0.o.1 (by have:=HZ0.o;omega) 1).trans (HRF.o 1);clear hx4 hf4 n0 n1 z1;have HP:=q_ (zi w4 w.1.size (.bool true) (.int .i64 n) _ _ r0 r1);go_wp2_with fail;obtain⟨p0,p1⟩:=HP.o
 have hG:g<w.1.size:=HZ0.o.2;refine b9 (v:=jo true n) (by simp[results,results164,go_sem,p0,p1]) rfl ⟨rfl,(HX4.o.far hG).far hG,?_⟩;exact((HF0.o.step HF4.o).put (a8 _)).put (a8 _)
theorem amq {g:Nat} {s s1 s2 t:Rd} {n:Int} {d:ByteArray} {w:World} (h1:Q_ (qu 1 3 1 0 1800 s=((false,n),s1))) (hd:Q_ (qw s1=(d,s2))) (ht:Q_ (xu 3 s2=t)) (b1:(d.toList==[69])=true) (b2:(d.toList==[87])=false) (b3:d.toList.isEmpty=false) (hw:Q_ (IntKind.i64.wrap (-n)=-n)) (hp:qz g s w) :
 Calls prog 164 #[.pointer (some ⟨g,0,none⟩)] w (jv g (jo false n) t w):=by
 have hb0:=qa w (zb false 0);have HX0:=q_ (hp.keep hb0);have HF0:Q_ (Frm g vm w (w.alloc (zb false 0))):=Frm.of_below hb0;have HZ0:Q_ (w.1.size<(w.alloc (zb false 0)).1.size/\g<w.1.size):=⟨by simp,hp.lt⟩;have HR0:Q_ (∀o,(w.alloc (zb false 0)).cell? ⟨w.1.size,o,none⟩=(#[Value.bool false,.int .i64 0]:Array Value)[o]?):=λo=>b8 _ _ _ _ rfl
 have HRF:Q_ (∀o,(w.alloc (zb false 0)).frozen? ⟨w.1.size,o,none⟩=false):=λo=>by rw[l6];exact qk _ _ _ (a8 _)
 clear hb0 hp;go_enter func164,ntmps164;go_wp2_with fail;generalize hW0:w.alloc (zb false 0)=W0 at *;clear hW0;refine(jt _).mono ?_;rintro r w1 ⟨rfl,hb1⟩;have HX1:=q_ (HX0.o.keep hb1);have HF1:Q_ (Frm g vm W0 w1):=Frm.of_below hb1;clear hb1;go_wp2_with fail;refine(kp h1 HX1.o).mono ?_;rintro r w2 ⟨rfl,hx2,hf2⟩;have hbn:=qa w2 (zb false n);have HX2:=q_ (hx2.keep hbn);have HF2:Q_ (Frm g vm W0 (w2.alloc (zb false n))):=(HF1.o.step hf2).step (Frm.of_below hbn);have HZ2:Q_ (W0.1.size<=w2.1.size/\w2.1.size<(w2.alloc (zb false n)).1.size):=⟨(HF1.o.step hf2).size,by simp⟩;have HN2:Q_ (∀o,(w2.alloc (zb false n)).cell? ⟨w2.1.size,o,none⟩=(#[Value.bool false,.int .i64 n]:Array Value)[o]?):=λo=>b8 _ _ _ _ rfl
 have HNF:Q_ (∀o,(w2.alloc (zb false n)).frozen? ⟨w2.1.size,o,none⟩=false):=λo=>by rw[l6];exact qk _ _ _ (a8 _)
 clear hbn hx2 hf2 HX1 HF1 HX0;go_upto_region 2 with fail;generalize hV:w2.alloc (zb false n)=V at *;generalize w2.1.size=N at *;clear hV;go_wp2_with fail;refine(zd hd HX2.o).mono ?_;rintro r w3 ⟨rfl,hx3,hf3⟩;have HX3:=q_ hx3;have HF3:=q_ (HF2.o.step hf3);have n3:∀o,w3.cell? ⟨N,o,none⟩=(#[Value.bool false,.int .i64 n]:Array Value)[o]?:=λo=>(qj hf3 HZ2.o.2 (by have:=HZ0.o;have:=HZ2.o;omega) o).trans (HN2.o o)
 have f3:∀o,w3.frozen? ⟨N,o,none⟩=false:=λo=>(qx hf3 HZ2.o.2 (by have:=HZ0.o;have:=HZ2.o;omega) o).trans (HNF.o o)
 have HN3:=q_ n3;have HNF3:=q_ f3;have n0:=n3 0;have n1:=n3 1;have z1:=f3 1;have HZ3:Q_ (N<w3.1.size):=i9 HZ2.o.2 hf3.size;clear hx3 hf3 n3 f3 HX2 HF2;go_wp2_with fail;refine(xp ht HX3.o).mono ?_;rintro r w4 ⟨rfl,hx4,hf4⟩;have HX4:=q_ hx4;have HF4:=q_ (HF3.o.step hf4);have m0:=(qj hf4 HZ3.o (by have:=HZ0.o;have:=HZ2.o;omega) 0).trans (HN3.o 0);have m1:=(qj hf4 HZ3.o (by have:=HZ0.o;have:=HZ2.o;omega) 1).trans (HN3.o 1);have r0:=(qj HF4.o HZ0.o.1 (by have:=HZ0.o;omega) 0).trans (HR0.o 0);have r1:=(qj HF4.o HZ0.o.1 (by have:=HZ0.o;omega) 1).trans (HR0.o 1);have q0:=(qx HF4.o HZ0.o.1 (by have:=HZ0.o;omega) 0).trans (HRF.o 0);have q1:=(qx HF4.o HZ0.o.1 (by have:=HZ0.o;omega) 1).trans (HRF.o 1);clear hx4 hf4 n0 n1 z1;have HP:=q_ (zi w4 w.1.size (.bool false) (.int .i64 n) _ _ r0 r1);go_wp2_with fail;obtain⟨p0,p1⟩:=HP.o
 have hG:g<w.1.size:=HZ0.o.2;refine b9 (v:=jo false n) (by simp[results,results164,go_sem,p0,p1]) rfl ⟨rfl,(HX4.o.far hG).far hG,?_⟩;exact((HF0.o.step HF4.o).put (a8 _)).put (a8 _)
theorem ams {g:Nat} {s s1 s2 t:Rd} {n:Int} {d:ByteArray} {w:World} (h1:Q_ (qu 1 3 1 0 1800 s=((false,n),s1))) (hd:Q_ (qw s1=(d,s2))) (ht:Q_ (xu 3 s2=t)) (b1:(d.toList==[69])=false) (b2:(d.toList==[87])=true) (b3:d.toList.isEmpty=false) (hw:Q_ (IntKind.i64.wrap (-n)=-n)) (hp:qz g s w) :
 Calls prog 164 #[.pointer (some ⟨g,0,none⟩)] w (jv g (jo false n) t w):=by
 have hb0:=qa w (zb false 0);have HX0:=q_ (hp.keep hb0);have HF0:Q_ (Frm g vm w (w.alloc (zb false 0))):=Frm.of_below hb0;have HZ0:Q_ (w.1.size<(w.alloc (zb false 0)).1.size/\g<w.1.size):=⟨by simp,hp.lt⟩;have HR0:Q_ (∀o,(w.alloc (zb false 0)).cell? ⟨w.1.size,o,none⟩=(#[Value.bool false,.int .i64 0]:Array Value)[o]?):=λo=>b8 _ _ _ _ rfl
 have HRF:Q_ (∀o,(w.alloc (zb false 0)).frozen? ⟨w.1.size,o,none⟩=false):=λo=>by rw[l6];exact qk _ _ _ (a8 _)
 clear hb0 hp;go_enter func164,ntmps164;go_wp2_with fail;generalize hW0:w.alloc (zb false 0)=W0 at *;clear hW0;refine(jt _).mono ?_;rintro r w1 ⟨rfl,hb1⟩;have HX1:=q_ (HX0.o.keep hb1);have HF1:Q_ (Frm g vm W0 w1):=Frm.of_below hb1;clear hb1;go_wp2_with fail;refine(kp h1 HX1.o).mono ?_;rintro r w2 ⟨rfl,hx2,hf2⟩;have hbn:=qa w2 (zb false n);have HX2:=q_ (hx2.keep hbn);have HF2:Q_ (Frm g vm W0 (w2.alloc (zb false n))):=(HF1.o.step hf2).step (Frm.of_below hbn);have HZ2:Q_ (W0.1.size<=w2.1.size/\w2.1.size<(w2.alloc (zb false n)).1.size):=⟨(HF1.o.step hf2).size,by simp⟩;have HN2:Q_ (∀o,(w2.alloc (zb false n)).cell? ⟨w2.1.size,o,none⟩=(#[Value.bool false,.int .i64 n]:Array Value)[o]?):=λo=>b8 _ _ _ _ rfl
 have HNF:Q_ (∀o,(w2.alloc (zb false n)).frozen? ⟨w2.1.size,o,none⟩=false):=λo=>by rw[l6];exact qk _ _ _ (a8 _)
 clear hbn hx2 hf2 HX1 HF1 HX0;go_upto_region 2 with fail;generalize hV:w2.alloc (zb false n)=V at *;generalize w2.1.size=N at *;clear hV;go_wp2_with fail;refine(zd hd HX2.o).mono ?_;rintro r w3 ⟨rfl,hx3,hf3⟩;have HX3:=q_ hx3;have HF3:=q_ (HF2.o.step hf3);have n3:∀o,w3.cell? ⟨N,o,none⟩=(#[Value.bool false,.int .i64 n]:Array Value)[o]?:=λo=>(qj hf3 HZ2.o.2 (by have:=HZ0.o;have:=HZ2.o;omega) o).trans (HN2.o o)
 have f3:∀o,w3.frozen? ⟨N,o,none⟩=false:=λo=>(qx hf3 HZ2.o.2 (by have:=HZ0.o;have:=HZ2.o;omega) o).trans (HNF.o o)
 have HN3:=q_ n3;have HNF3:=q_ f3;have n0:=n3 0;have n1:=n3 1;have z1:=f3 1;have HZ3:Q_ (N<w3.1.size):=i9 HZ2.o.2 hf3.size;clear hx3 hf3 n3 f3 HX2 HF2;go_wp2_with fail;refine(xp ht HX3.o).mono ?_;rintro r w4 ⟨rfl,hx4,hf4⟩;have HX4:=q_ hx4;have HF4:=q_ (HF3.o.step hf4);have m0:=(qj hf4 HZ3.o (by have:=HZ0.o;have:=HZ2.o;omega) 0).trans (HN3.o 0);have m1:=(qj hf4 HZ3.o (by have:=HZ0.o;have:=HZ2.o;omega) 1).trans (HN3.o 1);have r0:=(qj HF4.o HZ0.o.1 (by have:=HZ0.o;omega) 0).trans (HR0.o 0);have r1:=(qj HF4.o HZ0.o.1 (by have:=HZ0.o;omega) 1).trans (HR0.o 1);have q0:=(qx HF4.o HZ0.o.1 (by have:=HZ0.o;omega) 0).trans (HRF.o 0);have q1:=(qx HF4.o HZ0.o.1 (by have:=HZ0.o;omega) 1).trans (HRF.o 1);clear hx4 hf4 n0 n1 z1;have HP:=q_ (zi w4 w.1.size (.bool false) (.int .i64 n) _ _ r0 r1);go_wp2_with fail;obtain⟨p0,p1⟩:=HP.o
 have hG:g<w.1.size:=HZ0.o.2;refine b9 (v:=jo false n) (by simp[results,results164,go_sem,p0,p1]) rfl ⟨rfl,(HX4.o.far hG).far hG,?_⟩;exact((HF0.o.step HF4.o).put (a8 _)).put (a8 _)
theorem amt {g:Nat} {s s1 s2 t:Rd} {n:Int} {d:ByteArray} {w:World} (h1:Q_ (qu 1 3 1 0 1800 s=((false,n),s1))) (hd:Q_ (qw s1=(d,s2))) (ht:Q_ (s2=t)) (b1:(d.toList==[69])=false) (b2:(d.toList==[87])=false) (b3:d.toList.isEmpty=true) (hw:Q_ (IntKind.i64.wrap (-n)=-n)) (hp:qz g s w) :
 Calls prog 164 #[.pointer (some ⟨g,0,none⟩)] w (jv g (jo false n) t w):=by
 have hb0:=qa w (zb false 0);have HX0:=q_ (hp.keep hb0);have HF0:Q_ (Frm g vm w (w.alloc (zb false 0))):=Frm.of_below hb0;have HZ0:Q_ (w.1.size<(w.alloc (zb false 0)).1.size/\g<w.1.size):=⟨by simp,hp.lt⟩;have HR0:Q_ (∀o,(w.alloc (zb false 0)).cell? ⟨w.1.size,o,none⟩=(#[Value.bool false,.int .i64 0]:Array Value)[o]?):=λo=>b8 _ _ _ _ rfl
 have HRF:Q_ (∀o,(w.alloc (zb false 0)).frozen? ⟨w.1.size,o,none⟩=false):=λo=>by rw[l6];exact qk _ _ _ (a8 _)
 clear hb0 hp;go_enter func164,ntmps164;go_wp2_with fail;generalize hW0:w.alloc (zb false 0)=W0 at *;clear hW0;refine(jt _).mono ?_;rintro r w1 ⟨rfl,hb1⟩;have HX1:=q_ (HX0.o.keep hb1);have HF1:Q_ (Frm g vm W0 w1):=Frm.of_below hb1;clear hb1;go_wp2_with fail;refine(kp h1 HX1.o).mono ?_;rintro r w2 ⟨rfl,hx2,hf2⟩;have hbn:=qa w2 (zb false n);have HX2:=q_ (hx2.keep hbn);have HF2:Q_ (Frm g vm W0 (w2.alloc (zb false n))):=(HF1.o.step hf2).step (Frm.of_below hbn);have HZ2:Q_ (W0.1.size<=w2.1.size/\w2.1.size<(w2.alloc (zb false n)).1.size):=⟨(HF1.o.step hf2).size,by simp⟩;have HN2:Q_ (∀o,(w2.alloc (zb false n)).cell? ⟨w2.1.size,o,none⟩=(#[Value.bool false,.int .i64 n]:Array Value)[o]?):=λo=>b8 _ _ _ _ rfl
 have HNF:Q_ (∀o,(w2.alloc (zb false n)).frozen? ⟨w2.1.size,o,none⟩=false):=λo=>by rw[l6];exact qk _ _ _ (a8 _)
 clear hbn hx2 hf2 HX1 HF1 HX0;go_upto_region 2 with fail;generalize hV:w2.alloc (zb false n)=V at *;generalize w2.1.size=N at *;clear hV;go_wp2_with fail;refine(zd hd HX2.o).mono ?_;rintro r w3 ⟨rfl,hx3,hf3⟩;have HX3:=q_ hx3;have HF3:=q_ (HF2.o.step hf3);have n3:∀o,w3.cell? ⟨N,o,none⟩=(#[Value.bool false,.int .i64 n]:Array Value)[o]?:=λo=>(qj hf3 HZ2.o.2 (by have:=HZ0.o;have:=HZ2.o;omega) o).trans (HN2.o o)
 have f3:∀o,w3.frozen? ⟨N,o,none⟩=false:=λo=>(qx hf3 HZ2.o.2 (by have:=HZ0.o;have:=HZ2.o;omega) o).trans (HNF.o o)
 have HN3:=q_ n3;have HNF3:=q_ f3;have n0:=n3 0;have n1:=n3 1;have z1:=f3 1;have HZ3:Q_ (N<w3.1.size):=i9 HZ2.o.2 hf3.size;clear hx3 hf3 n3 f3 HX2 HF2;have ht:=ht.o;subst ht;have r0:=(qj HF3.o HZ0.o.1 (by have:=HZ0.o;omega) 0).trans (HR0.o 0);have r1:=(qj HF3.o HZ0.o.1 (by have:=HZ0.o;omega) 1).trans (HR0.o 1);have q0:=(qx HF3.o HZ0.o.1 (by have:=HZ0.o;omega) 0).trans (HRF.o 0);have q1:=(qx HF3.o HZ0.o.1 (by have:=HZ0.o;omega) 1).trans (HRF.o 1);have HP:=q_ (zi w3 w.1.size (.bool false) (.int .i64 n) _ _ r0 r1);go_wp2_with fail;obtain⟨p0,p1⟩:=HP.o;have hG:g<w.1.size:=HZ0.o.2;refine b9 (v:=jo false n) (by simp[results,results164,go_sem,p0,p1]) rfl ⟨rfl,(HX3.o.far hG).far hG,?_⟩;exact((HF0.o.step HF3.o).put (a8 _)).put (a8 _)
theorem amr {g:Nat} {s s1 s2 t:Rd} {n:Int} {d:ByteArray} {w:World} (h1:Q_ (qu 1 3 1 0 1800 s=((false,n),s1))) (hd:Q_ (qw s1=(d,s2))) (ht:Q_ (xu 3 s2=t)) (b1:(d.toList==[69])=false) (b2:(d.toList==[87])=false) (b3:d.toList.isEmpty=false) (hw:Q_ (IntKind.i64.wrap (-n)=-n)) (hp:qz g s w) :
 Calls prog 164 #[.pointer (some ⟨g,0,none⟩)] w (jv g (jo false n) t w):=by
 have hb0:=qa w (zb false 0);have HX0:=q_ (hp.keep hb0);have HF0:Q_ (Frm g vm w (w.alloc (zb false 0))):=Frm.of_below hb0;have HZ0:Q_ (w.1.size<(w.alloc (zb false 0)).1.size/\g<w.1.size):=⟨by simp,hp.lt⟩;have HR0:Q_ (∀o,(w.alloc (zb false 0)).cell? ⟨w.1.size,o,none⟩=(#[Value.bool false,.int .i64 0]:Array Value)[o]?):=λo=>b8 _ _ _ _ rfl
 have HRF:Q_ (∀o,(w.alloc (zb false 0)).frozen? ⟨w.1.size,o,none⟩=false):=λo=>by rw[l6];exact qk _ _ _ (a8 _)
 clear hb0 hp;go_enter func164,ntmps164;go_wp2_with fail;generalize hW0:w.alloc (zb false 0)=W0 at *;clear hW0;refine(jt _).mono ?_;rintro r w1 ⟨rfl,hb1⟩;have HX1:=q_ (HX0.o.keep hb1);have HF1:Q_ (Frm g vm W0 w1):=Frm.of_below hb1;clear hb1;go_wp2_with fail;refine(kp h1 HX1.o).mono ?_;rintro r w2 ⟨rfl,hx2,hf2⟩;have hbn:=qa w2 (zb false n);have HX2:=q_ (hx2.keep hbn);have HF2:Q_ (Frm g vm W0 (w2.alloc (zb false n))):=(HF1.o.step hf2).step (Frm.of_below hbn);have HZ2:Q_ (W0.1.size<=w2.1.size/\w2.1.size<(w2.alloc (zb false n)).1.size):=⟨(HF1.o.step hf2).size,by simp⟩;have HN2:Q_ (∀o,(w2.alloc (zb false n)).cell? ⟨w2.1.size,o,none⟩=(#[Value.bool false,.int .i64 n]:Array Value)[o]?):=λo=>b8 _ _ _ _ rfl
 have HNF:Q_ (∀o,(w2.alloc (zb false n)).frozen? ⟨w2.1.size,o,none⟩=false):=λo=>by rw[l6];exact qk _ _ _ (a8 _)
 clear hbn hx2 hf2 HX1 HF1 HX0;go_upto_region 2 with fail;generalize hV:w2.alloc (zb false n)=V at *;generalize w2.1.size=N at *;clear hV;go_wp2_with fail;refine(zd hd HX2.o).mono ?_;rintro r w3 ⟨rfl,hx3,hf3⟩;have HX3:=q_ hx3;have HF3:=q_ (HF2.o.step hf3);have n3:∀o,w3.cell? ⟨N,o,none⟩=(#[Value.bool false,.int .i64 n]:Array Value)[o]?:=λo=>(qj hf3 HZ2.o.2 (by have:=HZ0.o;have:=HZ2.o;omega) o).trans (HN2.o o)
 have f3:∀o,w3.frozen? ⟨N,o,none⟩=false:=λo=>(qx hf3 HZ2.o.2 (by have:=HZ0.o;have:=HZ2.o;omega) o).trans (HNF.o o)
 have HN3:=q_ n3;have HNF3:=q_ f3;have n0:=n3 0;have n1:=n3 1;have z1:=f3 1;have HZ3:Q_ (N<w3.1.size):=i9 HZ2.o.2 hf3.size;clear hx3 hf3 n3 f3 HX2 HF2;go_wp2_with fail;refine(xp ht HX3.o).mono ?_;rintro r w4 ⟨rfl,hx4,hf4⟩;have HX4:=q_ hx4;have HF4:=q_ (HF3.o.step hf4);have m0:=(qj hf4 HZ3.o (by have:=HZ0.o;have:=HZ2.o;omega) 0).trans (HN3.o 0);have m1:=(qj hf4 HZ3.o (by have:=HZ0.o;have:=HZ2.o;omega) 1).trans (HN3.o 1);have r0:=(qj HF4.o HZ0.o.1 (by have:=HZ0.o;omega) 0).trans (HR0.o 0);have r1:=(qj HF4.o HZ0.o.1 (by have:=HZ0.o;omega) 1).trans (HR0.o 1);have q0:=(qx HF4.o HZ0.o.1 (by have:=HZ0.o;omega) 0).trans (HRF.o 0);have q1:=(qx HF4.o HZ0.o.1 (by have:=HZ0.o;omega) 1).trans (HRF.o 1);clear hx4 hf4 n0 n1 z1;have HP:=q_ (zi w4 w.1.size (.bool false) (.int .i64 n) _ _ r0 r1);go_wp2_with fail;obtain⟨p0,p1⟩:=HP.o
 have hG:g<w.1.size:=HZ0.o.2;refine b9 (v:=jo false n) (by simp[results,results164,go_sem,p0,p1]) rfl ⟨rfl,(HX4.o.far hG).far hG,?_⟩;exact((HF0.o.step HF4.o).put (a8 _)).put (a8 _)
set_option linter.unusedSimpArgs false
theorem ast {g:Nat} {s t:Rd} {b:Bool} {n:Int} {w:World} (ht:Q_ (auk s=((b,n),t))) (hp:qz g s w):Calls prog 164 #[.pointer (some ⟨g,0,none⟩)] w (jv g (jo b n) t w):=by
 obtain⟨b0,n0,s1,h1⟩:∃b n u,Q_ (qu 1 3 1 0 1800 s=((b,n),u)):=⟨_,_,_,rfl⟩;obtain⟨d,s2,hd⟩:∃d u,Q_ (qw s1=(d,u)):=⟨_,_,rfl⟩;have ht:=ht.o;unfold auk at ht;rw[h1.o]at ht;simp only at ht;rw[hd.o]at ht;simp only at ht;have hin:=bg1 h1.o ⟨by omega,by omega⟩;have hw:Q_ (IntKind.i64.wrap (-n0)=-n0):=b05 _ om;have hE:(d.toList==[69])=decide (d=eT):=afx d 69;have hW:(d.toList==[87])=decide (d=wT):=afx d 87;have hZ:=adk d;have nEW:¬eT=wT:=by decide
 have nEZ:¬eT=ByteArray.empty:=by decide
 have nWZ:¬wT=ByteArray.empty:=by decide
 have nWE:¬wT=eT:=by decide
 have nZE:¬ByteArray.empty=eT:=by decide
 have nZW:¬ByteArray.empty=wT:=by decide
 unfold bhc at ht
 by_cases dE:d=eT
 ·subst dE;simp only[nEW,nEZ,decide_true,decide_false]at hE hW hZ;cases b0
  ·rw[if_pos (.inr ⟨rfl,nEZ⟩)]at ht;injection ht with e1 e2
   injection e1 with e1 e3
   subst e1 e3;exact amq h1 hd e2 hE hW hZ hw hp
  ·rw[if_neg (by simp[nEW]),if_neg nEW]at ht;injection ht with e1 e2
   injection e1 with e1 e3
   subst e1 e3;exact aob h1 hd e2 hE hW hZ hw hp
 by_cases dW:d=wT
 ·subst dW;simp only[nWE,nWZ,decide_true,decide_false]at hE hW hZ;cases b0
  ·rw[if_pos (.inr ⟨rfl,nWZ⟩)]at ht;injection ht with e1 e2
   injection e1 with e1 e3
   subst e1 e3;exact ams h1 hd e2 hE hW hZ hw hp
  ·rw[if_neg sm,if_pos rfl]at ht;injection ht with e1 e2
   injection e1 with e1 e3
   subst e1 e3;exact aod h1 hd e2 hE hW hZ hw hp
 rw[o7 dE]at hE;rw[o7 dW]at hW
 by_cases dZ:d=ByteArray.empty
 ·rw[t8 dZ]at hZ;cases b0
  ·rw[if_neg (by rw[dZ];simp),if_neg dW]at ht;injection ht with e1 e2
   injection e1 with e1 e3
   subst e1 e3;exact amt h1 hd e2 hE hW hZ hw hp
  ·rw[if_pos (.inl ⟨rfl,dE,dW⟩)]at ht;injection ht with e1 e2
   injection e1 with e1 e3
   subst e1 e3;exact aoe h1 hd e2 hE hW hZ hw hp
 ·rw[o7 dZ]at hZ;cases b0
  ·rw[if_pos (.inr ⟨rfl,dZ⟩)]at ht;injection ht with e1 e2
   injection e1 with e1 e3
   subst e1 e3;exact amr h1 hd e2 hE hW hZ hw hp
  ·rw[if_pos (.inl ⟨rfl,dE,dW⟩)]at ht;injection ht with e1 e2
   injection e1 with e1 e3
   subst e1 e3;exact aoc h1 hd e2 hE hW hZ hw hp
theorem ald {g P:Nat} {s t:Rd} {E:Int} {w:World} (ht:Q_ (xu E s=t)) (hp:qz g s w) (p0:w.cell? ⟨P,0,none⟩=some (.pointer (some ⟨g,0,none⟩))):Calls prog 148 #[.int .i64 E,.pointer (some ⟨P,0,none⟩)] w (jv g (.tuple #[]) t w):=by
 have HP:=q_ hp;clear hp;go_enter func148,ntmps148;go_wp2_with fail;refine(xp ht HP.o).mono ?_;rintro r w1 ⟨rfl,hx,hf⟩;have HX:=q_ (o3 hx hf);clear hx hf;go_wp2_with fail
 go_end0
 exact⟨rfl,HX.o.1,HX.o.2⟩
theorem asr {g M P:Nat} {C:Array Value} {W w:World} {s t:Rd} (h:Q_ (aak s=t)) (hT:TkI (qz g s) g M C W w) (pW:Q_ (W.cell? ⟨P,0,none⟩=some (.pointer (some ⟨g,0,none⟩)))) (sP:Q_ (P<W.1.size/\P≠g/\P≠M)) :
 Calls prog 165 #[.pointer (some ⟨P,0,none⟩)] w λr w'=>r=.returned (.tuple #[])/\TkI (qz g t) g M C W w':=by
 have HT:=q_ hT;have p0:=(hT.cell (o:=0) sP.o.1 sP.o.2.1 sP.o.2.2).trans pW.o;clear hT;go_enter func165,ntmps165;go_wp2_with fail;refine(a12 h HT.o.x).mono ?_;rintro r x ⟨rfl,hx,hf⟩;have HT2:=q_ (HT.o.frm hx hf);clear hx hf;go_wp2_with fail
 go_end0
 exact⟨rfl,HT2.o⟩
theorem aw2 {g M P N:Nat} {W w:World} {s t:Rd} {cb:Bool} {ch:Int} {cm:Int} {cs:Int} {cc:Int} (h:Q_ (ajg s=((cb,ch,cm,cs,cc),t))) (hT:TkI (qz g s) g M (jb false 0 0 0 0 false false 0 false 0 false 0 false 0 false 0 false 0 0 0) W w) (pW:Q_ (W.cell? ⟨P,0,none⟩=some (.pointer (some ⟨g,0,none⟩)))) (sP:Q_ (P<W.1.size/\P≠g/\P≠M)) (nW:Q_ (W.cell? ⟨N,0,none⟩=some (.func (.func 148) #[] #[.pointer (some ⟨P,0,none⟩)]))) (sN:Q_ (N<W.1.size/\N≠g/\N≠M)) :
 Calls prog 150 #[.pointer (some ⟨P,0,none⟩),.pointer (some ⟨M,0,none⟩),.pointer (some ⟨N,0,none⟩)] w λr w'=>r=.returned (.tuple #[])/\TkI (qz g t) g M (jb cb ch cm cs cc false false 0 false 0 false 0 false 0 false 0 false 0 0 0) W w':=by
 have HT:=q_ hT;have p0:=(hT.cell (o:=0) sP.o.1 sP.o.2.1 sP.o.2.2).trans pW.o;clear hT;obtain⟨a,s1,ha⟩:∃a s1,Q_ (qw s=(a,s1)):=⟨_,_,rfl⟩;have hsm:=ad6 ha HT.o.x
 obtain⟨E,ht1,ht2⟩:∃E,Q_ (aam a.data.toList=((cb,ch,cm,cs,cc),E))/\Q_ (xu E s1=t):=by
  have q:=h.o;unfold ajg at q;rw[ha.o]at q;injection q with q1 q2
  exact⟨_,b5m q1 rfl,q2⟩
 go_enter func150,ntmps150;go_wp2_with fail;refine(zd ha HT.o.x).mono ?_;rintro r x1 ⟨rfl,hx,hf⟩;have HT1:=q_ (HT.o.frm hx hf);clear hx hf HT p0;go_wp2_with fail;refine(ane a _ hsm).mono ?_;rw[ht1.o];rintro r x2 ⟨rfl,hb2⟩;dsimp only;have hbc:=qa x2 (aax cb ch cm cs cc);have hb3:=qb hb2 hbc;have HT3:=q_ (HT1.o.keep (Y:=qz g s1) (HT1.o.x.keep hb3) hb3);have HC3:Q_ (∀o,(x2.alloc (aax cb ch cm cs cc)).cell? ⟨x2.1.size,o,none⟩=(#[Value.bool cb,.int .i64 ch,.int .i64 cm,.int .i64 cs,.int .i64 cc]:Array Value)[o]?):=λo=>b8 _ _ _ _ rfl
 have HZM:Q_ (M<x2.1.size):=i9 HT1.o.mz hb2.size;clear hbc hb2 hb3 HT1;go_upto_region 1 with fail;generalize hx3:x2.alloc (aax cb ch cm cs cc)=x3 at *;generalize x2.1.size=x2z at *;clear hx3;have m0:=HT3.o.c 0;have z0:=HT3.o.z 0;have m1:=HT3.o.c 1;have z1:=HT3.o.z 1;have m2:=HT3.o.c 2;have z2:=HT3.o.z 2;have m3:=HT3.o.c 3;have z3:=HT3.o.z 3;have m4:=HT3.o.c 4;have z4:=HT3.o.z 4;have c0:x3.cell? ⟨x2z,0,none⟩=some (.bool cb):=HC3.o 0;have c1:x3.cell? ⟨x2z,1,none⟩=some (.int .i64 ch):=HC3.o 1;have c2:x3.cell? ⟨x2z,2,none⟩=some (.int .i64 cm):=HC3.o 2;have c3:x3.cell? ⟨x2z,3,none⟩=some (.int .i64 cs):=HC3.o 3;have c4:x3.cell? ⟨x2z,4,none⟩=some (.int .i64 cc):=HC3.o 4;go_upto_region 2 with fail;have HT4:=aaz (ze (ze (ze (ze (ze HT3.o 0 (.bool cb) sm) 1 (.int .i64 ch) sm) 2 (.int .i64 cm) sm) 3 (.int .i64 cs) sm) 4 (.int .i64 cc) sm) (jb cb ch cm cs cc false false 0 false 0 false 0 false 0 false 0 false 0 0 0) rfl
 clear HT3 m0 z0 c0 m1 z1 c1 m2 z2 c2 m3 z3 c3 m4 z4 c4;generalize (((((x3.setCell ⟨M,0,none⟩ (.bool cb)).setCell ⟨M,1,none⟩ (.int .i64 ch)).setCell ⟨M,2,none⟩ (.int .i64 cm)).setCell ⟨M,3,none⟩ (.int .i64 cs)).setCell ⟨M,4,none⟩ (.int .i64 cc))=y at *;have p4:=(HT4.o.cell (o:=0) sP.o.1 sP.o.2.1 sP.o.2.2).trans pW.o;have n4:=(HT4.o.cell (o:=0) sN.o.1 sN.o.2.1 sN.o.2.2).trans nW.o;go_wp2_with fail;refine(ald ht2 HT4.o.x p4).mono ?_;rintro r x5 ⟨rfl,hx,hf⟩;have HT5:=q_ (HT4.o.frm hx hf);clear hx hf HT4 p4 n4;go_wp2_with fail
 go_end0
 exact⟨rfl,HT5.o⟩
theorem aw3 {g M P:Nat} {W w:World} {s t:Rd} {cb:Bool} {ch:Int} {cm:Int} {cs:Int} {cc:Int} {st:Bool} (h:Q_ (bb8 s=(st,t))) (hT:TkI (qz g s) g M (jb cb ch cm cs cc false false 0 false 0 false 0 false 0 false 0 false 0 0 0) W w) (pW:Q_ (W.cell? ⟨P,0,none⟩=some (.pointer (some ⟨g,0,none⟩)))) (sP:Q_ (P<W.1.size/\P≠g/\P≠M)) :
 Calls prog 153 #[.pointer (some ⟨P,0,none⟩),.pointer (some ⟨M,0,none⟩)] w λr w'=>r=.returned (.tuple #[])/\TkI (qz g t) g M (jb cb ch cm cs cc st false 0 false 0 false 0 false 0 false 0 false 0 0 0) W w':=by
 have HT:=q_ hT;have p0:=(hT.cell (o:=0) sP.o.1 sP.o.2.1 sP.o.2.2).trans pW.o;clear hT;go_enter func153,ntmps153;go_wp2_with fail;refine(asu h HT.o.x).mono ?_;rintro r x ⟨rfl,hx,hf⟩;have HT2:=q_ (HT.o.frm hx hf);clear hx hf HT;have m0:=HT2.o.c 5;have z0:=HT2.o.z 5;go_wp2_with fail
 go_end0
 exact⟨rfl,(aaz (ze HT2.o 5 (.bool st) sm) (jb cb ch cm cs cc st false 0 false 0 false 0 false 0 false 0 false 0 0 0) rfl).o⟩
theorem aw4 {g M P:Nat} {W w:World} {s t:Rd} {cb:Bool} {ch:Int} {cm:Int} {cs:Int} {cc:Int} {st:Bool} {lb:Bool} {ln:Int} (h:Q_ (adg true s=((lb,ln),t))) (hT:TkI (qz g s) g M (jb cb ch cm cs cc st false 0 false 0 false 0 false 0 false 0 false 0 0 0) W w) (pW:Q_ (W.cell? ⟨P,0,none⟩=some (.pointer (some ⟨g,0,none⟩)))) (sP:Q_ (P<W.1.size/\P≠g/\P≠M)) :
 Calls prog 155 #[.pointer (some ⟨P,0,none⟩),.pointer (some ⟨M,0,none⟩)] w λr w'=>r=.returned (.tuple #[])/\TkI (qz g t) g M (jb cb ch cm cs cc st lb ln false 0 false 0 false 0 false 0 false 0 0 0) W w':=by
 have HT:=q_ hT;have p0:=(hT.cell (o:=0) sP.o.1 sP.o.2.1 sP.o.2.2).trans pW.o;clear hT;go_enter func155,ntmps155;go_wp2_with fail;refine(avz h HT.o.x).mono ?_;rintro r x ⟨rfl,hx,hf⟩;have HT2:=q_ (HT.o.frm hx hf);clear hx hf HT;have m0:=HT2.o.c 6;have z0:=HT2.o.z 6;have m1:=HT2.o.c 7;have z1:=HT2.o.z 7;go_wp2_with fail
 go_end0
 exact⟨rfl,(aaz (ze (ze HT2.o 6 (.bool lb) sm) 7 (.int .i64 ln) sm) (jb cb ch cm cs cc st lb ln false 0 false 0 false 0 false 0 false 0 0 0) rfl).o⟩
theorem aw5 {g M P:Nat} {W w:World} {s t:Rd} {cb:Bool} {ch:Int} {cm:Int} {cs:Int} {cc:Int} {st:Bool} {lb:Bool} {ln:Int} {ob:Bool} {on:Int} (h:Q_ (adg false s=((ob,on),t))) (hT:TkI (qz g s) g M (jb cb ch cm cs cc st lb ln false 0 false 0 false 0 false 0 false 0 0 0) W w) (pW:Q_ (W.cell? ⟨P,0,none⟩=some (.pointer (some ⟨g,0,none⟩)))) (sP:Q_ (P<W.1.size/\P≠g/\P≠M)) :
 Calls prog 156 #[.pointer (some ⟨P,0,none⟩),.pointer (some ⟨M,0,none⟩)] w λr w'=>r=.returned (.tuple #[])/\TkI (qz g t) g M (jb cb ch cm cs cc st lb ln ob on false 0 false 0 false 0 false 0 0 0) W w':=by
 have HT:=q_ hT;have p0:=(hT.cell (o:=0) sP.o.1 sP.o.2.1 sP.o.2.2).trans pW.o;clear hT;go_enter func156,ntmps156;go_wp2_with fail;refine(avz h HT.o.x).mono ?_;rintro r x ⟨rfl,hx,hf⟩;have HT2:=q_ (HT.o.frm hx hf);clear hx hf HT;have m0:=HT2.o.c 8;have z0:=HT2.o.z 8;have m1:=HT2.o.c 9;have z1:=HT2.o.z 9;go_wp2_with fail
 go_end0
 exact⟨rfl,(aaz (ze (ze HT2.o 8 (.bool ob) sm) 9 (.int .i64 on) sm) (jb cb ch cm cs cc st lb ln ob on false 0 false 0 false 0 false 0 0 0) rfl).o⟩
theorem aw6 {g M P:Nat} {W w:World} {s t:Rd} {cb:Bool} {ch:Int} {cm:Int} {cs:Int} {cc:Int} {st:Bool} {lb:Bool} {ln:Int} {ob:Bool} {on:Int} {sb:Bool} {sn:Int} (h:Q_ (qu 1 4 2 0 999999 s=((sb,sn),t))) (hT:TkI (qz g s) g M (jb cb ch cm cs cc st lb ln ob on false 0 false 0 false 0 false 0 0 0) W w) (pW:Q_ (W.cell? ⟨P,0,none⟩=some (.pointer (some ⟨g,0,none⟩)))) (sP:Q_ (P<W.1.size/\P≠g/\P≠M)) :
 Calls prog 157 #[.pointer (some ⟨P,0,none⟩),.pointer (some ⟨M,0,none⟩)] w λr w'=>r=.returned (.tuple #[])/\TkI (qz g t) g M (jb cb ch cm cs cc st lb ln ob on sb sn false 0 false 0 false 0 0 0) W w':=by
 have HT:=q_ hT;have p0:=(hT.cell (o:=0) sP.o.1 sP.o.2.1 sP.o.2.2).trans pW.o;clear hT;go_enter func157,ntmps157
 go_region_with (first|(go_at_call 158;refine(axa _).mono ?_;rintro r y3 ⟨rfl,hb2⟩;have hbb:=b2x (acf (n9 w.1.size w)) hb2;have T2:=q_ (HT.o.keep (Y:=qz g s) (HT.o.x.keep hbb) hbb);have zp:=(T2.o.cell (o:=0) sP.o.1 sP.o.2.1 sP.o.2.2).trans pW.o;clear hbb hb2)|(go_at_call 136;refine(kp h T2.o.x).mono ?_;rintro r y4 ⟨rfl,hx,hf⟩;have T3:=q_ (T2.o.frm hx hf);have m0:=T3.o.c 10;have m1:=T3.o.c 11;have z0:=T3.o.z 10;have z1:=T3.o.z 11;clear hx hf))
 all_goals go_wp2_with fail
 all_goals go_end0
 all_goals exact⟨rfl,(aaz (ze (ze T3.o 10 (.bool sb) sm) 11 (.int .i64 sn) sm) (jb cb ch cm cs cc st lb ln ob on sb sn false 0 false 0 false 0 0 0) rfl).o⟩
theorem aw7 {g M P:Nat} {W w:World} {s t:Rd} {cb:Bool} {ch:Int} {cm:Int} {cs:Int} {cc:Int} {st:Bool} {lb:Bool} {ln:Int} {ob:Bool} {on:Int} {sb:Bool} {sn:Int} {kb:Bool} {kn:Int} (h:Q_ (qu 1 3 2 0 36000 s=((kb,kn),t))) (hT:TkI (qz g s) g M (jb cb ch cm cs cc st lb ln ob on sb sn false 0 false 0 false 0 0 0) W w) (pW:Q_ (W.cell? ⟨P,0,none⟩=some (.pointer (some ⟨g,0,none⟩)))) (sP:Q_ (P<W.1.size/\P≠g/\P≠M)) :
 Calls prog 159 #[.pointer (some ⟨P,0,none⟩),.pointer (some ⟨M,0,none⟩)] w λr w'=>r=.returned (.tuple #[])/\TkI (qz g t) g M (jb cb ch cm cs cc st lb ln ob on sb sn kb kn false 0 false 0 0 0) W w':=by
 have HT:=q_ hT;have p0:=(hT.cell (o:=0) sP.o.1 sP.o.2.1 sP.o.2.2).trans pW.o;clear hT;go_enter func159,ntmps159
 go_region_with (first|(go_at_call 160;refine(ass _).mono ?_;rintro r y3 ⟨rfl,hb2⟩;have hbb:=b2x (acf (n9 w.1.size w)) hb2;have T2:=q_ (HT.o.keep (Y:=qz g s) (HT.o.x.keep hbb) hbb);have zp:=(T2.o.cell (o:=0) sP.o.1 sP.o.2.1 sP.o.2.2).trans pW.o;clear hbb hb2)|(go_at_call 136;refine(kp h T2.o.x).mono ?_;rintro r y4 ⟨rfl,hx,hf⟩;have T3:=q_ (T2.o.frm hx hf);have m0:=T3.o.c 12;have m1:=T3.o.c 13;have z0:=T3.o.z 12;have z1:=T3.o.z 13;clear hx hf))
 all_goals go_wp2_with fail
 all_goals go_end0
 all_goals exact⟨rfl,(aaz (ze (ze T3.o 12 (.bool kb) sm) 13 (.int .i64 kn) sm) (jb cb ch cm cs cc st lb ln ob on sb sn kb kn false 0 false 0 0 0) rfl).o⟩
theorem aw8 {g M P N:Nat} {W w:World} {s t:Rd} {cb:Bool} {ch:Int} {cm:Int} {cs:Int} {cc:Int} {st:Bool} {lb:Bool} {ln:Int} {ob:Bool} {on:Int} {sb:Bool} {sn:Int} {kb:Bool} {kn:Int} {db:Bool} {dd:Int} {dm:Int} {dy:Int} (h:Q_ (a1r s=((db,dd,dm,dy),t))) (hT:TkI (qz g s) g M (jb cb ch cm cs cc st lb ln ob on sb sn kb kn false 0 false 0 0 0) W w) (pW:Q_ (W.cell? ⟨P,0,none⟩=some (.pointer (some ⟨g,0,none⟩)))) (sP:Q_ (P<W.1.size/\P≠g/\P≠M)) (nW:Q_ (W.cell? ⟨N,0,none⟩=some (.func (.func 148) #[] #[.pointer (some ⟨P,0,none⟩)]))) (sN:Q_ (N<W.1.size/\N≠g/\N≠M)) :
 Calls prog 161 #[.pointer (some ⟨P,0,none⟩),.pointer (some ⟨M,0,none⟩),.pointer (some ⟨N,0,none⟩)] w λr w'=>r=.returned (.tuple #[])/\TkI (qz g t) g M (jb cb ch cm cs cc st lb ln ob on sb sn kb kn false 0 db dd dm dy) W w':=by
 have HT:=q_ hT;have p0:=(hT.cell (o:=0) sP.o.1 sP.o.2.1 sP.o.2.2).trans pW.o;clear hT;obtain⟨a,s1,ha⟩:∃a s1,Q_ (qw s=(a,s1)):=⟨_,_,rfl⟩;have hsm:=ad6 ha HT.o.x
 obtain⟨E,ht1,ht2⟩:∃E,Q_ (acl a.data.toList=((db,dd,dm,dy),E))/\Q_ (xu E s1=t):=by
  have q:=h.o;unfold a1r at q;rw[ha.o]at q;injection q with q1 q2
  exact⟨_,b5m q1 rfl,q2⟩
 go_enter func161,ntmps161;go_wp2_with fail;refine(zd ha HT.o.x).mono ?_;rintro r x1 ⟨rfl,hx,hf⟩;have HT1:=q_ (HT.o.frm hx hf);clear hx hf HT p0;go_wp2_with fail;refine(azt a _ hsm).mono ?_;rw[ht1.o];rintro r x2 ⟨rfl,hb2⟩;dsimp only;have hbc:=qa x2 (ama db dd dm dy);have hb3:=qb hb2 hbc;have HT3:=q_ (HT1.o.keep (Y:=qz g s1) (HT1.o.x.keep hb3) hb3);have HC3:Q_ (∀o,(x2.alloc (ama db dd dm dy)).cell? ⟨x2.1.size,o,none⟩=(#[Value.bool db,.int .i64 dd,.int .i64 dm,.int .i64 dy]:Array Value)[o]?):=λo=>b8 _ _ _ _ rfl
 have HZM:Q_ (M<x2.1.size):=i9 HT1.o.mz hb2.size;clear hbc hb2 hb3 HT1;go_upto_region 1 with fail;generalize hx3:x2.alloc (ama db dd dm dy)=x3 at *;generalize x2.1.size=x2z at *;clear hx3;have m0:=HT3.o.c 16;have z0:=HT3.o.z 16;have m1:=HT3.o.c 17;have z1:=HT3.o.z 17;have m2:=HT3.o.c 18;have z2:=HT3.o.z 18;have m3:=HT3.o.c 19;have z3:=HT3.o.z 19;have c0:x3.cell? ⟨x2z,0,none⟩=some (.bool db):=HC3.o 0;have c1:x3.cell? ⟨x2z,1,none⟩=some (.int .i64 dd):=HC3.o 1;have c2:x3.cell? ⟨x2z,2,none⟩=some (.int .i64 dm):=HC3.o 2;have c3:x3.cell? ⟨x2z,3,none⟩=some (.int .i64 dy):=HC3.o 3;go_upto_region 2 with fail;have HT4:=aaz (ze (ze (ze (ze HT3.o 16 (.bool db) sm) 17 (.int .i64 dd) sm) 18 (.int .i64 dm) sm) 19 (.int .i64 dy) sm) (jb cb ch cm cs cc st lb ln ob on sb sn kb kn false 0 db dd dm dy) rfl;clear HT3 m0 z0 c0 m1 z1 c1 m2 z2 c2 m3 z3 c3
 generalize ((((x3.setCell ⟨M,16,none⟩ (.bool db)).setCell ⟨M,17,none⟩ (.int .i64 dd)).setCell ⟨M,18,none⟩ (.int .i64 dm)).setCell ⟨M,19,none⟩ (.int .i64 dy))=y at *;have p4:=(HT4.o.cell (o:=0) sP.o.1 sP.o.2.1 sP.o.2.2).trans pW.o;have n4:=(HT4.o.cell (o:=0) sN.o.1 sN.o.2.1 sN.o.2.2).trans nW.o;go_wp2_with fail;refine(ald ht2 HT4.o.x p4).mono ?_;rintro r x5 ⟨rfl,hx,hf⟩;have HT5:=q_ (HT4.o.frm hx hf);clear hx hf HT4 p4 n4;go_wp2_with fail
 go_end0
 exact⟨rfl,HT5.o⟩
theorem aw9 {g M P:Nat} {W w:World} {s t:Rd} {cb:Bool} {ch:Int} {cm:Int} {cs:Int} {cc:Int} {st:Bool} {lb:Bool} {ln:Int} {ob:Bool} {on:Int} {sb:Bool} {sn:Int} {kb:Bool} {kn:Int} {vb:Bool} {vn:Int} {db:Bool} {dd:Int} {dm:Int} {dy:Int} (h:Q_ (auk s=((vb,vn),t))) (hT:TkI (qz g s) g M (jb cb ch cm cs cc st lb ln ob on sb sn kb kn false 0 db dd dm dy) W w) (pW:Q_ (W.cell? ⟨P,0,none⟩=some (.pointer (some ⟨g,0,none⟩)))) (sP:Q_ (P<W.1.size/\P≠g/\P≠M)) :
 Calls prog 163 #[.pointer (some ⟨P,0,none⟩),.pointer (some ⟨M,0,none⟩)] w λr w'=>r=.returned (.tuple #[])/\TkI (qz g t) g M (jb cb ch cm cs cc st lb ln ob on sb sn kb kn vb vn db dd dm dy) W w':=by
 have HT:=q_ hT;have p0:=(hT.cell (o:=0) sP.o.1 sP.o.2.1 sP.o.2.2).trans pW.o;clear hT;go_enter func163,ntmps163;go_wp2_with fail;refine(ast h HT.o.x).mono ?_;rintro r x ⟨rfl,hx,hf⟩;have HT2:=q_ (HT.o.frm hx hf);clear hx hf HT;have m0:=HT2.o.c 14;have z0:=HT2.o.z 14;have m1:=HT2.o.c 15;have z1:=HT2.o.z 15;go_wp2_with fail
 go_end0
 exact⟨rfl,(aaz (ze (ze HT2.o 14 (.bool vb) sm) 15 (.int .i64 vn) sm) (jb cb ch cm cs cc st lb ln ob on sb sn kb kn vb vn db dd dm dy) rfl).o⟩
set_option linter.unusedSimpArgs false
abbrev bom (x:avb):Value:=bki x.1.1 x.1.2.1 x.1.2.2.1 x.1.2.2.2.1 x.1.2.2.2.2 x.2.1 x.2.2.1.1 x.2.2.1.2 x.2.2.2.1.1 x.2.2.2.1.2 x.2.2.2.2.1.1 x.2.2.2.2.1.2 x.2.2.2.2.2.1.1 x.2.2.2.2.2.1.2 x.2.2.2.2.2.2.2.1 x.2.2.2.2.2.2.2.2 x.2.2.2.2.2.2.1.1 x.2.2.2.2.2.2.1.2.1 x.2.2.2.2.2.2.1.2.2.1 x.2.2.2.2.2.2.1.2.2.2
def akr (x:avb×Int) (w:World) (r:Ending) (w':World):Prop:=r=.returned (.tuple #[bom x.1,.int .i64 x.2])/\Below w.1.size w w'
theorem ahx:(prog.info? 48).map (·.size)=some 20:=by kernel_rfl
theorem aq3 {w:World} {b:Nat} {C:Array Value} (hC:C.size=20) (h:w.rangeAt b 0 C.toList):(loadVar 48 ⟨b,0,none⟩).run prog w=.ok (.agg C) w:=by
 have:=t9 (P:=prog) w b 0 48 C.toList _ h underlying48 rfl (by rw[ahx,b0h,hC])
 simpa using this
abbrev aet (g:Nat):Obj:=.cells #[.pointer (some ⟨g,0,none⟩)] 283
abbrev fnO (P:Nat):Obj:=.cells #[.func (.func 148) #[] #[.pointer (some ⟨P,0,none⟩)]] 296
abbrev aa9 (P M N:Nat):Array Value:=#[.func (.func 150) #[] #[.pointer (some ⟨P,0,none⟩),.pointer (some ⟨M,0,none⟩),.pointer (some ⟨N,0,none⟩)],.func (.func 153) #[] #[.pointer (some ⟨P,0,none⟩),.pointer (some ⟨M,0,none⟩)],.func (.func 155) #[] #[.pointer (some ⟨P,0,none⟩),.pointer (some ⟨M,0,none⟩)],.func (.func 156) #[] #[.pointer (some ⟨P,0,none⟩),.pointer (some ⟨M,0,none⟩)],.func (.func 157) #[] #[.pointer (some ⟨P,0,none⟩),.pointer (some ⟨M,0,none⟩)],.func (.func 159) #[] #[.pointer (some ⟨P,0,none⟩),.pointer (some ⟨M,0,none⟩)],.func (.func 161) #[] #[.pointer (some ⟨P,0,none⟩),.pointer (some ⟨M,0,none⟩),.pointer (some ⟨N,0,none⟩)],.func (.func 163) #[] #[.pointer (some ⟨P,0,none⟩),.pointer (some ⟨M,0,none⟩)],.func (.func 165) #[] #[.pointer (some ⟨P,0,none⟩)]]
theorem aog {P:Program} {w:World} {a:Addr} {m:Mode} (f:_) (x:_) (y:_):(store a (.func f x y) m).run P w=stored P w a (.func f x y) m:=run_store P w a _ m rfl
theorem bcd {R:List ByteArray} {cb:Bool} {ch:Int} {cm:Int} {cs:Int} {cc:Int} {st:Bool} {lb:Bool} {ln:Int} {ob:Bool} {on:Int} {sb:Bool} {sn:Int} {kb:Bool} {kn:Int} {vb:Bool} {vn:Int} {db:Bool} {dd:Int} {dm:Int} {dy:Int} {r1 r2 r3 r4 r5 r6 r7 r8 r9:Rd} (hl:R.length=11\/R.length=12) (h1:Q_ (ajg (0,R)=((cb,ch,cm,cs,cc),r1))) (h2:Q_ (bb8 r1=(st,r2))) (h3:Q_ (adg true r2=((lb,ln),r3))) (h4:Q_ (adg false r3=((ob,on),r4))) (h5:Q_ (qu 1 4 2 0 999999 r4=((sb,sn),r5))) (h6:Q_ (qu 1 3 2 0 36000 r5=((kb,kn),r6))) (h7:Q_ (a1r r6=((db,dd,dm,dy),r7))) (h8:Q_ (auk r7=((vb,vn),r8))) (h9:Q_ (aak r8=r9)) :
 yi R=if r9.1=0 then(((cb,ch,cm,cs,cc),st,(lb,ln),(ob,on),(sb,sn),(kb,kn),(db,dd,dm,dy),(vb,vn)),0)else(aah,r9.1):=by
 have hR:bg5 (0,R)=(((cb,ch,cm,cs,cc),st,(lb,ln),(ob,on),(sb,sn),(kb,kn),(db,dd,dm,dy),(vb,vn)),r8):=by
  unfold bg5;simp only[ag9,h1.o,h2.o,h3.o,h4.o,h5.o,h6.o,h7.o,h8.o]
 unfold yi;rw[if_neg (λq=>by omega),hR];simp only;rw[h9.o]
theorem a61 (A:Option Addr) (n c:Nat) (R:List ByteArray) (w:World) (hl:R.length=n) (hA:A=none->c=0) (hs:v6 w w.1.size A R) (hz:∀t∈R,t.size<=1100000) (hkn:Q_ (n=11\/n=12)) :
 Calls prog 103 #[.slice A n c] w (akr (yi R) w):=by
 obtain⟨cb,ch,cm,cs,cc,r1,h1⟩:∃cb ch cm cs cc u,Q_ (ajg (0,R)=((cb,ch,cm,cs,cc),u)):=⟨_,_,_,_,_,_,rfl⟩;obtain⟨st,r2,h2⟩:∃st u,Q_ (bb8 r1=(st,u)):=⟨_,_,rfl⟩;obtain⟨lb,ln,r3,h3⟩:∃lb ln u,Q_ (adg true r2=((lb,ln),u)):=⟨_,_,_,rfl⟩;obtain⟨ob,on,r4,h4⟩:∃ob on u,Q_ (adg false r3=((ob,on),u)):=⟨_,_,_,rfl⟩;obtain⟨sb,sn,r5,h5⟩:∃sb sn u,Q_ (qu 1 4 2 0 999999 r4=((sb,sn),u)):=⟨_,_,_,rfl⟩;obtain⟨kb,kn,r6,h6⟩:∃kb kn u,Q_ (qu 1 3 2 0 36000 r5=((kb,kn),u)):=⟨_,_,_,rfl⟩;obtain⟨db,dd,dm,dy,r7,h7⟩:∃db dd dm dy u,Q_ (a1r r6=((db,dd,dm,dy),u)):=⟨_,_,_,_,_,rfl⟩;obtain⟨vb,vn,r8,h8⟩:∃vb vn u,Q_ (auk r7=((vb,vn),u)):=⟨_,_,_,rfl⟩;obtain⟨r9,h9⟩:∃u,Q_ (aak r8=u):=⟨_,rfl⟩;obtain⟨X,hX⟩:∃X,yi R=X:=⟨_,rfl⟩;have HT:Q_ (X=if r9.1=0 then(((cb,ch,cm,cs,cc),st,(lb,ln),(ob,on),(sb,sn),(kb,kn),(db,dd,dm,dy),(vb,vn)),0)else(aah,r9.1)):=hX.symm.trans (bcd (by rw[hl];exact hkn.o) h1 h2 h3 h4 h5 h6 h7 h8 h9)
 rw[hX];clear hX;have HB0:=q_ (qa w (.cells (jb false 0 0 0 0 false false 0 false 0 false 0 false 0 false 0 false 0 0 0) 48));have HL:=q_ (aky (c:=c) hA ((hs.below HB0.o (a8 _)).more HB0.o.size) (by have:=hkn.o;omega) hz);rw[hl]at HL;have HR0:Q_ (∀o,(w.alloc (.cells (jb false 0 0 0 0 false false 0 false 0 false 0 false 0 false 0 false 0 0 0) 48)).cell? ⟨w.1.size,o,none⟩=(jb false 0 0 0 0 false false 0 false 0 false 0 false 0 false 0 false 0 0 0)[o]?):=λo=>b8 _ _ _ _ rfl
 have HR1:Q_ (∀o,(w.alloc (.cells (jb false 0 0 0 0 false false 0 false 0 false 0 false 0 false 0 false 0 0 0) 48)).frozen? ⟨w.1.size,o,none⟩=false):=λo=>by rw[l6];exact qk _ _ _ (a8 _)
 have HZ0:Q_ ((w.alloc (.cells (jb false 0 0 0 0 false false 0 false 0 false 0 false 0 false 0 false 0 0 0) 48)).1.size=w.1.size+1):=by show _=_;simp
 have hsf:=@aog prog;clear hs hA hz hl;go_enter func103,ntmps103
 try dsimp only
 repeat (fail_if_success (show Code.wp _ (Code.seq (Code.region 1 _ _) _) _ _ _)
         first|go_values|go_skip|go_guarded|go_step|go_upon|go_back|(simp only[b3a,b3b]at *;go_simp)|(go_ite<;>go_prune<;>(try go_simp)))
 go_cut [] (λwx=>wx=w.alloc (.cells (jb false 0 0 0 0 false false 0 false 0 false 0 false 0 false 0 false 0 0 0) 48))
 case first=>
  rcases hkn.o with e|e
  ·have i1:((n:Int) != 11)=false:=by rw[b0b];omega
   clear e;go_wp2_with fail
   go_meet
   rfl
  ·have i1:((n:Int) != 11)=true:=by rw[b0r];omega
   have i2:((n:Int) != 12)=false:=by rw[b0b];omega
   clear e;go_wp2_with fail
   go_meet
   rfl
 case rest=>
 subst hcut;generalize hW0:w.alloc (.cells (jb false 0 0 0 0 false false 0 false 0 false 0 false 0 false 0 false 0 0 0) 48)=W0 at *;clear hW0;go_wp2_with fail;refine HL.o.mono ?_;rintro r w1 ⟨g,rfl,hx1,hg1,hz1,hb1⟩;have hbP:=qa w1 (aet g);have hbM:=qa (w1.alloc (aet g)) (.cells (jb false 0 0 0 0 false false 0 false 0 false 0 false 0 false 0 false 0 0 0) 48);have hbN:=qa ((w1.alloc (aet g)).alloc (.cells (jb false 0 0 0 0 false false 0 false 0 false 0 false 0 false 0 false 0 0 0) 48)) (fnO w1.1.size);have hbB:=qa (((w1.alloc (aet g)).alloc (.cells (jb false 0 0 0 0 false false 0 false 0 false 0 false 0 false 0 false 0 0 0) 48)).alloc (fnO w1.1.size)) (.cells (aa9 w1.1.size (w1.1.size+1) (w1.1.size+1+1)) 1);have hzP:(w1.alloc (aet g)).1.size=w1.1.size+1:=by simp
 have hzM:((w1.alloc (aet g)).alloc (.cells (jb false 0 0 0 0 false false 0 false 0 false 0 false 0 false 0 false 0 0 0) 48)).1.size=w1.1.size+1+1:=by simp
 have hzN:(((w1.alloc (aet g)).alloc (.cells (jb false 0 0 0 0 false false 0 false 0 false 0 false 0 false 0 false 0 0 0) 48)).alloc (fnO w1.1.size)).1.size=w1.1.size+1+1+1:=by simp
 have hzW:((((w1.alloc (aet g)).alloc (.cells (jb false 0 0 0 0 false false 0 false 0 false 0 false 0 false 0 false 0 0 0) 48)).alloc (fnO w1.1.size)).alloc (.cells (aa9 w1.1.size (w1.1.size+1) (w1.1.size+1+1)) 1)).1.size=w1.1.size+1+1+1+1:=by simp
 have hb14:Below w1.1.size w1 ((((w1.alloc (aet g)).alloc (.cells (jb false 0 0 0 0 false false 0 false 0 false 0 false 0 false 0 false 0 0 0) 48)).alloc (fnO w1.1.size)).alloc (.cells (aa9 w1.1.size (w1.1.size+1) (w1.1.size+1+1)) 1)):=qb (qb (qb hbP hbM) hbN) hbB;have pW:Q_ (((((w1.alloc (aet g)).alloc (.cells (jb false 0 0 0 0 false false 0 false 0 false 0 false 0 false 0 false 0 0 0) 48)).alloc (fnO w1.1.size)).alloc (.cells (aa9 w1.1.size (w1.1.size+1) (w1.1.size+1+1)) 1)).cell? ⟨w1.1.size,0,none⟩=some (.pointer (some ⟨g,0,none⟩))):=(n7 _ _ _ om).trans ((n7 _ _ _ om).trans ((n7 _ _ _ om).trans (b8 _ _ _ _ rfl)));have nW:Q_ (((((w1.alloc (aet g)).alloc (.cells (jb false 0 0 0 0 false false 0 false 0 false 0 false 0 false 0 false 0 0 0) 48)).alloc (fnO w1.1.size)).alloc (.cells (aa9 w1.1.size (w1.1.size+1) (w1.1.size+1+1)) 1)).cell? ⟨w1.1.size+1+1,0,none⟩=some (.func (.func 148) #[] #[.pointer (some ⟨w1.1.size,0,none⟩)])):=(n7 _ _ _ om).trans (b8 _ _ _ _ hzM.symm)
 have HBW:Q_ (∀o,((((w1.alloc (aet g)).alloc (.cells (jb false 0 0 0 0 false false 0 false 0 false 0 false 0 false 0 false 0 0 0) 48)).alloc (fnO w1.1.size)).alloc (.cells (aa9 w1.1.size (w1.1.size+1) (w1.1.size+1+1)) 1)).cell? ⟨w1.1.size+1+1+1,o,none⟩=(aa9 w1.1.size (w1.1.size+1) (w1.1.size+1+1))[o]?):=λo=>b8 _ _ _ _ hzN.symm
 have T0:Q_ (TkI (qz g (0,R)) g (w1.1.size+1) (jb false 0 0 0 0 false false 0 false 0 false 0 false 0 false 0 false 0 0 0) ((((w1.alloc (aet g)).alloc (.cells (jb false 0 0 0 0 false false 0 false 0 false 0 false 0 false 0 false 0 0 0) 48)).alloc (fnO w1.1.size)).alloc (.cells (aa9 w1.1.size (w1.1.size+1) (w1.1.size+1+1)) 1)) ((((w1.alloc (aet g)).alloc (.cells (jb false 0 0 0 0 false false 0 false 0 false 0 false 0 false 0 false 0 0 0) 48)).alloc (fnO w1.1.size)).alloc (.cells (aa9 w1.1.size (w1.1.size+1) (w1.1.size+1+1)) 1))):=
  ⟨hx1.keep hb14,λj=>(n7 _ _ _ om).trans ((n7 _ _ _ om).trans (b8 _ _ _ _ hzP.symm)),λj=>by rw[l6,l6,l6];exact qk _ _ _ om,by omega,by omega,rfl,rfl,rfl,a8 _,λ_ _ _ _=>rfl⟩
 have hz0:=HZ0.o;have sP:Q_ (w1.1.size<((((w1.alloc (aet g)).alloc (.cells (jb false 0 0 0 0 false false 0 false 0 false 0 false 0 false 0 false 0 0 0) 48)).alloc (fnO w1.1.size)).alloc (.cells (aa9 w1.1.size (w1.1.size+1) (w1.1.size+1+1)) 1)).1.size/\w1.1.size≠g/\w1.1.size≠w1.1.size+1):=⟨by omega,by omega,by omega⟩;have sN:Q_ (w1.1.size+1+1<((((w1.alloc (aet g)).alloc (.cells (jb false 0 0 0 0 false false 0 false 0 false 0 false 0 false 0 false 0 0 0) 48)).alloc (fnO w1.1.size)).alloc (.cells (aa9 w1.1.size (w1.1.size+1) (w1.1.size+1+1)) 1)).1.size/\w1.1.size+1+1≠g/\w1.1.size+1+1≠w1.1.size+1):=⟨by omega,by omega,by omega⟩;have sB:Q_ (w1.1.size+1+1+1<((((w1.alloc (aet g)).alloc (.cells (jb false 0 0 0 0 false false 0 false 0 false 0 false 0 false 0 false 0 0 0) 48)).alloc (fnO w1.1.size)).alloc (.cells (aa9 w1.1.size (w1.1.size+1) (w1.1.size+1+1)) 1)).1.size/\w1.1.size+1+1+1≠g/\w1.1.size+1+1+1≠w1.1.size+1):=⟨by omega,by omega,by omega⟩
 have hb04:=qb hb1 hb14
 have HRW:Q_ ((∀o,((((w1.alloc (aet g)).alloc (.cells (jb false 0 0 0 0 false false 0 false 0 false 0 false 0 false 0 false 0 0 0) 48)).alloc (fnO w1.1.size)).alloc (.cells (aa9 w1.1.size (w1.1.size+1) (w1.1.size+1+1)) 1)).cell? ⟨w.1.size,o,none⟩=(jb false 0 0 0 0 false false 0 false 0 false 0 false 0 false 0 false 0 0 0)[o]?) /\(∀o,((((w1.alloc (aet g)).alloc (.cells (jb false 0 0 0 0 false false 0 false 0 false 0 false 0 false 0 false 0 0 0) 48)).alloc (fnO w1.1.size)).alloc (.cells (aa9 w1.1.size (w1.1.size+1) (w1.1.size+1+1)) 1)).frozen? ⟨w.1.size,o,none⟩=false)/\Below w.1.size w ((((w1.alloc (aet g)).alloc (.cells (jb false 0 0 0 0 false false 0 false 0 false 0 false 0 false 0 false 0 0 0) 48)).alloc (fnO w1.1.size)).alloc (.cells (aa9 w1.1.size (w1.1.size+1) (w1.1.size+1+1)) 1))):=
  ⟨λo=>((qy hb04).1 _ o om).trans (HR0.o o),λo=>((qy hb04).2 _ o om).trans (HR1.o o),b2x HB0.o (hb04.mono om)⟩
 have HLT:Q_ (w.1.size<((((w1.alloc (aet g)).alloc (.cells (jb false 0 0 0 0 false false 0 false 0 false 0 false 0 false 0 false 0 0 0) 48)).alloc (fnO w1.1.size)).alloc (.cells (aa9 w1.1.size (w1.1.size+1) (w1.1.size+1+1)) 1)).1.size/\w.1.size<g/\w.1.size<w1.1.size+1):=⟨by omega,by omega,by omega⟩;clear hbP hbM hbN hbB hzP hzM hzN hzW hb14 hz0 hb04 hx1 hg1 hz1 hb1 HL HR0 HR1 HZ0 HB0;go_upto_region 7 with fail;generalize ((((w1.alloc (aet g)).alloc (.cells (jb false 0 0 0 0 false false 0 false 0 false 0 false 0 false 0 false 0 0 0) 48)).alloc (fnO w1.1.size)).alloc (.cells (aa9 w1.1.size (w1.1.size+1) (w1.1.size+1+1)) 1))=W at *;generalize w1.1.size=P at *;go_wp2_with fail;refine b42 10 ?_;rw[b2d];have q:=(T0.o.cell (o:=0) sB.o.1 sB.o.2.1 sB.o.2.2).trans (HBW.o 0);go_wp2_with fail;refine(aw2 h1 T0.o pW sP nW sN).mono ?_;rintro r x1 ⟨rfl,ht⟩;have T1:=q_ ht
 clear ht T0 q;go_wp2_with fail;rw[b2d];have q:=(T1.o.cell (o:=1) sB.o.1 sB.o.2.1 sB.o.2.2).trans (HBW.o 1);go_wp2_with fail;refine(aw3 h2 T1.o pW sP).mono ?_;rintro r x2 ⟨rfl,ht⟩;have T2:=q_ ht;clear ht T1 q;go_wp2_with fail;rw[b2d];have q:=(T2.o.cell (o:=2) sB.o.1 sB.o.2.1 sB.o.2.2).trans (HBW.o 2);go_wp2_with fail;refine(aw4 h3 T2.o pW sP).mono ?_;rintro r x3 ⟨rfl,ht⟩;have T3:=q_ ht;clear ht T2 q;go_wp2_with fail;rw[b2d];have q:=(T3.o.cell (o:=3) sB.o.1 sB.o.2.1 sB.o.2.2).trans (HBW.o 3);go_wp2_with fail;refine(aw5 h4 T3.o pW sP).mono ?_;rintro r x4 ⟨rfl,ht⟩;have T4:=q_ ht;clear ht T3 q;go_wp2_with fail;rw[b2d];have q:=(T4.o.cell (o:=4) sB.o.1 sB.o.2.1 sB.o.2.2).trans (HBW.o 4);go_wp2_with fail;refine(aw6 h5 T4.o pW sP).mono ?_;rintro r x5 ⟨rfl,ht⟩;have T5:=q_ ht;clear ht T4 q;go_wp2_with fail
 rw[b2d];have q:=(T5.o.cell (o:=5) sB.o.1 sB.o.2.1 sB.o.2.2).trans (HBW.o 5);go_wp2_with fail;refine(aw7 h6 T5.o pW sP).mono ?_;rintro r x6 ⟨rfl,ht⟩;have T6:=q_ ht;clear ht T5 q;go_wp2_with fail;rw[b2d];have q:=(T6.o.cell (o:=6) sB.o.1 sB.o.2.1 sB.o.2.2).trans (HBW.o 6);go_wp2_with fail;refine(aw8 h7 T6.o pW sP nW sN).mono ?_;rintro r x7 ⟨rfl,ht⟩;have T7:=q_ ht;clear ht T6 q;go_wp2_with fail;rw[b2d];have q:=(T7.o.cell (o:=7) sB.o.1 sB.o.2.1 sB.o.2.2).trans (HBW.o 7);go_wp2_with fail;refine(aw9 h8 T7.o pW sP).mono ?_;rintro r x8 ⟨rfl,ht⟩;have T8:=q_ ht;clear ht T7 q;go_wp2_with fail;rw[b2d];have q:=(T8.o.cell (o:=8) sB.o.1 sB.o.2.1 sB.o.2.2).trans (HBW.o 8);go_wp2_with fail;refine(asr h9 T8.o pW sP).mono ?_;rintro r x9 ⟨rfl,ht⟩;have T9:=q_ ht;clear ht T8 q;go_wp2_with fail;rw[b2d];generalize x9=y9 at *
 obtain⟨E,hE⟩:∃E,r9.1=E:=⟨_,rfl⟩;have HER:=q_ (aqb T9.o.x);rw[hE]at HER HT;clear hE;have p_:=(T9.o.cell (o:=0) sP.o.1 sP.o.2.1 sP.o.2.2).trans pW.o;have hr:∀j,y9.cell? ⟨w.1.size,j,none⟩=(jb false 0 0 0 0 false false 0 false 0 false 0 false 0 false 0 false 0 0 0)[j]?:=λj=>(T9.o.cell (by have:=HLT.o;omega) (by have:=HLT.o;omega) (by have:=HLT.o;omega)).trans (HRW.o.1 j)
 have hf:∀j,y9.frozen? ⟨w.1.size,j,none⟩=false:=λj=>(T9.o.frozen (by have:=HLT.o;omega) (by have:=HLT.o;omega) (by have:=HLT.o;omega)).trans (HRW.o.2.1 j)
 have HB9:Q_ (Below w.1.size w y9):=b2x HRW.o.2.2 (T9.o.below (by have:=HLT.o;omega) (by have:=HLT.o;omega));have hm:=T9.o.c;have HR:=q_ (show AtC y9 w.1.size (jb false 0 0 0 0 false false 0 false 0 false 0 false 0 false 0 false 0 0 0)from hr);have HRF:=q_ hf;have HRM:=q_ (a1q (show AtC y9 (P+1) (jb cb ch cm cs cc st lb ln ob on sb sn kb kn vb vn db dd dm dy)from hm));clear T9 HRW hr hf hm;go_wp2_with fail;refine HER.o.mono ?_;rintro r w' ⟨rfl,rfl⟩;clear p_ HER HBW sB sN nW;generalize P+1=M at *
 by_cases hE:E=0
 ·subst hE;have HX2:Q_ (X=(((cb,ch,cm,cs,cc),st,(lb,ln),(ob,on),(sb,sn),(kb,kn),(db,dd,dm,dy),(vb,vn)),0)):=HT.o.trans (if_pos rfl);clear HT;go_upto_region 15 with fail
  try (apply b1q;intro K_ HK_)
  apply b20;refine b0q rfl _ _ rfl M 0 rfl (jb cb ch cm cs cc st lb ln ob on sb sn kb kn vb vn db dd dm dy).toList _ HRM.o underlying48 rfl ahx ?_;refine b28 rfl _ _ _ rfl w.1.size 0 (jb cb ch cm cs cc st lb ln ob on sb sn kb kn vb vn db dd dm dy) rfl rfl (aas HR.o HRF.o rfl) ahx (by simp[Value.oneCell']) ?_;have hY:=b1u y9 w.1.size 0 (jb cb ch cm cs cc st lb ln ob on sb sn kb kn vb vn db dd dm dy).toList (aas HR.o HRF.o rfl);have HBK:=q_ (aa2 (a8 _) (jb cb ch cm cs cc st lb ln ob on sb sn kb kn vb vn db dd dm dy).toList 0 y9 HB9.o);have hld:=aq3 (C:=jb cb ch cm cs cc st lb ln ob on sb sn kb kn vb vn db dd dm dy) rfl hY;clear hY HR HRF HB9;generalize World.setCells y9 w.1.size 0 (jb cb ch cm cs cc st lb ln ob on sb sn kb kn vb vn db dd dm dy).toList=Y at *;have HLD:=q_ hld;clear hld;go_wp2_with fail;refine b9 (v:=.tuple #[bki cb ch cm cs cc st lb ln ob on sb sn kb kn vb vn db dd dm dy,.int .i64 0]) (by rw[b1p rfl];simp[asAddr,Result.andThen,HLD.o]) rfl ?_
  rw[HX2.o];exact⟨rfl,HBK.o⟩
 ·have hne:(E != 0)=true:=by rw[b0r];exact hE
  have HX2:Q_ (X=(aah,E)):=HT.o.trans (if_neg hE);clear hE HT;go_upto_region 14 with fail
  try (apply b1q;intro K_ HK_)
  apply b20;go_step;go_step;go_step;go_step;go_step;go_step;refine b28 rfl _ _ _ rfl w.1.size 0 (jb false 0 0 0 0 false false 0 false 0 false 0 false 0 false 0 false 0 0 0) rfl rfl (aas HR.o HRF.o rfl) ahx (by simp[Value.oneCell']) ?_;have hY:=b1u y9 w.1.size 0 (jb false 0 0 0 0 false false 0 false 0 false 0 false 0 false 0 false 0 0 0).toList (aas HR.o HRF.o rfl);have HBK:=q_ (aa2 (a8 _) (jb false 0 0 0 0 false false 0 false 0 false 0 false 0 false 0 false 0 0 0).toList 0 y9 HB9.o);have hld:=aq3 (C:=jb false 0 0 0 0 false false 0 false 0 false 0 false 0 false 0 false 0 0 0) rfl hY;clear hY HR HRF HB9;generalize World.setCells y9 w.1.size 0 (jb false 0 0 0 0 false false 0 false 0 false 0 false 0 false 0 false 0 0 0).toList=Y at *;have HLD:=q_ hld;clear hld;go_wp2_with fail;refine b9 (v:=.tuple #[bki false 0 0 0 0 false false 0 false 0 false 0 false 0 false 0 false 0 0 0,.int .i64 E]) (by rw[b1p rfl];simp[asAddr,Result.andThen,HLD.o]) rfl ?_
  rw[HX2.o];exact⟨rfl,HBK.o⟩
theorem ant (A:Option Addr) (n c:Nat) (w:World) (h:((n:Int) != 11)=true) (h2:((n:Int) != 12)=true):Calls prog 103 #[.slice A n c] w (akr (aah,3) w):=by
 have HB9:=q_ (qa w (.cells (jb false 0 0 0 0 false false 0 false 0 false 0 false 0 false 0 false 0 0 0) 48));have HR:Q_ (AtC (w.alloc (.cells (jb false 0 0 0 0 false false 0 false 0 false 0 false 0 false 0 false 0 0 0) 48)) w.1.size (jb false 0 0 0 0 false false 0 false 0 false 0 false 0 false 0 false 0 0 0)):=λo=>b8 _ _ _ _ rfl
 have HRF:Q_ (∀o,(w.alloc (.cells (jb false 0 0 0 0 false false 0 false 0 false 0 false 0 false 0 false 0 0 0) 48)).frozen? ⟨w.1.size,o,none⟩=false):=λo=>by rw[l6];exact qk _ _ _ (a8 _)
 go_enter func103,ntmps103
 try dsimp only
 repeat (fail_if_success (show Code.wp _ (Code.seq (Code.region 1 _ _) _) _ _ _)
         first|go_values|go_skip|go_guarded|go_step|go_upon|go_back|(simp only[b3a,b3b]at *;go_simp)|(go_ite<;>go_prune<;>(try go_simp)))
 generalize hW0:w.alloc (.cells (jb false 0 0 0 0 false false 0 false 0 false 0 false 0 false 0 false 0 0 0) 48)=W0 at *;clear hW0;go_upto_region 2 with fail
 try (apply b1q;intro K_ HK_)
 apply b20;go_step;go_step;go_step;refine b28 rfl _ _ _ rfl w.1.size 0 (jb false 0 0 0 0 false false 0 false 0 false 0 false 0 false 0 false 0 0 0) rfl rfl (aas HR.o HRF.o rfl) ahx (by simp[Value.oneCell']) ?_;have hY:=b1u W0 w.1.size 0 (jb false 0 0 0 0 false false 0 false 0 false 0 false 0 false 0 false 0 0 0).toList (aas HR.o HRF.o rfl);have HBK:=q_ (aa2 (a8 _) (jb false 0 0 0 0 false false 0 false 0 false 0 false 0 false 0 false 0 0 0).toList 0 W0 HB9.o);have hld:=aq3 (C:=jb false 0 0 0 0 false false 0 false 0 false 0 false 0 false 0 false 0 0 0) rfl hY;clear hY HR HRF HB9;generalize World.setCells W0 w.1.size 0 (jb false 0 0 0 0 false false 0 false 0 false 0 false 0 false 0 false 0 0 0).toList=Y at *;have HLD:=q_ hld;clear hld;go_wp2_with fail;refine b9 (v:=.tuple #[bki false 0 0 0 0 false false 0 false 0 false 0 false 0 false 0 false 0 0 0,.int .i64 3]) (by rw[b1p rfl];simp[asAddr,Result.andThen,HLD.o]) rfl ?_
 exact⟨rfl,HBK.o⟩
theorem a11 (A:Option Addr) (R:List ByteArray) (c:Nat) (w:World) (hA:A=none->c=0) (hs:v6 w w.1.size A R) (hz:∀t∈R,t.size<=1100000):Calls prog 103 #[.slice A R.length c] w (akr (yi R) w):=by
 by_cases h:R.length=11\/R.length=12
 ·exact a61 A R.length c R w rfl hA hs hz h
 ·rw[show yi R=(aah,3)from if_pos ⟨λq=>h (.inl q),λq=>h (.inr q)⟩];exact ant A R.length c w (by rw[b0r];omega) (by rw[b0r];omega)
structure NmD where
 k:Int
 t:ByteArray
 g:au9
 r:avb
 s:a36
 v:V4
 u:a37
def zV4:V4:=((false,0),(false,0),(false,0),(false,0))
def ar4:NmD:=⟨0,ByteArray.empty,aag,aah,yk,zV4,vv⟩
def gL (x:au9):List Value:=[.bool x.1.1,.int .i64 x.1.2.1,.int .i64 x.1.2.2.1,.int .i64 x.1.2.2.2.1,.int .i64 x.1.2.2.2.2,.bool x.2.1.1,.int .i64 x.2.1.2,.bool x.2.2.1.1,.int .i64 x.2.2.1.2,.int .i64 x.2.2.2.1,.bool x.2.2.2.2.1.1,.int .i64 x.2.2.2.2.1.2,.bool x.2.2.2.2.2.1.1,.int .i64 x.2.2.2.2.2.1.2,.bool x.2.2.2.2.2.2.1.1,.int .i64 x.2.2.2.2.2.2.1.2,.bool x.2.2.2.2.2.2.2.1.1,.int .i64 x.2.2.2.2.2.2.2.1.2,.bool x.2.2.2.2.2.2.2.2.1.1,.int .i64 x.2.2.2.2.2.2.2.2.1.2,.bool x.2.2.2.2.2.2.2.2.2.1,.int .i64 x.2.2.2.2.2.2.2.2.2.2]
def rL (x:avb):List Value:=[.bool x.1.1,.int .i64 x.1.2.1,.int .i64 x.1.2.2.1,.int .i64 x.1.2.2.2.1,.int .i64 x.1.2.2.2.2,.bool x.2.1,.bool x.2.2.1.1,.int .i64 x.2.2.1.2,.bool x.2.2.2.1.1,.int .i64 x.2.2.2.1.2,.bool x.2.2.2.2.1.1,.int .i64 x.2.2.2.2.1.2,.bool x.2.2.2.2.2.1.1,.int .i64 x.2.2.2.2.2.1.2,.bool x.2.2.2.2.2.2.2.1,.int .i64 x.2.2.2.2.2.2.2.2,.bool x.2.2.2.2.2.2.1.1,.int .i64 x.2.2.2.2.2.2.1.2.1,.int .i64 x.2.2.2.2.2.2.1.2.2.1,.int .i64 x.2.2.2.2.2.2.1.2.2.2]
def sL (x:a36) (y:Value):List Value:=[.bool x.a,.int .i64 x.f,y,.bool x.p0.1,.int .i64 x.p0.2,.bool x.p1.1,.int .i64 x.p1.2,.bool x.p2.1,.int .i64 x.p2.2]
def uL (x:a37) (y:Value):List Value:=[.int .i64 x.T,.int .i64 x.N,.int .i64 x.S,y]
def nmC (m:NmD) (x y:Value):List Value:=nmL m.k m.t (gL m.g) (rL m.r) (sL m.s x) (j5 m.v) (uL m.u y)
theorem aec (m:NmD) (x y:Value):aca (gL m.g) (rL m.r) (sL m.s x) (j5 m.v) (uL m.u y):=⟨rfl,rfl,rfl,rfl,rfl⟩
theorem aow (x:au9):xk (gL x):=xk.of rfl
theorem aox (x:avb):xk (rL x):=xk.of rfl
theorem xk.cons {v:Value} {L:List Value} (h:v.oneCell'=true) (hL:xk L):xk (v::L):=λu hu=>by
 rcases b03.1 hu with rfl|hu
 ·exact h
 ·exact hL u hu
theorem axc (x:a36) {y:Value} (h:y.oneCell'=true):xk (sL x y):=xk.cons rfl (xk.cons rfl (xk.cons h (xk.of rfl)))
theorem ao0 (x:V4):xk (j5 x):=xk.of rfl
theorem ayb (x:a37) {y:Value} (h:y.oneCell'=true):xk (uL x y):=xk.cons rfl (xk.cons rfl (xk.cons rfl (xk.cons h (xk.of rfl))))
theorem ahe.flatq {w:World} {B:Nat} {A:Option Addr} {L:List Int} (h:ahe w B A L):qf (λb=>b<B) w A (L.map (Value.int .i64)):=λj u hu=>by
 rw[b0l]at hu;cases hj:L[j]? with
 | none=>rw[hj]at hu;cases hu
 | some z=>
  rw[hj]at hu;obtain⟨hlt,rfl⟩:=b11.1 hj;obtain⟨b,off,h1,h2,h3⟩:=h j hlt;injection hu with hu
  exact⟨b,off,h1,h2,h3.trans (by rw[<- hu])⟩
theorem qf.ints {Q:Nat->Prop} {w:World} {A:Option Addr} {L:List Int} (h:qf Q w A (L.map (Value.int .i64))):ahe w w.1.size A L:=λk hk=>by
 obtain⟨b,off,h1,-,h3⟩:=h k (.int .i64 L[k]) (by rw[b0l,d7 hk];rfl);exact⟨b,off,h1,b2z w _ h3,h3⟩
def Bk (lo:Nat) (w:World) (b:Nat):Prop:=lo<=b/\b<w.1.size
theorem atl {lo:Nat} {w w':World} {A:Option Addr} {xs:List Value} (h:qf (Bk lo w) w A xs) (hb:Below w.1.size w w'):qf (Bk lo w') w' A xs:=
 (h.below hb λb q=>q.2).less λb q=>⟨q.1,i9 q.2 hb.size⟩
theorem bet {lo:Nat} {w W:World} {b o:Nat} {cs:List Value} {A:Option Addr} {xs:List Value} (h:qf (Bk lo w) w A xs) (hs:qq w W b o cs) (hl:b<lo):qf (Bk lo W) W A xs:=
 (h.keep λk q=>hs.far k (λe=>by have:=q.1;omega)).less λk q=>⟨q.1,by rw[hs.sz];exact q.2⟩
theorem bik {w:World} {A:Option Addr} {l:List Int} (h:ahe w w.1.size A l):qf (Bk 0 w) w A (l.map (Value.int .i64)):=(ahe.flatq h).less λb q=>⟨b0d _,q⟩
theorem bl7 {w:World} {A:Option Addr} {l:List V4} (h:Vws w w.1.size A l):qf (Bk 0 w) w A (vsC l):=(Vws.flatq h).less λb q=>⟨b0d _,q⟩
def SlI (lo:Nat) (w:World) (y:Value) (l:List Int):Prop:=∃A c,y=.slice A l.length c/\qf (Bk lo w) w A (l.map (Value.int .i64))
def SlV (lo:Nat) (w:World) (y:Value) (l:List V4):Prop:=∃A c,y=.slice A l.length c/\qf (Bk lo w) w A (vsC l)
theorem SlI.one {lo:Nat} {w:World} {y:Value} {l:List Int} (h:SlI lo w y l):y.oneCell'=true:=by obtain⟨A,c,rfl,-⟩:=h;rfl
theorem SlV.one {lo:Nat} {w:World} {y:Value} {l:List V4} (h:SlV lo w y l):y.oneCell'=true:=by obtain⟨A,c,rfl,-⟩:=h;rfl
theorem SlI.on {lo:Nat} {w w':World} {y:Value} {l:List Int} (h:SlI lo w y l) (hb:Below w.1.size w w'):SlI lo w' y l:=by
 obtain⟨A,c,h1,h2⟩:=h;exact⟨A,c,h1,atl h2 hb⟩
theorem SlV.on {lo:Nat} {w w':World} {y:Value} {l:List V4} (h:SlV lo w y l) (hb:Below w.1.size w w'):SlV lo w' y l:=by
 obtain⟨A,c,h1,h2⟩:=h;exact⟨A,c,h1,atl h2 hb⟩
theorem SlI.less {lo lo':Nat} {w:World} {y:Value} {l:List Int} (h:SlI lo w y l) (hl:lo'<=lo):SlI lo' w y l:=by
 obtain⟨A,c,h1,h2⟩:=h;exact⟨A,c,h1,h2.less λb q=>⟨p9 hl q.1,q.2⟩⟩
theorem SlV.less {lo lo':Nat} {w:World} {y:Value} {l:List V4} (h:SlV lo w y l) (hl:lo'<=lo):SlV lo' w y l:=by
 obtain⟨A,c,h1,h2⟩:=h;exact⟨A,c,h1,h2.less λb q=>⟨p9 hl q.1,q.2⟩⟩
theorem SlI.far {lo:Nat} {w W:World} {b o:Nat} {cs:List Value} {y:Value} {l:List Int} (h:SlI lo w y l) (hs:qq w W b o cs) (hl:b<lo):SlI lo W y l:=by
 obtain⟨A,c,h1,h2⟩:=h;exact⟨A,c,h1,bet h2 hs hl⟩
theorem SlV.far {lo:Nat} {w W:World} {b o:Nat} {cs:List Value} {y:Value} {l:List V4} (h:SlV lo w y l) (hs:qq w W b o cs) (hl:b<lo):SlV lo W y l:=by
 obtain⟨A,c,h1,h2⟩:=h;exact⟨A,c,h1,bet h2 hs hl⟩
theorem SlI.nil (lo:Nat) (w:World):SlI lo w (.slice none 0 0) []:=⟨none,0,rfl,qf.nil _ _ _⟩
theorem SlV.nil (lo:Nat) (w:World):SlV lo w (.slice none 0 0) []:=⟨none,0,rfl,qf.nil _ _ _⟩
def NmV (lo:Nat) (w:World) (C:Array Value) (m:NmD):Prop:=∃x y,C=(nmC m x y).toArray/\SlI lo w x m.s.ids/\SlV lo w y m.u.L
theorem NmV.on {lo:Nat} {w w':World} {C:Array Value} {m:NmD} (h:NmV lo w C m) (hb:Below w.1.size w w'):NmV lo w' C m:=by
 obtain⟨x,y,h1,h2,h3⟩:=h;exact⟨x,y,h1,h2.on hb,h3.on hb⟩
theorem NmV.less {lo lo':Nat} {w:World} {C:Array Value} {m:NmD} (h:NmV lo w C m) (hl:lo'<=lo):NmV lo' w C m:=by
 obtain⟨x,y,h1,h2,h3⟩:=h;exact⟨x,y,h1,h2.less hl,h3.less hl⟩
theorem NmV.far {lo:Nat} {w W:World} {b o:Nat} {cs:List Value} {C:Array Value} {m:NmD} (h:NmV lo w C m) (hs:qq w W b o cs) (hl:b<lo):NmV lo W C m:=by
 obtain⟨x,y,h1,h2,h3⟩:=h;exact⟨x,y,h1,h2.far hs hl,h3.far hs hl⟩
theorem a9a (m:NmD) (x y:Value):(nmC m x y).length=65:=abf (aec m x y)
theorem NmV.len {lo:Nat} {w:World} {C:Array Value} {m:NmD} (h:NmV lo w C m):C.size=65:=by
 obtain⟨x,y,rfl,-⟩:=h;rw[o6,a9a]
theorem NmV.ones {lo:Nat} {w:World} {C:Array Value} {m:NmD} (h:NmV lo w C m):C.all (·.oneCell')=true:=by
 obtain⟨x,y,rfl,h2,h3⟩:=h;exact xk.arr (yc (aow _) (aox _) (axc _ h2.one) (ao0 _) (ayb _ h3.one))
theorem NmV.zero (lo:Nat) (w:World):NmV lo w zNm ar4:=⟨_,_,rfl,SlI.nil lo w,SlV.nil lo w⟩
def bkx (lo:Nat) (w:World) (v:Value) (m:NmD):Prop:=
 (m.k=1/\v=.iface 239 (.agg (gL m.g).toArray)) \/(m.k=2/\v=.iface 243 (.agg (rL m.r).toArray)) \/
 (m.k=3/\∃x,v=.iface 247 (.agg (sL m.s x).toArray)/\SlI lo w x m.s.ids) \/(m.k=4/\v=.iface 251 (.agg (j5 m.v).toArray)) \/
 (m.k=5/\∃x,v=.iface 255 (.agg (uL m.u x).toArray)/\SlV lo w x m.u.L) \/(¬(1<=m.k/\m.k<=5)/\v=.nilIface)
def aay (t:ByteArray) (m:NmD):NmD:=
 if m.k=1 then⟨1,t,m.g,aah,yk,zV4,vv⟩else if m.k=2 then⟨2,t,aag,m.r,yk,zV4,vv⟩else if m.k=3 then⟨3,t,aag,aah,m.s,zV4,vv⟩
 else if m.k=4 then⟨4,t,aag,aah,yk,m.v,vv⟩else if m.k=5 then⟨5,t,aag,aah,yk,zV4,m.u⟩else⟨0,t,aag,aah,yk,zV4,vv⟩
def ade (k:Int):ByteArray:=if k=1 then⟨#[71,71,65]⟩else if k=2 then⟨#[82,77,67]⟩else if k=3 then⟨#[71,83,65]⟩else if k=4 then⟨#[86,84,71]⟩else if k=5 then⟨#[71,83,86]⟩else⟨#[]⟩
theorem bgk {t:ByteArray} {m:NmD} (h:m.k=1):aay t m=⟨1,t,m.g,aah,yk,zV4,vv⟩/\ade m.k=⟨#[71,71,65]⟩:=⟨if_pos h,if_pos h⟩
theorem bgl {t:ByteArray} {m:NmD} (h:m.k=2):aay t m=⟨2,t,aag,m.r,yk,zV4,vv⟩/\ade m.k=⟨#[82,77,67]⟩:=by simp[aay,ade,h]
theorem bgm {t:ByteArray} {m:NmD} (h:m.k=3):aay t m=⟨3,t,aag,aah,m.s,zV4,vv⟩/\ade m.k=⟨#[71,83,65]⟩:=by simp[aay,ade,h]
theorem bgn {t:ByteArray} {m:NmD} (h:m.k=4):aay t m=⟨4,t,aag,aah,yk,m.v,vv⟩/\ade m.k=⟨#[86,84,71]⟩:=by simp[aay,ade,h]
theorem bgo {t:ByteArray} {m:NmD} (h:m.k=5):aay t m=⟨5,t,aag,aah,yk,zV4,m.u⟩/\ade m.k=⟨#[71,83,86]⟩:=by simp[aay,ade,h]
theorem a9d {t:ByteArray} {m:NmD} (h:¬(1<=m.k/\m.k<=5)):aay t m=⟨0,t,aag,aah,yk,zV4,vv⟩/\ade m.k=⟨#[]⟩:=by
 unfold aay ade;rw[if_neg om,if_neg om,if_neg om,if_neg om,if_neg om,if_neg om,if_neg om,if_neg om,if_neg om,if_neg om];exact⟨rfl,rfl⟩
theorem a59 {lo:Nat} {v:Value} {m:NmD} {w:World} {t:ByteArray} (h:bkx lo w v m) (h1:m.s.ids.length<=1100000) (h2:m.u.L.length<=1100000) :
 Calls prog 84 #[.string t,v] w λe w'=>∃C,e=.returned (.tuple #[.agg C,.string (ade m.k)])/\NmV w.1.size w' C (aay t m)/\Below w.1.size w w':=by
 rcases h with⟨hk,rfl⟩|⟨hk,rfl⟩|⟨hk,x,rfl,A,c,rfl,hs⟩|⟨hk,rfl⟩|⟨hk,x,rfl,A,c,rfl,hs⟩|⟨hk,rfl⟩
 ·rw[(bgk (t:=t) hk).1,(bgk (t:=t) hk).2];refine(bgb (G:=gL m.g) rfl (aow _) w).mono ?_;rintro e w' ⟨rfl,hb⟩;exact⟨_,rfl,⟨_,_,rfl,SlI.nil _ _,SlV.nil _ _⟩,hb⟩
 ·rw[(bgl (t:=t) hk).1,(bgl (t:=t) hk).2];refine(bgc (R:=rL m.r) rfl (aox _) w).mono ?_;rintro e w' ⟨rfl,hb⟩;exact⟨_,rfl,⟨_,_,rfl,SlI.nil _ _,SlV.nil _ _⟩,hb⟩
 ·rw[(bgm (t:=t) hk).1,(bgm (t:=t) hk).2];refine(bgd w (a:=m.s.a) (f:=m.s.f) (A:=A) (c:=c) (D:=m.s.ids) (b0:=m.s.p0.1) (n0:=m.s.p0.2) (b1:=m.s.p1.1) (n1:=m.s.p1.2) (b2:=m.s.p2.1) (n2:=m.s.p2.2) (hs.less λb q=>q.2) h1).mono ?_;rintro e w' ⟨B,d,rfl,hf,hb⟩;exact⟨_,rfl,⟨_,_,rfl,⟨B,d,rfl,hf⟩,SlV.nil _ _⟩,hb⟩
 ·rw[(bgn (t:=t) hk).1,(bgn (t:=t) hk).2];refine(bge (V:=j5 m.v) rfl (ao0 _) w).mono ?_;rintro e w' ⟨rfl,hb⟩;exact⟨_,rfl,⟨_,_,rfl,SlI.nil _ _,SlV.nil _ _⟩,hb⟩
 ·rw[(bgo (t:=t) hk).1,(bgo (t:=t) hk).2];refine(bgf w (T:=m.u.T) (N:=m.u.N) (S:=m.u.S) (A:=A) (c:=c) (D:=m.u.L) (hs.less λb q=>q.2) h2).mono ?_;rintro e w' ⟨B,d,rfl,hf,hb⟩;exact⟨_,rfl,⟨_,_,rfl,SlI.nil _ _,⟨B,d,rfl,hf⟩⟩,hb⟩
 ·rw[(a9d (t:=t) hk).1,(a9d (t:=t) hk).2];refine(bbs w).mono ?_;rintro e w' ⟨rfl,hb⟩;exact⟨_,rfl,⟨_,_,rfl,SlI.nil _ _,SlV.nil _ _⟩,hb⟩
theorem ali:(prog.info? 150).map (·.size)=some 3:=by kernel_rfl
