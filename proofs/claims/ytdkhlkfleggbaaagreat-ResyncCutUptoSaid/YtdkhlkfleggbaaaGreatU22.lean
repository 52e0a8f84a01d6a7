/- Parts. -/
import Derived.Test.YtdkhlkfleggbaaaGreatU21
import Derived.Test.YtdkhlkfleggbaaaGreatU16
namespace Go.Proofs.YtdkhlkfleggbaaaGreat
set_option maxHeartbeats 16000000
set_option maxRecDepth 8000
open Lib (hid)
open Tryz
set_option linter.unusedVariables false
open Go.RowKit
set_option linter.unusedSimpArgs false
theorem asf {g:Nat} {s t:Rd} {b:Bool} {n:Int} {w:World} (ht:Hid (at1 s=((b,n),t))) (hp:qz g s w):Calls prog 164 #[.pointer (some ⟨g,0,none⟩)] w (jv g (jo b n) t w):=by
 obtain⟨b0,n0,s1,h1⟩:∃b n u,Hid (qs 1 3 1 0 1800 s=((b,n),u)):=⟨_,_,_,rfl⟩;obtain⟨d,s2,hd⟩:∃d u,Hid (qv s1=(d,u)):=⟨_,_,rfl⟩;have ht:=ht.out;unfold at1 at ht;rw[h1.out]at ht;simp only at ht;rw[hd.out]at ht;simp only at ht;have hin:=bfu h1.out ⟨by omega,by omega⟩;have hw:Hid (IntKind.i64.wrap (-n0)=-n0):=b00 _ om;have hE:(d.toList==[69])=decide (d=eT):=afm d 69;have hW:(d.toList==[87])=decide (d=wT):=afm d 87;have hZ:=adg d;have nEW:¬eT=wT:=by decide
 have nEZ:¬eT=ByteArray.empty:=by decide
 have nWZ:¬wT=ByteArray.empty:=by decide
 have nWE:¬wT=eT:=by decide
 have nZE:¬ByteArray.empty=eT:=by decide
 have nZW:¬ByteArray.empty=wT:=by decide
 unfold bf6 at ht
 by_cases dE:d=eT
 ·subst dE;simp only[nEW,nEZ,decide_true,decide_false]at hE hW hZ;cases b0
  ·rw[if_pos (.inr ⟨rfl,nEZ⟩)]at ht;injection ht with e1 e2
   injection e1 with e1 e3
   subst e1 e3;exact al8 h1 hd e2 hE hW hZ hw hp
  ·rw[if_neg (by simp[nEW]),if_neg nEW]at ht;injection ht with e1 e2
   injection e1 with e1 e3
   subst e1 e3;exact anu h1 hd e2 hE hW hZ hw hp
 by_cases dW:d=wT
 ·subst dW;simp only[nWE,nWZ,decide_true,decide_false]at hE hW hZ;cases b0
  ·rw[if_pos (.inr ⟨rfl,nWZ⟩)]at ht;injection ht with e1 e2
   injection e1 with e1 e3
   subst e1 e3;exact ama h1 hd e2 hE hW hZ hw hp
  ·rw[if_neg sm,if_pos rfl]at ht;injection ht with e1 e2
   injection e1 with e1 e3
   subst e1 e3;exact anw h1 hd e2 hE hW hZ hw hp
 rw[o3 dE]at hE;rw[o3 dW]at hW
 by_cases dZ:d=ByteArray.empty
 ·rw[p9 dZ]at hZ;cases b0
  ·rw[if_neg (by rw[dZ];simp),if_neg dW]at ht;injection ht with e1 e2
   injection e1 with e1 e3
   subst e1 e3;exact amb h1 hd e2 hE hW hZ hw hp
  ·rw[if_pos (.inl ⟨rfl,dE,dW⟩)]at ht;injection ht with e1 e2
   injection e1 with e1 e3
   subst e1 e3;exact anx h1 hd e2 hE hW hZ hw hp
 ·rw[o3 dZ]at hZ;cases b0
  ·rw[if_pos (.inr ⟨rfl,dZ⟩)]at ht;injection ht with e1 e2
   injection e1 with e1 e3
   subst e1 e3;exact al9 h1 hd e2 hE hW hZ hw hp
  ·rw[if_pos (.inl ⟨rfl,dE,dW⟩)]at ht;injection ht with e1 e2
   injection e1 with e1 e3
   subst e1 e3;exact anv h1 hd e2 hE hW hZ hw hp
theorem ak8 {g P:Nat} {s t:Rd} {E:Int} {w:World} (ht:Hid (xt E s=t)) (hp:qz g s w) (p0:w.cell? ⟨P,0,none⟩=some (.pointer (some ⟨g,0,none⟩))):Calls prog 148 #[.int .i64 E,.pointer (some ⟨P,0,none⟩)] w (jv g (.tuple #[]) t w):=by
 have HP:=hid hp;clear hp;go_enter func148,ntmps148;go_wp2_with fail;refine(xm ht HP.out).mono ?_;rintro r w1 ⟨rfl,hx,hf⟩;have HX:=hid (o4 hx hf);clear hx hf;go_wp2_with fail
 go_end0
 exact⟨rfl,HX.out.1,HX.out.2⟩
theorem asd {g M P:Nat} {C:Array Value} {W w:World} {s t:Rd} (h:Hid (aaf s=t)) (hT:TkI (qz g s) g M C W w) (pW:Hid (W.cell? ⟨P,0,none⟩=some (.pointer (some ⟨g,0,none⟩)))) (sP:Hid (P<W.1.size∧P≠g∧P≠M)) :
 Calls prog 165 #[.pointer (some ⟨P,0,none⟩)] w fun r w'=>r=.returned (.tuple #[])∧TkI (qz g t) g M C W w':=by
 have HT:=hid hT;have p0:=(hT.cell (o:=0) sP.out.1 sP.out.2.1 sP.out.2.2).trans pW.out;clear hT;go_enter func165,ntmps165;go_wp2_with fail;refine(a07 h HT.out.x).mono ?_;rintro r x ⟨rfl,hx,hf⟩;have HT2:=hid (HT.out.frm hx hf);clear hx hf;go_wp2_with fail
 go_end0
 exact⟨rfl,HT2.out⟩
theorem awd {g M P N:Nat} {W w:World} {s t:Rd} {cb:Bool} {ch:Int} {cm:Int} {cs:Int} {cc:Int} (h:Hid (ai9 s=((cb,ch,cm,cs,cc),t))) (hT:TkI (qz g s) g M (xz false 0 0 0 0 false false 0 false 0 false 0 false 0 false 0 false 0 0 0) W w) (pW:Hid (W.cell? ⟨P,0,none⟩=some (.pointer (some ⟨g,0,none⟩)))) (sP:Hid (P<W.1.size∧P≠g∧P≠M)) (nW:Hid (W.cell? ⟨N,0,none⟩=some (.func (.func 148) #[] #[.pointer (some ⟨P,0,none⟩)]))) (sN:Hid (N<W.1.size∧N≠g∧N≠M)) :
 Calls prog 150 #[.pointer (some ⟨P,0,none⟩),.pointer (some ⟨M,0,none⟩),.pointer (some ⟨N,0,none⟩)] w fun r w'=>r=.returned (.tuple #[])∧TkI (qz g t) g M (xz cb ch cm cs cc false false 0 false 0 false 0 false 0 false 0 false 0 0 0) W w':=by
 have HT:=hid hT;have p0:=(hT.cell (o:=0) sP.out.1 sP.out.2.1 sP.out.2.2).trans pW.out;clear hT;obtain⟨a,s1,ha⟩:∃a s1,Hid (qv s=(a,s1)):=⟨_,_,rfl⟩;have hsm:=ad0 ha HT.out.x
 obtain⟨E,ht1,ht2⟩:∃E,Hid (aah a.data.toList=((cb,ch,cm,cs,cc),E))∧Hid (xt E s1=t):=by
  have q:=h.out;unfold ai9 at q;rw[ha.out]at q;injection q with q1 q2
  exact⟨_,b5f q1 rfl,q2⟩
 go_enter func150,ntmps150;go_wp2_with fail;refine(zc ha HT.out.x).mono ?_;rintro r x1 ⟨rfl,hx,hf⟩;have HT1:=hid (HT.out.frm hx hf);clear hx hf HT p0;go_wp2_with fail;refine(amx a _ hsm).mono ?_;rw[ht1.out];rintro r x2 ⟨rfl,hb2⟩;dsimp only;have hbc:=qa x2 (aat cb ch cm cs cc);have hb3:=qb hb2 hbc;have HT3:=hid (HT1.out.keep (Y:=qz g s1) (HT1.out.x.keep hb3) hb3);have HC3:Hid (∀o,(x2.alloc (aat cb ch cm cs cc)).cell? ⟨x2.1.size,o,none⟩=(#[Value.bool cb,.int .i64 ch,.int .i64 cm,.int .i64 cs,.int .i64 cc]:Array Value)[o]?):=fun o=>b8 _ _ _ _ rfl
 have HZM:Hid (M<x2.1.size):=e9 HT1.out.mz hb2.size;clear hbc hb2 hb3 HT1;go_upto_region 1 with fail;generalize hx3:x2.alloc (aat cb ch cm cs cc)=x3 at *;generalize x2.1.size=x2z at *;clear hx3;have m0:=HT3.out.c 0;have z0:=HT3.out.z 0;have m1:=HT3.out.c 1;have z1:=HT3.out.z 1;have m2:=HT3.out.c 2;have z2:=HT3.out.z 2;have m3:=HT3.out.c 3;have z3:=HT3.out.z 3;have m4:=HT3.out.c 4;have z4:=HT3.out.z 4;have c0:x3.cell? ⟨x2z,0,none⟩=some (.bool cb):=HC3.out 0;have c1:x3.cell? ⟨x2z,1,none⟩=some (.int .i64 ch):=HC3.out 1;have c2:x3.cell? ⟨x2z,2,none⟩=some (.int .i64 cm):=HC3.out 2;have c3:x3.cell? ⟨x2z,3,none⟩=some (.int .i64 cs):=HC3.out 3;have c4:x3.cell? ⟨x2z,4,none⟩=some (.int .i64 cc):=HC3.out 4;go_upto_region 2 with fail;have HT4:=aav (zf (zf (zf (zf (zf HT3.out 0 (.bool cb) sm) 1 (.int .i64 ch) sm) 2 (.int .i64 cm) sm) 3 (.int .i64 cs) sm) 4 (.int .i64 cc) sm) (xz cb ch cm cs cc false false 0 false 0 false 0 false 0 false 0 false 0 0 0) rfl
 clear HT3 m0 z0 c0 m1 z1 c1 m2 z2 c2 m3 z3 c3 m4 z4 c4;generalize (((((x3.setCell ⟨M,0,none⟩ (.bool cb)).setCell ⟨M,1,none⟩ (.int .i64 ch)).setCell ⟨M,2,none⟩ (.int .i64 cm)).setCell ⟨M,3,none⟩ (.int .i64 cs)).setCell ⟨M,4,none⟩ (.int .i64 cc))=y at *;have p4:=(HT4.out.cell (o:=0) sP.out.1 sP.out.2.1 sP.out.2.2).trans pW.out;have n4:=(HT4.out.cell (o:=0) sN.out.1 sN.out.2.1 sN.out.2.2).trans nW.out;go_wp2_with fail;refine(ak8 ht2 HT4.out.x p4).mono ?_;rintro r x5 ⟨rfl,hx,hf⟩;have HT5:=hid (HT4.out.frm hx hf);clear hx hf HT4 p4 n4;go_wp2_with fail
 go_end0
 exact⟨rfl,HT5.out⟩
theorem awe {g M P:Nat} {W w:World} {s t:Rd} {cb:Bool} {ch:Int} {cm:Int} {cs:Int} {cc:Int} {st:Bool} (h:Hid (baz s=(st,t))) (hT:TkI (qz g s) g M (xz cb ch cm cs cc false false 0 false 0 false 0 false 0 false 0 false 0 0 0) W w) (pW:Hid (W.cell? ⟨P,0,none⟩=some (.pointer (some ⟨g,0,none⟩)))) (sP:Hid (P<W.1.size∧P≠g∧P≠M)) :
 Calls prog 153 #[.pointer (some ⟨P,0,none⟩),.pointer (some ⟨M,0,none⟩)] w fun r w'=>r=.returned (.tuple #[])∧TkI (qz g t) g M (xz cb ch cm cs cc st false 0 false 0 false 0 false 0 false 0 false 0 0 0) W w':=by
 have HT:=hid hT;have p0:=(hT.cell (o:=0) sP.out.1 sP.out.2.1 sP.out.2.2).trans pW.out;clear hT;go_enter func153,ntmps153;go_wp2_with fail;refine(asg h HT.out.x).mono ?_;rintro r x ⟨rfl,hx,hf⟩;have HT2:=hid (HT.out.frm hx hf);clear hx hf HT;have m0:=HT2.out.c 5;have z0:=HT2.out.z 5;go_wp2_with fail
 go_end0
 exact⟨rfl,(aav (zf HT2.out 5 (.bool st) sm) (xz cb ch cm cs cc st false 0 false 0 false 0 false 0 false 0 false 0 0 0) rfl).out⟩
theorem awf {g M P:Nat} {W w:World} {s t:Rd} {cb:Bool} {ch:Int} {cm:Int} {cs:Int} {cc:Int} {st:Bool} {lb:Bool} {ln:Int} (h:Hid (ac9 true s=((lb,ln),t))) (hT:TkI (qz g s) g M (xz cb ch cm cs cc st false 0 false 0 false 0 false 0 false 0 false 0 0 0) W w) (pW:Hid (W.cell? ⟨P,0,none⟩=some (.pointer (some ⟨g,0,none⟩)))) (sP:Hid (P<W.1.size∧P≠g∧P≠M)) :
 Calls prog 155 #[.pointer (some ⟨P,0,none⟩),.pointer (some ⟨M,0,none⟩)] w fun r w'=>r=.returned (.tuple #[])∧TkI (qz g t) g M (xz cb ch cm cs cc st lb ln false 0 false 0 false 0 false 0 false 0 0 0) W w':=by
 have HT:=hid hT;have p0:=(hT.cell (o:=0) sP.out.1 sP.out.2.1 sP.out.2.2).trans pW.out;clear hT;go_enter func155,ntmps155;go_wp2_with fail;refine(avc h HT.out.x).mono ?_;rintro r x ⟨rfl,hx,hf⟩;have HT2:=hid (HT.out.frm hx hf);clear hx hf HT;have m0:=HT2.out.c 6;have z0:=HT2.out.z 6;have m1:=HT2.out.c 7;have z1:=HT2.out.z 7;go_wp2_with fail
 go_end0
 exact⟨rfl,(aav (zf (zf HT2.out 6 (.bool lb) sm) 7 (.int .i64 ln) sm) (xz cb ch cm cs cc st lb ln false 0 false 0 false 0 false 0 false 0 0 0) rfl).out⟩
theorem awg {g M P:Nat} {W w:World} {s t:Rd} {cb:Bool} {ch:Int} {cm:Int} {cs:Int} {cc:Int} {st:Bool} {lb:Bool} {ln:Int} {ob:Bool} {on:Int} (h:Hid (ac9 false s=((ob,on),t))) (hT:TkI (qz g s) g M (xz cb ch cm cs cc st lb ln false 0 false 0 false 0 false 0 false 0 0 0) W w) (pW:Hid (W.cell? ⟨P,0,none⟩=some (.pointer (some ⟨g,0,none⟩)))) (sP:Hid (P<W.1.size∧P≠g∧P≠M)) :
 Calls prog 156 #[.pointer (some ⟨P,0,none⟩),.pointer (some ⟨M,0,none⟩)] w fun r w'=>r=.returned (.tuple #[])∧TkI (qz g t) g M (xz cb ch cm cs cc st lb ln ob on false 0 false 0 false 0 false 0 0 0) W w':=by
 have HT:=hid hT;have p0:=(hT.cell (o:=0) sP.out.1 sP.out.2.1 sP.out.2.2).trans pW.out;clear hT;go_enter func156,ntmps156;go_wp2_with fail;refine(avc h HT.out.x).mono ?_;rintro r x ⟨rfl,hx,hf⟩;have HT2:=hid (HT.out.frm hx hf);clear hx hf HT;have m0:=HT2.out.c 8;have z0:=HT2.out.z 8;have m1:=HT2.out.c 9;have z1:=HT2.out.z 9;go_wp2_with fail
 go_end0
 exact⟨rfl,(aav (zf (zf HT2.out 8 (.bool ob) sm) 9 (.int .i64 on) sm) (xz cb ch cm cs cc st lb ln ob on false 0 false 0 false 0 false 0 0 0) rfl).out⟩
theorem awh {g M P:Nat} {W w:World} {s t:Rd} {cb:Bool} {ch:Int} {cm:Int} {cs:Int} {cc:Int} {st:Bool} {lb:Bool} {ln:Int} {ob:Bool} {on:Int} {sb:Bool} {sn:Int} (h:Hid (qs 1 4 2 0 999999 s=((sb,sn),t))) (hT:TkI (qz g s) g M (xz cb ch cm cs cc st lb ln ob on false 0 false 0 false 0 false 0 0 0) W w) (pW:Hid (W.cell? ⟨P,0,none⟩=some (.pointer (some ⟨g,0,none⟩)))) (sP:Hid (P<W.1.size∧P≠g∧P≠M)) :
 Calls prog 157 #[.pointer (some ⟨P,0,none⟩),.pointer (some ⟨M,0,none⟩)] w fun r w'=>r=.returned (.tuple #[])∧TkI (qz g t) g M (xz cb ch cm cs cc st lb ln ob on sb sn false 0 false 0 false 0 0 0) W w':=by
 have HT:=hid hT;have p0:=(hT.cell (o:=0) sP.out.1 sP.out.2.1 sP.out.2.2).trans pW.out;clear hT;go_enter func157,ntmps157
 go_region_with (first|(go_at_call 158;refine(awl _).mono ?_;rintro r y3 ⟨rfl,hb2⟩;have hbb:=b2k (aca (n6 w.1.size w)) hb2;have T2:=hid (HT.out.keep (Y:=qz g s) (HT.out.x.keep hbb) hbb);have zp:=(T2.out.cell (o:=0) sP.out.1 sP.out.2.1 sP.out.2.2).trans pW.out;clear hbb hb2)|(go_at_call 136;refine(ki h T2.out.x).mono ?_;rintro r y4 ⟨rfl,hx,hf⟩;have T3:=hid (T2.out.frm hx hf);have m0:=T3.out.c 10;have m1:=T3.out.c 11;have z0:=T3.out.z 10;have z1:=T3.out.z 11;clear hx hf))
 all_goals go_wp2_with fail
 all_goals go_end0
 all_goals exact⟨rfl,(aav (zf (zf T3.out 10 (.bool sb) sm) 11 (.int .i64 sn) sm) (xz cb ch cm cs cc st lb ln ob on sb sn false 0 false 0 false 0 0 0) rfl).out⟩
theorem awi {g M P:Nat} {W w:World} {s t:Rd} {cb:Bool} {ch:Int} {cm:Int} {cs:Int} {cc:Int} {st:Bool} {lb:Bool} {ln:Int} {ob:Bool} {on:Int} {sb:Bool} {sn:Int} {kb:Bool} {kn:Int} (h:Hid (qs 1 3 2 0 36000 s=((kb,kn),t))) (hT:TkI (qz g s) g M (xz cb ch cm cs cc st lb ln ob on sb sn false 0 false 0 false 0 0 0) W w) (pW:Hid (W.cell? ⟨P,0,none⟩=some (.pointer (some ⟨g,0,none⟩)))) (sP:Hid (P<W.1.size∧P≠g∧P≠M)) :
 Calls prog 159 #[.pointer (some ⟨P,0,none⟩),.pointer (some ⟨M,0,none⟩)] w fun r w'=>r=.returned (.tuple #[])∧TkI (qz g t) g M (xz cb ch cm cs cc st lb ln ob on sb sn kb kn false 0 false 0 0 0) W w':=by
 have HT:=hid hT;have p0:=(hT.cell (o:=0) sP.out.1 sP.out.2.1 sP.out.2.2).trans pW.out;clear hT;go_enter func159,ntmps159
 go_region_with (first|(go_at_call 160;refine(ase _).mono ?_;rintro r y3 ⟨rfl,hb2⟩;have hbb:=b2k (aca (n6 w.1.size w)) hb2;have T2:=hid (HT.out.keep (Y:=qz g s) (HT.out.x.keep hbb) hbb);have zp:=(T2.out.cell (o:=0) sP.out.1 sP.out.2.1 sP.out.2.2).trans pW.out;clear hbb hb2)|(go_at_call 136;refine(ki h T2.out.x).mono ?_;rintro r y4 ⟨rfl,hx,hf⟩;have T3:=hid (T2.out.frm hx hf);have m0:=T3.out.c 12;have m1:=T3.out.c 13;have z0:=T3.out.z 12;have z1:=T3.out.z 13;clear hx hf))
 all_goals go_wp2_with fail
 all_goals go_end0
 all_goals exact⟨rfl,(aav (zf (zf T3.out 12 (.bool kb) sm) 13 (.int .i64 kn) sm) (xz cb ch cm cs cc st lb ln ob on sb sn kb kn false 0 false 0 0 0) rfl).out⟩
theorem awj {g M P N:Nat} {W w:World} {s t:Rd} {cb:Bool} {ch:Int} {cm:Int} {cs:Int} {cc:Int} {st:Bool} {lb:Bool} {ln:Int} {ob:Bool} {on:Int} {sb:Bool} {sn:Int} {kb:Bool} {kn:Int} {db:Bool} {dd:Int} {dm:Int} {dy:Int} (h:Hid (a0x s=((db,dd,dm,dy),t))) (hT:TkI (qz g s) g M (xz cb ch cm cs cc st lb ln ob on sb sn kb kn false 0 false 0 0 0) W w) (pW:Hid (W.cell? ⟨P,0,none⟩=some (.pointer (some ⟨g,0,none⟩)))) (sP:Hid (P<W.1.size∧P≠g∧P≠M)) (nW:Hid (W.cell? ⟨N,0,none⟩=some (.func (.func 148) #[] #[.pointer (some ⟨P,0,none⟩)]))) (sN:Hid (N<W.1.size∧N≠g∧N≠M)) :
 Calls prog 161 #[.pointer (some ⟨P,0,none⟩),.pointer (some ⟨M,0,none⟩),.pointer (some ⟨N,0,none⟩)] w fun r w'=>r=.returned (.tuple #[])∧TkI (qz g t) g M (xz cb ch cm cs cc st lb ln ob on sb sn kb kn false 0 db dd dm dy) W w':=by
 have HT:=hid hT;have p0:=(hT.cell (o:=0) sP.out.1 sP.out.2.1 sP.out.2.2).trans pW.out;clear hT;obtain⟨a,s1,ha⟩:∃a s1,Hid (qv s=(a,s1)):=⟨_,_,rfl⟩;have hsm:=ad0 ha HT.out.x
 obtain⟨E,ht1,ht2⟩:∃E,Hid (ach a.data.toList=((db,dd,dm,dy),E))∧Hid (xt E s1=t):=by
  have q:=h.out;unfold a0x at q;rw[ha.out]at q;injection q with q1 q2
  exact⟨_,b5f q1 rfl,q2⟩
 go_enter func161,ntmps161;go_wp2_with fail;refine(zc ha HT.out.x).mono ?_;rintro r x1 ⟨rfl,hx,hf⟩;have HT1:=hid (HT.out.frm hx hf);clear hx hf HT p0;go_wp2_with fail;refine(ay4 a _ hsm).mono ?_;rw[ht1.out];rintro r x2 ⟨rfl,hb2⟩;dsimp only;have hbc:=qa x2 (alu db dd dm dy);have hb3:=qb hb2 hbc;have HT3:=hid (HT1.out.keep (Y:=qz g s1) (HT1.out.x.keep hb3) hb3);have HC3:Hid (∀o,(x2.alloc (alu db dd dm dy)).cell? ⟨x2.1.size,o,none⟩=(#[Value.bool db,.int .i64 dd,.int .i64 dm,.int .i64 dy]:Array Value)[o]?):=fun o=>b8 _ _ _ _ rfl
 have HZM:Hid (M<x2.1.size):=e9 HT1.out.mz hb2.size;clear hbc hb2 hb3 HT1;go_upto_region 1 with fail;generalize hx3:x2.alloc (alu db dd dm dy)=x3 at *;generalize x2.1.size=x2z at *;clear hx3;have m0:=HT3.out.c 16;have z0:=HT3.out.z 16;have m1:=HT3.out.c 17;have z1:=HT3.out.z 17;have m2:=HT3.out.c 18;have z2:=HT3.out.z 18;have m3:=HT3.out.c 19;have z3:=HT3.out.z 19;have c0:x3.cell? ⟨x2z,0,none⟩=some (.bool db):=HC3.out 0;have c1:x3.cell? ⟨x2z,1,none⟩=some (.int .i64 dd):=HC3.out 1;have c2:x3.cell? ⟨x2z,2,none⟩=some (.int .i64 dm):=HC3.out 2;have c3:x3.cell? ⟨x2z,3,none⟩=some (.int .i64 dy):=HC3.out 3;go_upto_region 2 with fail;have HT4:=aav (zf (zf (zf (zf HT3.out 16 (.bool db) sm) 17 (.int .i64 dd) sm) 18 (.int .i64 dm) sm) 19 (.int .i64 dy) sm) (xz cb ch cm cs cc st lb ln ob on sb sn kb kn false 0 db dd dm dy) rfl;clear HT3 m0 z0 c0 m1 z1 c1 m2 z2 c2 m3 z3 c3
 generalize ((((x3.setCell ⟨M,16,none⟩ (.bool db)).setCell ⟨M,17,none⟩ (.int .i64 dd)).setCell ⟨M,18,none⟩ (.int .i64 dm)).setCell ⟨M,19,none⟩ (.int .i64 dy))=y at *;have p4:=(HT4.out.cell (o:=0) sP.out.1 sP.out.2.1 sP.out.2.2).trans pW.out;have n4:=(HT4.out.cell (o:=0) sN.out.1 sN.out.2.1 sN.out.2.2).trans nW.out;go_wp2_with fail;refine(ak8 ht2 HT4.out.x p4).mono ?_;rintro r x5 ⟨rfl,hx,hf⟩;have HT5:=hid (HT4.out.frm hx hf);clear hx hf HT4 p4 n4;go_wp2_with fail
 go_end0
 exact⟨rfl,HT5.out⟩
theorem awk {g M P:Nat} {W w:World} {s t:Rd} {cb:Bool} {ch:Int} {cm:Int} {cs:Int} {cc:Int} {st:Bool} {lb:Bool} {ln:Int} {ob:Bool} {on:Int} {sb:Bool} {sn:Int} {kb:Bool} {kn:Int} {vb:Bool} {vn:Int} {db:Bool} {dd:Int} {dm:Int} {dy:Int} (h:Hid (at1 s=((vb,vn),t))) (hT:TkI (qz g s) g M (xz cb ch cm cs cc st lb ln ob on sb sn kb kn false 0 db dd dm dy) W w) (pW:Hid (W.cell? ⟨P,0,none⟩=some (.pointer (some ⟨g,0,none⟩)))) (sP:Hid (P<W.1.size∧P≠g∧P≠M)) :
 Calls prog 163 #[.pointer (some ⟨P,0,none⟩),.pointer (some ⟨M,0,none⟩)] w fun r w'=>r=.returned (.tuple #[])∧TkI (qz g t) g M (xz cb ch cm cs cc st lb ln ob on sb sn kb kn vb vn db dd dm dy) W w':=by
 have HT:=hid hT;have p0:=(hT.cell (o:=0) sP.out.1 sP.out.2.1 sP.out.2.2).trans pW.out;clear hT;go_enter func163,ntmps163;go_wp2_with fail;refine(asf h HT.out.x).mono ?_;rintro r x ⟨rfl,hx,hf⟩;have HT2:=hid (HT.out.frm hx hf);clear hx hf HT;have m0:=HT2.out.c 14;have z0:=HT2.out.z 14;have m1:=HT2.out.c 15;have z1:=HT2.out.z 15;go_wp2_with fail
 go_end0
 exact⟨rfl,(aav (zf (zf HT2.out 14 (.bool vb) sm) 15 (.int .i64 vn) sm) (xz cb ch cm cs cc st lb ln ob on sb sn kb kn vb vn db dd dm dy) rfl).out⟩
set_option linter.unusedSimpArgs false
abbrev bm9 (x:aup):Value:=bi7 x.1.1 x.1.2.1 x.1.2.2.1 x.1.2.2.2.1 x.1.2.2.2.2 x.2.1 x.2.2.1.1 x.2.2.1.2 x.2.2.2.1.1 x.2.2.2.1.2 x.2.2.2.2.1.1 x.2.2.2.2.1.2 x.2.2.2.2.2.1.1 x.2.2.2.2.2.1.2 x.2.2.2.2.2.2.2.1 x.2.2.2.2.2.2.2.2 x.2.2.2.2.2.2.1.1 x.2.2.2.2.2.2.1.2.1 x.2.2.2.2.2.2.1.2.2.1 x.2.2.2.2.2.2.1.2.2.2
def akj (x:aup×Int) (w:World) (r:Ending) (w':World):Prop:=r=.returned (.tuple #[bm9 x.1,.int .i64 x.2])∧Below w.1.size w w'
theorem ahp:(prog.info? 48).map (·.size)=some 20:=by kernel_rfl
theorem aqq {w:World} {b:Nat} {C:Array Value} (hC:C.size=20) (h:w.rangeAt b 0 C.toList):(loadVar 48 ⟨b,0,none⟩).run prog w=.ok (.agg C) w:=by
 have:=t6 (P:=prog) w b 0 48 C.toList _ h underlying48 rfl (by rw[ahp,b1j,hC])
 simpa using this
abbrev aem (g:Nat):Obj:=.cells #[.pointer (some ⟨g,0,none⟩)] 283
abbrev fnO (P:Nat):Obj:=.cells #[.func (.func 148) #[] #[.pointer (some ⟨P,0,none⟩)]] 296
abbrev aa5 (P M N:Nat):Array Value:=#[.func (.func 150) #[] #[.pointer (some ⟨P,0,none⟩),.pointer (some ⟨M,0,none⟩),.pointer (some ⟨N,0,none⟩)],.func (.func 153) #[] #[.pointer (some ⟨P,0,none⟩),.pointer (some ⟨M,0,none⟩)],.func (.func 155) #[] #[.pointer (some ⟨P,0,none⟩),.pointer (some ⟨M,0,none⟩)],.func (.func 156) #[] #[.pointer (some ⟨P,0,none⟩),.pointer (some ⟨M,0,none⟩)],.func (.func 157) #[] #[.pointer (some ⟨P,0,none⟩),.pointer (some ⟨M,0,none⟩)],.func (.func 159) #[] #[.pointer (some ⟨P,0,none⟩),.pointer (some ⟨M,0,none⟩)],.func (.func 161) #[] #[.pointer (some ⟨P,0,none⟩),.pointer (some ⟨M,0,none⟩),.pointer (some ⟨N,0,none⟩)],.func (.func 163) #[] #[.pointer (some ⟨P,0,none⟩),.pointer (some ⟨M,0,none⟩)],.func (.func 165) #[] #[.pointer (some ⟨P,0,none⟩)]]
theorem an0 {P:Program} {w:World} {a:Addr} {m:Mode} (f:_) (x:_) (y:_):(store a (.func f x y) m).run P w=stored P w a (.func f x y) m:=run_store P w a _ m rfl
theorem ba4 {R:List ByteArray} {cb:Bool} {ch:Int} {cm:Int} {cs:Int} {cc:Int} {st:Bool} {lb:Bool} {ln:Int} {ob:Bool} {on:Int} {sb:Bool} {sn:Int} {kb:Bool} {kn:Int} {vb:Bool} {vn:Int} {db:Bool} {dd:Int} {dm:Int} {dy:Int} {r1 r2 r3 r4 r5 r6 r7 r8 r9:Rd} (hl:R.length=11∨R.length=12) (h1:Hid (ai9 (0,R)=((cb,ch,cm,cs,cc),r1))) (h2:Hid (baz r1=(st,r2))) (h3:Hid (ac9 true r2=((lb,ln),r3))) (h4:Hid (ac9 false r3=((ob,on),r4))) (h5:Hid (qs 1 4 2 0 999999 r4=((sb,sn),r5))) (h6:Hid (qs 1 3 2 0 36000 r5=((kb,kn),r6))) (h7:Hid (a0x r6=((db,dd,dm,dy),r7))) (h8:Hid (at1 r7=((vb,vn),r8))) (h9:Hid (aaf r8=r9)) :
 yg R=if r9.1=0 then(((cb,ch,cm,cs,cc),st,(lb,ln),(ob,on),(sb,sn),(kb,kn),(db,dd,dm,dy),(vb,vn)),0)else(aac,r9.1):=by
 have hR:bfy (0,R)=(((cb,ch,cm,cs,cc),st,(lb,ln),(ob,on),(sb,sn),(kb,kn),(db,dd,dm,dy),(vb,vn)),r8):=by
  unfold bfy;simp only[ag2,h1.out,h2.out,h3.out,h4.out,h5.out,h6.out,h7.out,h8.out]
 unfold yg;rw[if_neg (fun q=>by omega),hR];simp only;rw[h9.out]
theorem a5x (A:Option Addr) (n c:Nat) (R:List ByteArray) (w:World) (hl:R.length=n) (hA:A=none→c=0) (hs:vw w w.1.size A R) (hz:∀t∈R,t.size≤1000000) (hkn:Hid (n=11∨n=12)) :
 Calls prog 103 #[.slice A n c] w (akj (yg R) w):=by
 obtain⟨cb,ch,cm,cs,cc,r1,h1⟩:∃cb ch cm cs cc u,Hid (ai9 (0,R)=((cb,ch,cm,cs,cc),u)):=⟨_,_,_,_,_,_,rfl⟩;obtain⟨st,r2,h2⟩:∃st u,Hid (baz r1=(st,u)):=⟨_,_,rfl⟩;obtain⟨lb,ln,r3,h3⟩:∃lb ln u,Hid (ac9 true r2=((lb,ln),u)):=⟨_,_,_,rfl⟩;obtain⟨ob,on,r4,h4⟩:∃ob on u,Hid (ac9 false r3=((ob,on),u)):=⟨_,_,_,rfl⟩;obtain⟨sb,sn,r5,h5⟩:∃sb sn u,Hid (qs 1 4 2 0 999999 r4=((sb,sn),u)):=⟨_,_,_,rfl⟩;obtain⟨kb,kn,r6,h6⟩:∃kb kn u,Hid (qs 1 3 2 0 36000 r5=((kb,kn),u)):=⟨_,_,_,rfl⟩;obtain⟨db,dd,dm,dy,r7,h7⟩:∃db dd dm dy u,Hid (a0x r6=((db,dd,dm,dy),u)):=⟨_,_,_,_,_,rfl⟩;obtain⟨vb,vn,r8,h8⟩:∃vb vn u,Hid (at1 r7=((vb,vn),u)):=⟨_,_,_,rfl⟩;obtain⟨r9,h9⟩:∃u,Hid (aaf r8=u):=⟨_,rfl⟩;obtain⟨X,hX⟩:∃X,yg R=X:=⟨_,rfl⟩;have HT:Hid (X=if r9.1=0 then(((cb,ch,cm,cs,cc),st,(lb,ln),(ob,on),(sb,sn),(kb,kn),(db,dd,dm,dy),(vb,vn)),0)else(aac,r9.1)):=hX.symm.trans (ba4 (by rw[hl];exact hkn.out) h1 h2 h3 h4 h5 h6 h7 h8 h9)
 rw[hX];clear hX;have HB0:=hid (qa w (.cells (xz false 0 0 0 0 false false 0 false 0 false 0 false 0 false 0 false 0 0 0) 48));have HL:=hid (akt (c:=c) hA ((hs.below HB0.out (a8 _)).more HB0.out.size) (by have:=hkn.out;omega) hz);rw[hl]at HL;have HR0:Hid (∀o,(w.alloc (.cells (xz false 0 0 0 0 false false 0 false 0 false 0 false 0 false 0 false 0 0 0) 48)).cell? ⟨w.1.size,o,none⟩=(xz false 0 0 0 0 false false 0 false 0 false 0 false 0 false 0 false 0 0 0)[o]?):=fun o=>b8 _ _ _ _ rfl
 have HR1:Hid (∀o,(w.alloc (.cells (xz false 0 0 0 0 false false 0 false 0 false 0 false 0 false 0 false 0 0 0) 48)).frozen? ⟨w.1.size,o,none⟩=false):=fun o=>by rw[i9];exact qk _ _ _ (a8 _)
 have HZ0:Hid ((w.alloc (.cells (xz false 0 0 0 0 false false 0 false 0 false 0 false 0 false 0 false 0 0 0) 48)).1.size=w.1.size+1):=by show _=_;simp
 have hsf:=@an0 prog;clear hs hA hz hl;go_enter func103,ntmps103
 try dsimp only
 repeat (fail_if_success (show Code.wp _ (Code.seq (Code.region 1 _ _) _) _ _ _)
         first|go_values|go_skip|go_guarded|go_step|go_upon|go_back|(simp only[b2y,b2z]at *;go_simp)|(go_ite<;>go_prune<;>(try go_simp)))
 go_cut [] (fun wx=>wx=w.alloc (.cells (xz false 0 0 0 0 false false 0 false 0 false 0 false 0 false 0 false 0 0 0) 48))
 case first=>
  rcases hkn.out with e|e
  ·have i1:((n:Int) != 11)=false:=by rw[t7];omega
   clear e;go_wp2_with fail
   go_meet
   rfl
  ·have i1:((n:Int) != 11)=true:=by rw[b0g];omega
   have i2:((n:Int) != 12)=false:=by rw[t7];omega
   clear e;go_wp2_with fail
   go_meet
   rfl
 case rest=>
 subst hcut;generalize hW0:w.alloc (.cells (xz false 0 0 0 0 false false 0 false 0 false 0 false 0 false 0 false 0 0 0) 48)=W0 at *;clear hW0;go_wp2_with fail;refine HL.out.mono ?_;rintro r w1 ⟨g,rfl,hx1,hg1,hz1,hb1⟩;have hbP:=qa w1 (aem g);have hbM:=qa (w1.alloc (aem g)) (.cells (xz false 0 0 0 0 false false 0 false 0 false 0 false 0 false 0 false 0 0 0) 48);have hbN:=qa ((w1.alloc (aem g)).alloc (.cells (xz false 0 0 0 0 false false 0 false 0 false 0 false 0 false 0 false 0 0 0) 48)) (fnO w1.1.size);have hbB:=qa (((w1.alloc (aem g)).alloc (.cells (xz false 0 0 0 0 false false 0 false 0 false 0 false 0 false 0 false 0 0 0) 48)).alloc (fnO w1.1.size)) (.cells (aa5 w1.1.size (w1.1.size+1) (w1.1.size+1+1)) 1);have hzP:(w1.alloc (aem g)).1.size=w1.1.size+1:=by simp
 have hzM:((w1.alloc (aem g)).alloc (.cells (xz false 0 0 0 0 false false 0 false 0 false 0 false 0 false 0 false 0 0 0) 48)).1.size=w1.1.size+1+1:=by simp
 have hzN:(((w1.alloc (aem g)).alloc (.cells (xz false 0 0 0 0 false false 0 false 0 false 0 false 0 false 0 false 0 0 0) 48)).alloc (fnO w1.1.size)).1.size=w1.1.size+1+1+1:=by simp
 have hzW:((((w1.alloc (aem g)).alloc (.cells (xz false 0 0 0 0 false false 0 false 0 false 0 false 0 false 0 false 0 0 0) 48)).alloc (fnO w1.1.size)).alloc (.cells (aa5 w1.1.size (w1.1.size+1) (w1.1.size+1+1)) 1)).1.size=w1.1.size+1+1+1+1:=by simp
 have hb14:Below w1.1.size w1 ((((w1.alloc (aem g)).alloc (.cells (xz false 0 0 0 0 false false 0 false 0 false 0 false 0 false 0 false 0 0 0) 48)).alloc (fnO w1.1.size)).alloc (.cells (aa5 w1.1.size (w1.1.size+1) (w1.1.size+1+1)) 1)):=qb (qb (qb hbP hbM) hbN) hbB;have pW:Hid (((((w1.alloc (aem g)).alloc (.cells (xz false 0 0 0 0 false false 0 false 0 false 0 false 0 false 0 false 0 0 0) 48)).alloc (fnO w1.1.size)).alloc (.cells (aa5 w1.1.size (w1.1.size+1) (w1.1.size+1+1)) 1)).cell? ⟨w1.1.size,0,none⟩=some (.pointer (some ⟨g,0,none⟩))):=(n5 _ _ _ om).trans ((n5 _ _ _ om).trans ((n5 _ _ _ om).trans (b8 _ _ _ _ rfl)));have nW:Hid (((((w1.alloc (aem g)).alloc (.cells (xz false 0 0 0 0 false false 0 false 0 false 0 false 0 false 0 false 0 0 0) 48)).alloc (fnO w1.1.size)).alloc (.cells (aa5 w1.1.size (w1.1.size+1) (w1.1.size+1+1)) 1)).cell? ⟨w1.1.size+1+1,0,none⟩=some (.func (.func 148) #[] #[.pointer (some ⟨w1.1.size,0,none⟩)])):=(n5 _ _ _ om).trans (b8 _ _ _ _ hzM.symm)
 have HBW:Hid (∀o,((((w1.alloc (aem g)).alloc (.cells (xz false 0 0 0 0 false false 0 false 0 false 0 false 0 false 0 false 0 0 0) 48)).alloc (fnO w1.1.size)).alloc (.cells (aa5 w1.1.size (w1.1.size+1) (w1.1.size+1+1)) 1)).cell? ⟨w1.1.size+1+1+1,o,none⟩=(aa5 w1.1.size (w1.1.size+1) (w1.1.size+1+1))[o]?):=fun o=>b8 _ _ _ _ hzN.symm
 have T0:Hid (TkI (qz g (0,R)) g (w1.1.size+1) (xz false 0 0 0 0 false false 0 false 0 false 0 false 0 false 0 false 0 0 0) ((((w1.alloc (aem g)).alloc (.cells (xz false 0 0 0 0 false false 0 false 0 false 0 false 0 false 0 false 0 0 0) 48)).alloc (fnO w1.1.size)).alloc (.cells (aa5 w1.1.size (w1.1.size+1) (w1.1.size+1+1)) 1)) ((((w1.alloc (aem g)).alloc (.cells (xz false 0 0 0 0 false false 0 false 0 false 0 false 0 false 0 false 0 0 0) 48)).alloc (fnO w1.1.size)).alloc (.cells (aa5 w1.1.size (w1.1.size+1) (w1.1.size+1+1)) 1))):=
  ⟨hx1.keep hb14,fun j=>(n5 _ _ _ om).trans ((n5 _ _ _ om).trans (b8 _ _ _ _ hzP.symm)),fun j=>by rw[i9,i9,i9];exact qk _ _ _ om,by omega,by omega,rfl,rfl,rfl,a8 _,fun _ _ _ _=>rfl⟩
 have hz0:=HZ0.out;have sP:Hid (w1.1.size<((((w1.alloc (aem g)).alloc (.cells (xz false 0 0 0 0 false false 0 false 0 false 0 false 0 false 0 false 0 0 0) 48)).alloc (fnO w1.1.size)).alloc (.cells (aa5 w1.1.size (w1.1.size+1) (w1.1.size+1+1)) 1)).1.size∧w1.1.size≠g∧w1.1.size≠w1.1.size+1):=⟨by omega,by omega,by omega⟩;have sN:Hid (w1.1.size+1+1<((((w1.alloc (aem g)).alloc (.cells (xz false 0 0 0 0 false false 0 false 0 false 0 false 0 false 0 false 0 0 0) 48)).alloc (fnO w1.1.size)).alloc (.cells (aa5 w1.1.size (w1.1.size+1) (w1.1.size+1+1)) 1)).1.size∧w1.1.size+1+1≠g∧w1.1.size+1+1≠w1.1.size+1):=⟨by omega,by omega,by omega⟩;have sB:Hid (w1.1.size+1+1+1<((((w1.alloc (aem g)).alloc (.cells (xz false 0 0 0 0 false false 0 false 0 false 0 false 0 false 0 false 0 0 0) 48)).alloc (fnO w1.1.size)).alloc (.cells (aa5 w1.1.size (w1.1.size+1) (w1.1.size+1+1)) 1)).1.size∧w1.1.size+1+1+1≠g∧w1.1.size+1+1+1≠w1.1.size+1):=⟨by omega,by omega,by omega⟩
 have hb04:=qb hb1 hb14
 have HRW:Hid ((∀o,((((w1.alloc (aem g)).alloc (.cells (xz false 0 0 0 0 false false 0 false 0 false 0 false 0 false 0 false 0 0 0) 48)).alloc (fnO w1.1.size)).alloc (.cells (aa5 w1.1.size (w1.1.size+1) (w1.1.size+1+1)) 1)).cell? ⟨w.1.size,o,none⟩=(xz false 0 0 0 0 false false 0 false 0 false 0 false 0 false 0 false 0 0 0)[o]?) ∧(∀o,((((w1.alloc (aem g)).alloc (.cells (xz false 0 0 0 0 false false 0 false 0 false 0 false 0 false 0 false 0 0 0) 48)).alloc (fnO w1.1.size)).alloc (.cells (aa5 w1.1.size (w1.1.size+1) (w1.1.size+1+1)) 1)).frozen? ⟨w.1.size,o,none⟩=false)∧Below w.1.size w ((((w1.alloc (aem g)).alloc (.cells (xz false 0 0 0 0 false false 0 false 0 false 0 false 0 false 0 false 0 0 0) 48)).alloc (fnO w1.1.size)).alloc (.cells (aa5 w1.1.size (w1.1.size+1) (w1.1.size+1+1)) 1))):=
  ⟨fun o=>((qy hb04).1 _ o om).trans (HR0.out o),fun o=>((qy hb04).2 _ o om).trans (HR1.out o),b2k HB0.out (hb04.mono om)⟩
 have HLT:Hid (w.1.size<((((w1.alloc (aem g)).alloc (.cells (xz false 0 0 0 0 false false 0 false 0 false 0 false 0 false 0 false 0 0 0) 48)).alloc (fnO w1.1.size)).alloc (.cells (aa5 w1.1.size (w1.1.size+1) (w1.1.size+1+1)) 1)).1.size∧w.1.size<g∧w.1.size<w1.1.size+1):=⟨by omega,by omega,by omega⟩;clear hbP hbM hbN hbB hzP hzM hzN hzW hb14 hz0 hb04 hx1 hg1 hz1 hb1 HL HR0 HR1 HZ0 HB0;go_upto_region 7 with fail;generalize ((((w1.alloc (aem g)).alloc (.cells (xz false 0 0 0 0 false false 0 false 0 false 0 false 0 false 0 false 0 0 0) 48)).alloc (fnO w1.1.size)).alloc (.cells (aa5 w1.1.size (w1.1.size+1) (w1.1.size+1+1)) 1))=W at *;generalize w1.1.size=P at *;go_wp2_with fail;refine b4t 10 ?_;rw[b12];have q:=(T0.out.cell (o:=0) sB.out.1 sB.out.2.1 sB.out.2.2).trans (HBW.out 0);go_wp2_with fail;refine(awd h1 T0.out pW sP nW sN).mono ?_;rintro r x1 ⟨rfl,ht⟩;have T1:=hid ht
 clear ht T0 q;go_wp2_with fail;rw[b12];have q:=(T1.out.cell (o:=1) sB.out.1 sB.out.2.1 sB.out.2.2).trans (HBW.out 1);go_wp2_with fail;refine(awe h2 T1.out pW sP).mono ?_;rintro r x2 ⟨rfl,ht⟩;have T2:=hid ht;clear ht T1 q;go_wp2_with fail;rw[b12];have q:=(T2.out.cell (o:=2) sB.out.1 sB.out.2.1 sB.out.2.2).trans (HBW.out 2);go_wp2_with fail;refine(awf h3 T2.out pW sP).mono ?_;rintro r x3 ⟨rfl,ht⟩;have T3:=hid ht;clear ht T2 q;go_wp2_with fail;rw[b12];have q:=(T3.out.cell (o:=3) sB.out.1 sB.out.2.1 sB.out.2.2).trans (HBW.out 3);go_wp2_with fail;refine(awg h4 T3.out pW sP).mono ?_;rintro r x4 ⟨rfl,ht⟩;have T4:=hid ht;clear ht T3 q;go_wp2_with fail;rw[b12];have q:=(T4.out.cell (o:=4) sB.out.1 sB.out.2.1 sB.out.2.2).trans (HBW.out 4);go_wp2_with fail;refine(awh h5 T4.out pW sP).mono ?_;rintro r x5 ⟨rfl,ht⟩;have T5:=hid ht;clear ht T4 q;go_wp2_with fail
 rw[b12];have q:=(T5.out.cell (o:=5) sB.out.1 sB.out.2.1 sB.out.2.2).trans (HBW.out 5);go_wp2_with fail;refine(awi h6 T5.out pW sP).mono ?_;rintro r x6 ⟨rfl,ht⟩;have T6:=hid ht;clear ht T5 q;go_wp2_with fail;rw[b12];have q:=(T6.out.cell (o:=6) sB.out.1 sB.out.2.1 sB.out.2.2).trans (HBW.out 6);go_wp2_with fail;refine(awj h7 T6.out pW sP nW sN).mono ?_;rintro r x7 ⟨rfl,ht⟩;have T7:=hid ht;clear ht T6 q;go_wp2_with fail;rw[b12];have q:=(T7.out.cell (o:=7) sB.out.1 sB.out.2.1 sB.out.2.2).trans (HBW.out 7);go_wp2_with fail;refine(awk h8 T7.out pW sP).mono ?_;rintro r x8 ⟨rfl,ht⟩;have T8:=hid ht;clear ht T7 q;go_wp2_with fail;rw[b12];have q:=(T8.out.cell (o:=8) sB.out.1 sB.out.2.1 sB.out.2.2).trans (HBW.out 8);go_wp2_with fail;refine(asd h9 T8.out pW sP).mono ?_;rintro r x9 ⟨rfl,ht⟩;have T9:=hid ht;clear ht T8 q;go_wp2_with fail;rw[b12];generalize x9=y9 at *
 obtain⟨E,hE⟩:∃E,r9.1=E:=⟨_,rfl⟩;have HER:=hid (apv T9.out.x);rw[hE]at HER HT;clear hE;have p_:=(T9.out.cell (o:=0) sP.out.1 sP.out.2.1 sP.out.2.2).trans pW.out;have hr:∀j,y9.cell? ⟨w.1.size,j,none⟩=(xz false 0 0 0 0 false false 0 false 0 false 0 false 0 false 0 false 0 0 0)[j]?:=fun j=>(T9.out.cell (by have:=HLT.out;omega) (by have:=HLT.out;omega) (by have:=HLT.out;omega)).trans (HRW.out.1 j)
 have hf:∀j,y9.frozen? ⟨w.1.size,j,none⟩=false:=fun j=>(T9.out.frozen (by have:=HLT.out;omega) (by have:=HLT.out;omega) (by have:=HLT.out;omega)).trans (HRW.out.2.1 j)
 have HB9:Hid (Below w.1.size w y9):=b2k HRW.out.2.2 (T9.out.below (by have:=HLT.out;omega) (by have:=HLT.out;omega));have hm:=T9.out.c;have HR:=hid (show AtC y9 w.1.size (xz false 0 0 0 0 false false 0 false 0 false 0 false 0 false 0 false 0 0 0)from hr);have HRF:=hid hf;have HRM:=hid (a0w (show AtC y9 (P+1) (xz cb ch cm cs cc st lb ln ob on sb sn kb kn vb vn db dd dm dy)from hm));clear T9 HRW hr hf hm;go_wp2_with fail;refine HER.out.mono ?_;rintro r w' ⟨rfl,rfl⟩;clear p_ HER HBW sB sN nW;generalize P+1=M at *
 by_cases hE:E=0
 ·subst hE;have HX2:Hid (X=(((cb,ch,cm,cs,cc),st,(lb,ln),(ob,on),(sb,sn),(kb,kn),(db,dd,dm,dy),(vb,vn)),0)):=HT.out.trans (if_pos rfl);clear HT;go_upto_region 15 with fail
  try (apply b1e;intro K_ HK_)
  apply b2n;refine b0i rfl _ _ rfl M 0 rfl (xz cb ch cm cs cc st lb ln ob on sb sn kb kn vb vn db dd dm dy).toList _ HRM.out underlying48 rfl ahp ?_;refine b2w rfl _ _ _ rfl w.1.size 0 (xz cb ch cm cs cc st lb ln ob on sb sn kb kn vb vn db dd dm dy) rfl rfl (aao HR.out HRF.out rfl) ahp (by simp[Value.oneCell']) ?_;have hY:=b1m y9 w.1.size 0 (xz cb ch cm cs cc st lb ln ob on sb sn kb kn vb vn db dd dm dy).toList (aao HR.out HRF.out rfl);have HBK:=hid (aaz (a8 _) (xz cb ch cm cs cc st lb ln ob on sb sn kb kn vb vn db dd dm dy).toList 0 y9 HB9.out);have hld:=aqq (C:=xz cb ch cm cs cc st lb ln ob on sb sn kb kn vb vn db dd dm dy) rfl hY;clear hY HR HRF HB9;generalize World.setCells y9 w.1.size 0 (xz cb ch cm cs cc st lb ln ob on sb sn kb kn vb vn db dd dm dy).toList=Y at *;have HLD:=hid hld;clear hld;go_wp2_with fail;refine b9 (v:=.tuple #[bi7 cb ch cm cs cc st lb ln ob on sb sn kb kn vb vn db dd dm dy,.int .i64 0]) (by rw[b1g rfl];simp[asAddr,Result.andThen,HLD.out]) rfl ?_
  rw[HX2.out];exact⟨rfl,HBK.out⟩
 ·have hne:(E != 0)=true:=by rw[b0g];exact hE
  have HX2:Hid (X=(aac,E)):=HT.out.trans (if_neg hE);clear hE HT;go_upto_region 14 with fail
  try (apply b1e;intro K_ HK_)
  apply b2n;go_step;go_step;go_step;go_step;go_step;go_step;refine b2w rfl _ _ _ rfl w.1.size 0 (xz false 0 0 0 0 false false 0 false 0 false 0 false 0 false 0 false 0 0 0) rfl rfl (aao HR.out HRF.out rfl) ahp (by simp[Value.oneCell']) ?_;have hY:=b1m y9 w.1.size 0 (xz false 0 0 0 0 false false 0 false 0 false 0 false 0 false 0 false 0 0 0).toList (aao HR.out HRF.out rfl);have HBK:=hid (aaz (a8 _) (xz false 0 0 0 0 false false 0 false 0 false 0 false 0 false 0 false 0 0 0).toList 0 y9 HB9.out);have hld:=aqq (C:=xz false 0 0 0 0 false false 0 false 0 false 0 false 0 false 0 false 0 0 0) rfl hY;clear hY HR HRF HB9;generalize World.setCells y9 w.1.size 0 (xz false 0 0 0 0 false false 0 false 0 false 0 false 0 false 0 false 0 0 0).toList=Y at *;have HLD:=hid hld;clear hld;go_wp2_with fail;refine b9 (v:=.tuple #[bi7 false 0 0 0 0 false false 0 false 0 false 0 false 0 false 0 false 0 0 0,.int .i64 E]) (by rw[b1g rfl];simp[asAddr,Result.andThen,HLD.out]) rfl ?_
  rw[HX2.out];exact⟨rfl,HBK.out⟩
theorem anc (A:Option Addr) (n c:Nat) (w:World) (h:((n:Int) != 11)=true) (h2:((n:Int) != 12)=true):Calls prog 103 #[.slice A n c] w (akj (aac,3) w):=by
 have HB9:=hid (qa w (.cells (xz false 0 0 0 0 false false 0 false 0 false 0 false 0 false 0 false 0 0 0) 48));have HR:Hid (AtC (w.alloc (.cells (xz false 0 0 0 0 false false 0 false 0 false 0 false 0 false 0 false 0 0 0) 48)) w.1.size (xz false 0 0 0 0 false false 0 false 0 false 0 false 0 false 0 false 0 0 0)):=fun o=>b8 _ _ _ _ rfl
 have HRF:Hid (∀o,(w.alloc (.cells (xz false 0 0 0 0 false false 0 false 0 false 0 false 0 false 0 false 0 0 0) 48)).frozen? ⟨w.1.size,o,none⟩=false):=fun o=>by rw[i9];exact qk _ _ _ (a8 _)
 go_enter func103,ntmps103
 try dsimp only
 repeat (fail_if_success (show Code.wp _ (Code.seq (Code.region 1 _ _) _) _ _ _)
         first|go_values|go_skip|go_guarded|go_step|go_upon|go_back|(simp only[b2y,b2z]at *;go_simp)|(go_ite<;>go_prune<;>(try go_simp)))
 generalize hW0:w.alloc (.cells (xz false 0 0 0 0 false false 0 false 0 false 0 false 0 false 0 false 0 0 0) 48)=W0 at *;clear hW0;go_upto_region 2 with fail
 try (apply b1e;intro K_ HK_)
 apply b2n;go_step;go_step;go_step;refine b2w rfl _ _ _ rfl w.1.size 0 (xz false 0 0 0 0 false false 0 false 0 false 0 false 0 false 0 false 0 0 0) rfl rfl (aao HR.out HRF.out rfl) ahp (by simp[Value.oneCell']) ?_;have hY:=b1m W0 w.1.size 0 (xz false 0 0 0 0 false false 0 false 0 false 0 false 0 false 0 false 0 0 0).toList (aao HR.out HRF.out rfl);have HBK:=hid (aaz (a8 _) (xz false 0 0 0 0 false false 0 false 0 false 0 false 0 false 0 false 0 0 0).toList 0 W0 HB9.out);have hld:=aqq (C:=xz false 0 0 0 0 false false 0 false 0 false 0 false 0 false 0 false 0 0 0) rfl hY;clear hY HR HRF HB9;generalize World.setCells W0 w.1.size 0 (xz false 0 0 0 0 false false 0 false 0 false 0 false 0 false 0 false 0 0 0).toList=Y at *;have HLD:=hid hld;clear hld;go_wp2_with fail;refine b9 (v:=.tuple #[bi7 false 0 0 0 0 false false 0 false 0 false 0 false 0 false 0 false 0 0 0,.int .i64 3]) (by rw[b1g rfl];simp[asAddr,Result.andThen,HLD.out]) rfl ?_
 exact⟨rfl,HBK.out⟩
theorem a06 (A:Option Addr) (R:List ByteArray) (c:Nat) (w:World) (hA:A=none→c=0) (hs:vw w w.1.size A R) (hz:∀t∈R,t.size≤1000000):Calls prog 103 #[.slice A R.length c] w (akj (yg R) w):=by
 by_cases h:R.length=11∨R.length=12
 ·exact a5x A R.length c R w rfl hA hs hz h
 ·rw[show yg R=(aac,3)from if_pos ⟨fun q=>h (.inl q),fun q=>h (.inr q)⟩];exact anc A R.length c w (by rw[b0g];omega) (by rw[b0g];omega)
structure NmD where
 k:Int
 t:ByteArray
 g:aun
 r:aup
 s:a29
 v:V4
 u:a3a
def zV4:V4:=((false,0),(false,0),(false,0),(false,0))
def art:NmD:=⟨0,ByteArray.empty,aab,aac,yi,zV4,vr⟩
def gL (x:aun):List Value:=[.bool x.1.1,.int .i64 x.1.2.1,.int .i64 x.1.2.2.1,.int .i64 x.1.2.2.2.1,.int .i64 x.1.2.2.2.2,.bool x.2.1.1,.int .i64 x.2.1.2,.bool x.2.2.1.1,.int .i64 x.2.2.1.2,.int .i64 x.2.2.2.1,.bool x.2.2.2.2.1.1,.int .i64 x.2.2.2.2.1.2,.bool x.2.2.2.2.2.1.1,.int .i64 x.2.2.2.2.2.1.2,.bool x.2.2.2.2.2.2.1.1,.int .i64 x.2.2.2.2.2.2.1.2,.bool x.2.2.2.2.2.2.2.1.1,.int .i64 x.2.2.2.2.2.2.2.1.2,.bool x.2.2.2.2.2.2.2.2.1.1,.int .i64 x.2.2.2.2.2.2.2.2.1.2,.bool x.2.2.2.2.2.2.2.2.2.1,.int .i64 x.2.2.2.2.2.2.2.2.2.2]
def rL (x:aup):List Value:=[.bool x.1.1,.int .i64 x.1.2.1,.int .i64 x.1.2.2.1,.int .i64 x.1.2.2.2.1,.int .i64 x.1.2.2.2.2,.bool x.2.1,.bool x.2.2.1.1,.int .i64 x.2.2.1.2,.bool x.2.2.2.1.1,.int .i64 x.2.2.2.1.2,.bool x.2.2.2.2.1.1,.int .i64 x.2.2.2.2.1.2,.bool x.2.2.2.2.2.1.1,.int .i64 x.2.2.2.2.2.1.2,.bool x.2.2.2.2.2.2.2.1,.int .i64 x.2.2.2.2.2.2.2.2,.bool x.2.2.2.2.2.2.1.1,.int .i64 x.2.2.2.2.2.2.1.2.1,.int .i64 x.2.2.2.2.2.2.1.2.2.1,.int .i64 x.2.2.2.2.2.2.1.2.2.2]
def sL (x:a29) (y:Value):List Value:=[.bool x.a,.int .i64 x.f,y,.bool x.p0.1,.int .i64 x.p0.2,.bool x.p1.1,.int .i64 x.p1.2,.bool x.p2.1,.int .i64 x.p2.2]
def uL (x:a3a) (y:Value):List Value:=[.int .i64 x.T,.int .i64 x.N,.int .i64 x.S,y]
def nmC (m:NmD) (x y:Value):List Value:=nmL m.k m.t (gL m.g) (rL m.r) (sL m.s x) (j4 m.v) (uL m.u y)
theorem ad5 (m:NmD) (x y:Value):ab8 (gL m.g) (rL m.r) (sL m.s x) (j4 m.v) (uL m.u y):=⟨rfl,rfl,rfl,rfl,rfl⟩
theorem aoe (x:aun):xj (gL x):=xj.of rfl
theorem aof (x:aup):xj (rL x):=xj.of rfl
theorem xj.cons {v:Value} {L:List Value} (h:v.oneCell'=true) (hL:xj L):xj (v::L):=fun u hu=>by
 rcases b0z.1 hu with rfl|hu
 ·exact h
 ·exact hL u hu
theorem awo (x:a29) {y:Value} (h:y.oneCell'=true):xj (sL x y):=xj.cons rfl (xj.cons rfl (xj.cons h (xj.of rfl)))
theorem aoi (x:V4):xj (j4 x):=xj.of rfl
theorem axn (x:a3a) {y:Value} (h:y.oneCell'=true):xj (uL x y):=xj.cons rfl (xj.cons rfl (xj.cons rfl (xj.cons h (xj.of rfl))))
theorem ag7.flatq {w:World} {B:Nat} {A:Option Addr} {L:List Int} (h:ag7 w B A L):qf (fun b=>b<B) w A (L.map (Value.int .i64)):=fun j u hu=>by
 rw[b0m]at hu;cases hj:L[j]? with
 | none=>rw[hj]at hu;cases hu
 | some z=>
  rw[hj]at hu;obtain⟨hlt,rfl⟩:=b1q.1 hj;obtain⟨b,off,h1,h2,h3⟩:=h j hlt;injection hu with hu
  exact⟨b,off,h1,h2,h3.trans (by rw[← hu])⟩
theorem qf.ints {Q:Nat→Prop} {w:World} {A:Option Addr} {L:List Int} (h:qf Q w A (L.map (Value.int .i64))):ag7 w w.1.size A L:=fun k hk=>by
 obtain⟨b,off,h1,-,h3⟩:=h k (.int .i64 L[k]) (by rw[b0m,c8 hk];rfl);exact⟨b,off,h1,b2m w _ h3,h3⟩
def Bk (lo:Nat) (w:World) (b:Nat):Prop:=lo≤b∧b<w.1.size
theorem as5 {lo:Nat} {w w':World} {A:Option Addr} {xs:List Value} (h:qf (Bk lo w) w A xs) (hb:Below w.1.size w w'):qf (Bk lo w') w' A xs:=
 (h.below hb fun b q=>q.2).less fun b q=>⟨q.1,e9 q.2 hb.size⟩
theorem bdi {lo:Nat} {w W:World} {b o:Nat} {cs:List Value} {A:Option Addr} {xs:List Value} (h:qf (Bk lo w) w A xs) (hs:qp w W b o cs) (hl:b<lo):qf (Bk lo W) W A xs:=
 (h.keep fun k q=>hs.far k (fun e=>by have:=q.1;omega)).less fun k q=>⟨q.1,by rw[hs.sz];exact q.2⟩
theorem bhb {w:World} {A:Option Addr} {l:List Int} (h:ag7 w w.1.size A l):qf (Bk 0 w) w A (l.map (Value.int .i64)):=(ag7.flatq h).less fun b q=>⟨b0c _,q⟩
theorem bkw {w:World} {A:Option Addr} {l:List V4} (h:Vws w w.1.size A l):qf (Bk 0 w) w A (vsC l):=(Vws.flatq h).less fun b q=>⟨b0c _,q⟩
def SlI (lo:Nat) (w:World) (y:Value) (l:List Int):Prop:=∃A c,y=.slice A l.length c∧qf (Bk lo w) w A (l.map (Value.int .i64))
def SlV (lo:Nat) (w:World) (y:Value) (l:List V4):Prop:=∃A c,y=.slice A l.length c∧qf (Bk lo w) w A (vsC l)
theorem SlI.one {lo:Nat} {w:World} {y:Value} {l:List Int} (h:SlI lo w y l):y.oneCell'=true:=by obtain⟨A,c,rfl,-⟩:=h;rfl
theorem SlV.one {lo:Nat} {w:World} {y:Value} {l:List V4} (h:SlV lo w y l):y.oneCell'=true:=by obtain⟨A,c,rfl,-⟩:=h;rfl
theorem SlI.on {lo:Nat} {w w':World} {y:Value} {l:List Int} (h:SlI lo w y l) (hb:Below w.1.size w w'):SlI lo w' y l:=by
 obtain⟨A,c,h1,h2⟩:=h;exact⟨A,c,h1,as5 h2 hb⟩
theorem SlV.on {lo:Nat} {w w':World} {y:Value} {l:List V4} (h:SlV lo w y l) (hb:Below w.1.size w w'):SlV lo w' y l:=by
 obtain⟨A,c,h1,h2⟩:=h;exact⟨A,c,h1,as5 h2 hb⟩
theorem SlI.less {lo lo':Nat} {w:World} {y:Value} {l:List Int} (h:SlI lo w y l) (hl:lo'≤lo):SlI lo' w y l:=by
 obtain⟨A,c,h1,h2⟩:=h;exact⟨A,c,h1,h2.less fun b q=>⟨o8 hl q.1,q.2⟩⟩
theorem SlV.less {lo lo':Nat} {w:World} {y:Value} {l:List V4} (h:SlV lo w y l) (hl:lo'≤lo):SlV lo' w y l:=by
 obtain⟨A,c,h1,h2⟩:=h;exact⟨A,c,h1,h2.less fun b q=>⟨o8 hl q.1,q.2⟩⟩
theorem SlI.far {lo:Nat} {w W:World} {b o:Nat} {cs:List Value} {y:Value} {l:List Int} (h:SlI lo w y l) (hs:qp w W b o cs) (hl:b<lo):SlI lo W y l:=by
 obtain⟨A,c,h1,h2⟩:=h;exact⟨A,c,h1,bdi h2 hs hl⟩
theorem SlV.far {lo:Nat} {w W:World} {b o:Nat} {cs:List Value} {y:Value} {l:List V4} (h:SlV lo w y l) (hs:qp w W b o cs) (hl:b<lo):SlV lo W y l:=by
 obtain⟨A,c,h1,h2⟩:=h;exact⟨A,c,h1,bdi h2 hs hl⟩
theorem SlI.nil (lo:Nat) (w:World):SlI lo w (.slice none 0 0) []:=⟨none,0,rfl,qf.nil _ _ _⟩
theorem SlV.nil (lo:Nat) (w:World):SlV lo w (.slice none 0 0) []:=⟨none,0,rfl,qf.nil _ _ _⟩
def NmV (lo:Nat) (w:World) (C:Array Value) (m:NmD):Prop:=∃x y,C=(nmC m x y).toArray∧SlI lo w x m.s.ids∧SlV lo w y m.u.L
theorem NmV.on {lo:Nat} {w w':World} {C:Array Value} {m:NmD} (h:NmV lo w C m) (hb:Below w.1.size w w'):NmV lo w' C m:=by
 obtain⟨x,y,h1,h2,h3⟩:=h;exact⟨x,y,h1,h2.on hb,h3.on hb⟩
theorem NmV.less {lo lo':Nat} {w:World} {C:Array Value} {m:NmD} (h:NmV lo w C m) (hl:lo'≤lo):NmV lo' w C m:=by
 obtain⟨x,y,h1,h2,h3⟩:=h;exact⟨x,y,h1,h2.less hl,h3.less hl⟩
theorem NmV.far {lo:Nat} {w W:World} {b o:Nat} {cs:List Value} {C:Array Value} {m:NmD} (h:NmV lo w C m) (hs:qp w W b o cs) (hl:b<lo):NmV lo W C m:=by
 obtain⟨x,y,h1,h2,h3⟩:=h;exact⟨x,y,h1,h2.far hs hl,h3.far hs hl⟩
theorem a74 (m:NmD) (x y:Value):(nmC m x y).length=65:=abb (ad5 m x y)
theorem NmV.len {lo:Nat} {w:World} {C:Array Value} {m:NmD} (h:NmV lo w C m):C.size=65:=by
 obtain⟨x,y,rfl,-⟩:=h;rw[o6,a74]
theorem NmV.ones {lo:Nat} {w:World} {C:Array Value} {m:NmD} (h:NmV lo w C m):C.all (·.oneCell')=true:=by
 obtain⟨x,y,rfl,h2,h3⟩:=h;exact xj.arr (ya (aoe _) (aof _) (awo _ h2.one) (aoi _) (axn _ h3.one))
theorem NmV.zero (lo:Nat) (w:World):NmV lo w zNm art:=⟨_,_,rfl,SlI.nil lo w,SlV.nil lo w⟩
def bjn (lo:Nat) (w:World) (v:Value) (m:NmD):Prop:=
 (m.k=1∧v=.iface 239 (.agg (gL m.g).toArray)) ∨(m.k=2∧v=.iface 243 (.agg (rL m.r).toArray)) ∨
 (m.k=3∧∃x,v=.iface 247 (.agg (sL m.s x).toArray)∧SlI lo w x m.s.ids) ∨(m.k=4∧v=.iface 251 (.agg (j4 m.v).toArray)) ∨
 (m.k=5∧∃x,v=.iface 255 (.agg (uL m.u x).toArray)∧SlV lo w x m.u.L) ∨(¬(1≤m.k∧m.k≤5)∧v=.nilIface)
def aau (t:ByteArray) (m:NmD):NmD:=
 if m.k=1 then⟨1,t,m.g,aac,yi,zV4,vr⟩else if m.k=2 then⟨2,t,aab,m.r,yi,zV4,vr⟩else if m.k=3 then⟨3,t,aab,aac,m.s,zV4,vr⟩
 else if m.k=4 then⟨4,t,aab,aac,yi,m.v,vr⟩else if m.k=5 then⟨5,t,aab,aac,yi,zV4,m.u⟩else⟨0,t,aab,aac,yi,zV4,vr⟩
def ac8 (k:Int):ByteArray:=if k=1 then⟨#[71,71,65]⟩else if k=2 then⟨#[82,77,67]⟩else if k=3 then⟨#[71,83,65]⟩else if k=4 then⟨#[86,84,71]⟩else if k=5 then⟨#[71,83,86]⟩else⟨#[]⟩
theorem bfa {t:ByteArray} {m:NmD} (h:m.k=1):aau t m=⟨1,t,m.g,aac,yi,zV4,vr⟩∧ac8 m.k=⟨#[71,71,65]⟩:=⟨if_pos h,if_pos h⟩
theorem bfb {t:ByteArray} {m:NmD} (h:m.k=2):aau t m=⟨2,t,aab,m.r,yi,zV4,vr⟩∧ac8 m.k=⟨#[82,77,67]⟩:=by simp[aau,ac8,h]
theorem bfc {t:ByteArray} {m:NmD} (h:m.k=3):aau t m=⟨3,t,aab,aac,m.s,zV4,vr⟩∧ac8 m.k=⟨#[71,83,65]⟩:=by simp[aau,ac8,h]
theorem bfd {t:ByteArray} {m:NmD} (h:m.k=4):aau t m=⟨4,t,aab,aac,yi,m.v,vr⟩∧ac8 m.k=⟨#[86,84,71]⟩:=by simp[aau,ac8,h]
theorem bfe {t:ByteArray} {m:NmD} (h:m.k=5):aau t m=⟨5,t,aab,aac,yi,zV4,m.u⟩∧ac8 m.k=⟨#[71,83,86]⟩:=by simp[aau,ac8,h]
theorem a77 {t:ByteArray} {m:NmD} (h:¬(1≤m.k∧m.k≤5)):aau t m=⟨0,t,aab,aac,yi,zV4,vr⟩∧ac8 m.k=⟨#[]⟩:=by
 unfold aau ac8;rw[if_neg om,if_neg om,if_neg om,if_neg om,if_neg om,if_neg om,if_neg om,if_neg om,if_neg om,if_neg om];exact⟨rfl,rfl⟩
theorem a49 {lo:Nat} {v:Value} {m:NmD} {w:World} {t:ByteArray} (h:bjn lo w v m) (h1:m.s.ids.length≤1000000) (h2:m.u.L.length≤1000000) :
 Calls prog 84 #[.string t,v] w fun e w'=>∃C,e=.returned (.tuple #[.agg C,.string (ac8 m.k)])∧NmV w.1.size w' C (aau t m)∧Below w.1.size w w':=by
 rcases h with⟨hk,rfl⟩|⟨hk,rfl⟩|⟨hk,x,rfl,A,c,rfl,hs⟩|⟨hk,rfl⟩|⟨hk,x,rfl,A,c,rfl,hs⟩|⟨hk,rfl⟩
 ·rw[(bfa (t:=t) hk).1,(bfa (t:=t) hk).2];refine(be1 (G:=gL m.g) rfl (aoe _) w).mono ?_;rintro e w' ⟨rfl,hb⟩;exact⟨_,rfl,⟨_,_,rfl,SlI.nil _ _,SlV.nil _ _⟩,hb⟩
 ·rw[(bfb (t:=t) hk).1,(bfb (t:=t) hk).2];refine(be2 (R:=rL m.r) rfl (aof _) w).mono ?_;rintro e w' ⟨rfl,hb⟩;exact⟨_,rfl,⟨_,_,rfl,SlI.nil _ _,SlV.nil _ _⟩,hb⟩
 ·rw[(bfc (t:=t) hk).1,(bfc (t:=t) hk).2];refine(be3 w (a:=m.s.a) (f:=m.s.f) (A:=A) (c:=c) (D:=m.s.ids) (b0:=m.s.p0.1) (n0:=m.s.p0.2) (b1:=m.s.p1.1) (n1:=m.s.p1.2) (b2:=m.s.p2.1) (n2:=m.s.p2.2) (hs.less fun b q=>q.2) h1).mono ?_;rintro e w' ⟨B,d,rfl,hf,hb⟩;exact⟨_,rfl,⟨_,_,rfl,⟨B,d,rfl,hf⟩,SlV.nil _ _⟩,hb⟩
 ·rw[(bfd (t:=t) hk).1,(bfd (t:=t) hk).2];refine(be4 (V:=j4 m.v) rfl (aoi _) w).mono ?_;rintro e w' ⟨rfl,hb⟩;exact⟨_,rfl,⟨_,_,rfl,SlI.nil _ _,SlV.nil _ _⟩,hb⟩
 ·rw[(bfe (t:=t) hk).1,(bfe (t:=t) hk).2];refine(be5 w (T:=m.u.T) (N:=m.u.N) (S:=m.u.S) (A:=A) (c:=c) (D:=m.u.L) (hs.less fun b q=>q.2) h2).mono ?_;rintro e w' ⟨B,d,rfl,hf,hb⟩;exact⟨_,rfl,⟨_,_,rfl,SlI.nil _ _,⟨B,d,rfl,hf⟩⟩,hb⟩
 ·rw[(a77 (t:=t) hk).1,(a77 (t:=t) hk).2];refine(bai w).mono ?_;rintro e w' ⟨rfl,hb⟩;exact⟨_,rfl,⟨_,_,rfl,SlI.nil _ _,SlV.nil _ _⟩,hb⟩
