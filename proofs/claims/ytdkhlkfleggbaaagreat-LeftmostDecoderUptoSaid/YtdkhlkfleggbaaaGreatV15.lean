/- Parts. -/
import Derived.Test.YtdkhlkfleggbaaaGreatV12
namespace Go.Proofs.YtdkhlkfleggbaaaGreat
set_option maxHeartbeats 4000000
set_option maxRecDepth 8000
open Tryz
set_option linter.unusedVariables false
open Go.RowKit
def aaj (c:UInt8):Bool:=decide (48<=c.toNat) && decide (c.toNat<=57)
def aso (a b:UInt8):Int:=10*((a.toNat:Int)-48) +((b.toNat:Int)-48)
def ab2:List UInt8->Option (Int×Int×Int)
 | [a,b,c,d,e,f]=>if aaj a && aaj b && aaj c && aaj d && aaj e && aaj f then some (aso a b,aso c d,aso e f)else none
 | _=>none
def aev:List UInt8->Option Int
 | []=>some 0
 | [p,a]=>if p=46/\aaj a=true then some (10*((a.toNat:Int)-48))else none
 | [p,a,b]=>if p=46/\aaj a=true/\aaj b=true then some (aso a b)else none
 | _=>none
abbrev Clk:=Bool×Int×Int×Int×Int
abbrev Dat:=Bool×Int×Int×Int
def zC:Clk:=(false,0,0,0,0)
def zD:Dat:=(false,0,0,0)
def an9 (c:Clk):Bool:=if c.1=true then decide (0<=c.2.1/\c.2.1<=23/\0<=c.2.2.1/\c.2.2.1<=59/\0<=c.2.2.2.1/\c.2.2.2.1<=59/\0<=c.2.2.2.2/\c.2.2.2.2<=99)else decide (c.2.1=0/\c.2.2.1=0/\c.2.2.2.1=0/\c.2.2.2.2=0)
def aam (l:List UInt8):Clk×Int:=
 if l=[]then(zC,0)else match ab2 (l.take 6),aev (l.drop 6)with
 | some (h,m,s),some c=>if an9 (true,h,m,s,c)=true then((true,h,m,s,c),0)else(zC,5)
 | _,_=>(zC,3)
def ak7 (y:Int):Int:=if y%4=0 then 1 else 0
def ad4 (m y:Int):Int:=if m<1\/12<m\/y<2000\/2099<y then 0 else if m=2 then 28+ak7 y else if m=4\/m=6\/m=9\/m=11 then 30 else 31
def ax4 (m:Int):Int:=if m=1 then 0 else if m=2 then 31 else if m=3 then 59 else if m=4 then 90 else if m=5 then 120 else if m=6 then 151 else if m=7 then 181 else if m=8 then 212 else if m=9 then 243 else if m=10 then 273 else if m=11 then 304 else if m=12 then 334 else 365
def af8 (m y:Int):Int:=ax4 m+if 2<m then ak7 y else 0
def asi (d:Dat):Bool:=if d.1=true then decide (1<=d.2.1/\d.2.1<=ad4 d.2.2.1 d.2.2.2)else decide (d.2.1=0/\d.2.2.1=0/\d.2.2.2=0)
def acl (l:List UInt8):Dat×Int:=
 if l=[]then(zD,0)else match ab2 l with
 | some (a,b,c)=>if asi (true,a,b,2000+c)=true then((true,a,b,2000+c),0)else(zD,5)
 | none=>(zD,3)
theorem a4i {m y:Int} (h1:1<=m) (h2:m<=12) (h3:2000<=y) (h4:y<=2099):af8 (m+1) y=af8 m y+ad4 m y:=by
 unfold af8 ad4 ax4;rw[if_neg om];rcases(by omega:m=1\/m=2\/m=3\/m=4\/m=5\/m=6\/m=7\/m=8\/m=9\/m=10\/m=11\/m=12)with rfl|rfl|rfl|rfl|rfl|rfl|rfl|rfl|rfl|rfl|rfl|rfl<;>simp<;>omega
theorem awj (y:Int):ak7 y=0\/ak7 y=1:=by unfold ak7;split<;>simp
theorem bi4 (m y:Int):0<=ad4 m y/\ad4 m y<=31:=by
 have:=awj y;unfold ad4
 split
 ·omega
 ·split
  ·omega
  ·split<;>omega
theorem bjq {a b:UInt8} (ha:aaj a=true) (hb:aaj b=true):0<=aso a b/\aso a b<=99:=by
 unfold aaj at ha hb;simp only[b0g,b1l]at ha hb;unfold aso;omega
abbrev ap5 (b:Bool) (h m s c:Int):Value:=.agg #[.bool b,.int .i64 h,.int .i64 m,.int .i64 s,.int .i64 c]
abbrev baq (b:Bool) (d m y:Int):Value:=.agg #[.bool b,.int .i64 d,.int .i64 m,.int .i64 y]
theorem agd (n lo hi:Int) (w:World) (h1:lo<=n) (h2:n<=hi):Calls prog 227 #[.int .i64 n,.int .i64 lo,.int .i64 hi] w λe w'=>e=.returned (.bool true)/\w=w':=by
 go_enter func227,ntmps227;go_wp2;go_ret;exact⟨rfl,rfl⟩
theorem ajx (n lo hi:Int) (w:World) (h:n<lo\/hi<n):Calls prog 227 #[.int .i64 n,.int .i64 lo,.int .i64 hi] w λe w'=>e=.returned (.bool false)/\w=w':=by
 by_cases h1:n<lo
 ·clear h;go_enter func227,ntmps227;go_wp2;go_ret;exact⟨rfl,rfl⟩
 ·have h2:decide (n<=hi)=false:=o7 om;clear h;go_enter func227,ntmps227;go_wp2;go_ret;exact⟨rfl,rfl⟩
theorem bal (y:Int) (w:World) (h0:0<=y) (h9:y<=10000):Calls prog 237 #[.int .i64 y] w λe w'=>e=.returned (.int .i64 (ak7 y))/\w=w':=by
 by_cases h:y%4=0
 ·have e:ak7 y=1:=if_pos h;rw[e];clear e;have hb:(y%4==0)=true:=by rw[b1w];exact h
  clear h;go_enter func237,ntmps237;go_wp2;go_ret;exact⟨rfl,rfl⟩
 ·have e:ak7 y=0:=if_neg h;rw[e];clear e;have hb:(y%4==0)=false:=by rw[l7];exact h
  clear h;go_enter func237,ntmps237;go_wp2;go_ret;exact⟨rfl,rfl⟩
theorem ap4 (m y:Int) (w:World) (h1:1<=m) (h2:m<=13) (h3:2000<=y) (h4:y<=2099):Calls prog 235 #[.int .i64 m,.int .i64 y] w λe w'=>e=.returned (.int .i64 (af8 m y))/\Below w.1.size w w':=by
 have HL:=λW=>q_ (bal y W om om)
 have hlp:=awj y;rcases(by omega:m=1\/m=2\/m=3\/m=4\/m=5\/m=6\/m=7\/m=8\/m=9\/m=10\/m=11\/m=12\/m=13)with rfl|rfl|rfl|rfl|rfl|rfl|rfl|rfl|rfl|rfl|rfl|rfl|rfl
 all_goals
  unfold af8;simp only[ax4,Int.reduceEq,Int.reduceLT,b5p,b4v];generalize ak7 y=L at *;have l0:0<=L:=by omega
  have l1:L<=1:=by omega
  clear hlp h1 h2;go_enter func235,ntmps235;go_wp2_with (refine(HL _).o.mono ?_;rintro e w' ⟨rfl,rfl⟩);go_ret;exact⟨a9e om,by first|exact n9 _ _|exact qa _ _⟩
theorem baj (m y:Int) (w:World):Calls prog 228 #[.int .i64 m,.int .i64 y] w λe w'=>e=.returned (.int .i64 (ad4 m y))/\Below w.1.size w w':=by
 by_cases hm:m<1\/12<m
 ·have e:ad4 m y=0:=if_pos om;rw[e];have HM:=λW=>q_ (ajx m 1 12 W hm)
  clear e hm;go_enter func228,ntmps228;go_wp2_with fail;refine((HM _).o).mono ?_;rintro e w' ⟨rfl,rfl⟩;go_wp2_with fail;go_ret;exact⟨rfl,n9 _ _⟩
 have HM:=λW=>q_ (agd m 1 12 W om om)
 by_cases hy:y<2000\/2099<y
 ·have e:ad4 m y=0:=if_pos om;rw[e];have HY:=λW=>q_ (ajx y 2000 2099 W hy)
  clear e hm hy;go_enter func228,ntmps228;go_wp2_with fail;refine((HM _).o).mono ?_;rintro e w' ⟨rfl,rfl⟩;go_wp2_with fail;refine((HY _).o).mono ?_;rintro e w' ⟨rfl,rfl⟩;go_wp2_with fail;go_ret;exact⟨rfl,n9 _ _⟩
 have HY:=λW=>q_ (agd y 2000 2099 W om om)
 have hs:=a4i (m:=m) (y:=y) om om om om;have hd:=bi4 m y;have HA:=λW=>q_ (ap4 m y W om om om om)
 have HB:=λW=>q_ (ap4 (m+1) y W om om om om)
 have ha:0<=af8 m y/\af8 m y<=400:=by
  have:=awj y;unfold af8 ax4;rcases(by omega:m=1\/m=2\/m=3\/m=4\/m=5\/m=6\/m=7\/m=8\/m=9\/m=10\/m=11\/m=12)with rfl|rfl|rfl|rfl|rfl|rfl|rfl|rfl|rfl|rfl|rfl|rfl<;>simp<;>omega
 rw[hs]at HB;have i1:1<=m:=by omega
 have i2:m<=12:=by omega
 clear hs hm hy;generalize af8 m y=a at *;generalize ad4 m y=d at *;obtain⟨a0,a1⟩:=ha;obtain⟨d0,d1⟩:=hd;have z1:IntKind.i64.wrap (m+1)=m+1:=b05 _ om;have z2:IntKind.i64.wrap (a+d-a)=d:=by rw[show a+d-a=d by omega];exact b05 _ om
 go_enter func228,ntmps228;go_wp2_with fail;refine((HM _).o).mono ?_;rintro e w' ⟨rfl,rfl⟩;go_wp2_with fail;refine((HY _).o).mono ?_;rintro e w' ⟨rfl,rfl⟩;go_wp2_with fail;refine((HB _).o).mono ?_;rintro e w1 ⟨rfl,hb1⟩;go_wp2_with fail;refine((HA _).o).mono ?_;rintro e w2 ⟨rfl,hb2⟩;go_wp2_with fail;go_ret;exact⟨a9e om,qb hb1 hb2⟩
theorem azk (b:Bool) (h m s c:Int) (w:World):Calls prog 211 #[ap5 b h m s c] w λe w'=>e=.returned (.bool (an9 (b,h,m,s,c)))/\Below w.1.size w w':=by
 cases b with
 | false=>
  rcases(by omega:(h=0/\m=0/\s=0/\c=0)\/h≠0 \/(h=0/\m≠0) \/(h=0/\m=0/\s≠0) \/(h=0/\m=0/\s=0/\c≠0))with⟨rfl,rfl,rfl,rfl⟩|q|⟨rfl,q⟩|⟨rfl,rfl,q⟩|⟨rfl,rfl,rfl,q⟩
  ·rw[show an9 (false,0,0,0,0)=true from rfl];go_enter func211,ntmps211;go_wp2;go_ret;exact⟨rfl,qa _ _⟩
  all_goals
   rw[show an9 (false,_,_,_,_)=false from o7 (by simp only;omega)];go_enter func211,ntmps211;go_wp2;go_ret;exact⟨rfl,qa _ _⟩
 | true=>
  by_cases h1:h<0\/23<h
  ·rw[show an9 (true,h,m,s,c)=false from o7 (by simp only;omega)];have H1:=λW=>q_ (ajx h 0 23 W h1)
   clear h1;go_enter func211,ntmps211;go_wp2_with fail;refine((H1 _).o).mono ?_;rintro e w' ⟨rfl,rfl⟩;go_wp2_with fail;go_ret;exact⟨rfl,qa _ _⟩
  have H1:=λW=>q_ (agd h 0 23 W om om)
  by_cases h2:m<0\/59<m
  ·rw[show an9 (true,h,m,s,c)=false from o7 (by simp only;omega)];have H2:=λW=>q_ (ajx m 0 59 W h2)
   clear h1 h2;go_enter func211,ntmps211;go_wp2_with fail;refine((H1 _).o).mono ?_;rintro e w' ⟨rfl,rfl⟩;go_wp2_with fail;refine((H2 _).o).mono ?_;rintro e w' ⟨rfl,rfl⟩;go_wp2_with fail;go_ret;exact⟨rfl,qa _ _⟩
  have H2:=λW=>q_ (agd m 0 59 W om om)
  by_cases h3:s<0\/59<s
  ·rw[show an9 (true,h,m,s,c)=false from o7 (by simp only;omega)];have H3:=λW=>q_ (ajx s 0 59 W h3)
   clear h1 h2 h3;go_enter func211,ntmps211;go_wp2_with fail;refine((H1 _).o).mono ?_;rintro e w' ⟨rfl,rfl⟩;go_wp2_with fail;refine((H2 _).o).mono ?_;rintro e w' ⟨rfl,rfl⟩;go_wp2_with fail;refine((H3 _).o).mono ?_;rintro e w' ⟨rfl,rfl⟩;go_wp2_with fail;go_ret;exact⟨rfl,qa _ _⟩
  have H3:=λW=>q_ (agd s 0 59 W om om)
  by_cases h4:c<0\/99<c
  ·rw[show an9 (true,h,m,s,c)=false from o7 (by simp only;omega)];have H4:=λW=>q_ (ajx c 0 99 W h4)
   clear h1 h2 h3 h4;go_enter func211,ntmps211;go_wp2_with fail;refine((H1 _).o).mono ?_;rintro e w' ⟨rfl,rfl⟩;go_wp2_with fail;refine((H2 _).o).mono ?_;rintro e w' ⟨rfl,rfl⟩;go_wp2_with fail;refine((H3 _).o).mono ?_;rintro e w' ⟨rfl,rfl⟩;go_wp2_with fail;refine((H4 _).o).mono ?_;rintro e w' ⟨rfl,rfl⟩;go_wp2_with fail;go_ret;exact⟨rfl,qa _ _⟩
  ·have H4:=λW=>q_ (agd c 0 99 W om om)
   rw[show an9 (true,h,m,s,c)=true from t8 (by simp only;omega)];clear h1 h2 h3 h4;go_enter func211,ntmps211;go_wp2_with fail;refine((H1 _).o).mono ?_;rintro e w' ⟨rfl,rfl⟩;go_wp2_with fail;refine((H2 _).o).mono ?_;rintro e w' ⟨rfl,rfl⟩;go_wp2_with fail;refine((H3 _).o).mono ?_;rintro e w' ⟨rfl,rfl⟩;go_wp2_with fail;refine((H4 _).o).mono ?_;rintro e w' ⟨rfl,rfl⟩;go_wp2_with fail;go_ret;exact⟨rfl,qa _ _⟩
theorem avr (b:Bool) (d m y:Int) (w:World):Calls prog 212 #[baq b d m y] w λe w'=>e=.returned (.bool (asi (b,d,m,y)))/\Below w.1.size w w':=by
 cases b with
 | false=>
  rcases(by omega:(d=0/\m=0/\y=0)\/d≠0 \/(d=0/\m≠0) \/(d=0/\m=0/\y≠0))with⟨rfl,rfl,rfl⟩|q|⟨rfl,q⟩|⟨rfl,rfl,q⟩
  ·rw[show asi (false,0,0,0)=true from rfl];go_enter func212,ntmps212;go_wp2;go_ret;exact⟨rfl,qa _ _⟩
  all_goals
   rw[show asi (false,_,_,_)=false from o7 (by simp only;omega)];go_enter func212,ntmps212;go_wp2;go_ret;exact⟨rfl,qa _ _⟩
 | true=>
  have HD:=λW=>q_ (baj m y W)
  have HS:Q_ (∀o,(w.alloc (.cells #[.bool true,.int .i64 d,.int .i64 m,.int .i64 y] 46)).cell? ⟨w.1.size,o,none⟩=(#[Value.bool true,.int .i64 d,.int .i64 m,.int .i64 y]:Array Value)[o]?):=λo=>b8 _ _ _ _ rfl
  have HB0:=q_ (qa w (.cells #[.bool true,.int .i64 d,.int .i64 m,.int .i64 y] 46));have HZ0:Q_ (w.1.size<(w.alloc (.cells #[.bool true,.int .i64 d,.int .i64 m,.int .i64 y] 46)).1.size):=by show _<_;simp
  have h1:∀W,Q_ (Calls prog 227 #[.int .i64 d,.int .i64 1,.int .i64 (ad4 m y)] W λe w'=>e=.returned (.bool (asi (true,d,m,y)))/\W=w'):=λW=>by
   by_cases h1:d<1\/ad4 m y<d
   ·rw[show asi (true,d,m,y)=false from o7 (by simp only;omega)];exact ajx d 1 (ad4 m y) W h1
   ·rw[show asi (true,d,m,y)=true from t8 (by simp only;omega)];exact agd d 1 (ad4 m y) W om om
  generalize ad4 m y=D at *;generalize asi (true,d,m,y)=X at *;go_enter func212,ntmps212;go_upto_region 3 with fail;generalize hW0:w.alloc (.cells #[.bool true,.int .i64 d,.int .i64 m,.int .i64 y] 46)=W0 at *;clear hW0;have c1:=HS.o 1;have c2:=HS.o 2;have c3:=HS.o 3
  go_region_with (first|(go_at_call 228;refine(HD _).o.mono ?_;rintro r y1 ⟨rfl,hb1⟩;have z1:=((qy hb1).1 w.1.size 1 HZ0.o).trans (HS.o 1))|(go_at_call 227;refine(h1 _).o.mono ?_;rintro r y3 ⟨rfl,rfl⟩))
  all_goals go_wp2_with fail
  all_goals go_ret
  all_goals exact⟨rfl,qb HB0.o (b2x (acf (n9 _ _)) hb1)⟩
set_option linter.unusedSimpArgs false
def ajg (s:Rd):Clk×Rd:=((aam (qw s).1.data.toList).1,xu (aam (qw s).1.data.toList).2 (qw s).2)
def a1r (s:Rd):Dat×Rd:=((acl (qw s).1.data.toList).1,xu (acl (qw s).1.data.toList).2 (qw s).2)
def adg (lat:Bool) (s:Rd):(Bool×Int)×Rd:=
 (((abh (s.2.headD ByteArray.empty).data.toList (s.2.tail.headD ByteArray.empty) lat).1,(abh (s.2.headD ByteArray.empty).data.toList (s.2.tail.headD ByteArray.empty) lat).2.1),
   (aa4 (adh (adh s.1 s.2) s.2.tail) (abh (s.2.headD ByteArray.empty).data.toList (s.2.tail.headD ByteArray.empty) lat).2.2,s.2.tail.tail))
theorem avz {g:Nat} {s t:Rd} {w:World} {lat b:Bool} {n:Int} (ht:Q_ (adg lat s=((b,n),t))) (hp:qz g s w) :
 Calls prog 137 #[.pointer (some ⟨g,0,none⟩),.bool lat] w (jv g (jo b n) t w):=by
 have ht:=ht.o;have hg:=hp.lt;obtain⟨Q,h1,h2,h3⟩:=hp;injection ht with e1 e2
 injection e1 with e3 e4
 subst e2 e3 e4;exact(au7 g s.1 s.2 lat w h1 (λb q=>b1b (h2 b q) hg) hg (ahp h3)).mono λr w' h=>qz.post (s:=(adg lat s).2) h2 (agw (agw h3)) h
def ag9 {α β:Type} (f:Rd->α×Rd) (g:Rd->β×Rd) (s:Rd):(α×β)×Rd:=(((f s).1,(g (f s).2).1),(g (f s).2).2)
abbrev N2:=Bool×Int
def zN:N2:=(false,0)
abbrev au9:=Clk×N2×N2×Int×N2×N2×N2×N2×N2×N2
def bl6:Cl:=⟨1,6,1,-9999999,9999999,⟨#[77]⟩⟩
def bmh:Cl:=⟨1,4,1,-99999,99999,⟨#[77]⟩⟩
def bff:Rd->au9×Rd:=ag9 ajg (ag9 (adg true) (ag9 (adg false) (ag9 (zl 0 8) (ag9 (qu 1 2 0 0 99) (ag9 (qu 1 3 2 0 99999) (ag9 (ye bl6) (ag9 (ye bmh) (ag9 (qu 1 4 1 0 99999) (qu 1 4 0 0 1023)))))))))
def aag:au9:=(zC,zN,zN,0,zN,zN,zN,zN,zN,zN)
def yh (R:List ByteArray):au9×Int:=if R.length≠14 then(aag,3)else if(bff (0,R)).2.1=0 then((bff (0,R)).1,0)else(aag,(bff (0,R)).2.1)
def bb8 (s:Rd):Bool×Rd:=(decide ((qw s).1=⟨#[65]⟩),if(qw s).1 ≠⟨#[65]⟩ /\(qw s).1 ≠⟨#[86]⟩then xu 3 (qw s).2 else(qw s).2)
def eT:ByteArray:=⟨#[69]⟩
def wT:ByteArray:=⟨#[87]⟩
def bhc (n:N2) (d:ByteArray) (s:Rd):N2×Rd:=
 if(n.1=true/\d≠eT/\d≠wT) \/(n.1=false/\d≠ByteArray.empty)then(n,xu 3 s)else if d=wT then((n.1,-n.2),s)else(n,s)
def auk (s:Rd):N2×Rd:=bhc (qu 1 3 1 0 1800 s).1 (qw (qu 1 3 1 0 1800 s).2).1 (qw (qu 1 3 1 0 1800 s).2).2
abbrev avb:=Clk×Bool×N2×N2×N2×N2×Dat×N2
def bg5:Rd->avb×Rd:=ag9 ajg (ag9 bb8 (ag9 (adg true) (ag9 (adg false) (ag9 (qu 1 4 2 0 999999) (ag9 (qu 1 3 2 0 36000) (ag9 a1r auk))))))
def aah:avb:=(zC,false,zN,zN,zN,zN,zD,zN)
def yi (R:List ByteArray):avb×Int:=
 if R.length≠11/\R.length≠12 then(aah,3)else if(aak (bg5 (0,R)).2).1=0 then((bg5 (0,R)).1,0)else(aah,(aak (bg5 (0,R)).2).1)
abbrev km (cb:Bool) (ch:Int) (cm:Int) (cs:Int) (cc:Int) (lb:Bool) (ln:Int) (ob:Bool) (on:Int) (q:Int) (sb:Bool) (sn:Int) (hb:Bool) (hn:Int) (ab:Bool) (an:Int) (gb:Bool) (gn:Int) (eb:Bool) (en:Int) (tb:Bool) (tn:Int):Array Value:=#[.bool cb,.int .i64 ch,.int .i64 cm,.int .i64 cs,.int .i64 cc,.bool lb,.int .i64 ln,.bool ob,.int .i64 on,.int .i64 q,.bool sb,.int .i64 sn,.bool hb,.int .i64 hn,.bool ab,.int .i64 an,.bool gb,.int .i64 gn,.bool eb,.int .i64 en,.bool tb,.int .i64 tn]
abbrev bjc (cb:Bool) (ch:Int) (cm:Int) (cs:Int) (cc:Int) (lb:Bool) (ln:Int) (ob:Bool) (on:Int) (q:Int) (sb:Bool) (sn:Int) (hb:Bool) (hn:Int) (ab:Bool) (an:Int) (gb:Bool) (gn:Int) (eb:Bool) (en:Int) (tb:Bool) (tn:Int):Value:=.agg (km cb ch cm cs cc lb ln ob on q sb sn hb hn ab an gb gn eb en tb tn)
theorem a0n (w:World):Calls prog 140 #[] w λe w'=>e=.returned (j9 1 2 0 0 99)/\Below w.1.size w w':=by
 go_enter func140,ntmps140;go_wp2;refine b9 (v:=j9 1 2 0 0 99) (by simp[results,results140,go_sem]) rfl ⟨rfl,qa _ _⟩
theorem a0m (w:World):Calls prog 141 #[] w λe w'=>e=.returned (j9 1 3 2 0 99999)/\Below w.1.size w w':=by
 go_enter func141,ntmps141;go_wp2;refine b9 (v:=j9 1 3 2 0 99999) (by simp[results,results141,go_sem]) rfl ⟨rfl,qa _ _⟩
theorem a5q (w:World):Calls prog 142 #[] w λe w'=>e=.returned (j9 1 6 1 (-9999999) 9999999)/\Below w.1.size w w':=by
 go_enter func142,ntmps142;go_wp2;refine b9 (v:=j9 1 6 1 (-9999999) 9999999) (by simp[results,results142,go_sem]) rfl ⟨rfl,qa _ _⟩
theorem awe (w:World):Calls prog 144 #[] w λe w'=>e=.returned (j9 1 4 1 (-99999) 99999)/\Below w.1.size w w':=by
 go_enter func144,ntmps144;go_wp2;refine b9 (v:=j9 1 4 1 (-99999) 99999) (by simp[results,results144,go_sem]) rfl ⟨rfl,qa _ _⟩
theorem a5p (w:World):Calls prog 145 #[] w λe w'=>e=.returned (j9 1 4 1 0 99999)/\Below w.1.size w w':=by
 go_enter func145,ntmps145;go_wp2;refine b9 (v:=j9 1 4 1 0 99999) (by simp[results,results145,go_sem]) rfl ⟨rfl,qa _ _⟩
theorem ba8 (w:World):Calls prog 146 #[] w λe w'=>e=.returned (j9 1 4 0 0 1023)/\Below w.1.size w w':=by
 go_enter func146,ntmps146;go_wp2;refine b9 (v:=j9 1 4 0 0 1023) (by simp[results,results146,go_sem]) rfl ⟨rfl,qa _ _⟩
