/- Parts. -/
import Derived.Test.YtdkhlkfleggbaaaGreatU09
import Derived.OwnWalk
import Derived.KernelRfl
namespace Go.Proofs.YtdkhlkfleggbaaaGreat
set_option maxHeartbeats 2000000
set_option maxRecDepth 8000
open Lib (hid)
open Tryz
set_option linter.unusedVariables false
open Go.RowKit
def apw (lat:Bool):Int:=if lat then 540000000 else 1080000000
def jf (lat:Bool):ByteArray:=if lat then⟨#[78,83]⟩else⟨#[69,87]⟩
def ajg (lat neg:Bool):ByteArray:=if lat then(if neg then⟨#[83]⟩else⟨#[78]⟩)else(if neg then⟨#[87]⟩else⟨#[69]⟩)
theorem aev (lat:Bool):(jf lat).extract 0 1=ajg lat false:=by cases lat<;>rfl
theorem aee (lat:Bool):(jf lat).extract 1 2=ajg lat true:=by cases lat<;>rfl
theorem bfw {fn:Func} {t u v:Tmp} (h:fn.results=#[.tmp t,.tmp u,.tmp v]) (tmps:Array Value) (P:Program) (w:World) :
 (results fn tmps).run P w=.ok (.tuple #[tmps.getD t undef,tmps.getD u undef,tmps.getD v undef]) w:=by
 simp[results,h]
theorem abs (lat:Bool) (w:World):Calls prog 225 #[.bool lat] w fun e w'=>e=.returned (.tuple #[.int .i64 (if lat then 90 else 180),.int .i64 (if lat then 2 else 3),.string (jf lat)])∧w=w':=by
 cases lat
 all_goals
  go_enter func225,ntmps225;go_wp2
  try simp only[Exit.inBlock,Exit.then]
  refine b9 (bfw rfl _ _ _) rfl ?_;exact⟨rfl,rfl⟩
def yx (lat:Bool):Nat:=if lat then 4 else 5
theorem anp (s d:ByteArray) (lat:Bool) (w:World) (h0:s.size=0) (h1:d.size=0) :
 Calls prog 207 #[.string s,.string d,.bool lat] w fun e w'=>e=.returned (.tuple #[jo false (0),.int .i64 0])∧Below w.1.size w w':=by
 obtain rfl:s=⟨#[]⟩:=b3w (b2j h0);obtain rfl:d=⟨#[]⟩:=b3w (b2j h1);have HK:=fun W'=>hid (abs lat W')
 generalize jf lat=S at *;cases lat
 all_goals
  go_enter func207,ntmps207;go_wp2_with fail;refine b9 (v:=.tuple #[jo false (0),.int .i64 0]) (by simp[results,results207,go_sem,b8]) rfl ⟨rfl,qa w _⟩
theorem aos (s d:ByteArray) (lat:Bool) (n:Int) (w:World) (h0:0<s.size) (HP:∀W',Hid (Calls prog 223 #[.string s,.int .i64 (yx lat:Int),.int .i64 (yx lat:Int),.int .i64 5] W' fun e w'=>e=.returned (.tuple #[.int .i64 n,.bool false])∧Below W'.1.size W' w')) :
 Calls prog 207 #[.string s,.string d,.bool lat] w fun e w'=>e=.returned (.tuple #[jo false (0),.int .i64 3])∧Below w.1.size w w':=by
 obtain⟨hne1,hne2⟩:=q8 h0;have HK:=fun W'=>hid (abs lat W')
 generalize jf lat=S at *;cases lat
 all_goals
  go_enter func207,ntmps207;have q0:(w.alloc (.cells #[.bool false,.int .i64 0] 42)).cell? ⟨w.1.size,0,none⟩=some (.bool false):=by simp[b8]
  have q1:(w.alloc (.cells #[.bool false,.int .i64 0] 42)).cell? ⟨w.1.size,1,none⟩=some (.int .i64 0):=by simp[b8]
  go_wp2_with fail;refine((HK _).out).mono ?_;rintro e w' ⟨rfl,rfl⟩;go_wp2_with fail;refine((HP _).out).mono ?_;rintro e w2 ⟨rfl,hb2⟩;obtain⟨c2,f2⟩:=qy hb2;have hz:=hb2.size;simp at hz;have hz1:w.1.size<w2.1.size:=by omega
  have b2:=hid (qb (qa w _) hb2);replace q0:=(c2 w.1.size 0 sm).trans q0;replace q1:=(c2 w.1.size 1 sm).trans q1;go_wp2_with fail;obtain⟨p0,p1⟩:=zj w2 w.1.size (.bool false) (.int .i64 (0)) _ _ q0 q1;refine b9 (v:=.tuple #[jo false (0),.int .i64 3]) (by simp[results,results207,go_sem,p0,p1]) rfl ⟨rfl,?_⟩;exact(b0h (b0h b2.out (p:=⟨w.1.size,0,none⟩) (a8 _) _) (p:=⟨w.1.size,1,none⟩) (a8 _) _)
theorem anq (s d:ByteArray) (lat:Bool) (n:Int) (w:World) (h0:s.size=0) (h1:0<d.size) (HP:∀W',Hid (Calls prog 223 #[.string s,.int .i64 (yx lat:Int),.int .i64 (yx lat:Int),.int .i64 5] W' fun e w'=>e=.returned (.tuple #[.int .i64 n,.bool false])∧Below W'.1.size W' w')) :
 Calls prog 207 #[.string s,.string d,.bool lat] w fun e w'=>e=.returned (.tuple #[jo false (0),.int .i64 3])∧Below w.1.size w w':=by
 obtain rfl:s=⟨#[]⟩:=b3w (b2j h0);obtain⟨hne1,hne2⟩:=q8 h1;have HK:=fun W'=>hid (abs lat W')
 generalize jf lat=S at *;cases lat
 all_goals
  go_enter func207,ntmps207;have q0:(w.alloc (.cells #[.bool false,.int .i64 0] 42)).cell? ⟨w.1.size,0,none⟩=some (.bool false):=by simp[b8]
  have q1:(w.alloc (.cells #[.bool false,.int .i64 0] 42)).cell? ⟨w.1.size,1,none⟩=some (.int .i64 0):=by simp[b8]
  go_wp2_with fail;refine((HK _).out).mono ?_;rintro e w' ⟨rfl,rfl⟩;go_wp2_with fail;refine((HP _).out).mono ?_;rintro e w2 ⟨rfl,hb2⟩;obtain⟨c2,f2⟩:=qy hb2;have hz:=hb2.size;simp at hz;have hz1:w.1.size<w2.1.size:=by omega
  have b2:=hid (qb (qa w _) hb2);replace q0:=(c2 w.1.size 0 sm).trans q0;replace q1:=(c2 w.1.size 1 sm).trans q1;go_wp2_with fail;obtain⟨p0,p1⟩:=zj w2 w.1.size (.bool false) (.int .i64 (0)) _ _ q0 q1;refine b9 (v:=.tuple #[jo false (0),.int .i64 3]) (by simp[results,results207,go_sem,p0,p1]) rfl ⟨rfl,?_⟩;exact(b0h (b0h b2.out (p:=⟨w.1.size,0,none⟩) (a8 _) _) (p:=⟨w.1.size,1,none⟩) (a8 _) _)
theorem aov (s d:ByteArray) (lat:Bool) (n:Int) (w:World) (h0:0<s.size) (HP:∀W',Hid (Calls prog 223 #[.string s,.int .i64 (yx lat:Int),.int .i64 (yx lat:Int),.int .i64 5] W' fun e w'=>e=.returned (.tuple #[.int .i64 n,.bool true])∧Below W'.1.size W' w')) (k1:(d.toList==((jf lat).extract 0 1).toList)=false) (k2:(d.toList==((jf lat).extract 1 2).toList)=false) (hn0:0≤n) (hn:n≤2000000000000000000) :
 Calls prog 207 #[.string s,.string d,.bool lat] w fun e w'=>e=.returned (.tuple #[jo false (0),.int .i64 3])∧Below w.1.size w w':=by
 obtain⟨hne1,hne2⟩:=q8 h0;have hS:(jf lat).size=2:=by cases lat<;>rfl
 have HK:=fun W'=>hid (abs lat W')
 generalize jf lat=S at *;cases lat
 all_goals
  go_enter func207,ntmps207;have q0:(w.alloc (.cells #[.bool false,.int .i64 0] 42)).cell? ⟨w.1.size,0,none⟩=some (.bool false):=by simp[b8]
  have q1:(w.alloc (.cells #[.bool false,.int .i64 0] 42)).cell? ⟨w.1.size,1,none⟩=some (.int .i64 0):=by simp[b8]
  go_wp2_with fail;refine((HK _).out).mono ?_;rintro e w' ⟨rfl,rfl⟩;go_wp2_with fail;refine((HP _).out).mono ?_;rintro e w2 ⟨rfl,hb2⟩;obtain⟨c2,f2⟩:=qy hb2;have hz:=hb2.size;simp at hz;have hz1:w.1.size<w2.1.size:=by omega
  have b2:=hid (qb (qa w _) hb2);replace q0:=(c2 w.1.size 0 sm).trans q0;replace q1:=(c2 w.1.size 1 sm).trans q1;go_wp2_with fail;obtain⟨p0,p1⟩:=zj w2 w.1.size (.bool false) (.int .i64 (0)) _ _ q0 q1;refine b9 (v:=.tuple #[jo false (0),.int .i64 3]) (by simp[results,results207,go_sem,p0,p1]) rfl ⟨rfl,?_⟩;exact(b0h (b0h b2.out (p:=⟨w.1.size,0,none⟩) (a8 _) _) (p:=⟨w.1.size,1,none⟩) (a8 _) _)
theorem arw (s d:ByteArray) (lat:Bool) (n:Int) (w:World) (h0:0<s.size) (HP:∀W',Hid (Calls prog 223 #[.string s,.int .i64 (yx lat:Int),.int .i64 (yx lat:Int),.int .i64 5] W' fun e w'=>e=.returned (.tuple #[.int .i64 n,.bool true])∧Below W'.1.size W' w')) (k1:(d.toList==((jf lat).extract 0 1).toList)=true) (k2:(d.toList==((jf lat).extract 1 2).toList)=false) (hn0:0≤n) (hn:n≤2000000000000000000) (g:6000000≤n%10000000) :
 Calls prog 207 #[.string s,.string d,.bool lat] w fun e w'=>e=.returned (.tuple #[jo false (0),.int .i64 5])∧Below w.1.size w w':=by
 obtain⟨hne1,hne2⟩:=q8 h0;have hS:(jf lat).size=2:=by cases lat<;>rfl
 have HK:=fun W'=>hid (abs lat W')
 generalize jf lat=S at *;cases lat
 all_goals
  go_enter func207,ntmps207;have q0:(w.alloc (.cells #[.bool false,.int .i64 0] 42)).cell? ⟨w.1.size,0,none⟩=some (.bool false):=by simp[b8]
  have q1:(w.alloc (.cells #[.bool false,.int .i64 0] 42)).cell? ⟨w.1.size,1,none⟩=some (.int .i64 0):=by simp[b8]
  go_wp2_with fail;refine((HK _).out).mono ?_;rintro e w' ⟨rfl,rfl⟩;go_wp2_with fail;refine((HP _).out).mono ?_;rintro e w2 ⟨rfl,hb2⟩;obtain⟨c2,f2⟩:=qy hb2;have hz:=hb2.size;simp at hz;have hz1:w.1.size<w2.1.size:=by omega
  have b2:=hid (qb (qa w _) hb2);replace q0:=(c2 w.1.size 0 sm).trans q0;replace q1:=(c2 w.1.size 1 sm).trans q1;go_wp2_with fail;obtain⟨p0,p1⟩:=zj w2 w.1.size (.bool false) (.int .i64 (0)) _ _ q0 q1;refine b9 (v:=.tuple #[jo false (0),.int .i64 5]) (by simp[results,results207,go_sem,p0,p1]) rfl ⟨rfl,?_⟩;exact(b0h (b0h b2.out (p:=⟨w.1.size,0,none⟩) (a8 _) _) (p:=⟨w.1.size,1,none⟩) (a8 _) _)
theorem arx (s d:ByteArray) (lat:Bool) (n:Int) (w:World) (h0:0<s.size) (HP:∀W',Hid (Calls prog 223 #[.string s,.int .i64 (yx lat:Int),.int .i64 (yx lat:Int),.int .i64 5] W' fun e w'=>e=.returned (.tuple #[.int .i64 n,.bool true])∧Below W'.1.size W' w')) (k1:(d.toList==((jf lat).extract 0 1).toList)=false) (k2:(d.toList==((jf lat).extract 1 2).toList)=true) (hn0:0≤n) (hn:n≤2000000000000000000) (g:6000000≤n%10000000) :
 Calls prog 207 #[.string s,.string d,.bool lat] w fun e w'=>e=.returned (.tuple #[jo false (0),.int .i64 5])∧Below w.1.size w w':=by
 obtain⟨hne1,hne2⟩:=q8 h0;have hS:(jf lat).size=2:=by cases lat<;>rfl
 have HK:=fun W'=>hid (abs lat W')
 generalize jf lat=S at *;cases lat
 all_goals
  go_enter func207,ntmps207;have q0:(w.alloc (.cells #[.bool false,.int .i64 0] 42)).cell? ⟨w.1.size,0,none⟩=some (.bool false):=by simp[b8]
  have q1:(w.alloc (.cells #[.bool false,.int .i64 0] 42)).cell? ⟨w.1.size,1,none⟩=some (.int .i64 0):=by simp[b8]
  go_wp2_with fail;refine((HK _).out).mono ?_;rintro e w' ⟨rfl,rfl⟩;go_wp2_with fail;refine((HP _).out).mono ?_;rintro e w2 ⟨rfl,hb2⟩;obtain⟨c2,f2⟩:=qy hb2;have hz:=hb2.size;simp at hz;have hz1:w.1.size<w2.1.size:=by omega
  have b2:=hid (qb (qa w _) hb2);replace q0:=(c2 w.1.size 0 sm).trans q0;replace q1:=(c2 w.1.size 1 sm).trans q1;go_wp2_with fail;obtain⟨p0,p1⟩:=zj w2 w.1.size (.bool false) (.int .i64 (0)) _ _ q0 q1;refine b9 (v:=.tuple #[jo false (0),.int .i64 5]) (by simp[results,results207,go_sem,p0,p1]) rfl ⟨rfl,?_⟩;exact(b0h (b0h b2.out (p:=⟨w.1.size,0,none⟩) (a8 _) _) (p:=⟨w.1.size,1,none⟩) (a8 _) _)
theorem ary (s d:ByteArray) (lat:Bool) (n:Int) (w:World) (h0:0<s.size) (HP:∀W',Hid (Calls prog 223 #[.string s,.int .i64 (yx lat:Int),.int .i64 (yx lat:Int),.int .i64 5] W' fun e w'=>e=.returned (.tuple #[.int .i64 n,.bool true])∧Below W'.1.size W' w')) (k1:(d.toList==((jf lat).extract 0 1).toList)=true) (k2:(d.toList==((jf lat).extract 1 2).toList)=false) (hn0:0≤n) (hn:n≤2000000000000000000) (g:n%10000000<6000000) (g2:apw lat<n / 10000000*6000000+n%10000000) :
 Calls prog 207 #[.string s,.string d,.bool lat] w fun e w'=>e=.returned (.tuple #[jo false (0),.int .i64 5])∧Below w.1.size w w':=by
 obtain⟨hne1,hne2⟩:=q8 h0;have hS:(jf lat).size=2:=by cases lat<;>rfl
 have HK:=fun W'=>hid (abs lat W')
 generalize jf lat=S at *;cases lat
 all_goals
  have g2':=g2;unfold apw at g2';simp at g2';clear g2;go_enter func207,ntmps207;have q0:(w.alloc (.cells #[.bool false,.int .i64 0] 42)).cell? ⟨w.1.size,0,none⟩=some (.bool false):=by simp[b8]
  have q1:(w.alloc (.cells #[.bool false,.int .i64 0] 42)).cell? ⟨w.1.size,1,none⟩=some (.int .i64 0):=by simp[b8]
  go_wp2_with fail;refine((HK _).out).mono ?_;rintro e w' ⟨rfl,rfl⟩;go_wp2_with fail;refine((HP _).out).mono ?_;rintro e w2 ⟨rfl,hb2⟩;obtain⟨c2,f2⟩:=qy hb2;have hz:=hb2.size;simp at hz;have hz1:w.1.size<w2.1.size:=by omega
  have b2:=hid (qb (qa w _) hb2);replace q0:=(c2 w.1.size 0 sm).trans q0;replace q1:=(c2 w.1.size 1 sm).trans q1;go_wp2_with fail;obtain⟨p0,p1⟩:=zj w2 w.1.size (.bool false) (.int .i64 (0)) _ _ q0 q1;refine b9 (v:=.tuple #[jo false (0),.int .i64 5]) (by simp[results,results207,go_sem,p0,p1]) rfl ⟨rfl,?_⟩;exact(b0h (b0h b2.out (p:=⟨w.1.size,0,none⟩) (a8 _) _) (p:=⟨w.1.size,1,none⟩) (a8 _) _)
theorem arz (s d:ByteArray) (lat:Bool) (n:Int) (w:World) (h0:0<s.size) (HP:∀W',Hid (Calls prog 223 #[.string s,.int .i64 (yx lat:Int),.int .i64 (yx lat:Int),.int .i64 5] W' fun e w'=>e=.returned (.tuple #[.int .i64 n,.bool true])∧Below W'.1.size W' w')) (k1:(d.toList==((jf lat).extract 0 1).toList)=false) (k2:(d.toList==((jf lat).extract 1 2).toList)=true) (hn0:0≤n) (hn:n≤2000000000000000000) (g:n%10000000<6000000) (g2:apw lat<n / 10000000*6000000+n%10000000) :
 Calls prog 207 #[.string s,.string d,.bool lat] w fun e w'=>e=.returned (.tuple #[jo false (0),.int .i64 5])∧Below w.1.size w w':=by
 obtain⟨hne1,hne2⟩:=q8 h0;have hS:(jf lat).size=2:=by cases lat<;>rfl
 have HK:=fun W'=>hid (abs lat W')
 generalize jf lat=S at *;cases lat
 all_goals
  have g2':=g2;unfold apw at g2';simp at g2';clear g2;go_enter func207,ntmps207;have q0:(w.alloc (.cells #[.bool false,.int .i64 0] 42)).cell? ⟨w.1.size,0,none⟩=some (.bool false):=by simp[b8]
  have q1:(w.alloc (.cells #[.bool false,.int .i64 0] 42)).cell? ⟨w.1.size,1,none⟩=some (.int .i64 0):=by simp[b8]
  go_wp2_with fail;refine((HK _).out).mono ?_;rintro e w' ⟨rfl,rfl⟩;go_wp2_with fail;refine((HP _).out).mono ?_;rintro e w2 ⟨rfl,hb2⟩;obtain⟨c2,f2⟩:=qy hb2;have hz:=hb2.size;simp at hz;have hz1:w.1.size<w2.1.size:=by omega
  have b2:=hid (qb (qa w _) hb2);replace q0:=(c2 w.1.size 0 sm).trans q0;replace q1:=(c2 w.1.size 1 sm).trans q1;go_wp2_with fail;obtain⟨p0,p1⟩:=zj w2 w.1.size (.bool false) (.int .i64 (0)) _ _ q0 q1;refine b9 (v:=.tuple #[jo false (0),.int .i64 5]) (by simp[results,results207,go_sem,p0,p1]) rfl ⟨rfl,?_⟩;exact(b0h (b0h b2.out (p:=⟨w.1.size,0,none⟩) (a8 _) _) (p:=⟨w.1.size,1,none⟩) (a8 _) _)
theorem aot (s d:ByteArray) (lat:Bool) (n:Int) (w:World) (h0:0<s.size) (HP:∀W',Hid (Calls prog 223 #[.string s,.int .i64 (yx lat:Int),.int .i64 (yx lat:Int),.int .i64 5] W' fun e w'=>e=.returned (.tuple #[.int .i64 n,.bool true])∧Below W'.1.size W' w')) (k1:(d.toList==((jf lat).extract 0 1).toList)=true) (k2:(d.toList==((jf lat).extract 1 2).toList)=false) (hn0:0≤n) (hn:n≤2000000000000000000) (g:n%10000000<6000000) (g2:n / 10000000*6000000+n%10000000≤apw lat) :
 Calls prog 207 #[.string s,.string d,.bool lat] w fun e w'=>e=.returned (.tuple #[jo true (n / 10000000*6000000+n%10000000),.int .i64 0])∧Below w.1.size w w':=by
 obtain⟨hne1,hne2⟩:=q8 h0;have hS:(jf lat).size=2:=by cases lat<;>rfl
 have HK:=fun W'=>hid (abs lat W')
 generalize jf lat=S at *;cases lat
 all_goals
  have g2':=g2;unfold apw at g2';simp at g2';clear g2;go_enter func207,ntmps207;have q0:(w.alloc (.cells #[.bool false,.int .i64 0] 42)).cell? ⟨w.1.size,0,none⟩=some (.bool false):=by simp[b8]
  have q1:(w.alloc (.cells #[.bool false,.int .i64 0] 42)).cell? ⟨w.1.size,1,none⟩=some (.int .i64 0):=by simp[b8]
  go_wp2_with fail;refine((HK _).out).mono ?_;rintro e w' ⟨rfl,rfl⟩;go_wp2_with fail;refine((HP _).out).mono ?_;rintro e w2 ⟨rfl,hb2⟩;obtain⟨c2,f2⟩:=qy hb2;have hz:=hb2.size;simp at hz;have hz1:w.1.size<w2.1.size:=by omega
  have b2:=hid (qb (qa w _) hb2);replace q0:=(c2 w.1.size 0 sm).trans q0;replace q1:=(c2 w.1.size 1 sm).trans q1;go_wp2_with fail;obtain⟨p0,p1⟩:=zj w2 w.1.size (.bool true) (.int .i64 (n / 10000000*6000000+n%10000000)) _ _ q0 q1;refine b9 (v:=.tuple #[jo true (n / 10000000*6000000+n%10000000),.int .i64 0]) (by simp[results,results207,go_sem,p0,p1]) rfl ⟨rfl,?_⟩;exact(b0h (b0h b2.out (p:=⟨w.1.size,0,none⟩) (a8 _) _) (p:=⟨w.1.size,1,none⟩) (a8 _) _)
theorem aou (s d:ByteArray) (lat:Bool) (n:Int) (w:World) (h0:0<s.size) (HP:∀W',Hid (Calls prog 223 #[.string s,.int .i64 (yx lat:Int),.int .i64 (yx lat:Int),.int .i64 5] W' fun e w'=>e=.returned (.tuple #[.int .i64 n,.bool true])∧Below W'.1.size W' w')) (k1:(d.toList==((jf lat).extract 0 1).toList)=false) (k2:(d.toList==((jf lat).extract 1 2).toList)=true) (hn0:0≤n) (hn:n≤2000000000000000000) (g:n%10000000<6000000) (g2:n / 10000000*6000000+n%10000000≤apw lat) :
 Calls prog 207 #[.string s,.string d,.bool lat] w fun e w'=>e=.returned (.tuple #[jo true (-(n / 10000000*6000000+n%10000000)),.int .i64 0])∧Below w.1.size w w':=by
 obtain⟨hne1,hne2⟩:=q8 h0;have hS:(jf lat).size=2:=by cases lat<;>rfl
 have HK:=fun W'=>hid (abs lat W')
 generalize jf lat=S at *;cases lat
 all_goals
  have g2':=g2;unfold apw at g2';simp at g2';clear g2;go_enter func207,ntmps207;have q0:(w.alloc (.cells #[.bool false,.int .i64 0] 42)).cell? ⟨w.1.size,0,none⟩=some (.bool false):=by simp[b8]
  have q1:(w.alloc (.cells #[.bool false,.int .i64 0] 42)).cell? ⟨w.1.size,1,none⟩=some (.int .i64 0):=by simp[b8]
  go_wp2_with fail;refine((HK _).out).mono ?_;rintro e w' ⟨rfl,rfl⟩;go_wp2_with fail;refine((HP _).out).mono ?_;rintro e w2 ⟨rfl,hb2⟩;obtain⟨c2,f2⟩:=qy hb2;have hz:=hb2.size;simp at hz;have hz1:w.1.size<w2.1.size:=by omega
  have b2:=hid (qb (qa w _) hb2);replace q0:=(c2 w.1.size 0 sm).trans q0;replace q1:=(c2 w.1.size 1 sm).trans q1;go_wp2_with fail;obtain⟨p0,p1⟩:=zj w2 w.1.size (.bool true) (.int .i64 (-(n / 10000000*6000000+n%10000000))) _ _ q0 q1;refine b9 (v:=.tuple #[jo true (-(n / 10000000*6000000+n%10000000)),.int .i64 0]) (by simp[results,results207,go_sem,p0,p1]) rfl ⟨rfl,?_⟩;exact(b0h (b0h b2.out (p:=⟨w.1.size,0,none⟩) (a8 _) _) (p:=⟨w.1.size,1,none⟩) (a8 _) _)
theorem as4 (f g:ByteArray):(f.toList==g.toList)=decide (f=g):=by
 rw[b0x,b0x]
 by_cases h:f=g
 ·subst h;simp
 ·rw[o3 h,l6];intro k;exact h (b3w (by simpa using k))
def abc (l:List UInt8) (d:ByteArray) (lat:Bool):Bool×Int×Int:=
 if l=[]∧d.data.toList=[]then(false,0,0)
 else match yq l (yx lat) (yx lat) 5 with
 | none=>(false,0,3)
 | some n=>if d≠ajg lat false∧d≠ajg lat true then(false,0,3)
  else if 6000000≤n%10000000∨apw lat<((n / 10000000*6000000+n%10000000:Nat):Int)then(false,0,5)
  else(true,(if d=ajg lat true then -((n / 10000000*6000000+n%10000000:Nat):Int)else((n / 10000000*6000000+n%10000000:Nat):Int)),0)
theorem bf5 (lat:Bool):ajg lat false≠ajg lat true:=by cases lat<;>decide
theorem aqe (k m f:Nat) (hk:1≤k):yq [] k m f=none:=by
 unfold yq;rw[if_pos (.inl (by show 0<k;omega))]
theorem ano (s d:ByteArray) (lat:Bool) (w:World) (hs:s.size≤1000000) :
 Calls prog 207 #[.string s,.string d,.bool lat] w fun e w'=>e=.returned (.tuple #[jo (abc s.data.toList d lat).1 (abc s.data.toList d lat).2.1,.int .i64 (abc s.data.toList d lat).2.2])∧Below w.1.size w w':=by
 unfold abc;have hw:1≤yx lat∧yx lat≤5:=by unfold yx;split<;>omega
 by_cases h0:s.data.toList=[]∧d.data.toList=[]
 ·rw[if_pos h0];exact anp s d lat w (aef h0.1) (aef h0.2)
 rw[if_neg h0];have HP:=fun W'=>hid (al7 s (yx lat) (yx lat) 5 W' hs om om)
 by_cases hn:s.data.toList=[]
 ·have hd:d.data.toList≠[]:=fun k=>h0 ⟨hn,k⟩
  rw[hn,aqe _ _ _ hw.1]at HP;rw[hn,aqe _ _ _ hw.1];exact anq s d lat 0 w (aef hn) (aq6 hd) HP
 have hp:=aq6 hn;cases hq:yq s.data.toList (yx lat) (yx lat) 5 with
 | none=>
  simp only[hq]at HP;exact aos s d lat 0 w hp HP
 | some n=>
  simp only[hq]at HP;have hle:=al6 hq om;have k1:=as4 d ((jf lat).extract 0 1);have k2:=as4 d ((jf lat).extract 1 2);rw[aev]at k1;rw[aee]at k2;rw[← aev]at k1;rw[← aee]at k2;have hx:((n / 10000000*6000000+n%10000000:Nat):Int)=(n:Int) / 10000000*6000000 +(n:Int)%10000000:=by omega
  have hm:((n%10000000:Nat):Int)=(n:Int)%10000000:=by omega
  dsimp only
  by_cases hN:d=ajg lat false
  ·have hS:d≠ajg lat true:=fun k=>bf5 lat (hN.symm.trans k)
   rw[if_neg (fun k=>k.1 hN)];rw[p9 (by rw[aev];exact hN)]at k1;rw[o3 (by rw[aee];exact hS)]at k2
   by_cases g:6000000≤n%10000000
   ·rw[if_pos (.inl g)];exact arw s d lat n w hp HP k1 k2 om om om
   by_cases g2:apw lat<((n / 10000000*6000000+n%10000000:Nat):Int)
   ·rw[if_pos (.inr g2)];exact ary s d lat n w hp HP k1 k2 om om om om
   rw[if_neg om,if_neg hS,hx];exact aot s d lat n w hp HP k1 k2 om om om om
  rw[o3 (by rw[aev];exact hN)]at k1
  by_cases hS:d=ajg lat true
  ·rw[if_neg (fun k=>k.2 hS)];rw[p9 (by rw[aee];exact hS)]at k2
   by_cases g:6000000≤n%10000000
   ·rw[if_pos (.inl g)];exact arx s d lat n w hp HP k1 k2 om om om
   by_cases g2:apw lat<((n / 10000000*6000000+n%10000000:Nat):Int)
   ·rw[if_pos (.inr g2)];exact arz s d lat n w hp HP k1 k2 om om om om
   rw[if_neg om,if_pos hS,hx];exact aou s d lat n w hp HP k1 k2 om om om om
  ·rw[if_pos ⟨hN,hS⟩];rw[o3 (by rw[aee];exact hS)]at k2;exact aov s d lat n w hp HP k1 k2 om om
structure Frm (g:Nat) (v:Value) (w w':World):Prop where
 os:w'.os=w.os
 tape:w'.tape=w.tape
 output:w'.output=w.output
 size:w.1.size≤w'.1.size
 block:∀k,k<w.1.size→k≠g→v.ownBlock≠some k→w'.heap[k]?=w.heap[k]?
theorem Frm.of_below {g:Nat} {v:Value} {w w':World} (h:Below w.1.size w w'):Frm g v w w':=⟨h.os,h.tape,h.output,h.size,fun k hk _ _=>h.block k hk⟩
theorem Frm.set {g:Nat} {v:Value} {w w':World} (h:Frm g v w w') (o:Nat) (u:Value):Frm g v w (w'.setCell ⟨g,o,none⟩ u):=
 ⟨h.os,h.tape,h.output,by simpa using h.size,fun k hk h1 h2=>(b1r _ _ _ _ h1).trans (h.block k hk h1 h2)⟩
theorem Frm.then_below {g:Nat} {v:Value} {w w1 w2:World} (h:Frm g v w w1) (hb:Below w1.1.size w1 w2):Frm g v w w2:=
 ⟨hb.os.trans h.os,hb.tape.trans h.tape,hb.output.trans h.output,o8 h.size hb.size,fun k hk h1 h2=>(hb.block k (e9 hk h.size)).trans (h.block k hk h1 h2)⟩
def bmg (w:World) (v v':Value):Prop:=v'.ownBlock=v.ownBlock∨∀k,v'.ownBlock=some k→w.1.size≤k
theorem Frm.trans {g:Nat} {v v':Value} {w w1 w2:World} (h:Frm g v w w1) (k:Frm g v' w1 w2) (hm:bmg w v v'):Frm g v w w2:=
 ⟨k.os.trans h.os,k.tape.trans h.tape,k.output.trans h.output,o8 h.size k.size,fun i hi h1 h2=>(k.block i (e9 hi h.size) h1 (by
  rcases hm with hm|hm
  ·rw[hm];exact h2
  ·intro e;have:=hm i e;omega)).trans (h.block i hi h1 h2)⟩
theorem Frm.cell {g:Nat} {v:Value} {w w':World} (h:Frm g v w w') {b o:Nat} (hb:b<w.1.size) (h1:b≠g) (h2:v.ownBlock≠some b):w'.cell? ⟨b,o,none⟩=w.cell? ⟨b,o,none⟩:=b0q (a:=⟨b,o,none⟩) (h.block b hb h1 h2)
theorem Frm.below {g B:Nat} {v:Value} {w w':World} (h:Frm g v w w') (hg:B≤g) (hv:∀k,v.ownBlock=some k→B≤k) (hB:B≤w.1.size):Below B w w':=
 ⟨h.os,h.tape,h.output,h.size,fun k hk=>h.block k om om (fun e=>by have:=hv k e;omega)⟩
def aa1 (e E:Int):Int:=if e=0 then E else e
theorem a0f (g:Nat) (e E:Int) (w:World) (h1:w.cell? ⟨g,1,none⟩=some (.int .i64 e)) (hf:w.frozen? ⟨g,1,none⟩=false) :
 Calls prog 208 #[.pointer (some ⟨g,0,none⟩),.int .i64 E] w fun r w'=>r=.returned (.tuple #[])∧w'=if e=0 then w.setCell ⟨g,1,none⟩ (.int .i64 E)else w:=by
 by_cases h:e=0
 ·subst h;go_enter func208,ntmps208;go_wp2
  go_end0
  exact⟨rfl,rfl⟩
 ·have hne:(e==0)=false:=by rw[l6];exact h
  rw[if_neg h];clear h;go_enter func208,ntmps208;go_wp2
  go_end0
  exact⟨rfl,rfl⟩
theorem bb2:(prog.info? 9).map (fun i=>(i.zero,i.size,i.bytes))=some (some (.string ByteArray.empty),1,16):=by kernel_rfl
theorem am5 {P:Program} {t:TypeId} {z:Value} {s b:Nat} (h:(P.info? t).map (fun i=>(i.zero,i.size,i.bytes))=some (some z,s,b)):∃i,P.info? t=some i∧i.zero=some z∧i.size=s∧i.bytes=b:=by
 cases hi:P.info? t with
 | none=>rw[hi]at h;cases h
 | some i=>
  rw[hi]at h;injection h with h
  injection h with h1 h2
  injection h2 with h2 h3
  exact⟨i,rfl,h1,h2,h3⟩
theorem axe {w:World} {B:Nat} {e:TypeId} {A:Option Addr} {n c:Nat} {fs:List ByteArray} (h:w.ownsRow B e 1 (.slice A n c) n (fs.map Value.string)):fs.length=n∧vw w w.1.size A fs∧aar B A:=by
 have hl:fs.length=n:=by have:=h.1;simpa using this
 refine⟨hl,?_,fun a ha=>?_⟩
 ·intro k hk;rcases h.2 with⟨hv,h0⟩|⟨g,cap,cur,hv,_,hg,_⟩
  ·omega
  ·have hA:A=some ⟨g,0,none⟩:=by injection hv
   subst hA;have hc:=h.cells (g:=g) rfl k (.string fs[k]) (by simp[hk])
   exact⟨g,0,rfl,(o9.1 hg).1,by
    have:(⟨g,0,none⟩:Addr).add k=⟨g,0+k,none⟩:=by unfold Addr.add;split<;>simp_all
    rw[← this];exact hc⟩
 ·rcases h.2 with⟨hv,h0⟩|⟨g,cap,cur,hv,hb,hg,_⟩
  ·have hA:A=none:=by injection hv
   rw[hA]at ha;cases ha
  ·have hA:A=some ⟨g,0,none⟩:=by injection hv
   rw[hA]at ha;injection ha with ha
   rw[← ha];exact hb
theorem bal {w:World} {B:Nat} {e:TypeId} {size n:Nat} {v:Value} {xs:List Value} (h:w.ownsRow B e size v n xs):∃A c,v=.slice A n c:=by
 rcases h.2 with⟨hv,h0⟩|⟨g,cap,cur,hv,_⟩
 ·exact⟨none,0,by rw[hv,h0]⟩
 ·exact⟨_,_,hv⟩
variable {Q : Nat → Prop}
abbrev vi:Value:=.slice none 0 0
def ada (e:Int) (R:List ByteArray):Int:=if R=[]then aa1 e 3 else e
def bc6 (Q:Nat→Prop) (w:World) (A:Option Addr) (fs:List ByteArray):Prop:=
 ∀k (hk:k<fs.length),∃b off,A=some ⟨b,off,none⟩∧Q b∧w.cell? ⟨b,off+k,none⟩=some (.string (fs[k]'hk))
def ack (Q:Nat→Prop) (w:World) (g:Nat) (e:Int) (R:List ByteArray):Prop:=
 ∃A c,w.cell? ⟨g,0,none⟩=some (.bool true)∧w.cell? ⟨g,1,none⟩=some (.int .i64 e)∧w.cell? ⟨g,2,none⟩=some (.slice A R.length c) ∧(∀o,w.frozen? ⟨g,o,none⟩=false)∧g<w.1.size∧bc6 Q w A R ∧(∀b,Q b→b<w.1.size) ∧(∀b,Q b→b≠g)∧R.length≤1000000∧R.length≤c
theorem aua {w w':World} {A:Option Addr} {R:List ByteArray} {g:Nat} (h:bc6 Q w A R) (hB:∀b,Q b→b<w.1.size) (hA:∀b,Q b→b≠g) (hf:Frm g vi w w'):bc6 Q w' A R:=by
 intro k hk;obtain⟨b,off,h1,h2,h3⟩:=h k hk;exact⟨b,off,h1,h2,(hf.cell (hB b h2) (hA b h2) (by simp[Value.ownBlock])).trans h3⟩
theorem ack.keep {w w':World} {g:Nat} {e:Int} {R:List ByteArray} (h:ack Q w g e R) (hb:Below w.1.size w w'):ack Q w' g e R:=by
 obtain⟨A,c,h0,h1,h2,h3,h4,h5,hB,h6,h7,h8⟩:=h;obtain⟨cc,ff⟩:=qy hb;exact⟨A,c,(cc g 0 h4).trans h0,(cc g 1 h4).trans h1,(cc g 2 h4).trans h2,fun o=>(ff g o h4).trans (h3 o),e9 h4 hb.size,aua h5 hB h6 (Frm.of_below hb),(fun b q=>e9 (hB b q) hb.size),h6,h7,h8⟩
theorem aod (w:World) (g o:Nat) (u:Value):Frm g vi w (w.setCell ⟨g,o,none⟩ u):=(Frm.of_below (n6 _ _)).set _ _
theorem ack.err {w:World} {g:Nat} {e E:Int} {R:List ByteArray} (h:ack Q w g e R):ack Q (w.setCell ⟨g,1,none⟩ (.int .i64 E)) g E R:=by
 obtain⟨A,c,h0,h1,h2,h3,h4,h5,hB,h6,h7,h8⟩:=h;refine⟨A,c,?_,b0t _ _ _ h1,?_,fun o=>by simpa using h3 o,by simpa using h4,aua h5 hB h6 (aod _ _ _ _),by simpa using hB,h6,h7,h8⟩
 ·rw[a9 _ _ _ _ sm];exact h0
 ·rw[a9 _ _ _ _ sm];exact h2
def ab9 (Q:Nat→Prop) (g:Nat) (x:Value) (e:Int) (R:List ByteArray) (w:World) (r:Ending) (w':World):Prop:=r=.returned x∧ack Q w' g e R∧Frm g vi w w'
theorem ack.noted {w:World} {g:Nat} {e E:Int} {R:List ByteArray} (h:ack Q w g e R):ack Q (if e=0 then w.setCell ⟨g,1,none⟩ (.int .i64 E)else w) g (aa1 e E) R:=by
 unfold aa1
 by_cases he:e=0
 ·rw[if_pos he,if_pos he];exact h.err
 ·rw[if_neg he,if_neg he];exact h
theorem azp (w:World) (g o:Nat) (e E:Int):Frm g vi w (if e=0 then w.setCell ⟨g,o,none⟩ (.int .i64 E)else w):=by
 split
 ·exact aod _ _ _ _
 ·exact Frm.of_below (n6 _ _)
theorem ag6 (g:Nat) (e E:Int) (R:List ByteArray) (w:World) (h:ack Q w g e R) :
 Calls prog 149 #[.pointer (some ⟨g,0,none⟩),.int .i64 E] w (ab9 Q g (.tuple #[]) (aa1 e E) R w):=by
 have HN:Hid (ab9 Q g (.tuple #[]) (aa1 e E) R w (.returned (.tuple #[])) (if e=0 then w.setCell ⟨g,1,none⟩ (.int .i64 E)else w)):=⟨rfl,h.noted,azp _ _ _ _ _⟩;obtain⟨A,c,h0,h1,h2,h3,h4,h5,hB,h6,h7,h8⟩:=h;have HC:=hid (a0f g e E w h1 (h3 1));clear h1 h2 h3 h4 h5 h6;generalize (if e=0 then w.setCell ⟨g,1,none⟩ (.int .i64 E)else w)=W at *;go_enter func149,ntmps149;go_wp2_with fail;refine(HC.out).mono ?_;rintro e w' ⟨rfl,rfl⟩;go_wp2_with fail
 go_end0
 exact HN.out
theorem a26 (g:Nat) (e:Int) (R:List ByteArray) (w:World) (h:ack Q w g e R) :
 Calls prog 147 #[.pointer (some ⟨g,0,none⟩)] w fun r w'=>r=.returned (.int .i64 e)∧w=w':=by
 obtain⟨A,c,h0,h1,h2,h3,h4,h5,hB,h6,h7,h8⟩:=h;clear h5 h6 h3;go_enter func147,ntmps147;go_wp2;go_ret;exact⟨rfl,rfl⟩
theorem ax8 (g:Nat) (e:Int) (R:List ByteArray) (w:World) (h:ack Q w g e R) :
 Calls prog 175 #[.pointer (some ⟨g,0,none⟩)] w fun r w'=>r=.returned (.int .i64 (R.length:Int))∧w=w':=by
 obtain⟨A,c,h0,h1,h2,h3,h4,h5,hB,h6,h7,h8⟩:=h;clear h5 h6 h3;generalize R.length=n at *;go_enter func175,ntmps175;go_wp2;go_ret;exact⟨rfl,rfl⟩
variable {Q : Nat → Prop}
theorem aen (g:Nat) (e:Int) (R:List ByteArray) (w:World) (h:ack Q w g e R) :
 Calls prog 152 #[.pointer (some ⟨g,0,none⟩)] w (ab9 Q g (.string (R.headD ByteArray.empty)) (ada e R) R.tail w):=by
 cases R with
 | nil=>
  have HN:Hid (ab9 Q g (.string ByteArray.empty) (aa1 e 3) [] w (.returned (.string ByteArray.empty)) (if e=0 then w.setCell ⟨g,1,none⟩ (.int .i64 3)else w)):=⟨rfl,h.noted,azp _ _ _ _ _⟩;obtain⟨A,c,h0,h1,h2,h3,h4,h5,hB,h6,h7,h8⟩:=h;have HC:=hid (a0f g e 3 w h1 (h3 1));change Calls prog 152 #[.pointer (some ⟨g,0,none⟩)] w (ab9 Q g (.string ByteArray.empty) (aa1 e 3) [] w);replace h2:w.cell? ⟨g,2,none⟩=some (.slice A 0 c):=h2;clear h1 h3 h4 h5 h6 h7 h8;generalize (if e=0 then w.setCell ⟨g,1,none⟩ (.int .i64 3)else w)=W at *;go_enter func152,ntmps152;go_wp2_with fail;refine(HC.out).mono ?_;rintro e w' ⟨rfl,rfl⟩;go_wp2_with fail;go_ret;exact HN.out
 | cons s t=>
  obtain⟨A,c,h0,h1,h2,h3,h4,h5,hB,h6,h7,h8⟩:=h;obtain⟨b,off,rfl,hb,hc⟩:=h5 0 sm;have hbg:=h6 b hb;have H6:=hid h6;replace hc:w.cell? ⟨b,off,none⟩=some (.string s):=hc;have hn:(s::t).length=t.length+1:=rfl;rw[hn]at h2 h7 h8;have z2:=h3 2
  have HN:Hid (ab9 Q g (.string s) e t w (.returned (.string s)) (w.setCell ⟨g,2,none⟩ (.slice (some ⟨b,off+1,none⟩) t.length (c-1)))):=by
   refine⟨rfl,⟨some ⟨b,off+1,none⟩,c-1,?_,?_,b0t _ _ _ h2,fun o=>by simpa using h3 o,by simpa using h4,?_,by simpa using hB,?_,by omega,by omega⟩,aod _ _ _ _⟩
   ·rw[a9 _ _ _ _ sm];exact h0
   ·rw[a9 _ _ _ _ sm];exact h1
   ·intro k hk;obtain⟨b2,off2,e1,e2,e3⟩:=h5 (k+1) (by simpa using hk);injection e1 with e1
    injection e1 with e1 e1'
    subst e1 e1';refine⟨b,off+1,rfl,hb,?_⟩;rw[a9 _ _ _ _ (fun q=>by injection q with q;exact hbg q.symm),show off+1+k=off +(k+1)from by omega,e3];rfl
   ·exact H6.out
  change Calls prog 152 #[.pointer (some ⟨g,0,none⟩)] w (ab9 Q g (.string s) e t w);have HF:=hid h3;clear h3 h5 h6 hn;have i1:(1:Int) ≤((t.length+1:Nat):Int):=by omega
  have i2:((t.length+1:Nat):Int) ≤(c:Int):=by omega
  have i3:(((t.length+1:Nat):Int)==0)=false:=by rw[l6];omega
  have i4:(0:Int)<((t.length+1:Nat):Int):=by omega
  have i5:t.length+1-1=t.length:=by omega
  by_cases hc1:c=1
  ·subst hc1;have ht:t=[]:=b0f om;subst ht
   have HN2:Hid (ab9 Q g (.string s) e [] w (.returned (.string s)) (w.setCell ⟨g,2,none⟩ (.slice (some ⟨b,off,none⟩) 0 0))):=by
    refine⟨rfl,⟨some ⟨b,off,none⟩,0,?_,?_,b0t _ _ _ h2,fun o=>by simpa using HF.out o,by simpa using h4,fun k hk=>absurd hk sm,by simpa using hB,H6.out,by simp,by simp⟩,aod _ _ _ _⟩
    ·rw[a9 _ _ _ _ sm];exact h0
    ·rw[a9 _ _ _ _ sm];exact h1
   replace h2:w.cell? ⟨g,2,none⟩=some (.slice (some ⟨b,off,none⟩) 1 1):=h2;clear HN i1 i2 i3 i4 i5 h7 h8 HF;go_enter func152,ntmps152;go_wp2_with fail;go_ret;exact HN2.out
  ·clear HF;generalize t.length+1=n at *;generalize t.length=m at *;go_enter func152,ntmps152;go_wp2_with fail;go_ret;exact HN.out
