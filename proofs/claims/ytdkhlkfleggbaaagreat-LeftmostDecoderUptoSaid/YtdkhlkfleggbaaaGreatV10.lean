/- Parts. -/
import Derived.Test.YtdkhlkfleggbaaaGreatV09
import Derived.OwnWalk
import Derived.KernelRfl
import Derived.Deep.RegionWith
namespace Go.Proofs.YtdkhlkfleggbaaaGreat
set_option maxHeartbeats 8000000
set_option maxRecDepth 8000
open Tryz
set_option linter.unusedVariables false
open Go.RowKit
def aad (lat:Bool):Nat:=if lat then 4 else 5
theorem an6 (s d:ByteArray) (lat:Bool) (w:World) (h0:s.size=0) (h1:d.size=0) :
 Calls prog 207 #[.string s,.string d,.bool lat] w λe w'=>e=.returned (.tuple #[jo false (0),.int .i64 0])/\Below w.1.size w w':=by
 obtain rfl:s=⟨#[]⟩:=b33 (b2t h0);obtain rfl:d=⟨#[]⟩:=b33 (b2t h1);have HK:=λW'=>q_ (abv lat W')
 generalize jh lat=S at *;cases lat
 all_goals
  go_enter func207,ntmps207;go_wp2_with fail;refine b9 (v:=.tuple #[jo false (0),.int .i64 0]) (by simp[results,results207,go_sem,b8]) rfl ⟨rfl,qa w _⟩
theorem ao9 (s d:ByteArray) (lat:Bool) (n:Int) (w:World) (h0:0<s.size) (HP:∀W',Q_ (Calls prog 223 #[.string s,.int .i64 (aad lat:Int),.int .i64 (aad lat:Int),.int .i64 5] W' λe w'=>e=.returned (.tuple #[.int .i64 n,.bool false])/\Below W'.1.size W' w')) :
 Calls prog 207 #[.string s,.string d,.bool lat] w λe w'=>e=.returned (.tuple #[jo false (0),.int .i64 3])/\Below w.1.size w w':=by
 obtain⟨hne1,hne2⟩:=za h0;have HK:=λW'=>q_ (abv lat W')
 generalize jh lat=S at *;cases lat
 all_goals
  go_enter func207,ntmps207;have q0:(w.alloc (.cells #[.bool false,.int .i64 0] 42)).cell? ⟨w.1.size,0,none⟩=some (.bool false):=by simp[b8]
  have q1:(w.alloc (.cells #[.bool false,.int .i64 0] 42)).cell? ⟨w.1.size,1,none⟩=some (.int .i64 0):=by simp[b8]
  go_wp2_with fail;refine((HK _).o).mono ?_;rintro e w' ⟨rfl,rfl⟩;go_wp2_with fail;refine((HP _).o).mono ?_;rintro e w2 ⟨rfl,hb2⟩;obtain⟨c2,f2⟩:=qy hb2;have hz:=hb2.size;simp at hz;have hz1:w.1.size<w2.1.size:=by omega
  have b2:=q_ (qb (qa w _) hb2);replace q0:=(c2 w.1.size 0 sm).trans q0;replace q1:=(c2 w.1.size 1 sm).trans q1;go_wp2_with fail;obtain⟨p0,p1⟩:=zi w2 w.1.size (.bool false) (.int .i64 (0)) _ _ q0 q1;refine b9 (v:=.tuple #[jo false (0),.int .i64 3]) (by simp[results,results207,go_sem,p0,p1]) rfl ⟨rfl,?_⟩;exact(b0n (b0n b2.o (p:=⟨w.1.size,0,none⟩) (a8 _) _) (p:=⟨w.1.size,1,none⟩) (a8 _) _)
theorem an7 (s d:ByteArray) (lat:Bool) (n:Int) (w:World) (h0:s.size=0) (h1:0<d.size) (HP:∀W',Q_ (Calls prog 223 #[.string s,.int .i64 (aad lat:Int),.int .i64 (aad lat:Int),.int .i64 5] W' λe w'=>e=.returned (.tuple #[.int .i64 n,.bool false])/\Below W'.1.size W' w')) :
 Calls prog 207 #[.string s,.string d,.bool lat] w λe w'=>e=.returned (.tuple #[jo false (0),.int .i64 3])/\Below w.1.size w w':=by
 obtain rfl:s=⟨#[]⟩:=b33 (b2t h0);obtain⟨hne1,hne2⟩:=za h1;have HK:=λW'=>q_ (abv lat W')
 generalize jh lat=S at *;cases lat
 all_goals
  go_enter func207,ntmps207;have q0:(w.alloc (.cells #[.bool false,.int .i64 0] 42)).cell? ⟨w.1.size,0,none⟩=some (.bool false):=by simp[b8]
  have q1:(w.alloc (.cells #[.bool false,.int .i64 0] 42)).cell? ⟨w.1.size,1,none⟩=some (.int .i64 0):=by simp[b8]
  go_wp2_with fail;refine((HK _).o).mono ?_;rintro e w' ⟨rfl,rfl⟩;go_wp2_with fail;refine((HP _).o).mono ?_;rintro e w2 ⟨rfl,hb2⟩;obtain⟨c2,f2⟩:=qy hb2;have hz:=hb2.size;simp at hz;have hz1:w.1.size<w2.1.size:=by omega
  have b2:=q_ (qb (qa w _) hb2);replace q0:=(c2 w.1.size 0 sm).trans q0;replace q1:=(c2 w.1.size 1 sm).trans q1;go_wp2_with fail;obtain⟨p0,p1⟩:=zi w2 w.1.size (.bool false) (.int .i64 (0)) _ _ q0 q1;refine b9 (v:=.tuple #[jo false (0),.int .i64 3]) (by simp[results,results207,go_sem,p0,p1]) rfl ⟨rfl,?_⟩;exact(b0n (b0n b2.o (p:=⟨w.1.size,0,none⟩) (a8 _) _) (p:=⟨w.1.size,1,none⟩) (a8 _) _)
theorem apc (s d:ByteArray) (lat:Bool) (n:Int) (w:World) (h0:0<s.size) (HP:∀W',Q_ (Calls prog 223 #[.string s,.int .i64 (aad lat:Int),.int .i64 (aad lat:Int),.int .i64 5] W' λe w'=>e=.returned (.tuple #[.int .i64 n,.bool true])/\Below W'.1.size W' w')) (k1:(d.toList==((jh lat).extract 0 1).toList)=false) (k2:(d.toList==((jh lat).extract 1 2).toList)=false) (hn0:0<=n) (hn:n<=2000000000000000000) :
 Calls prog 207 #[.string s,.string d,.bool lat] w λe w'=>e=.returned (.tuple #[jo false (0),.int .i64 3])/\Below w.1.size w w':=by
 obtain⟨hne1,hne2⟩:=za h0;have hS:(jh lat).size=2:=by cases lat<;>rfl
 have HK:=λW'=>q_ (abv lat W')
 generalize jh lat=S at *;cases lat
 all_goals
  go_enter func207,ntmps207;have q0:(w.alloc (.cells #[.bool false,.int .i64 0] 42)).cell? ⟨w.1.size,0,none⟩=some (.bool false):=by simp[b8]
  have q1:(w.alloc (.cells #[.bool false,.int .i64 0] 42)).cell? ⟨w.1.size,1,none⟩=some (.int .i64 0):=by simp[b8]
  go_wp2_with fail;refine((HK _).o).mono ?_;rintro e w' ⟨rfl,rfl⟩;go_wp2_with fail;refine((HP _).o).mono ?_;rintro e w2 ⟨rfl,hb2⟩;obtain⟨c2,f2⟩:=qy hb2;have hz:=hb2.size;simp at hz;have hz1:w.1.size<w2.1.size:=by omega
  have b2:=q_ (qb (qa w _) hb2);replace q0:=(c2 w.1.size 0 sm).trans q0;replace q1:=(c2 w.1.size 1 sm).trans q1;go_wp2_with fail;obtain⟨p0,p1⟩:=zi w2 w.1.size (.bool false) (.int .i64 (0)) _ _ q0 q1;refine b9 (v:=.tuple #[jo false (0),.int .i64 3]) (by simp[results,results207,go_sem,p0,p1]) rfl ⟨rfl,?_⟩;exact(b0n (b0n b2.o (p:=⟨w.1.size,0,none⟩) (a8 _) _) (p:=⟨w.1.size,1,none⟩) (a8 _) _)
theorem ar8 (s d:ByteArray) (lat:Bool) (n:Int) (w:World) (h0:0<s.size) (HP:∀W',Q_ (Calls prog 223 #[.string s,.int .i64 (aad lat:Int),.int .i64 (aad lat:Int),.int .i64 5] W' λe w'=>e=.returned (.tuple #[.int .i64 n,.bool true])/\Below W'.1.size W' w')) (k1:(d.toList==((jh lat).extract 0 1).toList)=true) (k2:(d.toList==((jh lat).extract 1 2).toList)=false) (hn0:0<=n) (hn:n<=2000000000000000000) (g:6000000<=n%10000000) :
 Calls prog 207 #[.string s,.string d,.bool lat] w λe w'=>e=.returned (.tuple #[jo false (0),.int .i64 5])/\Below w.1.size w w':=by
 obtain⟨hne1,hne2⟩:=za h0;have hS:(jh lat).size=2:=by cases lat<;>rfl
 have HK:=λW'=>q_ (abv lat W')
 generalize jh lat=S at *;cases lat
 all_goals
  go_enter func207,ntmps207;have q0:(w.alloc (.cells #[.bool false,.int .i64 0] 42)).cell? ⟨w.1.size,0,none⟩=some (.bool false):=by simp[b8]
  have q1:(w.alloc (.cells #[.bool false,.int .i64 0] 42)).cell? ⟨w.1.size,1,none⟩=some (.int .i64 0):=by simp[b8]
  go_wp2_with fail;refine((HK _).o).mono ?_;rintro e w' ⟨rfl,rfl⟩;go_wp2_with fail;refine((HP _).o).mono ?_;rintro e w2 ⟨rfl,hb2⟩;obtain⟨c2,f2⟩:=qy hb2;have hz:=hb2.size;simp at hz;have hz1:w.1.size<w2.1.size:=by omega
  have b2:=q_ (qb (qa w _) hb2);replace q0:=(c2 w.1.size 0 sm).trans q0;replace q1:=(c2 w.1.size 1 sm).trans q1;go_wp2_with fail;obtain⟨p0,p1⟩:=zi w2 w.1.size (.bool false) (.int .i64 (0)) _ _ q0 q1;refine b9 (v:=.tuple #[jo false (0),.int .i64 5]) (by simp[results,results207,go_sem,p0,p1]) rfl ⟨rfl,?_⟩;exact(b0n (b0n b2.o (p:=⟨w.1.size,0,none⟩) (a8 _) _) (p:=⟨w.1.size,1,none⟩) (a8 _) _)
theorem ar9 (s d:ByteArray) (lat:Bool) (n:Int) (w:World) (h0:0<s.size) (HP:∀W',Q_ (Calls prog 223 #[.string s,.int .i64 (aad lat:Int),.int .i64 (aad lat:Int),.int .i64 5] W' λe w'=>e=.returned (.tuple #[.int .i64 n,.bool true])/\Below W'.1.size W' w')) (k1:(d.toList==((jh lat).extract 0 1).toList)=false) (k2:(d.toList==((jh lat).extract 1 2).toList)=true) (hn0:0<=n) (hn:n<=2000000000000000000) (g:6000000<=n%10000000) :
 Calls prog 207 #[.string s,.string d,.bool lat] w λe w'=>e=.returned (.tuple #[jo false (0),.int .i64 5])/\Below w.1.size w w':=by
 obtain⟨hne1,hne2⟩:=za h0;have hS:(jh lat).size=2:=by cases lat<;>rfl
 have HK:=λW'=>q_ (abv lat W')
 generalize jh lat=S at *;cases lat
 all_goals
  go_enter func207,ntmps207;have q0:(w.alloc (.cells #[.bool false,.int .i64 0] 42)).cell? ⟨w.1.size,0,none⟩=some (.bool false):=by simp[b8]
  have q1:(w.alloc (.cells #[.bool false,.int .i64 0] 42)).cell? ⟨w.1.size,1,none⟩=some (.int .i64 0):=by simp[b8]
  go_wp2_with fail;refine((HK _).o).mono ?_;rintro e w' ⟨rfl,rfl⟩;go_wp2_with fail;refine((HP _).o).mono ?_;rintro e w2 ⟨rfl,hb2⟩;obtain⟨c2,f2⟩:=qy hb2;have hz:=hb2.size;simp at hz;have hz1:w.1.size<w2.1.size:=by omega
  have b2:=q_ (qb (qa w _) hb2);replace q0:=(c2 w.1.size 0 sm).trans q0;replace q1:=(c2 w.1.size 1 sm).trans q1;go_wp2_with fail;obtain⟨p0,p1⟩:=zi w2 w.1.size (.bool false) (.int .i64 (0)) _ _ q0 q1;refine b9 (v:=.tuple #[jo false (0),.int .i64 5]) (by simp[results,results207,go_sem,p0,p1]) rfl ⟨rfl,?_⟩;exact(b0n (b0n b2.o (p:=⟨w.1.size,0,none⟩) (a8 _) _) (p:=⟨w.1.size,1,none⟩) (a8 _) _)
theorem asa (s d:ByteArray) (lat:Bool) (n:Int) (w:World) (h0:0<s.size) (HP:∀W',Q_ (Calls prog 223 #[.string s,.int .i64 (aad lat:Int),.int .i64 (aad lat:Int),.int .i64 5] W' λe w'=>e=.returned (.tuple #[.int .i64 n,.bool true])/\Below W'.1.size W' w')) (k1:(d.toList==((jh lat).extract 0 1).toList)=true) (k2:(d.toList==((jh lat).extract 1 2).toList)=false) (hn0:0<=n) (hn:n<=2000000000000000000) (g:n%10000000<6000000) (g2:aqc lat<n / 10000000*6000000+n%10000000) :
 Calls prog 207 #[.string s,.string d,.bool lat] w λe w'=>e=.returned (.tuple #[jo false (0),.int .i64 5])/\Below w.1.size w w':=by
 obtain⟨hne1,hne2⟩:=za h0;have hS:(jh lat).size=2:=by cases lat<;>rfl
 have HK:=λW'=>q_ (abv lat W')
 generalize jh lat=S at *;cases lat
 all_goals
  have g2':=g2;unfold aqc at g2';simp at g2';clear g2;go_enter func207,ntmps207;have q0:(w.alloc (.cells #[.bool false,.int .i64 0] 42)).cell? ⟨w.1.size,0,none⟩=some (.bool false):=by simp[b8]
  have q1:(w.alloc (.cells #[.bool false,.int .i64 0] 42)).cell? ⟨w.1.size,1,none⟩=some (.int .i64 0):=by simp[b8]
  go_wp2_with fail;refine((HK _).o).mono ?_;rintro e w' ⟨rfl,rfl⟩;go_wp2_with fail;refine((HP _).o).mono ?_;rintro e w2 ⟨rfl,hb2⟩;obtain⟨c2,f2⟩:=qy hb2;have hz:=hb2.size;simp at hz;have hz1:w.1.size<w2.1.size:=by omega
  have b2:=q_ (qb (qa w _) hb2);replace q0:=(c2 w.1.size 0 sm).trans q0;replace q1:=(c2 w.1.size 1 sm).trans q1;go_wp2_with fail;obtain⟨p0,p1⟩:=zi w2 w.1.size (.bool false) (.int .i64 (0)) _ _ q0 q1;refine b9 (v:=.tuple #[jo false (0),.int .i64 5]) (by simp[results,results207,go_sem,p0,p1]) rfl ⟨rfl,?_⟩;exact(b0n (b0n b2.o (p:=⟨w.1.size,0,none⟩) (a8 _) _) (p:=⟨w.1.size,1,none⟩) (a8 _) _)
theorem asb (s d:ByteArray) (lat:Bool) (n:Int) (w:World) (h0:0<s.size) (HP:∀W',Q_ (Calls prog 223 #[.string s,.int .i64 (aad lat:Int),.int .i64 (aad lat:Int),.int .i64 5] W' λe w'=>e=.returned (.tuple #[.int .i64 n,.bool true])/\Below W'.1.size W' w')) (k1:(d.toList==((jh lat).extract 0 1).toList)=false) (k2:(d.toList==((jh lat).extract 1 2).toList)=true) (hn0:0<=n) (hn:n<=2000000000000000000) (g:n%10000000<6000000) (g2:aqc lat<n / 10000000*6000000+n%10000000) :
 Calls prog 207 #[.string s,.string d,.bool lat] w λe w'=>e=.returned (.tuple #[jo false (0),.int .i64 5])/\Below w.1.size w w':=by
 obtain⟨hne1,hne2⟩:=za h0;have hS:(jh lat).size=2:=by cases lat<;>rfl
 have HK:=λW'=>q_ (abv lat W')
 generalize jh lat=S at *;cases lat
 all_goals
  have g2':=g2;unfold aqc at g2';simp at g2';clear g2;go_enter func207,ntmps207;have q0:(w.alloc (.cells #[.bool false,.int .i64 0] 42)).cell? ⟨w.1.size,0,none⟩=some (.bool false):=by simp[b8]
  have q1:(w.alloc (.cells #[.bool false,.int .i64 0] 42)).cell? ⟨w.1.size,1,none⟩=some (.int .i64 0):=by simp[b8]
  go_wp2_with fail;refine((HK _).o).mono ?_;rintro e w' ⟨rfl,rfl⟩;go_wp2_with fail;refine((HP _).o).mono ?_;rintro e w2 ⟨rfl,hb2⟩;obtain⟨c2,f2⟩:=qy hb2;have hz:=hb2.size;simp at hz;have hz1:w.1.size<w2.1.size:=by omega
  have b2:=q_ (qb (qa w _) hb2);replace q0:=(c2 w.1.size 0 sm).trans q0;replace q1:=(c2 w.1.size 1 sm).trans q1;go_wp2_with fail;obtain⟨p0,p1⟩:=zi w2 w.1.size (.bool false) (.int .i64 (0)) _ _ q0 q1;refine b9 (v:=.tuple #[jo false (0),.int .i64 5]) (by simp[results,results207,go_sem,p0,p1]) rfl ⟨rfl,?_⟩;exact(b0n (b0n b2.o (p:=⟨w.1.size,0,none⟩) (a8 _) _) (p:=⟨w.1.size,1,none⟩) (a8 _) _)
theorem apa (s d:ByteArray) (lat:Bool) (n:Int) (w:World) (h0:0<s.size) (HP:∀W',Q_ (Calls prog 223 #[.string s,.int .i64 (aad lat:Int),.int .i64 (aad lat:Int),.int .i64 5] W' λe w'=>e=.returned (.tuple #[.int .i64 n,.bool true])/\Below W'.1.size W' w')) (k1:(d.toList==((jh lat).extract 0 1).toList)=true) (k2:(d.toList==((jh lat).extract 1 2).toList)=false) (hn0:0<=n) (hn:n<=2000000000000000000) (g:n%10000000<6000000) (g2:n / 10000000*6000000+n%10000000<=aqc lat) :
 Calls prog 207 #[.string s,.string d,.bool lat] w λe w'=>e=.returned (.tuple #[jo true (n / 10000000*6000000+n%10000000),.int .i64 0])/\Below w.1.size w w':=by
 obtain⟨hne1,hne2⟩:=za h0;have hS:(jh lat).size=2:=by cases lat<;>rfl
 have HK:=λW'=>q_ (abv lat W')
 generalize jh lat=S at *;cases lat
 all_goals
  have g2':=g2;unfold aqc at g2';simp at g2';clear g2;go_enter func207,ntmps207;have q0:(w.alloc (.cells #[.bool false,.int .i64 0] 42)).cell? ⟨w.1.size,0,none⟩=some (.bool false):=by simp[b8]
  have q1:(w.alloc (.cells #[.bool false,.int .i64 0] 42)).cell? ⟨w.1.size,1,none⟩=some (.int .i64 0):=by simp[b8]
  go_wp2_with fail;refine((HK _).o).mono ?_;rintro e w' ⟨rfl,rfl⟩;go_wp2_with fail;refine((HP _).o).mono ?_;rintro e w2 ⟨rfl,hb2⟩;obtain⟨c2,f2⟩:=qy hb2;have hz:=hb2.size;simp at hz;have hz1:w.1.size<w2.1.size:=by omega
  have b2:=q_ (qb (qa w _) hb2);replace q0:=(c2 w.1.size 0 sm).trans q0;replace q1:=(c2 w.1.size 1 sm).trans q1;go_wp2_with fail;obtain⟨p0,p1⟩:=zi w2 w.1.size (.bool true) (.int .i64 (n / 10000000*6000000+n%10000000)) _ _ q0 q1;refine b9 (v:=.tuple #[jo true (n / 10000000*6000000+n%10000000),.int .i64 0]) (by simp[results,results207,go_sem,p0,p1]) rfl ⟨rfl,?_⟩;exact(b0n (b0n b2.o (p:=⟨w.1.size,0,none⟩) (a8 _) _) (p:=⟨w.1.size,1,none⟩) (a8 _) _)
theorem apb (s d:ByteArray) (lat:Bool) (n:Int) (w:World) (h0:0<s.size) (HP:∀W',Q_ (Calls prog 223 #[.string s,.int .i64 (aad lat:Int),.int .i64 (aad lat:Int),.int .i64 5] W' λe w'=>e=.returned (.tuple #[.int .i64 n,.bool true])/\Below W'.1.size W' w')) (k1:(d.toList==((jh lat).extract 0 1).toList)=false) (k2:(d.toList==((jh lat).extract 1 2).toList)=true) (hn0:0<=n) (hn:n<=2000000000000000000) (g:n%10000000<6000000) (g2:n / 10000000*6000000+n%10000000<=aqc lat) :
 Calls prog 207 #[.string s,.string d,.bool lat] w λe w'=>e=.returned (.tuple #[jo true (-(n / 10000000*6000000+n%10000000)),.int .i64 0])/\Below w.1.size w w':=by
 obtain⟨hne1,hne2⟩:=za h0;have hS:(jh lat).size=2:=by cases lat<;>rfl
 have HK:=λW'=>q_ (abv lat W')
 generalize jh lat=S at *;cases lat
 all_goals
  have g2':=g2;unfold aqc at g2';simp at g2';clear g2;go_enter func207,ntmps207;have q0:(w.alloc (.cells #[.bool false,.int .i64 0] 42)).cell? ⟨w.1.size,0,none⟩=some (.bool false):=by simp[b8]
  have q1:(w.alloc (.cells #[.bool false,.int .i64 0] 42)).cell? ⟨w.1.size,1,none⟩=some (.int .i64 0):=by simp[b8]
  go_wp2_with fail;refine((HK _).o).mono ?_;rintro e w' ⟨rfl,rfl⟩;go_wp2_with fail;refine((HP _).o).mono ?_;rintro e w2 ⟨rfl,hb2⟩;obtain⟨c2,f2⟩:=qy hb2;have hz:=hb2.size;simp at hz;have hz1:w.1.size<w2.1.size:=by omega
  have b2:=q_ (qb (qa w _) hb2);replace q0:=(c2 w.1.size 0 sm).trans q0;replace q1:=(c2 w.1.size 1 sm).trans q1;go_wp2_with fail;obtain⟨p0,p1⟩:=zi w2 w.1.size (.bool true) (.int .i64 (-(n / 10000000*6000000+n%10000000))) _ _ q0 q1;refine b9 (v:=.tuple #[jo true (-(n / 10000000*6000000+n%10000000)),.int .i64 0]) (by simp[results,results207,go_sem,p0,p1]) rfl ⟨rfl,?_⟩;exact(b0n (b0n b2.o (p:=⟨w.1.size,0,none⟩) (a8 _) _) (p:=⟨w.1.size,1,none⟩) (a8 _) _)
theorem atk (f g:ByteArray):(f.toList==g.toList)=decide (f=g):=by
 rw[b07,b07]
 by_cases h:f=g
 ·subst h;simp
 ·rw[o7 h,l7];intro k;exact h (b33 (by simpa using k))
def abh (l:List UInt8) (d:ByteArray) (lat:Bool):Bool×Int×Int:=
 if l=[]/\d.data.toList=[]then(false,0,0)
 else match yv l (aad lat) (aad lat) 5 with
 | none=>(false,0,3)
 | some n=>if d≠ajm lat false/\d≠ajm lat true then(false,0,3)
  else if 6000000<=n%10000000\/aqc lat<((n / 10000000*6000000+n%10000000:Nat):Int)then(false,0,5)
  else(true,(if d=ajm lat true then -((n / 10000000*6000000+n%10000000:Nat):Int)else((n / 10000000*6000000+n%10000000:Nat):Int)),0)
theorem bhb (lat:Bool):ajm lat false≠ajm lat true:=by cases lat<;>decide
theorem aqr (k m f:Nat) (hk:1<=k):yv [] k m f=none:=by
 unfold yv;rw[if_pos (.inl (by show 0<k;omega))]
theorem an5 (s d:ByteArray) (lat:Bool) (w:World) (hs:s.size<=1100000) :
 Calls prog 207 #[.string s,.string d,.bool lat] w λe w'=>e=.returned (.tuple #[jo (abh s.data.toList d lat).1 (abh s.data.toList d lat).2.1,.int .i64 (abh s.data.toList d lat).2.2])/\Below w.1.size w w':=by
 unfold abh;have hw:1<=aad lat/\aad lat<=5:=by unfold aad;split<;>omega
 by_cases h0:s.data.toList=[]/\d.data.toList=[]
 ·rw[if_pos h0];exact an6 s d lat w (ael h0.1) (ael h0.2)
 rw[if_neg h0];have HP:=λW'=>q_ (amo s (aad lat) (aad lat) 5 W' hs om om)
 by_cases hn:s.data.toList=[]
 ·have hd:d.data.toList≠[]:=λk=>h0 ⟨hn,k⟩
  rw[hn,aqr _ _ _ hw.1]at HP;rw[hn,aqr _ _ _ hw.1];exact an7 s d lat 0 w (ael hn) (arj hd) HP
 have hp:=arj hn;cases hq:yv s.data.toList (aad lat) (aad lat) 5 with
 | none=>
  simp only[hq]at HP;exact ao9 s d lat 0 w hp HP
 | some n=>
  simp only[hq]at HP;have hle:=amn hq om;have k1:=atk d ((jh lat).extract 0 1);have k2:=atk d ((jh lat).extract 1 2);rw[ae2]at k1;rw[aek]at k2;rw[<- ae2]at k1;rw[<- aek]at k2;have hx:((n / 10000000*6000000+n%10000000:Nat):Int)=(n:Int) / 10000000*6000000 +(n:Int)%10000000:=by omega
  have hm:((n%10000000:Nat):Int)=(n:Int)%10000000:=by omega
  dsimp only
  by_cases hN:d=ajm lat false
  ·have hS:d≠ajm lat true:=λk=>bhb lat (hN.symm.trans k)
   rw[if_neg (λk=>k.1 hN)];rw[t8 (by rw[ae2];exact hN)]at k1;rw[o7 (by rw[aek];exact hS)]at k2
   by_cases g:6000000<=n%10000000
   ·rw[if_pos (.inl g)];exact ar8 s d lat n w hp HP k1 k2 om om om
   by_cases g2:aqc lat<((n / 10000000*6000000+n%10000000:Nat):Int)
   ·rw[if_pos (.inr g2)];exact asa s d lat n w hp HP k1 k2 om om om om
   rw[if_neg om,if_neg hS,hx];exact apa s d lat n w hp HP k1 k2 om om om om
  rw[o7 (by rw[ae2];exact hN)]at k1
  by_cases hS:d=ajm lat true
  ·rw[if_neg (λk=>k.2 hS)];rw[t8 (by rw[aek];exact hS)]at k2
   by_cases g:6000000<=n%10000000
   ·rw[if_pos (.inl g)];exact ar9 s d lat n w hp HP k1 k2 om om om
   by_cases g2:aqc lat<((n / 10000000*6000000+n%10000000:Nat):Int)
   ·rw[if_pos (.inr g2)];exact asb s d lat n w hp HP k1 k2 om om om om
   rw[if_neg om,if_pos hS,hx];exact apb s d lat n w hp HP k1 k2 om om om om
  ·rw[if_pos ⟨hN,hS⟩];rw[o7 (by rw[aek];exact hS)]at k2;exact apc s d lat n w hp HP k1 k2 om om
structure Frm (g:Nat) (v:Value) (w w':World):Prop where
 os:w'.os=w.os
 tape:w'.tape=w.tape
 output:w'.output=w.output
 size:w.1.size<=w'.1.size
 block:∀k,k<w.1.size->k≠g->v.ownBlock≠some k->w'.heap[k]?=w.heap[k]?
theorem Frm.of_below {g:Nat} {v:Value} {w w':World} (h:Below w.1.size w w'):Frm g v w w':=⟨h.os,h.tape,h.output,h.size,λk hk _ _=>h.block k hk⟩
theorem Frm.set {g:Nat} {v:Value} {w w':World} (h:Frm g v w w') (o:Nat) (u:Value):Frm g v w (w'.setCell ⟨g,o,none⟩ u):=
 ⟨h.os,h.tape,h.output,by simpa using h.size,λk hk h1 h2=>(b14 _ _ _ _ h1).trans (h.block k hk h1 h2)⟩
theorem Frm.then_below {g:Nat} {v:Value} {w w1 w2:World} (h:Frm g v w w1) (hb:Below w1.1.size w1 w2):Frm g v w w2:=
 ⟨hb.os.trans h.os,hb.tape.trans h.tape,hb.output.trans h.output,p9 h.size hb.size,λk hk h1 h2=>(hb.block k (i9 hk h.size)).trans (h.block k hk h1 h2)⟩
def bns (w:World) (v v':Value):Prop:=v'.ownBlock=v.ownBlock\/∀k,v'.ownBlock=some k->w.1.size<=k
theorem Frm.trans {g:Nat} {v v':Value} {w w1 w2:World} (h:Frm g v w w1) (k:Frm g v' w1 w2) (hm:bns w v v'):Frm g v w w2:=
 ⟨k.os.trans h.os,k.tape.trans h.tape,k.output.trans h.output,p9 h.size k.size,λi hi h1 h2=>(k.block i (i9 hi h.size) h1 (by
  rcases hm with hm|hm
  ·rw[hm];exact h2
  ·intro e;have:=hm i e;omega)).trans (h.block i hi h1 h2)⟩
theorem Frm.cell {g:Nat} {v:Value} {w w':World} (h:Frm g v w w') {b o:Nat} (hb:b<w.1.size) (h1:b≠g) (h2:v.ownBlock≠some b):w'.cell? ⟨b,o,none⟩=w.cell? ⟨b,o,none⟩:=t7 (a:=⟨b,o,none⟩) (h.block b hb h1 h2)
theorem Frm.below {g B:Nat} {v:Value} {w w':World} (h:Frm g v w w') (hg:B<=g) (hv:∀k,v.ownBlock=some k->B<=k) (hB:B<=w.1.size):Below B w w':=
 ⟨h.os,h.tape,h.output,h.size,λk hk=>h.block k om om (λe=>by have:=hv k e;omega)⟩
def aa4 (e E:Int):Int:=if e=0 then E else e
theorem a08 (g:Nat) (e E:Int) (w:World) (h1:w.cell? ⟨g,1,none⟩=some (.int .i64 e)) (hf:w.frozen? ⟨g,1,none⟩=false) :
 Calls prog 208 #[.pointer (some ⟨g,0,none⟩),.int .i64 E] w λr w'=>r=.returned (.tuple #[])/\w'=if e=0 then w.setCell ⟨g,1,none⟩ (.int .i64 E)else w:=by
 by_cases h:e=0
 ·subst h;go_enter func208,ntmps208;go_wp2
  go_end0
  exact⟨rfl,rfl⟩
 ·have hne:(e==0)=false:=by rw[l7];exact h
  rw[if_neg h];clear h;go_enter func208,ntmps208;go_wp2
  go_end0
  exact⟨rfl,rfl⟩
theorem bda:(prog.info? 9).map (λi=>(i.zero,i.size,i.bytes))=some (some (.string ByteArray.empty),1,16):=by kernel_rfl
theorem anm {P:Program} {t:TypeId} {z:Value} {s b:Nat} (h:(P.info? t).map (λi=>(i.zero,i.size,i.bytes))=some (some z,s,b)):∃i,P.info? t=some i/\i.zero=some z/\i.size=s/\i.bytes=b:=by
 cases hi:P.info? t with
 | none=>rw[hi]at h;cases h
 | some i=>
  rw[hi]at h;injection h with h
  injection h with h1 h2
  injection h2 with h2 h3
  exact⟨i,rfl,h1,h2,h3⟩
theorem ax2 {w:World} {B:Nat} {e:TypeId} {A:Option Addr} {n c:Nat} {fs:List ByteArray} (h:w.ownsRow B e 1 (.slice A n c) n (fs.map Value.string)):fs.length=n/\v6 w w.1.size A fs/\aav B A:=by
 have hl:fs.length=n:=by have:=h.1;simpa using this
 refine⟨hl,?_,λa ha=>?_⟩
 ·intro k hk;rcases h.2 with⟨hv,h0⟩|⟨g,cap,cur,hv,_,hg,_⟩
  ·omega
  ·have hA:A=some ⟨g,0,none⟩:=by injection hv
   subst hA;have hc:=h.cells (g:=g) rfl k (.string fs[k]) (by simp[hk])
   exact⟨g,0,rfl,(o8.1 hg).1,by
    have:(⟨g,0,none⟩:Addr).add k=⟨g,0+k,none⟩:=by unfold Addr.add;split<;>simp_all
    rw[<- this];exact hc⟩
 ·rcases h.2 with⟨hv,h0⟩|⟨g,cap,cur,hv,hb,hg,_⟩
  ·have hA:A=none:=by injection hv
   rw[hA]at ha;cases ha
  ·have hA:A=some ⟨g,0,none⟩:=by injection hv
   rw[hA]at ha;injection ha with ha
   rw[<- ha];exact hb
theorem bbv {w:World} {B:Nat} {e:TypeId} {size n:Nat} {v:Value} {xs:List Value} (h:w.ownsRow B e size v n xs):∃A c,v=.slice A n c:=by
 rcases h.2 with⟨hv,h0⟩|⟨g,cap,cur,hv,_⟩
 ·exact⟨none,0,by rw[hv,h0]⟩
 ·exact⟨_,_,hv⟩
variable {Q : Nat -> Prop}
abbrev vm:Value:=.slice none 0 0
def adh (e:Int) (R:List ByteArray):Int:=if R=[]then aa4 e 3 else e
def bef (Q:Nat->Prop) (w:World) (A:Option Addr) (fs:List ByteArray):Prop:=
 ∀k (hk:k<fs.length),∃b off,A=some ⟨b,off,none⟩/\Q b/\w.cell? ⟨b,off+k,none⟩=some (.string (fs[k]'hk))
def acn (Q:Nat->Prop) (w:World) (g:Nat) (e:Int) (R:List ByteArray):Prop:=
 ∃A c,w.cell? ⟨g,0,none⟩=some (.bool true)/\w.cell? ⟨g,1,none⟩=some (.int .i64 e)/\w.cell? ⟨g,2,none⟩=some (.slice A R.length c) /\(∀o,w.frozen? ⟨g,o,none⟩=false)/\g<w.1.size/\bef Q w A R /\(∀b,Q b->b<w.1.size) /\(∀b,Q b->b≠g)/\R.length<=1100000/\R.length<=c
theorem auv {w w':World} {A:Option Addr} {R:List ByteArray} {g:Nat} (h:bef Q w A R) (hB:∀b,Q b->b<w.1.size) (hA:∀b,Q b->b≠g) (hf:Frm g vm w w'):bef Q w' A R:=by
 intro k hk;obtain⟨b,off,h1,h2,h3⟩:=h k hk;exact⟨b,off,h1,h2,(hf.cell (hB b h2) (hA b h2) (by simp[Value.ownBlock])).trans h3⟩
theorem acn.keep {w w':World} {g:Nat} {e:Int} {R:List ByteArray} (h:acn Q w g e R) (hb:Below w.1.size w w'):acn Q w' g e R:=by
 obtain⟨A,c,h0,h1,h2,h3,h4,h5,hB,h6,h7,h8⟩:=h;obtain⟨cc,ff⟩:=qy hb;exact⟨A,c,(cc g 0 h4).trans h0,(cc g 1 h4).trans h1,(cc g 2 h4).trans h2,λo=>(ff g o h4).trans (h3 o),i9 h4 hb.size,auv h5 hB h6 (Frm.of_below hb),(λb q=>i9 (hB b q) hb.size),h6,h7,h8⟩
theorem aov (w:World) (g o:Nat) (u:Value):Frm g vm w (w.setCell ⟨g,o,none⟩ u):=(Frm.of_below (n9 _ _)).set _ _
theorem acn.err {w:World} {g:Nat} {e E:Int} {R:List ByteArray} (h:acn Q w g e R):acn Q (w.setCell ⟨g,1,none⟩ (.int .i64 E)) g E R:=by
 obtain⟨A,c,h0,h1,h2,h3,h4,h5,hB,h6,h7,h8⟩:=h;refine⟨A,c,?_,b0x _ _ _ h1,?_,λo=>by simpa using h3 o,by simpa using h4,auv h5 hB h6 (aov _ _ _ _),by simpa using hB,h6,h7,h8⟩
 ·rw[a9 _ _ _ _ sm];exact h0
 ·rw[a9 _ _ _ _ sm];exact h2
def acc (Q:Nat->Prop) (g:Nat) (x:Value) (e:Int) (R:List ByteArray) (w:World) (r:Ending) (w':World):Prop:=r=.returned x/\acn Q w' g e R/\Frm g vm w w'
theorem acn.noted {w:World} {g:Nat} {e E:Int} {R:List ByteArray} (h:acn Q w g e R):acn Q (if e=0 then w.setCell ⟨g,1,none⟩ (.int .i64 E)else w) g (aa4 e E) R:=by
 unfold aa4
 by_cases he:e=0
 ·rw[if_pos he,if_pos he];exact h.err
 ·rw[if_neg he,if_neg he];exact h
theorem a0f (w:World) (g o:Nat) (e E:Int):Frm g vm w (if e=0 then w.setCell ⟨g,o,none⟩ (.int .i64 E)else w):=by
 split
 ·exact aov _ _ _ _
 ·exact Frm.of_below (n9 _ _)
theorem ahd (g:Nat) (e E:Int) (R:List ByteArray) (w:World) (h:acn Q w g e R) :
 Calls prog 149 #[.pointer (some ⟨g,0,none⟩),.int .i64 E] w (acc Q g (.tuple #[]) (aa4 e E) R w):=by
 have HN:Q_ (acc Q g (.tuple #[]) (aa4 e E) R w (.returned (.tuple #[])) (if e=0 then w.setCell ⟨g,1,none⟩ (.int .i64 E)else w)):=⟨rfl,h.noted,a0f _ _ _ _ _⟩;obtain⟨A,c,h0,h1,h2,h3,h4,h5,hB,h6,h7,h8⟩:=h;have HC:=q_ (a08 g e E w h1 (h3 1));clear h1 h2 h3 h4 h5 h6;generalize (if e=0 then w.setCell ⟨g,1,none⟩ (.int .i64 E)else w)=W at *;go_enter func149,ntmps149;go_wp2_with fail;refine(HC.o).mono ?_;rintro e w' ⟨rfl,rfl⟩;go_wp2_with fail
 go_end0
 exact HN.o
theorem a34 (g:Nat) (e:Int) (R:List ByteArray) (w:World) (h:acn Q w g e R) :
 Calls prog 147 #[.pointer (some ⟨g,0,none⟩)] w λr w'=>r=.returned (.int .i64 e)/\w=w':=by
 obtain⟨A,c,h0,h1,h2,h3,h4,h5,hB,h6,h7,h8⟩:=h;clear h5 h6 h3;go_enter func147,ntmps147;go_wp2;go_ret;exact⟨rfl,rfl⟩
theorem ayv (g:Nat) (e:Int) (R:List ByteArray) (w:World) (h:acn Q w g e R) :
 Calls prog 175 #[.pointer (some ⟨g,0,none⟩)] w λr w'=>r=.returned (.int .i64 (R.length:Int))/\w=w':=by
 obtain⟨A,c,h0,h1,h2,h3,h4,h5,hB,h6,h7,h8⟩:=h;clear h5 h6 h3;generalize R.length=n at *;go_enter func175,ntmps175;go_wp2;go_ret;exact⟨rfl,rfl⟩
variable {Q : Nat -> Prop}
theorem aeu (g:Nat) (e:Int) (R:List ByteArray) (w:World) (h:acn Q w g e R) :
 Calls prog 152 #[.pointer (some ⟨g,0,none⟩)] w (acc Q g (.string (R.headD ByteArray.empty)) (adh e R) R.tail w):=by
 cases R with
 | nil=>
  have HN:Q_ (acc Q g (.string ByteArray.empty) (aa4 e 3) [] w (.returned (.string ByteArray.empty)) (if e=0 then w.setCell ⟨g,1,none⟩ (.int .i64 3)else w)):=⟨rfl,h.noted,a0f _ _ _ _ _⟩;obtain⟨A,c,h0,h1,h2,h3,h4,h5,hB,h6,h7,h8⟩:=h;have HC:=q_ (a08 g e 3 w h1 (h3 1));change Calls prog 152 #[.pointer (some ⟨g,0,none⟩)] w (acc Q g (.string ByteArray.empty) (aa4 e 3) [] w);replace h2:w.cell? ⟨g,2,none⟩=some (.slice A 0 c):=h2;clear h1 h3 h4 h5 h6 h7 h8;generalize (if e=0 then w.setCell ⟨g,1,none⟩ (.int .i64 3)else w)=W at *;go_enter func152,ntmps152;go_wp2_with fail;refine(HC.o).mono ?_;rintro e w' ⟨rfl,rfl⟩;go_wp2_with fail;go_ret;exact HN.o
 | cons s t=>
  obtain⟨A,c,h0,h1,h2,h3,h4,h5,hB,h6,h7,h8⟩:=h;obtain⟨b,off,rfl,hb,hc⟩:=h5 0 sm;have hbg:=h6 b hb;have H6:=q_ h6;replace hc:w.cell? ⟨b,off,none⟩=some (.string s):=hc;have hn:(s::t).length=t.length+1:=rfl;rw[hn]at h2 h7 h8;have z2:=h3 2
  have HN:Q_ (acc Q g (.string s) e t w (.returned (.string s)) (w.setCell ⟨g,2,none⟩ (.slice (some ⟨b,off+1,none⟩) t.length (c-1)))):=by
   refine⟨rfl,⟨some ⟨b,off+1,none⟩,c-1,?_,?_,b0x _ _ _ h2,λo=>by simpa using h3 o,by simpa using h4,?_,by simpa using hB,?_,by omega,by omega⟩,aov _ _ _ _⟩
   ·rw[a9 _ _ _ _ sm];exact h0
   ·rw[a9 _ _ _ _ sm];exact h1
   ·intro k hk;obtain⟨b2,off2,e1,e2,e3⟩:=h5 (k+1) (by simpa using hk);injection e1 with e1
    injection e1 with e1 e1'
    subst e1 e1';refine⟨b,off+1,rfl,hb,?_⟩;rw[a9 _ _ _ _ (λq=>by injection q with q;exact hbg q.symm),show off+1+k=off +(k+1)from by omega,e3];rfl
   ·exact H6.o
  change Calls prog 152 #[.pointer (some ⟨g,0,none⟩)] w (acc Q g (.string s) e t w);have HF:=q_ h3;clear h3 h5 h6 hn;have i1:(1:Int) <=((t.length+1:Nat):Int):=by omega
  have i2:((t.length+1:Nat):Int) <=(c:Int):=by omega
  have i3:(((t.length+1:Nat):Int)==0)=false:=by rw[l7];omega
  have i4:(0:Int)<((t.length+1:Nat):Int):=by omega
  have i5:t.length+1-1=t.length:=by omega
  by_cases hc1:c=1
  ·subst hc1;have ht:t=[]:=b0k om;subst ht
   have HN2:Q_ (acc Q g (.string s) e [] w (.returned (.string s)) (w.setCell ⟨g,2,none⟩ (.slice (some ⟨b,off,none⟩) 0 0))):=by
    refine⟨rfl,⟨some ⟨b,off,none⟩,0,?_,?_,b0x _ _ _ h2,λo=>by simpa using HF.o o,by simpa using h4,λk hk=>absurd hk sm,by simpa using hB,H6.o,by simp,by simp⟩,aov _ _ _ _⟩
    ·rw[a9 _ _ _ _ sm];exact h0
    ·rw[a9 _ _ _ _ sm];exact h1
   replace h2:w.cell? ⟨g,2,none⟩=some (.slice (some ⟨b,off,none⟩) 1 1):=h2;clear HN i1 i2 i3 i4 i5 h7 h8 HF;go_enter func152,ntmps152;go_wp2_with fail;go_ret;exact HN2.o
  ·clear HF;generalize t.length+1=n at *;generalize t.length=m at *;go_enter func152,ntmps152;go_wp2_with fail;go_ret;exact HN.o
variable {Q : Nat -> Prop}
abbrev azq (W M F L H:Int):Obj:=.cells #[.int .i64 W,.int .i64 M,.int .i64 F,.int .i64 L,.int .i64 H] 292
abbrev zb (b:Bool) (n:Int):Obj:=.cells #[.bool b,.int .i64 n] 42
theorem Frm.step {g:Nat} {w w1 w2:World} (h:Frm g vm w w1) (k:Frm g vm w1 w2):Frm g vm w w2:=h.trans k (.inl rfl)
theorem qj {g:Nat} {w w':World} (h:Frm g vm w w') {b:Nat} (hb:b<w.1.size) (hg:b≠g):∀o,w'.cell? ⟨b,o,none⟩=w.cell? ⟨b,o,none⟩:=λo=>h.cell hb hg (by simp[Value.ownBlock])
theorem qx {g:Nat} {w w':World} (h:Frm g vm w w') {b:Nat} (hb:b<w.1.size) (hg:b≠g):∀o,w'.frozen? ⟨b,o,none⟩=w.frozen? ⟨b,o,none⟩:=λo=>b1t (a:=⟨b,o,none⟩) (h.block b hb hg (by simp[Value.ownBlock]))
theorem acn.far {w:World} {g G o:Nat} {e:Int} {R:List ByteArray} {u:Value} (h:acn Q w g e R) (hG:¬Q G) (hg:G≠g):acn Q (w.setCell ⟨G,o,none⟩ u) g e R:=by
 obtain⟨A,c,h0,h1,h2,h3,h4,h5,hB,h6,h7,h8⟩:=h;have k:∀j,(w.setCell ⟨G,o,none⟩ u).cell? ⟨g,j,none⟩=w.cell? ⟨g,j,none⟩:=λj=>a9 _ _ _ _ (λq=>by injection q with q;exact hg q)
 refine⟨A,c,(k 0).trans h0,(k 1).trans h1,(k 2).trans h2,λo=>by simpa using h3 o,by simpa using h4,λj hj=>?_,by simpa using hB,h6,h7,h8⟩;obtain⟨b,off,e1,e2,e3⟩:=h5 j hj;exact⟨b,off,e1,e2,(a9 _ _ _ _ (λq=>hG (by injection q with q;rw[q];exact e2))).trans e3⟩
theorem Frm.put {g G o:Nat} {w w1:World} {u:Value} (h:Frm g vm w w1) (hG:w.1.size<=G):Frm g vm w (w1.setCell ⟨G,o,none⟩ u):=
 ⟨h.os,h.tape,h.output,by simpa using h.size,λk hk h1 h2=>(b14 _ _ _ _ (by show k≠G;omega)).trans (h.block k hk h1 h2)⟩
def bk0 (w:World) (w':World):Prop:=w'.cell? ⟨w.1.size+1+1,0,none⟩=some (.bool false)/\w'.cell? ⟨w.1.size+1+1,1,none⟩=some (.int .i64 0)/\w'.frozen? ⟨w.1.size+1+1,0,none⟩=false/\w'.frozen? ⟨w.1.size+1+1,1,none⟩=false/\w.1.size+1+1<w'.1.size
def apf (Q:Nat->Prop) (w:World) (g:Nat) (e1:Int) (R1:List ByteArray) (W M F L H:Int) (w':World):Prop:=
 Q_ (acn Q w' g e1 R1)/\Q_ (Frm g vm w w')/\w'.cell? ⟨w.1.size,0,none⟩=some (.int .i64 W)/\w'.cell? ⟨w.1.size,1,none⟩=some (.int .i64 M)/\w'.cell? ⟨w.1.size,2,none⟩=some (.int .i64 F)/\w'.cell? ⟨w.1.size,3,none⟩=some (.int .i64 L)/\w'.cell? ⟨w.1.size,4,none⟩=some (.int .i64 H)/\Q_ (∀o,w'.cell? ⟨w.1.size+1,o,none⟩=(#[Value.bool false,.int .i64 0]:Array Value)[o]?)/\Q_ (∀o,w'.frozen? ⟨w.1.size+1,o,none⟩=false)/\w.1.size+1<w'.1.size/\w.1.size<w'.1.size
def ao6 (Q:Nat->Prop) (w:World) (g:Nat) (e1:Int) (R1:List ByteArray) (b:Bool) (n E:Int) (s5 s6:Value) (wx:World):Prop:=
 ∃G,s5=.pointer (some ⟨G,0,none⟩)/\s6=.int .i64 E/\wx.cell? ⟨G,0,none⟩=some (.bool b)/\wx.cell? ⟨G,1,none⟩=some (.int .i64 n) /\(∀o,wx.cell? ⟨w.1.size+1,o,none⟩=(#[Value.bool false,.int .i64 0]:Array Value)[o]?)/\Q_ (Frm g vm w wx)/\G<wx.1.size/\w.1.size+1<G /\(∀o,wx.frozen? ⟨w.1.size+1,o,none⟩=false)/\Q_ (acn Q wx g e1 R1)
theorem asn {w W0 w1:World} {g:Nat} {e1:Int} {R1:List ByteArray} {b:Bool} {n E:Int} (hb:Below W0.1.size W0 w1) (h0:∀o,W0.cell? ⟨w.1.size+1,o,none⟩=(#[Value.bool false,.int .i64 0]:Array Value)[o]?) (hz:w.1.size+1<W0.1.size) (hfz:∀o,W0.frozen? ⟨w.1.size+1,o,none⟩=false) (hf:Frm g vm w W0) (hr:acn Q W0 g e1 R1) :
 ao6 Q w g e1 R1 b n E (.pointer (some ⟨w1.1.size,0,none⟩)) (.int .i64 E) (w1.alloc (zb b n)):=by
 have hz1:=hb.size;exact⟨w1.1.size,rfl,rfl,by simp[b8],by simp[b8],λo=>(n7 _ _ _ om).trans (((qy hb).1 _ o hz).trans (h0 o)),q_ ((hf.then_below hb).then_below (qa _ _)),by simp,by omega,λo=>by rw[l6,(qy hb).2 _ o hz,hfz],q_ ((hr.keep hb).keep (qa _ _))⟩
theorem aht {w W0 w1:World} {g:Nat} {e1:Int} {R1:List ByteArray} {b:Bool} {n E:Int} {G:Nat} (hb:Below W0.1.size W0 w1) (hBw:∀b,Q b->b<w.1.size) (hg:g<w.1.size) (g0:W0.cell? ⟨G,0,none⟩=some (.bool false)) (g1:W0.cell? ⟨G,1,none⟩=some (.int .i64 0)) (hG:w.1.size+1<G) (hG2:G<W0.1.size) (h0:∀o,W0.cell? ⟨w.1.size+1,o,none⟩=(#[Value.bool false,.int .i64 0]:Array Value)[o]?) (hfz:∀o,W0.frozen? ⟨w.1.size+1,o,none⟩=false) (hf:Frm g vm w W0) (hr:acn Q W0 g e1 R1) :
 ao6 Q w g e1 R1 b n E (.pointer (some ⟨G,0,none⟩)) (.int .i64 E) ((w1.setCell ⟨G,0,none⟩ (.bool b)).setCell ⟨G,1,none⟩ (.int .i64 n)):=by
 have hz1:=hb.size;obtain⟨p0,p1⟩:=zi w1 G (.bool b) (.int .i64 n) _ _ (((qy hb).1 G 0 hG2).trans g0) (((qy hb).1 G 1 hG2).trans g1);have hne:∀o j,(⟨G,j,none⟩:Addr) ≠⟨w.1.size+1,o,none⟩:=λo j e=>by injection e with e;omega
 have k:∀o,((w1.setCell ⟨G,0,none⟩ (.bool b)).setCell ⟨G,1,none⟩ (.int .i64 n)).cell? ⟨w.1.size+1,o,none⟩=w1.cell? ⟨w.1.size+1,o,none⟩:=λo=>by
  rw[a9 _ _ _ _ (hne o 1),a9 _ _ _ _ (hne o 0)]
 refine⟨G,rfl,rfl,p0,p1,λo=>(k o).trans (((qy hb).1 _ o om).trans (h0 o)),q_ (((hf.then_below hb).put om).put om),by simp;omega,hG,λo=>?_,q_ (((hr.keep hb).far (λq=>by have:=hBw _ q;omega) om).far (λq=>by have:=hBw _ q;omega) om)⟩;simp only[b3u];rw[(qy hb).2 _ o om,hfz]
theorem a35 (g:Nat) (e:Int) (R:List ByteArray) (W M F L H:Int) (w:World) (h:acn Q w g e R) (hBw:∀b,Q b->b<w.1.size) (hgw:g<w.1.size) (hsz:(R.headD ByteArray.empty).size<=1100000) :
 Calls prog 136 #[.pointer (some ⟨g,0,none⟩),j9 W M F L H] w (acc Q g (jo (j4 (R.headD ByteArray.empty).data.toList W M F L H).1 (j4 (R.headD ByteArray.empty).data.toList W M F L H).2.1) (aa4 (adh e R) (j4 (R.headD ByteArray.empty).data.toList W M F L H).2.2) R.tail w):=by
 have HT:=λW' hb=>q_ (aeu g e R W' (h.keep (w':=W') hb))
 have HA:=λW'=>q_ (a4c (R.headD ByteArray.empty) W M F L H W' hsz)
 generalize R.headD ByteArray.empty=s at *;generalize (j4 s.data.toList W M F L H).1=X1 at *;generalize (j4 s.data.toList W M F L H).2.1=X2 at *;generalize (j4 s.data.toList W M F L H).2.2=E at *;generalize adh e R=e1 at *;generalize R.tail=R1 at *;have HFL:=λW' hr=>q_ (ahd (Q:=Q) g e1 E R1 W' hr)
 clear h hsz;have HS:Q_ (∀o,((w.alloc (azq W M F L H)).alloc (zb false 0)).cell? ⟨w.1.size+1,o,none⟩=(#[Value.bool false,.int .i64 0]:Array Value)[o]?):=λo=>by rw[b8 _ _ _ _ sm]
 have HZ:Q_ (∀o,((w.alloc (azq W M F L H)).alloc (zb false 0)).frozen? ⟨w.1.size+1,o,none⟩=false):=λo=>by rw[l6,l6];exact qk _ _ _ om
 have HBl:Q_ (Below w.1.size w ((w.alloc (azq W M F L H)).alloc (zb false 0))):=qb (qa w _) (qa _ _)
 have HTL:Q_ (Calls prog 152 #[.pointer (some ⟨g,0,none⟩)] ((w.alloc (azq W M F L H)).alloc (zb false 0)).drew λr w'=>r=.returned (.string s)/\apf Q w g e1 R1 W M F L H w'):=(HT _ (acf HBl.o)).o.mono (by
  rintro r w' ⟨rfl,hr1,hf1⟩;have hs:((w.alloc (azq W M F L H)).alloc (zb false 0)).drew.1.size=w.1.size+2:=by show (World.alloc _ _).1.size=_;simp
  have k:=hf1.size;have kc:∀o,w'.cell? ⟨w.1.size,o,none⟩=(#[Value.int .i64 W,.int .i64 M,.int .i64 F,.int .i64 L,.int .i64 H]:Array Value)[o]?:=λo=>(qj hf1 om om o).trans ((n7 _ _ _ sm).trans (b8 _ _ _ _ rfl))
  exact⟨rfl,q_ hr1,q_ ((Frm.of_below (acf HBl.o)).step hf1),kc 0,kc 1,kc 2,kc 3,kc 4,q_ λo=>(qj hf1 om om o).trans (HS.o o),q_ λo=>(qx hf1 om om o).trans (HZ.o o),by omega,by omega⟩)
 have HTE:Q_ (Calls prog 152 #[.pointer (some ⟨g,0,none⟩)] (((w.alloc (azq W M F L H)).alloc (zb false 0)).alloc (zb false 0)).drew λr w'=>r=.returned (.string s)/\apf Q w g e1 R1 W M F L H w'/\Q_ (bk0 w w')):=(HT _ (acf (qb HBl.o (qa _ _)))).o.mono (by
  rintro r w' ⟨rfl,hr1,hf1⟩;have hs:(((w.alloc (azq W M F L H)).alloc (zb false 0)).alloc (zb false 0)).drew.1.size=w.1.size+3:=by show (World.alloc _ _).1.size=_;simp
  have k:=hf1.size;have kc:∀o,w'.cell? ⟨w.1.size,o,none⟩=(#[Value.int .i64 W,.int .i64 M,.int .i64 F,.int .i64 L,.int .i64 H]:Array Value)[o]?:=λo=>(qj hf1 om om o).trans ((n7 _ _ _ (by simp;omega)).trans ((n7 _ _ _ sm).trans (b8 _ _ _ _ rfl)))
  have kg:∀o,w'.cell? ⟨w.1.size+1+1,o,none⟩=(#[Value.bool false,.int .i64 0]:Array Value)[o]?:=λo=>(qj hf1 om om o).trans (b8 _ _ _ _ sm)
  have fg:∀o,w'.frozen? ⟨w.1.size+1+1,o,none⟩=false:=λo=>(qx hf1 (b:=w.1.size+2) om om o).trans (by
   show (World.alloc _ _).frozen? _=false;rw[l6,l6,l6];exact qk _ _ _ om)
  exact⟨rfl,⟨q_ hr1,q_ ((Frm.of_below (acf (qb HBl.o (qa _ _)))).step hf1),kc 0,kc 1,kc 2,kc 3,kc 4,q_ λo=>(qj hf1 om om o).trans ((n7 _ _ _ sm).trans (HS.o o)),q_ λo=>(qx hf1 om om o).trans (by
   show (World.alloc _ _).frozen? _=false;rw[l6];exact HZ.o o),by omega,by omega⟩,q_ ⟨kg 0,kg 1,fg 0,fg 1,by omega⟩⟩)
 have HTE2:Q_ (Calls prog 152 #[.pointer (some ⟨g,0,none⟩)] (((w.alloc (azq W M F L H)).alloc (zb false 0)).drew.alloc (zb false 0)) λr w'=>r=.returned (.string s)/\apf Q w g e1 R1 W M F L H w'/\Q_ (bk0 w w')):=HTE;clear HT;go_enter func136,ntmps136;go_upto_region 1 with fail
 go_cut [5,6] (λs5 s6 wx=>Q_ (ao6 Q w g e1 R1 X1 X2 E s5 s6 wx))
 case first=>
  go_region_with (first|(refine HTE2.o.mono ?_;rintro r w' ⟨rfl,⟨hr1,hf1,t0,t1,t2,t3,t4,hcs,hfs,hzt,hzt0⟩,hE⟩)|(refine HTE.o.mono ?_;rintro r w' ⟨rfl,⟨hr1,hf1,t0,t1,t2,t3,t4,hcs,hfs,hzt,hzt0⟩,hE⟩)|(refine HTL.o.mono ?_;rintro r w' ⟨rfl,hr1,hf1,t0,t1,t2,t3,t4,hcs,hfs,hzt,hzt0⟩)|(go_at_call 206;refine(HA _).o.mono ?_;rintro r w1 ⟨rfl,hb1⟩;obtain⟨c1,f1⟩:=qy hb1;have hz:=hb1.size;try (obtain⟨s0,s1,v0,v1,hzg⟩:=hE.o;have u0:=(c1 _ 0 hzg).trans s0;have u1:=(c1 _ 1 hzg).trans s1;have x0:=(f1 _ 0 hzg).trans v0;have x1:=(f1 _ 1 hzg).trans v1)))
  all_goals go_wp2_with fail
  all_goals go_meet
  all_goals first
   | exact q_ (asn hb1 hcs.o hzt hfs.o hf1.o hr1.o)
   | exact q_ (aht hb1 hBw hgw s0 s1 om hzg hcs.o hfs.o hf1.o hr1.o)
   | exact q_ (aht hb1 hBw hgw (b8 _ _ _ _ rfl) (b8 _ _ _ _ rfl) hzt sm (λo=>(n7 _ _ _ hzt).trans (hcs.o o)) (λo=>by rw[l6];exact hfs.o o) (hf1.o.then_below (qa _ _)) (hr1.o.keep (qa _ _)))
 case rest=>
  obtain⟨G,rfl,rfl,g0,g1,hq,hf,hG,hG2,hfz,hr⟩:=hcut.o;have q0:=hq 0;have q1:=hq 1;have z0:=hfz 0;have z1:=hfz 1;clear hfz hq HA HS HBl HZ HTL HTE;go_wp2_with fail;refine(HFL _ hr.o).o.mono ?_;rintro r w' ⟨rfl,hr2,hf2⟩;have p0:w'.cell? ⟨w.1.size+1,0,none⟩=some (.bool false):=(qj hf2 om om 0).trans q0;have p1:w'.cell? ⟨w.1.size+1,1,none⟩=some (.int .i64 0):=(qj hf2 om om 1).trans q1;have y0:=(qx hf2 (b:=w.1.size+1) om om 0).trans z0;have y1:=(qx hf2 (b:=w.1.size+1) om om 1).trans z1;have x0:=(qj hf2 hG om 0).trans g0;have x1:=(qj hf2 hG om 1).trans g1;have HR2:=q_ hr2;have HF2:=q_ (hf.o.step hf2);clear hr2 hf2 hf hr q0 q1 z0 z1 g0 g1 HFL;go_wp2_with fail;obtain⟨k0,k1⟩:=zi w' (w.1.size+1) (.bool X1) (.int .i64 X2) _ _ p0 p1;refine b9 (v:=jo X1 X2) (by simp[results,results136,go_sem,k0,k1]) rfl ⟨rfl,?_,?_⟩
  ·exact(HR2.o.far (λq=>by have:=hBw _ q;omega) om).far (λq=>by have:=hBw _ q;omega) om
  ·exact(HF2.o.put om).put om
variable {Q : Nat -> Prop}
theorem au7 (g:Nat) (e:Int) (R:List ByteArray) (lat:Bool) (w:World) (h:acn Q w g e R) (hBw:∀b,Q b->b<w.1.size) (hgw:g<w.1.size) (hsz:(R.headD ByteArray.empty).size<=1100000) :
 Calls prog 137 #[.pointer (some ⟨g,0,none⟩),.bool lat] w (acc Q g (jo (abh (R.headD ByteArray.empty).data.toList (R.tail.headD ByteArray.empty) lat).1 (abh (R.headD ByteArray.empty).data.toList (R.tail.headD ByteArray.empty) lat).2.1) (aa4 (adh (adh e R) R.tail) (abh (R.headD ByteArray.empty).data.toList (R.tail.headD ByteArray.empty) lat).2.2) R.tail.tail w):=by
 have HT:=λW' hb=>q_ (aeu (Q:=Q) g e R W' (h.keep (w':=W') hb))
 have HU:=λW' hr=>q_ (aeu (Q:=Q) g (adh e R) R.tail W' hr)
 have HA:=λW'=>q_ (an5 (R.headD ByteArray.empty) (R.tail.headD ByteArray.empty) lat W' hsz)
 generalize (abh (R.headD ByteArray.empty).data.toList (R.tail.headD ByteArray.empty) lat).1=X1 at *;generalize (abh (R.headD ByteArray.empty).data.toList (R.tail.headD ByteArray.empty) lat).2.1=X2 at *;generalize (abh (R.headD ByteArray.empty).data.toList (R.tail.headD ByteArray.empty) lat).2.2=E at *;generalize R.tail.headD ByteArray.empty=d at *;generalize R.headD ByteArray.empty=s at *;generalize adh (adh e R) R.tail=e2 at *;generalize R.tail.tail=R2 at *;generalize adh e R=e1 at *;generalize R.tail=R1 at *;have HFL:=λW' hr=>q_ (ahd (Q:=Q) g e2 E R2 W' hr)
 clear h hsz;have HS:Q_ (∀o,(w.alloc (zb false 0)).cell? ⟨w.1.size,o,none⟩=(#[Value.bool false,.int .i64 0]:Array Value)[o]?):=λo=>by rw[b8 _ _ _ _ rfl]
 have HZ:Q_ (∀o,(w.alloc (zb false 0)).frozen? ⟨w.1.size,o,none⟩=false):=λo=>by rw[l6];exact qk _ _ _ om
 have HBl:Q_ (Below w.1.size w (w.alloc (zb false 0))):=qa w _;have hs0:(w.alloc (zb false 0)).1.size=w.1.size+1:=by simp
 have HS0:=q_ hs0;clear hs0;go_enter func137,ntmps137;go_wp2_with fail;refine(HT _ HBl.o).o.mono ?_;rintro r w1 ⟨rfl,hr1,hf1⟩;have z1:w.1.size+1<=w1.1.size:=by have:=hf1.size;have:=HS0.o;omega
 have HQ1:Q_ (∀o,w1.cell? ⟨w.1.size,o,none⟩=(#[Value.bool false,.int .i64 0]:Array Value)[o]?):=λo=>(qj hf1 (by have:=HS0.o;omega) om o).trans (HS.o o)
 have HZ1:Q_ (∀o,w1.frozen? ⟨w.1.size,o,none⟩=false):=λo=>(qx hf1 (by have:=HS0.o;omega) om o).trans (HZ.o o)
 have HF1:=q_ ((Frm.of_below (g:=g) HBl.o).step hf1);have HR1:=q_ hr1;clear hr1 hf1 HS HZ HBl HS0 HT;go_wp2_with fail;refine(HU _ HR1.o).o.mono ?_;rintro r w2 ⟨rfl,hr2,hf2⟩;have z2:w.1.size+1<=w2.1.size:=p9 z1 hf2.size;have HQ2:Q_ (∀o,w2.cell? ⟨w.1.size,o,none⟩=(#[Value.bool false,.int .i64 0]:Array Value)[o]?):=λo=>(qj hf2 om om o).trans (HQ1.o o)
 have HZ2:Q_ (∀o,w2.frozen? ⟨w.1.size,o,none⟩=false):=λo=>(qx hf2 om om o).trans (HZ1.o o)
 have HF2:=q_ (HF1.o.step hf2);have HR2:=q_ hr2;clear hr2 hf2 HQ1 HZ1 HF1 HR1 HU;go_wp2_with fail;refine((HA _).o).mono ?_;rintro e w3 ⟨rfl,hb3⟩;have z3:w.1.size+1<=w3.1.size:=p9 z2 hb3.size;have HB3:=q_ (qb hb3 (qa w3 (zb X1 X2)));have HR3:=q_ (HR2.o.keep HB3.o);have HF3:=q_ (HF2.o.then_below HB3.o);have hq3:∀o,(w3.alloc (zb X1 X2)).cell? ⟨w.1.size,o,none⟩=(#[Value.bool false,.int .i64 0]:Array Value)[o]?:=λo=>((qy HB3.o).1 w.1.size o om).trans (HQ2.o o)
 have hz3:∀o,(w3.alloc (zb X1 X2)).frozen? ⟨w.1.size,o,none⟩=false:=λo=>((qy HB3.o).2 w.1.size o om).trans (HZ2.o o)
 have HQ3:=q_ hq3;have HZ3:=q_ hz3;clear hb3 hq3 hz3 HQ2 HZ2 HF2 HR2 HA HB3;go_wp2_with fail;refine(HFL _ HR3.o).o.mono ?_;rintro r w4 ⟨rfl,hr4,hf4⟩;have hs3:(w3.alloc (zb X1 X2)).1.size=w3.1.size+1:=by simp
 have z4:w3.1.size+1<=w4.1.size:=by have:=hf4.size;omega
 have p0:w4.cell? ⟨w.1.size,0,none⟩=some (.bool false):=(qj hf4 om om 0).trans (HQ3.o 0);have p1:w4.cell? ⟨w.1.size,1,none⟩=some (.int .i64 0):=(qj hf4 om om 1).trans (HQ3.o 1);have y0:=(qx hf4 (b:=w.1.size) om om 0).trans (HZ3.o 0);have y1:=(qx hf4 (b:=w.1.size) om om 1).trans (HZ3.o 1);have x0:w4.cell? ⟨w3.1.size,0,none⟩=some (.bool X1):=(qj hf4 om om 0).trans (by simp[b8]);have x1:w4.cell? ⟨w3.1.size,1,none⟩=some (.int .i64 X2):=(qj hf4 om om 1).trans (by simp[b8]);have HR4:=q_ hr4;have HF4:=q_ (HF3.o.step hf4);clear hr4 hf4 hs3 HQ3 HZ3 HF3 HR3 HFL;go_wp2_with fail;obtain⟨k0,k1⟩:=zi w4 w.1.size (.bool X1) (.int .i64 X2) _ _ p0 p1;refine b9 (v:=jo X1 X2) (by simp[results,results137,go_sem,k0,k1]) rfl ⟨rfl,?_,?_⟩
 ·exact(HR4.o.far (λq=>by have:=hBw _ q;omega) om).far (λq=>by have:=hBw _ q;omega) om
 ·exact(HF4.o.put (a8 _)).put (a8 _)
def apg (fs:List ByteArray) (w:World) (v:Value) (w':World):Prop:=
 ∃A c,v=.slice A fs.length c/\fs.length<=c /\(∀a,A=some a->a.block<w'.1.size) /\(A=none->c=0)/\v6 w' w'.1.size A fs/\aav w.1.size A/\Below w.1.size w w'
theorem a3y (A:Option Addr) (fs:List ByteArray) (c:Nat) (w:World) (hA:A=none->c=0) (hs:v6 w w.1.size A fs) (hn:fs.length<=1100000) :
 Calls prog 205 #[.slice A fs.length c] w λe w'=>∃v,e=.returned v/\apg fs w v w':=by
 cases A with
 | none=>
  obtain rfl:=hA rfl
  have hl:fs=[]:=by
   cases fs with
   | nil=>rfl
   | cons a l=>obtain⟨b,off,hA,-⟩:=hs 0 sm;cases hA
  subst hl;clear hs hA;change Calls prog 205 #[.slice none 0 0] w _;have EQ:∀W:World,(binOp .eql 148 (.slice none 0 0) (.slice none 0 0)).run prog W=.ok (.bool true) W:=λW=>Lib.run_eql_slice_nil W 148 9 none 0 0 0 0 underlying148
  go_enter func205,ntmps205;go_wp2;go_ret;exact⟨_,rfl,none,0,rfl,a8 _,(λa h=>by cases h),λ_=>rfl,λk hk=>absurd hk sm,aav.none_,n9 _ _⟩
 | some a=>
  obtain⟨i0,hi,hz0,hz1,hz2⟩:=anm bda;obtain⟨n,hln⟩:∃n,fs.length=n:=⟨_,rfl⟩;have HLN:=q_ hln;have HS:=q_ hs;rw[hln]at hn ⊢;clear hs hA hln;have hown:(w.alloc (.cells #[] 9)).ownsRow w.1.size 9 1 (.slice (some ⟨w.1.size,0,none⟩) 0 0) 0 []:=b32 w #[] 0 (a8 _) dc rfl;have HO:=q_ hown;clear hown;have EQ:∀W:World,(binOp .eql 148 (.slice (some a) n c) (.slice none 0 0)).run prog W=.ok (.bool false) W:=λW=>Lib.run_eql_slice_nil W 148 9 (some a) n c 0 0 underlying148
  go_enter func205,ntmps205;go_wp2_with (at_builtin;refine b45 _ rfl _ _ 148 rfl w.1.size 9 i0 (.string ByteArray.empty) 1 16 underlying148 hi hz0 hz1 hz2 rfl dc _ _ _ rfl HO.o a n c (fs.map Value.string) rfl (by simp[HLN.o]) ?c1 ?c2 ?c3 ?c4 ?c5 ?_)
  case c1=>
   intro j u hu;rw[b0l]at hu
   have hj:j<fs.length:=by
    rcases b08 j fs.length with k|k
    ·exact k
    ·rw[b0c k]at hu;cases hu
   rw[d7 hj]at hu;injection hu with hu
   obtain⟨b,off,hA,hb,hc⟩:=HS.o j hj;injection hA with hA
   subst hA;have e1:(⟨b,off,none⟩:Addr).add j=⟨b,off+j,none⟩:=by unfold Addr.add;split<;>simp_all
   rw[e1,n7 _ _ _ hb,hc,<- hu]
  case c2=>intro u hu;obtain⟨s,-,rfl⟩:=b2f.1 hu;rfl
  case c3=>unfold maxLen;omega
  case c4=>omega
  case c5=>simp
  intro v' w2 hown' hgrow _
  have HPOST:Q_ (apg fs w v' w2):=by
   obtain⟨A,c',rfl⟩:=bbv hown';obtain⟨h1,h2,h3⟩:=ax2 hown'
   have hcap:fs.length<=c':=by
    rw[h1];rcases hown'.2 with⟨_,h0⟩|⟨g,cap,cur,hv,_,_,hn,_⟩
    ·omega
    ·injection hv with _ _ hv;omega
   have hblk:∀a,A=some a->a.block<w2.1.size:=λa ha=>by
    subst ha;rcases hown'.2 with⟨hv,_⟩|⟨g,cap,cur,hv,_,hg,_⟩
    ·injection hv with hv;cases hv
    ·injection hv with hv
     injection hv with hv
     rw[hv];exact(o8.1 hg).1
   refine⟨A,c',by rw[h1],hcap,hblk,λhA=>?_,h2,h3,((qa w _).grown hgrow sm (λk hk=>(HO.o.lt k hk).1))⟩;subst hA;rcases hown'.2 with⟨hv,_⟩|⟨g,cap,cur,hv,_⟩
   ·injection hv
   ·cases hv
  clear hown' hgrow HO HS;go_wp2_with fail;go_ret;exact⟨_,rfl,HPOST.o⟩
def ayz (fs:List ByteArray) (w:World) (r:Ending) (w':World):Prop:=
 ∃g,r=.returned (.pointer (some ⟨g,0,none⟩))/\acn (λb=>w.1.size<=b/\b<g) w' g 0 fs/\w.1.size<=g/\w'.1.size=g+1/\Below w.1.size w w'
theorem bd7 (A:Option Addr) (fs:List ByteArray) (c:Nat) (w:World) (hA:A=none->c=0) (hs:v6 w w.1.size A fs) (hn:fs.length<=1100000) :
 Calls prog 135 #[.slice A fs.length c] w (ayz fs w):=by
 have HC:=q_ (a3y A fs c w hA hs hn);have HN:=q_ hn;clear hs hA hn;obtain⟨n,hln⟩:∃n,fs.length=n:=⟨_,rfl⟩;rw[hln]at HC ⊢;have HLN:=q_ hln;clear hln;go_enter func135,ntmps135;go_wp2_with fail;refine HC.o.mono ?_;rintro r w1 ⟨v,rfl,ht⟩;obtain⟨A',c',rfl,h1,hblk,h2,h3,h4,h5⟩:=ht
 have HPO:Q_ (ayz fs w (.returned (.pointer (some ⟨w1.1.size,0,none⟩))) (w1.alloc (.cells #[.bool true,.int .i64 0,.slice A' fs.length c'] 339))):=by
  have hb:Below w1.1.size w1 (w1.alloc (.cells #[.bool true,.int .i64 0,.slice A' fs.length c'] 339)):=qa _ _;refine⟨w1.1.size,rfl,⟨A',c',by simp[b8],by simp[b8],by simp[b8],λo=>?_,by simp,λk hk=>?_,(λb q=>by have:=q.2;simp;omega),(λb q=>by have:=q.2;omega),HN.o,h1⟩,h5.size,by simp,qb h5 (qa _ _)⟩
  ·rw[l6];exact qk _ _ _ (a8 _)
  ·obtain⟨b,off,e1,e2,e3⟩:=h3 k hk;exact⟨b,off,e1,⟨h4 _ e1,e2⟩,(hb.cell (p:=⟨b,off+k,none⟩) e2).trans e3⟩
 rw[HLN.o]at HPO;clear h1 h2 h3 h4 h5 hblk;rw[HLN.o];go_wp2_with fail;go_ret;exact HPO.o
theorem be2 (f:Nat):∀n l,∀c∈agh f n l,isD c=true:=by
 induction f with
 | zero=>intro n l c h;simp[agh]at h
 | succ f ih=>
  intro n l c h;unfold agh at h
  split at h
  ·rcases b1z.1 h with h|h
   ·exact ih _ _ c h
   ·have:c=UInt8.ofNat (48+n%10):=by simpa using h
    subst this;refine t8 ?_;simp;omega
  ·simp at h
theorem be3 (f:Nat):∀n l,n<10^f->aac (agh f n l)=n:=by
 induction f with
 | zero => intro n l h;have:n<1:=h;have:n=0:=by omega
           subst this;rfl
 | succ f ih=>
  intro n l h;unfold agh
  split
  ·rw[ai1,ih _ _ (by rw[b22]at h;omega)];simp;omega
  ·have:n=0:=by omega
   subst this;rfl
theorem bi5 (f:Nat):∀n l,l<=f->l <=(agh f n l).length:=by
 induction f with
 | zero=>intro n l h;omega
 | succ f ih=>
  intro n l h;unfold agh
  split
  ·have:=ih (n / 10) (l-1) om;simp;omega
  ·simp;omega
theorem bi6 (f:Nat):∀n l k,n<10^k->l<=k ->(agh f n l).length<=k:=by
 induction f with
 | zero=>intro n l k _ _;simp[agh]
 | succ f ih=>
  intro n l k h1 h2;unfold agh
  split
  ·rename_i h;cases k with
   | zero=>have:n<1:=h1;omega
   | succ k=>
    have:=ih (n / 10) (l-1) k (by rw[b22]at h1;omega) om;simp;omega
  ·simp
theorem bn0 {n:Nat} (h:n<=1000000000000000000):n<10^20:=by
 have:(10:Nat)^20=100000000000000000000:=by decide
 omega
theorem azx (n l:Nat):∀c∈agi n l,isD c=true:=be2 20 n l
theorem azy {n l:Nat} (h:n<=1000000000000000000):aac (agi n l)=n:=be3 20 n l (bn0 h)
theorem a83 {n l:Nat} (h:l<=20):l <=(agi n l).length:=bi5 20 n l h
theorem aos {n l k:Nat} (h:n<10^k) (hl:l<=k):(agi n l).length<=k:=bi6 20 n l k h hl
theorem a82 {n l:Nat} (h:n<10^l) (hl:l<=20):(agi n l).length=l:=Nat.le_antisymm (aos h (a8 _)) (a83 hl)
theorem auw (f:Nat):∀r,0<r->r<10^f->f<=18->∃r' k,r=r'*10^k/\k<f/\r'%10≠0/\Lib.trimRightB (46::agi r f) 48=46::agi r' (f-k):=by
 induction f with
 | zero=>intro r h1 h2 _;have:r<1:=h2;omega
 | succ f ih=>
  intro r h1 h2 h3
  have hm:r<=1000000000000000000:=by
   have h4:(10:Nat)^(f+1)<=10^18:=b06 dc h3;have e:(10:Nat)^18=1000000000000000000:=by decide
   omega
  by_cases h:r%10=0
  ·rw[bdn r (f+1) h1 h hm h3,b4w];obtain⟨r',k,e1,e2,e3,e4⟩:=ih (r / 10) om (by rw[b22]at h2;omega) om;refine⟨r',k+1,?_,by omega,e3,?_⟩
   ·rw[b22,<- b47,<- e1];omega
   ·rw[e4,show f+1-(k+1)=f-k from by omega]
  ·exact⟨r,0,by simp,by omega,h,bdo r (f+1) h1 h hm h3⟩
theorem bhn {r' k v j:Nat} (h:r'*10^k=v*10^j) (hr:r'%10≠0):j<=k:=by
 rcases b08 k j with h1|h1
 ·exfalso
  obtain⟨d,rfl⟩:∃d,j=k +(d+1):=⟨j-k-1,by omega⟩
  have e1:r'=v*10^(d+1):=by
   have:r'*10^k=v*10^(d+1)*10^k:=by rw[h,b3z,b47,b3r (10^k)]
   exact Nat.eq_of_mul_eq_mul_right (b3x dc) this
  rw[b22,<- b47]at e1;omega
 ·exact h1
theorem ap6 {A T:List UInt8} (hA:∀c∈A,isD c=true) (hT:∀c,T.head?=some c->isD c=false):js (A++T)=A.length:=by
 unfold js;rw[List.takeWhile_append_of_pos hA]
 have:T.takeWhile isD=[]:=by
  cases T with
  | nil=>rfl
  | cons c T=>rw[List.takeWhile_cons_of_neg (by rw[hT c rfl];decide)]
 rw[this,b0p]
theorem azm {B:List UInt8} (hB:∀c∈B,isD c=true):js B=B.length:=by
 have:=ap6 (T:=[]) hB (λc h=>by simp at h)
 rwa [b0p]at this
def akq (l:List UInt8) (a m f n:Nat):Prop:=
 ∃A T,l=A++T /\(∀c∈A,isD c=true)/\a<=A.length/\A.length<=m /\
  (T=[]/\n=aac A*10^f\/∃B,T=46::B /\(∀c∈B,isD c=true)/\1<=B.length/\B.length<=f/\n=aac A*10^f+aac B*10^(f-B.length))
theorem auf {l:List UInt8} {a m f n:Nat} (h:akq l a m f n):yv l a m f=some n:=by
 obtain⟨A,T,rfl,hA,h1,h2,h3⟩:=h;rcases h3 with⟨rfl,rfl⟩|⟨B,rfl,hB,h4,h5,rfl⟩
 ·rw[b0p];unfold yv;rw[azm hA,if_neg om,if_pos rfl]
 ·have hc:=ap6 (T:=46::B) hA (λc h=>by
   have:c=46:=by simpa using h.symm
   subst this;decide)
  have hd:(A++46::B).drop (A.length+1)=B:=by
   rw[<- b10,List.drop_left];rfl
  unfold yv;have g:(A++46::B)[A.length]?=some 46:=by simp
  have g2:(A++46::B).length=A.length+1+B.length:=by simp;omega
  rw[hc,hd,azm hB,if_neg om,if_neg om,if_neg (by
   intro k;rcases k with k|k|k|k
   ·exact k g
   ·omega
   ·omega
   ·exact k g2.symm)]
  rw[List.take_left]
theorem a6i {l:List UInt8} {a m f n:Nat} (h:yv l a m f=some n):akq l a m f n:=by
 unfold yv at h;have hA:=ab4 l
 split at h
 ·cases h
 rename_i g1
 split at h
 ·rename_i g2;injection h with h
  rw[g2,b0v]at hA;exact⟨l,[],by simp,hA,by omega,by omega,.inl ⟨rfl,h.symm⟩⟩
 rename_i g2
 split at h
 ·cases h
 rename_i g3;injection h with h
 have hle:=aop l;have g4:l[js l]?=some 46:=b25.1 λk=>g3 (.inl k)
 have hB:=ab4 (l.drop (js l+1));have e1:js (l.drop (js l+1))=(l.drop (js l+1)).length:=by rw[n5];omega
 rw[e1,b0v]at hB;refine⟨l.take (js l),l.drop (js l),(b0t _ _).symm,hA,by rw[l8];omega,by rw[l8];omega,.inr ⟨l.drop (js l+1),?_,hB,by omega,by omega,by rw[<- e1];exact h.symm⟩⟩;have hlt:js l<l.length:=by omega
 rw[b0w hlt];rw[d7 hlt]at g4;injection g4 with g4
 rw[g4]
theorem a7w (r f:Nat) (hr:r<10^f) (hf:f<=18):art r f=[]/\r=0\/∃B,art r f=46::B /\(∀c∈B,isD c=true)/\1<=B.length/\B.length<=f/\aac B*10^(f-B.length)=r:=by
 unfold art
 by_cases h0:r=0
 ·rw[if_pos h0];exact .inl ⟨rfl,h0⟩
 ·rw[if_neg h0];obtain⟨r',k,e1,e2,e3,e4⟩:=auw f r om hr hf
  have hr':r'<10^(f-k):=by
   rw[e1,show f=(f-k)+k from by omega,b3z]at hr;exact Nat.lt_of_mul_lt_mul_right (a:=10^k) hr
  have hm:r'<=1000000000000000000:=by
   have h4:(10:Nat)^(f-k)<=10^18:=b06 dc om;have e:(10:Nat)^18=1000000000000000000:=by decide
   omega
  have hl:(agi r' (f-k)).length=f-k:=a82 hr' om;refine .inr ⟨agi r' (f-k),e4,azx _ _,by omega,by omega,?_⟩;rw[hl,azy hm,show f-(f-k)=k from by omega,e1]
theorem a22 (v j f:Nat) (h:v*10^j<10^f) (hf:f<=18) (hj:j<=f):(art (v*10^j) f).length<=1 +(f-j):=by
 unfold art
 by_cases h0:v*10^j=0
 ·rw[if_pos h0];simp
 ·rw[if_neg h0];obtain⟨r',k,e1,e2,e3,e4⟩:=auw f _ om h hf;have hk:=bhn e1.symm e3
  have hr':r'<10^(f-k):=by
   rw[e1,show f=(f-k)+k from by omega,b3z]at h;exact Nat.lt_of_mul_lt_mul_right (a:=10^k) h
  rw[e4,n6,a82 hr' om];omega
theorem anr (n w m f:Nat) (hn:n<10^(m+f)) (hmf:m+f<=18) (hw:1<=w) (hwm:w<=m):akq (aj6 n w f) 1 m f n:=by
 have hn2:n<=1000000000000000000:=by
  have h4:(10:Nat)^(m+f)<=10^18:=b06 dc om;have e:(10:Nat)^18=1000000000000000000:=by decide
  omega
 have hq:n / 10^f<10^m:=by
  rw[b3z]at hn;exact Nat.div_lt_of_lt_mul (by rwa [b3r])
 have hq2:n / 10^f<=1000000000000000000:=p9 (Nat.div_le_self _ _) hn2;have hr:n%10^f<10^f:=Nat.mod_lt _ (b3x dc);have hdm:n / 10^f*10^f+n%10^f=n:=by rw[b3r];exact Nat.div_add_mod n (10^f)
 refine⟨agi (n / 10^f) w,art (n%10^f) f,rfl,azx _ _,p9 hw (a83 om),aos hq hwm,?_⟩;rw[azy hq2];rcases a7w (n%10^f) f hr om with⟨h1,h2⟩|⟨B,h1,h2,h3,h4,h5⟩
 ·exact .inl ⟨h1,by omega⟩
 ·exact .inr ⟨B,h1,h2,h3,h4,by omega⟩
theorem atm (l:List UInt8):ai5 (45::l)=true/\afk (45::l)=l:=⟨rfl,rfl⟩
theorem baa {l:List UInt8} {a m f n:Nat} (h:akq l a m f n) (ha:1<=a):ai5 l=false/\afk l=l/\l≠[]:=by
 obtain⟨A,T,rfl,hA,h1,-⟩:=h;cases A with
 | nil=>simp at h1;omega
 | cons c A=>
  have hc:=b1g (hA c sm)
  have:ai5 (c::A++T)=false:=by
   show (some c==some 45)=false;have:c≠45:=by rintro rfl;exact absurd hc dc
   simpa using this
  refine⟨this,?_,by simp⟩;unfold afk;rw[this];rfl
theorem a1y {W M F L H:Int} (h:abq W M F L H=true):∃w m f:Nat,W=(w:Int)/\M=(m:Int)/\F=(f:Int)/\1<=w/\w<=m/\m<=12/\f<=6/\-kt (m+f)<L/\H<kt (m+f):=by
 have h:=b1g h;refine⟨W.toNat,M.toNat,F.toNat,by omega,by omega,by omega,by omega,by omega,by omega,by omega,?_⟩;rw[show M.toNat+F.toNat=(M+F).toNat from by omega];exact⟨h.2.2.2.2.2.2.1,h.2.2.2.2.2.2.2⟩
theorem bgx {b:Bool} {n W M F L H:Int} (h:(awv b n W M F L H).2=0):j4 (awv b n W M F L H).1.data.toList W M F L H=(b,n,0):=by
 unfold awv at h ⊢
 by_cases hr:abq W M F L H=false
 ·rw[if_pos hr]at h;exact absurd h dc
 rw[if_neg hr]at h ⊢
 by_cases hf:aa5 b n L H=false
 ·rw[if_pos hf]at h;exact absurd h dc
 rw[if_neg hf]at h ⊢;cases b with
 | false=>
  rw[if_pos rfl]
  have:n=0:=by
   unfold aa5 at hf
   simpa using hf
  subst this;unfold j4;rw[if_neg hr];rfl
 | true=>
  rw[if_neg dc];have hfit:aa5 true n L H=true:=by simpa using hf
  have hb:=aqd hfit;obtain⟨w,m,f,rfl,rfl,rfl,h1,h2,h3,h4,h5,h6⟩:=a1y (by simpa using hr)
  have hx:n.natAbs<10^(m+f):=by
   rw[ke]at h5 h6;omega
  by_cases hn:n<0
  ·rw[if_pos hn];have ht:=anr n.natAbs w m f hx om h1 h2;have hp:=auf ht;show j4 (toB (45::aj6 (-n).toNat w f)).data.toList w m f L H=_;rw[a3g,show (-n).toNat=n.natAbs from by omega];unfold j4;rw[if_neg hr,if_neg sm,(atm _).1,(atm _).2,b1v,b1v,hp];simp only[b5p];rw[show -((n.natAbs:Nat):Int)=n from by omega,hfit];rfl
  ·rw[if_neg hn];have ht:=anr n.natAbs w m f hx om h1 h2;have hp:=auf ht;obtain⟨k1,k2,k3⟩:=baa ht (a8 _);show j4 (toB (aj6 n.toNat w f)).data.toList w m f L H=_;rw[a3g,show n.toNat=n.natAbs from by omega];unfold j4;rw[if_neg hr,if_neg k3,k1,k2,b1v,b1v,hp];simp only[b2w,b4v];rw[show ((n.natAbs:Nat):Int)=n from by omega,hfit];rfl
variable {Q : Nat -> Prop}
theorem acn.other {w w':World} {g g':Nat} {e:Int} {R:List ByteArray} {v:Value} (h:acn Q w g e R) (hf:Frm g' v w w') (h1:g≠g') (h2:v.ownBlock≠some g) (h3:∀b,Q b->b≠g'/\v.ownBlock≠some b):acn Q w' g e R:=by
 obtain⟨A,c,p0,p1,p2,p3,p4,p5,hB,p6,p7,p8⟩:=h;refine⟨A,c,(hf.cell p4 h1 h2).trans p0,(hf.cell p4 h1 h2).trans p1,(hf.cell p4 h1 h2).trans p2,λo=>(b1t (a:=⟨g,o,none⟩) (hf.block g p4 h1 h2)).trans (p3 o),i9 p4 hf.size,λk hk=>?_,λb q=>i9 (hB b q) hf.size,p6,p7,p8⟩;obtain⟨b,off,e1,e2,e3⟩:=p5 k hk;exact⟨b,off,e1,e2,(hf.cell (hB b e2) (h3 b e2).1 (h3 b e2).2).trans e3⟩
section
variable {w wx w' : World} {Qr Qs : Nat -> Prop} {gp gr gq gs base : Nat} {ep eq er es : Int} {vp vq : Value} {Lp Lq R S : List ByteArray}
end
