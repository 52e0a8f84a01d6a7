/- Parts. -/
import Derived.Test.YtdkhlkfleggbaaaGreatV00
namespace Go.Proofs.YtdkhlkfleggbaaaGreat
open Tryz
set_option linter.unusedVariables false
open Go.RowKit
def nmL (k:Int) (t:ByteArray) (G R S V U:List Value):List Value:=.int .i64 k::.string t::(G ++(R ++(S ++(V++U))))
structure aca (G R S V U:List Value):Prop where
 g:G.length=22
 r:R.length=20
 s:S.length=9
 v:V.length=8
 u:U.length=4
theorem abf {k:Int} {t:ByteArray} {G R S V U:List Value} (h:aca G R S V U):(nmL k t G R S V U).length=65:=by
 obtain⟨h1,h2,h3,h4,h5⟩:=h;simp[nmL];omega
theorem a9b:(prog.info? 58).map (·.size)=some 65:=by kernel_rfl
structure bnt (W:World) (b:Nat) (k:Int) (t:ByteArray) (G R S V U:List Value):Prop where
 c0:W.cell? ⟨b,0,none⟩=some (.int .i64 k)
 c1:W.cell? ⟨b,1,none⟩=some (.string t)
 g:W.rangeAt b 2 G
 r:W.rangeAt b 24 R
 s:W.rangeAt b 44 S
 v:W.rangeAt b 53 V
 u:W.rangeAt b 61 U
theorem bf4 {W:World} {b:Nat} {k:Int} {t:ByteArray} {G R S V U:List Value} (h:aca G R S V U):W.rangeAt b 0 (nmL k t G R S V U)↔bnt W b k t G R S V U:=by
 unfold nmL;rw[World.rangeAt_cons,World.rangeAt_cons,World.rangeAt_append,World.rangeAt_append,World.rangeAt_append,World.rangeAt_append,h.g,h.r,h.s,h.v];exact⟨λ⟨a,b,c,d,e,f,g⟩=>⟨a,b,c,d,e,f,g⟩,λ⟨a,b,c,d,e,f,g⟩=>⟨a,b,c,d,e,f,g⟩⟩
theorem aed:(prog.info? 44).map (·.size)=some 22:=by kernel_rfl
theorem azd (G:List Value) (h:G.length=22) (w:World):(Instr.build 239 #[(0,.agg G.toArray)]).run prog w=.ok (.agg G.toArray) w:=by
 match G,h with
 | [g0,g1,g2,g3,g4,g5,g6,g7,g8,g9,g10,g11,g12,g13,g14,g15,g16,g17,g18,g19,g20,g21],_=>
  show _=_;kernel_rfl
theorem aeg:(prog.info? 48).map (·.size)=some 20:=by kernel_rfl
theorem azg (G:List Value) (h:G.length=20) (w:World):(Instr.build 243 #[(0,.agg G.toArray)]).run prog w=.ok (.agg G.toArray) w:=by
 match G,h with
 | [g0,g1,g2,g3,g4,g5,g6,g7,g8,g9,g10,g11,g12,g13,g14,g15,g16,g17,g18,g19],_=>
  show _=_;kernel_rfl
theorem aee:(prog.info? 51).map (·.size)=some 9:=by kernel_rfl
theorem aze (G:List Value) (h:G.length=9) (w:World):(Instr.build 247 #[(0,.agg G.toArray)]).run prog w=.ok (.agg G.toArray) w:=by
 match G,h with
 | [g0,g1,g2,g3,g4,g5,g6,g7,g8],_=>
  show _=_;kernel_rfl
theorem aeh:(prog.info? 53).map (·.size)=some 8:=by kernel_rfl
theorem azh (G:List Value) (h:G.length=8) (w:World):(Instr.build 251 #[(0,.agg G.toArray)]).run prog w=.ok (.agg G.toArray) w:=by
 match G,h with
 | [g0,g1,g2,g3,g4,g5,g6,g7],_=>
  show _=_;kernel_rfl
theorem aef:(prog.info? 56).map (·.size)=some 4:=by kernel_rfl
theorem azf (G:List Value) (h:G.length=4) (w:World):(Instr.build 255 #[(0,.agg G.toArray)]).run prog w=.ok (.agg G.toArray) w:=by
 match G,h with
 | [g0,g1,g2,g3],_=>
  show _=_;kernel_rfl
def xk (L:List Value):Prop:=∀v∈L,v.oneCell'=true
theorem xk.of {L:List Value} (h:L.all (·.oneCell')=true):xk L:=b2c.1 h
theorem xk.arr {L:List Value} (h:xk L):L.toArray.all (·.oneCell')=true:=all_oneCell_toArray h
def zz:List Value:=[.bool false,.int .i64 0,.int .i64 0,.int .i64 0,.int .i64 0,.bool false,.int .i64 0,.bool false,.int .i64 0,.int .i64 0,.bool false,.int .i64 0,.bool false,.int .i64 0,.bool false,.int .i64 0,.bool false,.int .i64 0,.bool false,.int .i64 0,.bool false,.int .i64 0]
def xd:List Value:=[.bool false,.int .i64 0,.int .i64 0,.int .i64 0,.int .i64 0,.bool false,.bool false,.int .i64 0,.bool false,.int .i64 0,.bool false,.int .i64 0,.bool false,.int .i64 0,.bool false,.int .i64 0,.bool false,.int .i64 0,.int .i64 0,.int .i64 0]
def xx:List Value:=[.bool false,.int .i64 0,.slice none 0 0,.bool false,.int .i64 0,.bool false,.int .i64 0,.bool false,.int .i64 0]
def xi:List Value:=[.bool false,.int .i64 0,.bool false,.int .i64 0,.bool false,.int .i64 0,.bool false,.int .i64 0]
def jc:List Value:=[.int .i64 0,.int .i64 0,.int .i64 0,.slice none 0 0]
theorem qs:aca zz xd xx xi jc:=⟨rfl,rfl,rfl,rfl,rfl⟩
def zNm:Array Value:=(nmL 0 ByteArray.empty zz xd xx xi jc).toArray
theorem ac1 (w:World):(zeroValue 58).run prog w=.ok (.agg zNm) w:=by kernel_rfl
theorem afl (t:ByteArray) (w:World):(Instr.build 58 #[(1,.string t)]).run prog w=.ok (.agg (nmL 0 t zz xd xx xi jc).toArray) w:=by kernel_rfl
theorem ato (w:World):(Instr.build 58 #[]).run prog w=.ok (.agg zNm) w:=by kernel_rfl
theorem a8r (w:World):(zeroValue 239).run prog w=.ok (.agg zz.toArray) w:=by kernel_rfl
theorem a7l:(prog.info? 239).map (·.size)=some 22:=by kernel_rfl
theorem a8u (w:World):(zeroValue 243).run prog w=.ok (.agg xd.toArray) w:=by kernel_rfl
theorem a7o:(prog.info? 243).map (·.size)=some 20:=by kernel_rfl
theorem a8s (w:World):(zeroValue 247).run prog w=.ok (.agg xx.toArray) w:=by kernel_rfl
theorem a7m:(prog.info? 247).map (·.size)=some 9:=by kernel_rfl
theorem a8v (w:World):(zeroValue 251).run prog w=.ok (.agg xi.toArray) w:=by kernel_rfl
theorem a7p:(prog.info? 251).map (·.size)=some 8:=by kernel_rfl
theorem a8t (w:World):(zeroValue 255).run prog w=.ok (.agg jc.toArray) w:=by kernel_rfl
theorem a7n:(prog.info? 255).map (·.size)=some 4:=by kernel_rfl
theorem apj (G:List Value) (w:World):(Instr.typeAssert (.iface 239 (.agg G.toArray)) 187 239 true).run prog w=.ok (.tuple #[.agg G.toArray,.bool true]) w:=by kernel_rfl
theorem apt (G:List Value) (w:World):(Instr.typeAssert (.iface 243 (.agg G.toArray)) 187 239 true).run prog w=.ok (.tuple #[.agg zz.toArray,.bool false]) w:=by kernel_rfl
theorem apu (G:List Value) (w:World):(Instr.typeAssert (.iface 243 (.agg G.toArray)) 187 243 true).run prog w=.ok (.tuple #[.agg G.toArray,.bool true]) w:=by kernel_rfl
theorem apk (G:List Value) (w:World):(Instr.typeAssert (.iface 247 (.agg G.toArray)) 187 239 true).run prog w=.ok (.tuple #[.agg zz.toArray,.bool false]) w:=by kernel_rfl
theorem apm (G:List Value) (w:World):(Instr.typeAssert (.iface 247 (.agg G.toArray)) 187 243 true).run prog w=.ok (.tuple #[.agg xd.toArray,.bool false]) w:=by kernel_rfl
theorem apl (G:List Value) (w:World):(Instr.typeAssert (.iface 247 (.agg G.toArray)) 187 247 true).run prog w=.ok (.tuple #[.agg G.toArray,.bool true]) w:=by kernel_rfl
theorem apv (G:List Value) (w:World):(Instr.typeAssert (.iface 251 (.agg G.toArray)) 187 239 true).run prog w=.ok (.tuple #[.agg zz.toArray,.bool false]) w:=by kernel_rfl
theorem apx (G:List Value) (w:World):(Instr.typeAssert (.iface 251 (.agg G.toArray)) 187 243 true).run prog w=.ok (.tuple #[.agg xd.toArray,.bool false]) w:=by kernel_rfl
theorem apw (G:List Value) (w:World):(Instr.typeAssert (.iface 251 (.agg G.toArray)) 187 247 true).run prog w=.ok (.tuple #[.agg xx.toArray,.bool false]) w:=by kernel_rfl
theorem apy (G:List Value) (w:World):(Instr.typeAssert (.iface 251 (.agg G.toArray)) 187 251 true).run prog w=.ok (.tuple #[.agg G.toArray,.bool true]) w:=by kernel_rfl
theorem apn (G:List Value) (w:World):(Instr.typeAssert (.iface 255 (.agg G.toArray)) 187 239 true).run prog w=.ok (.tuple #[.agg zz.toArray,.bool false]) w:=by kernel_rfl
theorem apr (G:List Value) (w:World):(Instr.typeAssert (.iface 255 (.agg G.toArray)) 187 243 true).run prog w=.ok (.tuple #[.agg xd.toArray,.bool false]) w:=by kernel_rfl
theorem apo (G:List Value) (w:World):(Instr.typeAssert (.iface 255 (.agg G.toArray)) 187 247 true).run prog w=.ok (.tuple #[.agg xx.toArray,.bool false]) w:=by kernel_rfl
theorem aps (G:List Value) (w:World):(Instr.typeAssert (.iface 255 (.agg G.toArray)) 187 251 true).run prog w=.ok (.tuple #[.agg xi.toArray,.bool false]) w:=by kernel_rfl
theorem apq (G:List Value) (w:World):(Instr.typeAssert (.iface 255 (.agg G.toArray)) 187 255 true).run prog w=.ok (.tuple #[.agg G.toArray,.bool true]) w:=by kernel_rfl
theorem apz (w:World):(Instr.typeAssert .nilIface 187 239 true).run prog w=.ok (.tuple #[.agg zz.toArray,.bool false]) w:=by kernel_rfl
theorem ap2 (w:World):(Instr.typeAssert .nilIface 187 243 true).run prog w=.ok (.tuple #[.agg xd.toArray,.bool false]) w:=by kernel_rfl
theorem ap0 (w:World):(Instr.typeAssert .nilIface 187 247 true).run prog w=.ok (.tuple #[.agg xx.toArray,.bool false]) w:=by kernel_rfl
theorem ap3 (w:World):(Instr.typeAssert .nilIface 187 251 true).run prog w=.ok (.tuple #[.agg xi.toArray,.bool false]) w:=by kernel_rfl
theorem ap1 (w:World):(Instr.typeAssert .nilIface 187 255 true).run prog w=.ok (.tuple #[.agg jc.toArray,.bool false]) w:=by kernel_rfl
theorem yc {k:Int} {t:ByteArray} {G R S V U:List Value} (h1:xk G) (h2:xk R) (h3:xk S) (h4:xk V) (h5:xk U):xk (nmL k t G R S V U):=λv hv=>by
 simp only[nmL,b03,b1z]at hv;rcases hv with rfl|rfl|hv|hv|hv|hv|hv
 ·rfl
 ·rfl
 ·exact h1 v hv
 ·exact h2 v hv
 ·exact h3 v hv
 ·exact h4 v hv
 ·exact h5 v hv
theorem xj:xk zz/\xk xd/\xk xx/\xk xi/\xk jc:=⟨xk.of rfl,xk.of rfl,xk.of rfl,xk.of rfl,xk.of rfl⟩
theorem Blk.putK {w W:World} {b:Nat} {k k':Int} {t:ByteArray} {G R S V U:List Value} (h:Blk w b (nmL k t G R S V U)) (hs:qq w W b 0 [.int .i64 k']):Blk W b (nmL k' t G R S V U):=
 Blk.put (A:=[]) (M:=[.int .i64 k]) (D:=.string t::(G ++(R ++(S ++(V++U))))) h hs rfl rfl
theorem jf {k:Int} {t:ByteArray} {G R S V U:List Value} (h:aca G R S V U):(prog.info? 58).map (·.size)=some (nmL k t G R S V U).toArray.size:=by rw[a9b,o6,abf h]
theorem Blk.thereA {w:World} {b:Nat} {L M:List Value} (h:Blk w b L) (hl:M.length=L.length):w.there b 0 M.toArray.size:=h.there 0 _ (by simp[hl])
theorem je {k k':Int} {t t':ByteArray} {G R S V U G' R' S' V' U':List Value} (h:aca G R S V U) (h':aca G' R' S' V' U'):(nmL k t G R S V U).length=(nmL k' t' G' R' S' V' U').length:=(abf h).trans (abf h').symm
theorem Blk.nm65 {w:World} {b:Nat} {k:Int} {t:ByteArray} {G R S V U:List Value} (h:Blk w b (nmL k t G R S V U)) (hl:aca G R S V U):w.there b 0 65:=h.there 0 65 (by rw[abf hl];exact a8 _)
theorem Blk.putG {w W:World} {b:Nat} {k:Int} {t:ByteArray} {G R S V U G':List Value} (h:Blk w b (nmL k t G R S V U)) (hs:qq w W b 2 G') (hl:aca G R S V U) (he:G'.length=22):Blk W b (nmL k t G' R S V U):=by
 have:=Blk.put (A:=[.int .i64 k,.string t]) (M:=G) (D:=R++S++V++U) (by simpa [nmL]using h) hs (rfl) (by rw[he];exact hl.g.symm)
 simpa [nmL]using this
theorem aca.withG {G R S V U G':List Value} (h:aca G R S V U) (hl:G'.length=22):aca G' R S V U:=⟨hl,h.r,h.s,h.v,h.u⟩
theorem Blk.putR {w W:World} {b:Nat} {k:Int} {t:ByteArray} {G R S V U R':List Value} (h:Blk w b (nmL k t G R S V U)) (hs:qq w W b 24 R') (hl:aca G R S V U) (he:R'.length=20):Blk W b (nmL k t G R' S V U):=by
 have:=Blk.put (A:=[.int .i64 k,.string t]++G) (M:=R) (D:=S++V++U) (by simpa [nmL]using h) hs (by simp[hl.g]) (by rw[he];exact hl.r.symm)
 simpa [nmL]using this
theorem aca.withR {G R S V U R':List Value} (h:aca G R S V U) (hl:R'.length=20):aca G R' S V U:=⟨h.g,hl,h.s,h.v,h.u⟩
theorem Blk.putS {w W:World} {b:Nat} {k:Int} {t:ByteArray} {G R S V U S':List Value} (h:Blk w b (nmL k t G R S V U)) (hs:qq w W b 44 S') (hl:aca G R S V U) (he:S'.length=9):Blk W b (nmL k t G R S' V U):=by
 have:=Blk.put (A:=[.int .i64 k,.string t]++G++R) (M:=S) (D:=V++U) (by simpa [nmL]using h) hs (by simp[hl.g,hl.r]) (by rw[he];exact hl.s.symm)
 simpa [nmL]using this
theorem aca.withS {G R S V U S':List Value} (h:aca G R S V U) (hl:S'.length=9):aca G R S' V U:=⟨h.g,h.r,hl,h.v,h.u⟩
theorem Blk.putV {w W:World} {b:Nat} {k:Int} {t:ByteArray} {G R S V U V':List Value} (h:Blk w b (nmL k t G R S V U)) (hs:qq w W b 53 V') (hl:aca G R S V U) (he:V'.length=8):Blk W b (nmL k t G R S V' U):=by
 have:=Blk.put (A:=[.int .i64 k,.string t]++G++R++S) (M:=V) (D:=U) (by simpa [nmL]using h) hs (by simp[hl.g,hl.r,hl.s]) (by rw[he];exact hl.v.symm)
 simpa [nmL]using this
theorem aca.withV {G R S V U V':List Value} (h:aca G R S V U) (hl:V'.length=8):aca G R S V' U:=⟨h.g,h.r,h.s,hl,h.u⟩
theorem Blk.putU {w W:World} {b:Nat} {k:Int} {t:ByteArray} {G R S V U U':List Value} (h:Blk w b (nmL k t G R S V U)) (hs:qq w W b 61 U') (hl:aca G R S V U) (he:U'.length=4):Blk W b (nmL k t G R S V U'):=by
 have:=Blk.put (A:=[.int .i64 k,.string t]++G++R++S++V) (M:=U) (D:=[]) (by simpa [nmL]using h) hs (by simp[hl.g,hl.r,hl.s,hl.v]) (by rw[he];exact hl.u.symm)
 simpa [nmL]using this
theorem aca.withU {G R S V U U':List Value} (h:aca G R S V U) (hl:U'.length=4):aca G R S V U':=⟨h.g,h.r,h.s,h.v,hl⟩
