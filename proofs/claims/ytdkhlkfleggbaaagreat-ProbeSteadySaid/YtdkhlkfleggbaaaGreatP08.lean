/- Layer 30: a message's value, its part. Printed by gennm1.py. -/
import Derived.Test.YtdkhlkfleggbaaaGreatP00
import Derived.Test.YtdkhlkfleggbaaaGreatProg
namespace Go.Proofs.YtdkhlkfleggbaaaGreat
open Lib (hid)
set_option linter.unusedVariables false
open Go.RowKit
def nmL (k:Int) (t:ByteArray) (G R S V U:List Value):List Value:=.int .i64 k::.string t::(G ++(R ++(S ++(V++U))))
structure abf (G R S V U:List Value):Prop where
 g:G.length=22
 r:R.length=20
 s:S.length=9
 v:V.length=8
 u:U.length=4
theorem aak {k:Int} {t:ByteArray} {G R S V U:List Value} (h:abf G R S V U):(nmL k t G R S V U).length=65:=by
 obtain⟨h1,h2,h3,h4,h5⟩:=h
 simp[nmL];omega
theorem a4a:(Tryz.prog.info? 58).map (·.size)=some 65:=by kernel_rfl
structure bhg (W:World) (b:Nat) (k:Int) (t:ByteArray) (G R S V U:List Value):Prop where
 c0:W.cell? ⟨b,0,none⟩=some (.int .i64 k)
 c1:W.cell? ⟨b,1,none⟩=some (.string t)
 g:W.rangeAt b 2 G
 r:W.rangeAt b 24 R
 s:W.rangeAt b 44 S
 v:W.rangeAt b 53 V
 u:W.rangeAt b 61 U
theorem baa {W:World} {b:Nat} {k:Int} {t:ByteArray} {G R S V U:List Value} (h:abf G R S V U):W.rangeAt b 0 (nmL k t G R S V U)↔bhg W b k t G R S V U:=by
 unfold nmL
 rw[World.rangeAt_cons,World.rangeAt_cons,World.rangeAt_append,World.rangeAt_append,World.rangeAt_append,World.rangeAt_append,h.g,h.r,h.s,h.v]
 exact⟨fun⟨a,b,c,d,e,f,g⟩=>⟨a,b,c,d,e,f,g⟩,fun⟨a,b,c,d,e,f,g⟩=>⟨a,b,c,d,e,f,g⟩⟩
theorem adp:(Tryz.prog.info? 44).map (·.size)=some 22:=by kernel_rfl
theorem aw4 (G:List Value) (h:G.length=22) (w:World):(Instr.build 239 #[(0,.agg G.toArray)]).run Tryz.prog w=.ok (.agg G.toArray) w:=by
 match G,h with
 | [g0,g1,g2,g3,g4,g5,g6,g7,g8,g9,g10,g11,g12,g13,g14,g15,g16,g17,g18,g19,g20,g21],_=>
  show _=_
  kernel_rfl
theorem ac8:(Tryz.prog.info? 48).map (·.size)=some 20:=by kernel_rfl
theorem aw8 (G:List Value) (h:G.length=20) (w:World):(Instr.build 243 #[(0,.agg G.toArray)]).run Tryz.prog w=.ok (.agg G.toArray) w:=by
 match G,h with
 | [g0,g1,g2,g3,g4,g5,g6,g7,g8,g9,g10,g11,g12,g13,g14,g15,g16,g17,g18,g19],_=>
  show _=_
  kernel_rfl
theorem adb:(Tryz.prog.info? 51).map (·.size)=some 9:=by kernel_rfl
theorem axk (G:List Value) (h:G.length=9) (w:World):(Instr.build 247 #[(0,.agg G.toArray)]).run Tryz.prog w=.ok (.agg G.toArray) w:=by
 match G,h with
 | [g0,g1,g2,g3,g4,g5,g6,g7,g8],_=>
  show _=_
  kernel_rfl
theorem ac6:(Tryz.prog.info? 53).map (·.size)=some 8:=by kernel_rfl
theorem awh (G:List Value) (h:G.length=8) (w:World):(Instr.build 251 #[(0,.agg G.toArray)]).run Tryz.prog w=.ok (.agg G.toArray) w:=by
 match G,h with
 | [g0,g1,g2,g3,g4,g5,g6,g7],_=>
  show _=_
  kernel_rfl
theorem ac5:(Tryz.prog.info? 56).map (·.size)=some 4:=by kernel_rfl
theorem ayf (G:List Value) (h:G.length=4) (w:World):(Instr.build 255 #[(0,.agg G.toArray)]).run Tryz.prog w=.ok (.agg G.toArray) w:=by
 match G,h with
 | [g0,g1,g2,g3],_=>
  show _=_
  kernel_rfl
def zz (L:List Value):Prop:=∀v∈L,v.oneCell'=true
theorem zz.of {L:List Value} (h:L.all (·.oneCell')=true):zz L:=List.all_eq_true.1 h
theorem zz.arr {L:List Value} (h:zz L):L.toArray.all (·.oneCell')=true:=all_oneCell_toArray h
def zq:List Value:=[.bool false,.int .i64 0,.int .i64 0,.int .i64 0,.int .i64 0,.bool false,.int .i64 0,.bool false,.int .i64 0,.int .i64 0,.bool false,.int .i64 0,.bool false,.int .i64 0,.bool false,.int .i64 0,.bool false,.int .i64 0,.bool false,.int .i64 0,.bool false,.int .i64 0]
def zr:List Value:=[.bool false,.int .i64 0,.int .i64 0,.int .i64 0,.int .i64 0,.bool false,.bool false,.int .i64 0,.bool false,.int .i64 0,.bool false,.int .i64 0,.bool false,.int .i64 0,.bool false,.int .i64 0,.bool false,.int .i64 0,.int .i64 0,.int .i64 0]
def xf:List Value:=[.bool false,.int .i64 0,.slice none 0 0,.bool false,.int .i64 0,.bool false,.int .i64 0,.bool false,.int .i64 0]
def zw:List Value:=[.bool false,.int .i64 0,.bool false,.int .i64 0,.bool false,.int .i64 0,.bool false,.int .i64 0]
def xj:List Value:=[.int .i64 0,.int .i64 0,.int .i64 0,.slice none 0 0]
theorem qn:abf zq zr xf zw xj:=⟨rfl,rfl,rfl,rfl,rfl⟩
def zNm:Array Value:=(nmL 0 ByteArray.empty zq zr xf zw xj).toArray
theorem ab5 (w:World):(zeroValue 58).run Tryz.prog w=.ok (.agg zNm) w:=by kernel_rfl
theorem aej (t:ByteArray) (w:World):(Instr.build 58 #[(1,.string t)]).run Tryz.prog w=.ok (.agg (nmL 0 t zq zr xf zw xj).toArray) w:=by kernel_rfl
theorem art (w:World):(Instr.build 58 #[]).run Tryz.prog w=.ok (.agg zNm) w:=by kernel_rfl
theorem a08 (w:World):(zeroValue 239).run Tryz.prog w=.ok (.agg zq.toArray) w:=by kernel_rfl
theorem a0w:(Tryz.prog.info? 239).map (·.size)=some 22:=by kernel_rfl
theorem a0f (w:World):(zeroValue 243).run Tryz.prog w=.ok (.agg zr.toArray) w:=by kernel_rfl
theorem a1l:(Tryz.prog.info? 243).map (·.size)=some 20:=by kernel_rfl
theorem a1t (w:World):(zeroValue 247).run Tryz.prog w=.ok (.agg xf.toArray) w:=by kernel_rfl
theorem a3q:(Tryz.prog.info? 247).map (·.size)=some 9:=by kernel_rfl
theorem a2r (w:World):(zeroValue 251).run Tryz.prog w=.ok (.agg zw.toArray) w:=by kernel_rfl
theorem a16:(Tryz.prog.info? 251).map (·.size)=some 8:=by kernel_rfl
theorem azy (w:World):(zeroValue 255).run Tryz.prog w=.ok (.agg xj.toArray) w:=by kernel_rfl
theorem a0t:(Tryz.prog.info? 255).map (·.size)=some 4:=by kernel_rfl
theorem am4 (G:List Value) (w:World):(Instr.typeAssert (.iface 239 (.agg G.toArray)) 187 239 true).run Tryz.prog w=.ok (.tuple #[.agg G.toArray,.bool true]) w:=by kernel_rfl
theorem an7 (G:List Value) (w:World):(Instr.typeAssert (.iface 243 (.agg G.toArray)) 187 239 true).run Tryz.prog w=.ok (.tuple #[.agg zq.toArray,.bool false]) w:=by kernel_rfl
theorem anl (G:List Value) (w:World):(Instr.typeAssert (.iface 243 (.agg G.toArray)) 187 243 true).run Tryz.prog w=.ok (.tuple #[.agg G.toArray,.bool true]) w:=by kernel_rfl
theorem aoa (G:List Value) (w:World):(Instr.typeAssert (.iface 247 (.agg G.toArray)) 187 239 true).run Tryz.prog w=.ok (.tuple #[.agg zq.toArray,.bool false]) w:=by kernel_rfl
theorem ao0 (G:List Value) (w:World):(Instr.typeAssert (.iface 247 (.agg G.toArray)) 187 243 true).run Tryz.prog w=.ok (.tuple #[.agg zr.toArray,.bool false]) w:=by kernel_rfl
theorem aos (G:List Value) (w:World):(Instr.typeAssert (.iface 247 (.agg G.toArray)) 187 247 true).run Tryz.prog w=.ok (.tuple #[.agg G.toArray,.bool true]) w:=by kernel_rfl
theorem anj (G:List Value) (w:World):(Instr.typeAssert (.iface 251 (.agg G.toArray)) 187 239 true).run Tryz.prog w=.ok (.tuple #[.agg zq.toArray,.bool false]) w:=by kernel_rfl
theorem aot (G:List Value) (w:World):(Instr.typeAssert (.iface 251 (.agg G.toArray)) 187 243 true).run Tryz.prog w=.ok (.tuple #[.agg zr.toArray,.bool false]) w:=by kernel_rfl
theorem an8 (G:List Value) (w:World):(Instr.typeAssert (.iface 251 (.agg G.toArray)) 187 247 true).run Tryz.prog w=.ok (.tuple #[.agg xf.toArray,.bool false]) w:=by kernel_rfl
theorem ani (G:List Value) (w:World):(Instr.typeAssert (.iface 251 (.agg G.toArray)) 187 251 true).run Tryz.prog w=.ok (.tuple #[.agg G.toArray,.bool true]) w:=by kernel_rfl
theorem aoc (G:List Value) (w:World):(Instr.typeAssert (.iface 255 (.agg G.toArray)) 187 239 true).run Tryz.prog w=.ok (.tuple #[.agg zq.toArray,.bool false]) w:=by kernel_rfl
theorem aor (G:List Value) (w:World):(Instr.typeAssert (.iface 255 (.agg G.toArray)) 187 243 true).run Tryz.prog w=.ok (.tuple #[.agg zr.toArray,.bool false]) w:=by kernel_rfl
theorem ao3 (G:List Value) (w:World):(Instr.typeAssert (.iface 255 (.agg G.toArray)) 187 247 true).run Tryz.prog w=.ok (.tuple #[.agg xf.toArray,.bool false]) w:=by kernel_rfl
theorem ao4 (G:List Value) (w:World):(Instr.typeAssert (.iface 255 (.agg G.toArray)) 187 251 true).run Tryz.prog w=.ok (.tuple #[.agg zw.toArray,.bool false]) w:=by kernel_rfl
theorem am7 (G:List Value) (w:World):(Instr.typeAssert (.iface 255 (.agg G.toArray)) 187 255 true).run Tryz.prog w=.ok (.tuple #[.agg G.toArray,.bool true]) w:=by kernel_rfl
theorem amp (w:World):(Instr.typeAssert .nilIface 187 239 true).run Tryz.prog w=.ok (.tuple #[.agg zq.toArray,.bool false]) w:=by kernel_rfl
theorem am2 (w:World):(Instr.typeAssert .nilIface 187 243 true).run Tryz.prog w=.ok (.tuple #[.agg zr.toArray,.bool false]) w:=by kernel_rfl
theorem an2 (w:World):(Instr.typeAssert .nilIface 187 247 true).run Tryz.prog w=.ok (.tuple #[.agg xf.toArray,.bool false]) w:=by kernel_rfl
theorem apf (w:World):(Instr.typeAssert .nilIface 187 251 true).run Tryz.prog w=.ok (.tuple #[.agg zw.toArray,.bool false]) w:=by kernel_rfl
theorem aob (w:World):(Instr.typeAssert .nilIface 187 255 true).run Tryz.prog w=.ok (.tuple #[.agg xj.toArray,.bool false]) w:=by kernel_rfl
theorem va {k:Int} {t:ByteArray} {G R S V U:List Value} (h1:zz G) (h2:zz R) (h3:zz S) (h4:zz V) (h5:zz U):zz (nmL k t G R S V U):=fun v hv=>by
 simp only[nmL,List.mem_cons,List.mem_append]at hv
 rcases hv with rfl|rfl|hv|hv|hv|hv|hv
 ·rfl
 ·rfl
 ·exact h1 v hv
 ·exact h2 v hv
 ·exact h3 v hv
 ·exact h4 v hv
 ·exact h5 v hv
theorem zv:zz zq∧zz zr∧zz xf∧zz zw∧zz xj:=⟨zz.of rfl,zz.of rfl,zz.of rfl,zz.of rfl,zz.of rfl⟩
theorem Blk.putK {w W:World} {b:Nat} {k k':Int} {t:ByteArray} {G R S V U:List Value} (h:Blk w b (nmL k t G R S V U)) (hs:qu w W b 0 [.int .i64 k']):Blk W b (nmL k' t G R S V U):=
 Blk.put (A:=[]) (M:=[.int .i64 k]) (D:=.string t::(G ++(R ++(S ++(V++U))))) h hs rfl rfl
theorem xp {k:Int} {t:ByteArray} {G R S V U:List Value} (h:abf G R S V U):(Tryz.prog.info? 58).map (·.size)=some (nmL k t G R S V U).toArray.size:=by rw[a4a,List.size_toArray,aak h]
theorem Blk.thereA {w:World} {b:Nat} {L M:List Value} (h:Blk w b L) (hl:M.length=L.length):w.there b 0 M.toArray.size:=h.there 0 _ (by simp[hl])
theorem xm {k k':Int} {t t':ByteArray} {G R S V U G' R' S' V' U':List Value} (h:abf G R S V U) (h':abf G' R' S' V' U'):(nmL k t G R S V U).length=(nmL k' t' G' R' S' V' U').length:=(aak h).trans (aak h').symm
theorem Blk.nm65 {w:World} {b:Nat} {k:Int} {t:ByteArray} {G R S V U:List Value} (h:Blk w b (nmL k t G R S V U)) (hl:abf G R S V U):w.there b 0 65:=h.there 0 65 (by rw[aak hl];exact Nat.le_refl _)
theorem Blk.putG {w W:World} {b:Nat} {k:Int} {t:ByteArray} {G R S V U G':List Value} (h:Blk w b (nmL k t G R S V U)) (hs:qu w W b 2 G') (hl:abf G R S V U) (he:G'.length=22):Blk W b (nmL k t G' R S V U):=by
 have:=Blk.put (A:=[.int .i64 k,.string t]) (M:=G) (D:=R++S++V++U) (by simpa [nmL]using h) hs (rfl) (by rw[he];exact hl.g.symm)
 simpa [nmL]using this
theorem abf.withG {G R S V U G':List Value} (h:abf G R S V U) (hl:G'.length=22):abf G' R S V U:=⟨hl,h.r,h.s,h.v,h.u⟩
theorem Blk.putR {w W:World} {b:Nat} {k:Int} {t:ByteArray} {G R S V U R':List Value} (h:Blk w b (nmL k t G R S V U)) (hs:qu w W b 24 R') (hl:abf G R S V U) (he:R'.length=20):Blk W b (nmL k t G R' S V U):=by
 have:=Blk.put (A:=[.int .i64 k,.string t]++G) (M:=R) (D:=S++V++U) (by simpa [nmL]using h) hs (by simp[hl.g]) (by rw[he];exact hl.r.symm)
 simpa [nmL]using this
theorem abf.withR {G R S V U R':List Value} (h:abf G R S V U) (hl:R'.length=20):abf G R' S V U:=⟨h.g,hl,h.s,h.v,h.u⟩
theorem Blk.putS {w W:World} {b:Nat} {k:Int} {t:ByteArray} {G R S V U S':List Value} (h:Blk w b (nmL k t G R S V U)) (hs:qu w W b 44 S') (hl:abf G R S V U) (he:S'.length=9):Blk W b (nmL k t G R S' V U):=by
 have:=Blk.put (A:=[.int .i64 k,.string t]++G++R) (M:=S) (D:=V++U) (by simpa [nmL]using h) hs (by simp[hl.g,hl.r]) (by rw[he];exact hl.s.symm)
 simpa [nmL]using this
theorem abf.withS {G R S V U S':List Value} (h:abf G R S V U) (hl:S'.length=9):abf G R S' V U:=⟨h.g,h.r,hl,h.v,h.u⟩
theorem Blk.putV {w W:World} {b:Nat} {k:Int} {t:ByteArray} {G R S V U V':List Value} (h:Blk w b (nmL k t G R S V U)) (hs:qu w W b 53 V') (hl:abf G R S V U) (he:V'.length=8):Blk W b (nmL k t G R S V' U):=by
 have:=Blk.put (A:=[.int .i64 k,.string t]++G++R++S) (M:=V) (D:=U) (by simpa [nmL]using h) hs (by simp[hl.g,hl.r,hl.s]) (by rw[he];exact hl.v.symm)
 simpa [nmL]using this
theorem abf.withV {G R S V U V':List Value} (h:abf G R S V U) (hl:V'.length=8):abf G R S V' U:=⟨h.g,h.r,h.s,hl,h.u⟩
theorem Blk.putU {w W:World} {b:Nat} {k:Int} {t:ByteArray} {G R S V U U':List Value} (h:Blk w b (nmL k t G R S V U)) (hs:qu w W b 61 U') (hl:abf G R S V U) (he:U'.length=4):Blk W b (nmL k t G R S V U'):=by
 have:=Blk.put (A:=[.int .i64 k,.string t]++G++R++S++V) (M:=U) (D:=[]) (by simpa [nmL]using h) hs (by simp[hl.g,hl.r,hl.s,hl.v]) (by rw[he];exact hl.u.symm)
 simpa [nmL]using this
theorem abf.withU {G R S V U U':List Value} (h:abf G R S V U) (hl:U'.length=4):abf G R S V U':=⟨h.g,h.r,h.s,h.v,hl⟩
end Go.Proofs.YtdkhlkfleggbaaaGreat
