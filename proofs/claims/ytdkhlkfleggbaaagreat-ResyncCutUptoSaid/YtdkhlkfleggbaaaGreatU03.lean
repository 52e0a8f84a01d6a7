/- Parts. -/
import Derived.Test.YtdkhlkfleggbaaaGreatU02
namespace Go.Proofs.YtdkhlkfleggbaaaGreat
set_option maxHeartbeats 2000000
set_option maxRecDepth 8000
open Lib (hid)
open Tryz
set_option linter.unusedVariables false
open Go.RowKit
def kw (md:Region.Mode) (ops:Array Oper):Nat→Nat→Array Bool→Bool
 | 0,_,_=>true
 | m+1,k,listed=>(Region.ready md ops listed).contains k && Region.free md ops listed k && kw md ops m (k+1) (listed.setIfInBounds k true)
def qh:Nat→Nat→Array Bool→Array Bool
 | 0,_,listed=>listed
 | m+1,k,listed=>qh m (k+1) (listed.setIfInBounds k true)
theorem xp (md:Region.Mode) (ops:Array Oper) (g:Nat):∀(m f k:Nat) (listed:Array Bool),kw md ops m k listed=true→Region.lexHead md ops g f (k+m) (qh m k listed)=true→Region.lexHead md ops g (m+f) k listed=true
 | 0,f,k,listed,_,h=>by rw[b0e];exact h
 | m+1,f,k,listed,h,h2=>by
  rw[show m+1+f=(m+f)+1 from by omega];unfold kw at h;rw[b0d]at h;unfold Region.lexHead;rw[b0d];exact⟨h.1,xp md ops g m f (k+1) _ h.2 (by rw[show k+1+m=k +(m+1)from by omega];exact h2)⟩
theorem xq:∀(m n k:Nat) (listed:Array Bool),qh n (k+m) (qh m k listed)=qh (m+n) k listed
 | 0,n,k,listed=>by rw[b0e];rfl
 | m+1,n,k,listed=>by
  rw[show m+1+n=(m+n)+1 from by omega,show k +(m+1)=k+1+m from by omega];exact xq m n (k+1) _
def plL:List Oper:=[
{dst:=some 5,op:=Op.move (Operand.tmp 0),type:=403,pos := "pvt.go:35",after:=#[],guard:=none},
 {dst:=some 6,op:=Op.nilCheck (Operand.tmp 5),type:=0,pos := "pvt.go:35",after:=#[{on:=0,ground:=Ground.data}],guard:=none},
 {dst:=some 7,op:=Op.fieldAddr 26 (Operand.tmp 6) 0,type:=0,pos := "pvt.go:35",after:=#[{on:=1,ground:=Ground.data}],guard:=none},
 {dst:=some 8,op:=Op.move (Operand.tmp 0),type:=403,pos := "pvt.go:35",after:=#[],guard:=none},
 {dst:=some 9,op:=Op.nilCheck (Operand.tmp 8),type:=0,pos := "pvt.go:35",after:=#[{on:=3,ground:=Ground.data}],guard:=none},
 {dst:=some 10,op:=Op.fieldAddr 26 (Operand.tmp 9) 1,type:=0,pos := "pvt.go:35",after:=#[{on:=4,ground:=Ground.data}],guard:=none},
 {dst:=some 11,op:=Op.move (Operand.tmp 0),type:=403,pos := "pvt.go:35",after:=#[],guard:=none},
 {dst:=some 12,op:=Op.nilCheck (Operand.tmp 11),type:=0,pos := "pvt.go:35",after:=#[{on:=6,ground:=Ground.data}],guard:=none},
 {dst:=some 13,op:=Op.fieldAddr 26 (Operand.tmp 12) 2,type:=0,pos := "pvt.go:35",after:=#[{on:=7,ground:=Ground.data}],guard:=none},
 {dst:=some 14,op:=Op.move (Operand.tmp 0),type:=403,pos := "pvt.go:35",after:=#[],guard:=none},
 {dst:=some 15,op:=Op.nilCheck (Operand.tmp 14),type:=0,pos := "pvt.go:35",after:=#[{on:=9,ground:=Ground.data}],guard:=none},
 {dst:=some 16,op:=Op.fieldAddr 26 (Operand.tmp 15) 3,type:=0,pos := "pvt.go:35",after:=#[{on:=10,ground:=Ground.data}],guard:=none},
 {dst:=some 17,op:=Op.move (Operand.tmp 0),type:=403,pos := "pvt.go:35",after:=#[],guard:=none},
 {dst:=some 18,op:=Op.nilCheck (Operand.tmp 17),type:=0,pos := "pvt.go:35",after:=#[{on:=12,ground:=Ground.data}],guard:=none},
 {dst:=some 19,op:=Op.fieldAddr 26 (Operand.tmp 18) 4,type:=0,pos := "pvt.go:35",after:=#[{on:=13,ground:=Ground.data}],guard:=none},
 {dst:=some 20,op:=Op.move (Operand.tmp 0),type:=403,pos := "pvt.go:35",after:=#[],guard:=none},
 {dst:=some 21,op:=Op.nilCheck (Operand.tmp 20),type:=0,pos := "pvt.go:35",after:=#[{on:=15,ground:=Ground.data}],guard:=none},
 {dst:=some 22,op:=Op.fieldAddr 26 (Operand.tmp 21) 5,type:=0,pos := "pvt.go:35",after:=#[{on:=16,ground:=Ground.data}],guard:=none},
 {dst:=some 23,op:=Op.move (Operand.tmp 0),type:=403,pos := "pvt.go:35",after:=#[],guard:=none},
 {dst:=some 24,op:=Op.nilCheck (Operand.tmp 23),type:=0,pos := "pvt.go:35",after:=#[{on:=18,ground:=Ground.data}],guard:=none},
 {dst:=some 25,op:=Op.fieldAddr 26 (Operand.tmp 24) 6,type:=0,pos := "pvt.go:35",after:=#[{on:=19,ground:=Ground.data}],guard:=none},
 {dst:=some 26,op:=Op.move (Operand.tmp 0),type:=403,pos := "pvt.go:35",after:=#[],guard:=none},
 {dst:=some 27,op:=Op.nilCheck (Operand.tmp 26),type:=0,pos := "pvt.go:35",after:=#[{on:=21,ground:=Ground.data}],guard:=none},
 {dst:=some 28,op:=Op.fieldAddr 26 (Operand.tmp 27) 7,type:=0,pos := "pvt.go:35",after:=#[{on:=22,ground:=Ground.data}],guard:=none},
 {dst:=some 29,op:=Op.move (Operand.tmp 0),type:=403,pos := "pvt.go:35",after:=#[],guard:=none},
 {dst:=some 30,op:=Op.nilCheck (Operand.tmp 29),type:=0,pos := "pvt.go:35",after:=#[{on:=24,ground:=Ground.data}],guard:=none},
 {dst:=some 31,op:=Op.fieldAddr 26 (Operand.tmp 30) 8,type:=0,pos := "pvt.go:35",after:=#[{on:=25,ground:=Ground.data}],guard:=none},
 {dst:=some 32,op:=Op.move (Operand.tmp 0),type:=403,pos := "pvt.go:35",after:=#[],guard:=none},
 {dst:=some 33,op:=Op.nilCheck (Operand.tmp 32),type:=0,pos := "pvt.go:35",after:=#[{on:=27,ground:=Ground.data}],guard:=none},
 {dst:=some 34,op:=Op.fieldAddr 26 (Operand.tmp 33) 9,type:=0,pos := "pvt.go:35",after:=#[{on:=28,ground:=Ground.data}],guard:=none},
 {dst:=some 35,op:=Op.move (Operand.tmp 0),type:=403,pos := "pvt.go:35",after:=#[],guard:=none},
 {dst:=some 36,op:=Op.nilCheck (Operand.tmp 35),type:=0,pos := "pvt.go:35",after:=#[{on:=30,ground:=Ground.data}],guard:=none},
 {dst:=some 37,op:=Op.fieldAddr 26 (Operand.tmp 36) 10,type:=0,pos := "pvt.go:35",after:=#[{on:=31,ground:=Ground.data}],guard:=none},
 {dst:=some 38,op:=Op.move (Operand.tmp 0),type:=403,pos := "pvt.go:35",after:=#[],guard:=none},
 {dst:=some 39,op:=Op.nilCheck (Operand.tmp 38),type:=0,pos := "pvt.go:35",after:=#[{on:=33,ground:=Ground.data}],guard:=none},
 {dst:=some 40,op:=Op.fieldAddr 26 (Operand.tmp 39) 11,type:=0,pos := "pvt.go:35",after:=#[{on:=34,ground:=Ground.data}],guard:=none},
 {dst:=some 41,op:=Op.move (Operand.tmp 0),type:=403,pos := "pvt.go:35",after:=#[],guard:=none},
 {dst:=some 42,op:=Op.nilCheck (Operand.tmp 41),type:=0,pos := "pvt.go:35",after:=#[{on:=36,ground:=Ground.data}],guard:=none},
 {dst:=some 43,op:=Op.fieldAddr 26 (Operand.tmp 42) 12,type:=0,pos := "pvt.go:35",after:=#[{on:=37,ground:=Ground.data}],guard:=none},
 {dst:=some 44,op:=Op.move (Operand.tmp 0),type:=403,pos := "pvt.go:35",after:=#[],guard:=none},
 {dst:=some 45,op:=Op.nilCheck (Operand.tmp 44),type:=0,pos := "pvt.go:35",after:=#[{on:=39,ground:=Ground.data}],guard:=none},
 {dst:=some 46,op:=Op.fieldAddr 26 (Operand.tmp 45) 13,type:=0,pos := "pvt.go:35",after:=#[{on:=40,ground:=Ground.data}],guard:=none},
 {dst:=some 47,op:=Op.move (Operand.tmp 0),type:=403,pos := "pvt.go:35",after:=#[],guard:=none},
 {dst:=some 48,op:=Op.nilCheck (Operand.tmp 47),type:=0,pos := "pvt.go:35",after:=#[{on:=42,ground:=Ground.data}],guard:=none},
 {dst:=some 49,op:=Op.fieldAddr 26 (Operand.tmp 48) 14,type:=0,pos := "pvt.go:35",after:=#[{on:=43,ground:=Ground.data}],guard:=none},
 {dst:=some 50,op:=Op.move (Operand.tmp 0),type:=403,pos := "pvt.go:35",after:=#[],guard:=none},
 {dst:=some 51,op:=Op.nilCheck (Operand.tmp 50),type:=0,pos := "pvt.go:35",after:=#[{on:=45,ground:=Ground.data}],guard:=none},
 {dst:=some 52,op:=Op.fieldAddr 26 (Operand.tmp 51) 15,type:=0,pos := "pvt.go:35",after:=#[{on:=46,ground:=Ground.data}],guard:=none},
 {dst:=some 53,op:=Op.move (Operand.tmp 0),type:=403,pos := "pvt.go:35",after:=#[],guard:=none},
 {dst:=some 54,op:=Op.nilCheck (Operand.tmp 53),type:=0,pos := "pvt.go:35",after:=#[{on:=48,ground:=Ground.data}],guard:=none},
 {dst:=some 55,op:=Op.fieldAddr 26 (Operand.tmp 54) 16,type:=0,pos := "pvt.go:35",after:=#[{on:=49,ground:=Ground.data}],guard:=none},
 {dst:=some 56,op:=Op.move (Operand.tmp 0),type:=403,pos := "pvt.go:35",after:=#[],guard:=none},
 {dst:=some 57,op:=Op.nilCheck (Operand.tmp 56),type:=0,pos := "pvt.go:35",after:=#[{on:=51,ground:=Ground.data}],guard:=none},
 {dst:=some 58,op:=Op.fieldAddr 26 (Operand.tmp 57) 17,type:=0,pos := "pvt.go:35",after:=#[{on:=52,ground:=Ground.data}],guard:=none},
 {dst:=some 59,op:=Op.move (Operand.tmp 0),type:=403,pos := "pvt.go:35",after:=#[],guard:=none},
 {dst:=some 60,op:=Op.nilCheck (Operand.tmp 59),type:=0,pos := "pvt.go:35",after:=#[{on:=54,ground:=Ground.data}],guard:=none},
 {dst:=some 61,op:=Op.fieldAddr 26 (Operand.tmp 60) 18,type:=0,pos := "pvt.go:35",after:=#[{on:=55,ground:=Ground.data}],guard:=none},
 {dst:=some 62,op:=Op.move (Operand.tmp 0),type:=403,pos := "pvt.go:35",after:=#[],guard:=none},
 {dst:=some 63,op:=Op.nilCheck (Operand.tmp 62),type:=0,pos := "pvt.go:35",after:=#[{on:=57,ground:=Ground.data}],guard:=none},
 {dst:=some 64,op:=Op.fieldAddr 26 (Operand.tmp 63) 19,type:=0,pos := "pvt.go:35",after:=#[{on:=58,ground:=Ground.data}],guard:=none},
 {dst:=some 65,op:=Op.move (Operand.tmp 0),type:=403,pos := "pvt.go:35",after:=#[],guard:=none},
 {dst:=some 66,op:=Op.nilCheck (Operand.tmp 65),type:=0,pos := "pvt.go:35",after:=#[{on:=60,ground:=Ground.data}],guard:=none},
 {dst:=some 67,op:=Op.fieldAddr 26 (Operand.tmp 66) 20,type:=0,pos := "pvt.go:35",after:=#[{on:=61,ground:=Ground.data}],guard:=none},
 {dst:=some 68,op:=Op.move (Operand.tmp 0),type:=403,pos := "pvt.go:35",after:=#[],guard:=none},
 {dst:=some 69,op:=Op.nilCheck (Operand.tmp 68),type:=0,pos := "pvt.go:35",after:=#[{on:=63,ground:=Ground.data}],guard:=none},
 {dst:=some 70,op:=Op.fieldAddr 26 (Operand.tmp 69) 21,type:=0,pos := "pvt.go:35",after:=#[{on:=64,ground:=Ground.data}],guard:=none},
 {dst:=some 71,op:=Op.move (Operand.tmp 0),type:=403,pos := "pvt.go:35",after:=#[],guard:=none},
 {dst:=some 72,op:=Op.nilCheck (Operand.tmp 71),type:=0,pos := "pvt.go:35",after:=#[{on:=66,ground:=Ground.data}],guard:=none},
 {dst:=some 73,op:=Op.fieldAddr 26 (Operand.tmp 72) 22,type:=0,pos := "pvt.go:35",after:=#[{on:=67,ground:=Ground.data}],guard:=none},
 {dst:=some 74,op:=Op.move (Operand.tmp 0),type:=403,pos := "pvt.go:35",after:=#[],guard:=none},
 {dst:=some 75,op:=Op.nilCheck (Operand.tmp 74),type:=0,pos := "pvt.go:35",after:=#[{on:=69,ground:=Ground.data}],guard:=none},
 {dst:=some 76,op:=Op.fieldAddr 26 (Operand.tmp 75) 23,type:=0,pos := "pvt.go:35",after:=#[{on:=70,ground:=Ground.data}],guard:=none},
 {dst:=some 77,op:=Op.move (Operand.tmp 0),type:=403,pos := "pvt.go:35",after:=#[],guard:=none},
 {dst:=some 78,op:=Op.nilCheck (Operand.tmp 77),type:=0,pos := "pvt.go:35",after:=#[{on:=72,ground:=Ground.data}],guard:=none},
 {dst:=some 79,op:=Op.fieldAddr 26 (Operand.tmp 78) 24,type:=0,pos := "pvt.go:35",after:=#[{on:=73,ground:=Ground.data}],guard:=none},
 {dst:=some 80,op:=Op.move (Operand.tmp 0),type:=403,pos := "pvt.go:35",after:=#[],guard:=none},
 {dst:=some 81,op:=Op.nilCheck (Operand.tmp 80),type:=0,pos := "pvt.go:35",after:=#[{on:=75,ground:=Ground.data}],guard:=none},
 {dst:=some 82,op:=Op.fieldAddr 26 (Operand.tmp 81) 25,type:=0,pos := "pvt.go:35",after:=#[{on:=76,ground:=Ground.data}],guard:=none},
 {dst:=some 83,op:=Op.move (Operand.tmp 0),type:=403,pos := "pvt.go:35",after:=#[],guard:=none},
 {dst:=some 84,op:=Op.nilCheck (Operand.tmp 83),type:=0,pos := "pvt.go:35",after:=#[{on:=78,ground:=Ground.data}],guard:=none},
 {dst:=some 85,op:=Op.fieldAddr 26 (Operand.tmp 84) 26,type:=0,pos := "pvt.go:35",after:=#[{on:=79,ground:=Ground.data}],guard:=none},
 {dst:=some 86,op:=Op.move (Operand.tmp 0),type:=403,pos := "pvt.go:35",after:=#[],guard:=none},
 {dst:=some 87,op:=Op.nilCheck (Operand.tmp 86),type:=0,pos := "pvt.go:35",after:=#[{on:=81,ground:=Ground.data}],guard:=none},
 {dst:=some 88,op:=Op.fieldAddr 26 (Operand.tmp 87) 27,type:=0,pos := "pvt.go:35",after:=#[{on:=82,ground:=Ground.data}],guard:=none},
 {dst:=some 89,op:=Op.move (Operand.tmp 0),type:=403,pos := "pvt.go:35",after:=#[],guard:=none},
 {dst:=some 90,op:=Op.nilCheck (Operand.tmp 89),type:=0,pos := "pvt.go:35",after:=#[{on:=84,ground:=Ground.data}],guard:=none},
 {dst:=some 91,op:=Op.fieldAddr 26 (Operand.tmp 90) 28,type:=0,pos := "pvt.go:35",after:=#[{on:=85,ground:=Ground.data}],guard:=none},
 {dst:=some 92,op:=Op.move (Operand.tmp 1),type:=404,pos := "pvt.go:35",after:=#[],guard:=none},
 {dst:=some 93,op:=Op.move (Operand.tmp 0),type:=403,pos := "pvt.go:35",after:=#[],guard:=none},
 {dst:=some 94,op:=Op.nilCheck (Operand.tmp 93),type:=0,pos := "pvt.go:35",after:=#[{on:=88,ground:=Ground.data}],guard:=none},
 {dst:=some 95,op:=Op.fieldAddr 26 (Operand.tmp 94) 29,type:=0,pos := "pvt.go:35",after:=#[{on:=89,ground:=Ground.data}],guard:=none},
 {dst:=some 96,op:=Op.move (Operand.tmp 0),type:=403,pos := "pvt.go:35",after:=#[],guard:=none},
 {dst:=some 97,op:=Op.nilCheck (Operand.tmp 96),type:=0,pos := "pvt.go:35",after:=#[{on:=91,ground:=Ground.data}],guard:=none},
 {dst:=some 98,op:=Op.fieldAddr 26 (Operand.tmp 97) 30,type:=0,pos := "pvt.go:35",after:=#[{on:=92,ground:=Ground.data}],guard:=none},
 {dst:=some 99,op:=Op.move (Operand.tmp 0),type:=403,pos := "pvt.go:35",after:=#[],guard:=none},
 {dst:=some 100,op:=Op.nilCheck (Operand.tmp 99),type:=0,pos := "pvt.go:35",after:=#[{on:=94,ground:=Ground.data}],guard:=none},
 {dst:=some 101,op:=Op.fieldAddr 26 (Operand.tmp 100) 31,type:=0,pos := "pvt.go:35",after:=#[{on:=95,ground:=Ground.data}],guard:=none},
 {dst:=some 102,op:=Op.buildSlice 401 33 #[(0,Operand.tmp 7),(1,Operand.tmp 10),(2,Operand.tmp 13),(3,Operand.tmp 16),(4,Operand.tmp 19),(5,Operand.tmp 22),(6,Operand.tmp 25),(7,Operand.tmp 28),(8,Operand.tmp 31),(9,Operand.tmp 34),(10,Operand.tmp 37),(11,Operand.tmp 40),(12,Operand.tmp 43),(13,Operand.tmp 46),(14,Operand.tmp 49),(15,Operand.tmp 52),(16,Operand.tmp 55),(17,Operand.tmp 58),(18,Operand.tmp 61),(19,Operand.tmp 64),(20,Operand.tmp 67),(21,Operand.tmp 70),(22,Operand.tmp 73),(23,Operand.tmp 76),(24,Operand.tmp 79),(25,Operand.tmp 82),(26,Operand.tmp 85),(27,Operand.tmp 88),(28,Operand.tmp 91),(29,Operand.tmp 92),(30,Operand.tmp 95),(31,Operand.tmp 98),(32,Operand.tmp 101)],type:=401,pos := "pvt.go:35",after:=#[{on:=2,ground:=Ground.data},{on:=5,ground:=Ground.data},{on:=8,ground:=Ground.data},{on:=11,ground:=Ground.data},{on:=14,ground:=Ground.data},{on:=17,ground:=Ground.data},{on:=20,ground:=Ground.data},{on:=23,ground:=Ground.data},{on:=26,ground:=Ground.data},{on:=29,ground:=Ground.data},{on:=32,ground:=Ground.data},{on:=35,ground:=Ground.data},{on:=38,ground:=Ground.data},{on:=41,ground:=Ground.data},{on:=44,ground:=Ground.data},{on:=47,ground:=Ground.data},{on:=50,ground:=Ground.data},{on:=53,ground:=Ground.data},{on:=56,ground:=Ground.data},{on:=59,ground:=Ground.data},{on:=62,ground:=Ground.data},{on:=65,ground:=Ground.data},{on:=68,ground:=Ground.data},{on:=71,ground:=Ground.data},{on:=74,ground:=Ground.data},{on:=77,ground:=Ground.data},{on:=80,ground:=Ground.data},{on:=83,ground:=Ground.data},{on:=86,ground:=Ground.data},{on:=87,ground:=Ground.data},{on:=90,ground:=Ground.data},{on:=93,ground:=Ground.data},{on:=96,ground:=Ground.data}],guard:=none},
 {dst:=some 4,op:=Op.assign (Operand.tmp 102),type:=401,pos := "pvt.go:35",after:=#[{on:=97,ground:=Ground.data},{on:=0,ground:=Ground.phase},{on:=1,ground:=Ground.phase},{on:=2,ground:=Ground.phase},{on:=3,ground:=Ground.phase},{on:=4,ground:=Ground.phase},{on:=5,ground:=Ground.phase},{on:=6,ground:=Ground.phase},{on:=7,ground:=Ground.phase},{on:=8,ground:=Ground.phase},{on:=9,ground:=Ground.phase},{on:=10,ground:=Ground.phase},{on:=11,ground:=Ground.phase},{on:=12,ground:=Ground.phase},{on:=13,ground:=Ground.phase},{on:=14,ground:=Ground.phase},{on:=15,ground:=Ground.phase},{on:=16,ground:=Ground.phase},{on:=17,ground:=Ground.phase},{on:=18,ground:=Ground.phase},{on:=19,ground:=Ground.phase},{on:=20,ground:=Ground.phase},{on:=21,ground:=Ground.phase},{on:=22,ground:=Ground.phase},{on:=23,ground:=Ground.phase},{on:=24,ground:=Ground.phase},{on:=25,ground:=Ground.phase},{on:=26,ground:=Ground.phase},{on:=27,ground:=Ground.phase},{on:=28,ground:=Ground.phase},{on:=29,ground:=Ground.phase},{on:=30,ground:=Ground.phase},{on:=31,ground:=Ground.phase},{on:=32,ground:=Ground.phase},{on:=33,ground:=Ground.phase},{on:=34,ground:=Ground.phase},{on:=35,ground:=Ground.phase},{on:=36,ground:=Ground.phase},{on:=37,ground:=Ground.phase},{on:=38,ground:=Ground.phase},{on:=39,ground:=Ground.phase},{on:=40,ground:=Ground.phase},{on:=41,ground:=Ground.phase},{on:=42,ground:=Ground.phase},{on:=43,ground:=Ground.phase},{on:=44,ground:=Ground.phase},{on:=45,ground:=Ground.phase},{on:=46,ground:=Ground.phase},{on:=47,ground:=Ground.phase},{on:=48,ground:=Ground.phase},{on:=49,ground:=Ground.phase},{on:=50,ground:=Ground.phase},{on:=51,ground:=Ground.phase},{on:=52,ground:=Ground.phase},{on:=53,ground:=Ground.phase},{on:=54,ground:=Ground.phase},{on:=55,ground:=Ground.phase},{on:=56,ground:=Ground.phase},{on:=57,ground:=Ground.phase},{on:=58,ground:=Ground.phase},{on:=59,ground:=Ground.phase},{on:=60,ground:=Ground.phase},{on:=61,ground:=Ground.phase},{on:=62,ground:=Ground.phase},{on:=63,ground:=Ground.phase},{on:=64,ground:=Ground.phase},{on:=65,ground:=Ground.phase},{on:=66,ground:=Ground.phase},{on:=67,ground:=Ground.phase},{on:=68,ground:=Ground.phase},{on:=69,ground:=Ground.phase},{on:=70,ground:=Ground.phase},{on:=71,ground:=Ground.phase},{on:=72,ground:=Ground.phase},{on:=73,ground:=Ground.phase},{on:=74,ground:=Ground.phase},{on:=75,ground:=Ground.phase},{on:=76,ground:=Ground.phase},{on:=77,ground:=Ground.phase},{on:=78,ground:=Ground.phase},{on:=79,ground:=Ground.phase},{on:=80,ground:=Ground.phase},{on:=81,ground:=Ground.phase},{on:=82,ground:=Ground.phase},{on:=83,ground:=Ground.phase},{on:=84,ground:=Ground.phase},{on:=85,ground:=Ground.phase},{on:=86,ground:=Ground.phase},{on:=87,ground:=Ground.phase},{on:=88,ground:=Ground.phase},{on:=89,ground:=Ground.phase},{on:=90,ground:=Ground.phase},{on:=91,ground:=Ground.phase},{on:=92,ground:=Ground.phase},{on:=93,ground:=Ground.phase},{on:=94,ground:=Ground.phase},{on:=95,ground:=Ground.phase},{on:=96,ground:=Ground.phase},{on:=97,ground:=Ground.phase}],guard:=none}]
def pl0:Array Bool:=Array.replicate 99 false
theorem blx:kw .any plL.toArray 8 0 (qh 0 0 pl0)=true:=by kernel_rfl
theorem bly:kw .any plL.toArray 8 8 (qh 8 0 pl0)=true:=by kernel_rfl
theorem biv:kw .any plL.toArray 8 16 (qh 16 0 pl0)=true:=by kernel_rfl
theorem biw:kw .any plL.toArray 8 24 (qh 24 0 pl0)=true:=by kernel_rfl
theorem bix:kw .any plL.toArray 8 32 (qh 32 0 pl0)=true:=by kernel_rfl
theorem biy:kw .any plL.toArray 8 40 (qh 40 0 pl0)=true:=by kernel_rfl
theorem biz:kw .any plL.toArray 8 48 (qh 48 0 pl0)=true:=by kernel_rfl
theorem bi0:kw .any plL.toArray 8 56 (qh 56 0 pl0)=true:=by kernel_rfl
theorem bi1:kw .any plL.toArray 8 64 (qh 64 0 pl0)=true:=by kernel_rfl
theorem bi2:kw .any plL.toArray 8 72 (qh 72 0 pl0)=true:=by kernel_rfl
theorem bi3:kw .any plL.toArray 8 80 (qh 80 0 pl0)=true:=by kernel_rfl
theorem bi4:kw .any plL.toArray 8 88 (qh 88 0 pl0)=true:=by kernel_rfl
theorem bi5:kw .any plL.toArray 1 96 (qh 96 0 pl0)=true:=by kernel_rfl
theorem blv:([0,1,2,3,4,5,6,7].all fun i=>(List.range 98).any fun j=>decide (i<j) && Region.waitsFor .any plL.toArray j i)=true:=by kernel_rfl
theorem blw:([8,9,10,11,12,13,14,15].all fun i=>(List.range 98).any fun j=>decide (i<j) && Region.waitsFor .any plL.toArray j i)=true:=by kernel_rfl
theorem bik:([16,17,18,19,20,21,22,23].all fun i=>(List.range 98).any fun j=>decide (i<j) && Region.waitsFor .any plL.toArray j i)=true:=by kernel_rfl
theorem bil:([24,25,26,27,28,29,30,31].all fun i=>(List.range 98).any fun j=>decide (i<j) && Region.waitsFor .any plL.toArray j i)=true:=by kernel_rfl
theorem bim:([32,33,34,35,36,37,38,39].all fun i=>(List.range 98).any fun j=>decide (i<j) && Region.waitsFor .any plL.toArray j i)=true:=by kernel_rfl
theorem bin:([40,41,42,43,44,45,46,47].all fun i=>(List.range 98).any fun j=>decide (i<j) && Region.waitsFor .any plL.toArray j i)=true:=by kernel_rfl
theorem bio:([48,49,50,51,52,53,54,55].all fun i=>(List.range 98).any fun j=>decide (i<j) && Region.waitsFor .any plL.toArray j i)=true:=by kernel_rfl
theorem bip:([56,57,58,59,60,61,62,63].all fun i=>(List.range 98).any fun j=>decide (i<j) && Region.waitsFor .any plL.toArray j i)=true:=by kernel_rfl
theorem biq:([64,65,66,67,68,69,70,71].all fun i=>(List.range 98).any fun j=>decide (i<j) && Region.waitsFor .any plL.toArray j i)=true:=by kernel_rfl
theorem bir:([72,73,74,75,76,77,78,79].all fun i=>(List.range 98).any fun j=>decide (i<j) && Region.waitsFor .any plL.toArray j i)=true:=by kernel_rfl
theorem bis:([80,81,82,83,84,85,86,87].all fun i=>(List.range 98).any fun j=>decide (i<j) && Region.waitsFor .any plL.toArray j i)=true:=by kernel_rfl
theorem bit:([88,89,90,91,92,93,94,95].all fun i=>(List.range 98).any fun j=>decide (i<j) && Region.waitsFor .any plL.toArray j i)=true:=by kernel_rfl
theorem biu:([96].all fun i=>(List.range 98).any fun j=>decide (i<j) && Region.waitsFor .any plL.toArray j i)=true:=by kernel_rfl
theorem blu:Region.seqB .any plL.toArray 2 97 (qh 97 0 pl0)=true:=by kernel_rfl
theorem bfk:Region.chainB .any plL.toArray 97=true:=by kernel_rfl
theorem blt:Region.noSelect plL.toArray=true:=by kernel_rfl
theorem bii:Region.sinkB .any plL.toArray 97=true:=by
 unfold Region.sinkB;rw[show List.range 97=[0,1,2,3,4,5,6,7]++[8,9,10,11,12,13,14,15]++[16,17,18,19,20,21,22,23]++[24,25,26,27,28,29,30,31]++[32,33,34,35,36,37,38,39]++[40,41,42,43,44,45,46,47]++[48,49,50,51,52,53,54,55]++[56,57,58,59,60,61,62,63]++[64,65,66,67,68,69,70,71]++[72,73,74,75,76,77,78,79]++[80,81,82,83,84,85,86,87]++[88,89,90,91,92,93,94,95]++[96]from by decide +kernel];simp only[List.all_append,b0d];exact⟨⟨⟨⟨⟨⟨⟨⟨⟨⟨⟨⟨blv,blw⟩,bik⟩,bil⟩,bim⟩,bin⟩,bio⟩,bip⟩,biq⟩,bir⟩,bis⟩,bit⟩,biu⟩
theorem bls:Region.lexHead .any plL.toArray 2 0 97 (qh 97 0 pl0)=true:=blu
theorem blr:Region.lexHead .any plL.toArray 2 1 96 (qh 96 0 pl0)=true:=by
 have:=xp .any plL.toArray 2 1 0 96 (qh 96 0 pl0) bi5;rw[show (qh 1 96 (qh 96 0 pl0))=qh 97 0 pl0 from by have e:=xq 96 1 0 pl0;rw[b0e]at e;exact e]at this;exact this bls
theorem blq:Region.lexHead .any plL.toArray 2 9 88 (qh 88 0 pl0)=true:=by
 have:=xp .any plL.toArray 2 8 1 88 (qh 88 0 pl0) bi4;rw[show (qh 8 88 (qh 88 0 pl0))=qh 96 0 pl0 from by have e:=xq 88 8 0 pl0;rw[b0e]at e;exact e]at this;exact this blr
theorem blp:Region.lexHead .any plL.toArray 2 17 80 (qh 80 0 pl0)=true:=by
 have:=xp .any plL.toArray 2 8 9 80 (qh 80 0 pl0) bi3;rw[show (qh 8 80 (qh 80 0 pl0))=qh 88 0 pl0 from by have e:=xq 80 8 0 pl0;rw[b0e]at e;exact e]at this;exact this blq
theorem blo:Region.lexHead .any plL.toArray 2 25 72 (qh 72 0 pl0)=true:=by
 have:=xp .any plL.toArray 2 8 17 72 (qh 72 0 pl0) bi2;rw[show (qh 8 72 (qh 72 0 pl0))=qh 80 0 pl0 from by have e:=xq 72 8 0 pl0;rw[b0e]at e;exact e]at this;exact this blp
theorem bln:Region.lexHead .any plL.toArray 2 33 64 (qh 64 0 pl0)=true:=by
 have:=xp .any plL.toArray 2 8 25 64 (qh 64 0 pl0) bi1;rw[show (qh 8 64 (qh 64 0 pl0))=qh 72 0 pl0 from by have e:=xq 64 8 0 pl0;rw[b0e]at e;exact e]at this;exact this blo
theorem blm:Region.lexHead .any plL.toArray 2 41 56 (qh 56 0 pl0)=true:=by
 have:=xp .any plL.toArray 2 8 33 56 (qh 56 0 pl0) bi0;rw[show (qh 8 56 (qh 56 0 pl0))=qh 64 0 pl0 from by have e:=xq 56 8 0 pl0;rw[b0e]at e;exact e]at this;exact this bln
theorem bll:Region.lexHead .any plL.toArray 2 49 48 (qh 48 0 pl0)=true:=by
 have:=xp .any plL.toArray 2 8 41 48 (qh 48 0 pl0) biz;rw[show (qh 8 48 (qh 48 0 pl0))=qh 56 0 pl0 from by have e:=xq 48 8 0 pl0;rw[b0e]at e;exact e]at this;exact this blm
theorem blj:Region.lexHead .any plL.toArray 2 57 40 (qh 40 0 pl0)=true:=by
 have:=xp .any plL.toArray 2 8 49 40 (qh 40 0 pl0) biy;rw[show (qh 8 40 (qh 40 0 pl0))=qh 48 0 pl0 from by have e:=xq 40 8 0 pl0;rw[b0e]at e;exact e]at this;exact this bll
theorem bli:Region.lexHead .any plL.toArray 2 65 32 (qh 32 0 pl0)=true:=by
 have:=xp .any plL.toArray 2 8 57 32 (qh 32 0 pl0) bix;rw[show (qh 8 32 (qh 32 0 pl0))=qh 40 0 pl0 from by have e:=xq 32 8 0 pl0;rw[b0e]at e;exact e]at this;exact this blj
theorem blh:Region.lexHead .any plL.toArray 2 73 24 (qh 24 0 pl0)=true:=by
 have:=xp .any plL.toArray 2 8 65 24 (qh 24 0 pl0) biw;rw[show (qh 8 24 (qh 24 0 pl0))=qh 32 0 pl0 from by have e:=xq 24 8 0 pl0;rw[b0e]at e;exact e]at this;exact this bli
theorem blg:Region.lexHead .any plL.toArray 2 81 16 (qh 16 0 pl0)=true:=by
 have:=xp .any plL.toArray 2 8 73 16 (qh 16 0 pl0) biv;rw[show (qh 8 16 (qh 16 0 pl0))=qh 24 0 pl0 from by have e:=xq 16 8 0 pl0;rw[b0e]at e;exact e]at this;exact this blh
theorem bm8:Region.lexHead .any plL.toArray 2 89 8 (qh 8 0 pl0)=true:=by
 have:=xp .any plL.toArray 2 8 81 8 (qh 8 0 pl0) bly;rw[show (qh 8 8 (qh 8 0 pl0))=qh 16 0 pl0 from by have e:=xq 8 8 0 pl0;rw[b0e]at e;exact e]at this;exact this blg
theorem bm7:Region.lexHead .any plL.toArray 2 97 0 (qh 0 0 pl0)=true:=by
 have:=xp .any plL.toArray 2 8 89 0 (qh 0 0 pl0) blx;rw[show (qh 8 0 (qh 0 0 pl0))=qh 8 0 pl0 from by have e:=xq 0 8 0 pl0;rw[b0e]at e;exact e]at this;exact this bm8
def ahn (j:Nat):Nat:=if j<29 then j else j+1
def ae6 (v:List Int) (k:Nat):List Value:=(List.range 32).map fun j=>Value.int .i64 (if ahn j<k then v.getD (ahn j) 0 else 0)
def aiy (v:List Int) (k:Nat):List Value:=[Value.int .i64 (if 29<k then v.getD 29 0 else 0)]
theorem aqk (v:List Int) (k:Nat):(ae6 v k).length=32:=by simp[ae6]
def av3 (p n i:Nat):Addr:=if i<29 then⟨p,i,none⟩else if i=29 then⟨n,0,none⟩else⟨p,i-1,none⟩
def av4 (p n:Nat):List Value:=(List.range 33).map fun i=>Value.pointer (some (av3 p n i))
theorem bfs (v:List Int) (k o:Nat) (ho:o<32) (hk:ahn o=k):ae6 v (k+1)=(ae6 v k).set o (.int .i64 (v.getD k 0)):=by
 apply b2r;intro j;rw[List.getElem?_set]
 by_cases hj:o=j
 ·subst hj;rw[if_pos rfl,if_pos (by rw[aqk];exact ho)];unfold ae6;rw[b0m,b3o ho];simp[hk]
 ·rw[if_neg hj];unfold ae6;rw[b0m,b0m];rcases b01 j 32 with q|q
  ·rw[b3o q]
   have hne:ahn j≠k:=fun e=>hj (by
    rw[← hk]at e;unfold ahn at e
    split at e<;>split at e<;>omega)
   simp only[b3t]
   congr 3
   have:(ahn j<k+1)=(ahn j<k):=by apply propext;omega
   simp only[this]
  ·rw[t9 (by simpa using q)];rfl
theorem bav (v:List Int) (h:∀j,j<32→ahn j≠29):ae6 v 30=ae6 v 29:=by
 unfold ae6;apply List.map_congr_left;intro j hj;have hj':j<32:=by simpa using hj
 have:=h j hj'
 congr 1
 have e:(ahn j<30)=(ahn j<29):=by apply propext;omega
 simp only[e]
theorem baw (v:List Int):ae6 v 0=qr (List.replicate 32 0):=by
 unfold ae6;simp only[b0v,b4z];rfl
theorem bfr (v:List Int) (hl:v.length=33):ae6 v 33=qr (v.eraseIdx 29):=by
 apply b2r;intro j;unfold ae6 qr;rw[b0m,b0m];rcases b01 j 32 with q|q
 ·rw[b3o q,List.getElem?_eraseIdx];have h33:ahn j<33:=by unfold ahn;split<;>omega
  simp only[b3t,if_pos h33];unfold ahn
  split
  ·rw[l9,c8 om];rfl
  ·rw[l9,c8 om];rfl
 ·rw[t9 (by simpa using q),t9 (by rw[b4a,hl];simpa using q)];rfl
theorem bij:plL.toArray.size=99:=by kernel_rfl
theorem bfl:Region.lexTailB .any plL.toArray 97=true:=by
 unfold Region.lexTailB;rw[blt,bii,bfk,bij];have h:Region.lexHead .any plL.toArray 2 97 0 (Array.replicate 99 false)=true:=bm7;rw[show 99-97=2 from rfl,h];rfl
set_option maxRecDepth 100000 in
theorem asb (p n:Nat) (w:World):Calls prog 262 #[.pointer (some ⟨p,0,none⟩),.pointer (some ⟨n,0,none⟩)] w fun e w'=>e=.returned (.slice (some ⟨w.1.size,0,none⟩) 33 33)∧Blk w' w.1.size (av4 p n)∧Below w.1.size w w':=by
 go_enter func262,ntmps262;go_wp2_with fail
 repeat rw[List.append_eq]
 simp only[b02,b03];refine wp_region_still_tail (l:=plL) 97 kr bfl ?_;unfold plL;simp only[b28,b10,b4g,b17]
 repeat still_step
 refine wpStill_nil ?_;change wpList _ _ _ _ _ w.drew;have hb:Below w.1.size w w.drew:=(n6 _ _).drew;have hz:w.drew.1.size=w.1.size:=rfl;have HBZ:=hid (o4 hb hz);clear hb hz;generalize w.drew=w2 at *;go_wp2_with fail;go_ret;have hz:=HBZ.out.2;refine⟨by rw[← hz];rfl,?_,HBZ.out.1.trans ((qa w2 _).mono (b35 hz.symm))⟩;rw[← hz];exact Blk.newL (qg w2 _ _) rfl
theorem a5n {w:World} {k b o bx ab ao c:Nat} {x y:Value} (h1:w.cell? ⟨bx,0,none⟩=some (.slice (some ⟨ab,ao,none⟩) 33 c)) (hk:k<33) (h2:w.cell? ⟨ab,ao+k,none⟩=some x) (h3:w.cell? ⟨b,o,none⟩=some y) (h4:w.frozen? ⟨b,o,none⟩=false) (hx:∃n,x=.int .i64 n) :
 Calls prog 264 #[.int .i64 k,.pointer (some ⟨b,o,none⟩),.pointer (some ⟨bx,0,none⟩)] w fun e w'=>e=.returned (.tuple #[])∧w'=w.setCell ⟨b,o,none⟩ x:=by
 obtain⟨n,rfl⟩:=hx;have i1:(k:Int)<33:=by omega
 have i2:(0:Int) ≤(k:Int):=n8 _;go_enter func264,ntmps264;go_wp2_with fail;exact b4n (v:=.tuple #[]) (by simp[results,results264,go_sem]) rfl ⟨rfl,rfl⟩
theorem a0p {w:World} {p n g bx ab ao c:Nat} {v:List Int} (hv:v.length=33) (hg:Blk w g (av4 p n)) (hx:w.cell? ⟨bx,0,none⟩=some (.slice (some ⟨ab,ao,none⟩) 33 c)) (hf:qf (fun b=>b≠p∧b≠n) w (some ⟨ab,ao,none⟩) (qr v)) (hp:Blk w p (ae6 v 0)) (hn:Blk w n (aiy v 0)) (hd:p≠n∧g≠p∧g≠n∧bx≠p∧bx≠n) :
 Calls prog 263 #[.func (.func 264) #[] #[.pointer (some ⟨bx,0,none⟩)],.slice (some ⟨g,0,none⟩) 33 33] w fun e w'=>e=.returned (.tuple #[])∧Blk w' p (ae6 v 33)∧Blk w' n (aiy v 33)∧qj (fun k=>k≠p∧k≠n) w w':=by
 have HG:=hid hg;have HX:=hid hx;have HF:=hid hf;have HP:=hid hp;have HN:=hid hn;have HD:=hid hd;have HV:=hid hv;clear hg hx hf hp hn hd hv;go_enter func263,ntmps263;go_wp2_with fail
 go_loopg [8] 33 (fun h s8 wr=>∃k:Nat,k≤33∧33-k≤h∧s8=.int .i64 k∧Hid (Blk wr p (ae6 v k))∧Hid (Blk wr n (aiy v k))∧Hid (qj (fun k=>k≠p∧k≠n) w wr))
 case atStart=>exact⟨0,by omega,by omega,rfl,HP,HN,qj.refl _ _⟩
 case round=>
  obtain⟨k,hk,hg,rfl,HPK,HNK,HS⟩:=hrel
  by_cases hlt:k<33
  ·have i1:(k:Int)<33:=by omega
   have i2:(0:Int) ≤(k:Int):=n8 _;have hkv:k<v.length:=by rw[HV.out];exact hlt
   obtain⟨b',o',e1,hq,hc⟩:=HF.out k (.int .i64 v[k]) (by unfold qr;rw[b0m,c8 hkv];rfl);injection e1 with e1;injection e1 with e1 e2;subst e1 e2
   have hc':=(HS.out.cell (o:=ao+k) hq).trans hc;have hx':=(HS.out.cell (o:=0) ⟨HD.out.2.2.2.1,HD.out.2.2.2.2⟩).trans HX.out;have hpl:wr.cell? ⟨g,k,none⟩=some (.pointer (some (av3 p n k))):=(HS.out.cell ⟨HD.out.2.1,HD.out.2.2.1⟩).trans (HG.out.cell k (by unfold av4;rw[b0m,b3o hlt];rfl))
   obtain⟨pb,po,hpa,y,hy,hz,hput⟩:∃pb po,av3 p n k=⟨pb,po,none⟩∧∃y,wr.cell? ⟨pb,po,none⟩=some y∧wr.frozen? ⟨pb,po,none⟩=false∧Hid (Blk (wr.setCell ⟨pb,po,none⟩ (.int .i64 v[k])) p (ae6 v (k+1))∧Blk (wr.setCell ⟨pb,po,none⟩ (.int .i64 v[k])) n (aiy v (k+1))∧qj (fun k=>k≠p∧k≠n) w (wr.setCell ⟨pb,po,none⟩ (.int .i64 v[k]))):=by
    have hvk:v.getD k 0=v[k]:=by rw[l9,c8 hkv];rfl
    have hat:∀o,o<32→ahn o=k→k≠29→∃y,wr.cell? ⟨p,o,none⟩=some y∧wr.frozen? ⟨p,o,none⟩=false∧Hid (Blk (wr.setCell ⟨p,o,none⟩ (.int .i64 v[k])) p (ae6 v (k+1))∧Blk (wr.setCell ⟨p,o,none⟩ (.int .i64 v[k])) n (aiy v (k+1))∧qj (fun k=>k≠p∧k≠n) w (wr.setCell ⟨p,o,none⟩ (.int .i64 v[k]))):=fun o ho hpo hk29=>by
     refine⟨_,HPK.out.cell o (c8 (by rw[aqk];exact ho)),HPK.out.fz o,?_⟩;obtain⟨q1,q2⟩:=HPK.out.set (by rw[aqk];exact ho) (.int .i64 v[k]);refine hid ⟨?_,?_,HS.out.stored q2 (fun q=>q.1 rfl)⟩
     ·rw[bfs v k o ho hpo,hvk];exact q1
     ·have e:aiy v (k+1)=aiy v k:=by
       unfold aiy;have:(29<k+1)=(29<k):=by apply propext;omega
       simp only[this]
      rw[e];exact HNK.out.far q2 (fun q=>HD.out.1 q.symm)
    unfold av3
    by_cases h1:k<29
    ·rw[if_pos h1];exact⟨p,k,rfl,hat k om (by unfold ahn;rw[if_pos h1]) om⟩
    ·by_cases h2:k=29
     ·rw[if_neg h1,if_pos h2];refine⟨n,0,rfl,_,HNK.out.cell 0 rfl,HNK.out.fz 0,?_⟩;obtain⟨q1,q2⟩:=HNK.out.set (o:=0) (by simp[aiy]) (.int .i64 v[k]);refine hid ⟨?_,?_,HS.out.stored q2 (fun q=>q.2 rfl)⟩
      ·have e:ae6 v (k+1)=ae6 v k:=by
        rw[h2];exact bav v (fun j hj=>by unfold ahn;split<;>omega)
       rw[e];exact HPK.out.far q2 HD.out.1
      ·have e:aiy v (k+1)=(aiy v k).set 0 (.int .i64 v[k]):=by
        unfold aiy;rw[if_pos om,b3v]
        congr 2
        rw[← hvk,h2]
       rw[e];exact q1
     ·rw[if_neg h1,if_neg h2];exact⟨p,k-1,rfl,hat (k-1) om (by unfold ahn;rw[if_neg om];omega) h2⟩
   rw[hpa]at hpl;have HO:=hid (a5n hx' hlt hc' hy hz ⟨_,rfl⟩);clear hc hx' hc' hy hz hpa hq;generalize v[k]=x at *;go_wp2_with (refine HO.out.mono ?_;rintro e w' ⟨rfl,rfl⟩)
   go_roundg (33-(k+1))
   case measure=>omega
   case rel=>exact⟨k+1,by omega,by omega,by go_num,hput.out.1,hput.out.2.1,hput.out.2.2⟩
  ·obtain rfl:k=33:=by omega
   go_wp2_with fail;exact b4n (v:=.tuple #[]) (by simp[results,results263,go_sem]) rfl ⟨rfl,HPK.out,HNK.out,HS.out⟩
def kx:List Value:=qr (List.replicate 32 0)
theorem bkp (w:World):(zeroValue 26).run prog w=.ok (.agg kx.toArray) w:=by kernel_rfl
theorem bl0 (w:World):(Instr.build 26 #[]).run prog w=.ok (.agg kx.toArray) w:=by kernel_rfl
theorem aid (v:List Int):(qr v).toArray.all (·.oneCell')=true:=vm (fun x hx=>by
 have:x∈qr v:=by simpa using hx
 obtain⟨n,-,rfl⟩:=b2c.1 this;rfl)
theorem ak7 {v:List Int} (h:v.length=32):(prog.info? 26).map (·.size)=some (qr v).toArray.size:=by
 rw[o6,jm,h];kernel_rfl
theorem aql {W:World} {b:Nat} {v:List Int} (h:Blk W b (qr v)) (hl:v.length=32):(loadVar 26 ⟨b,0,none⟩).run prog W=.ok (.agg (qr v).toArray) W:=
 t6 (P:=prog) W b 0 26 (qr v) _ h.rg underlying26 sm (by rw[jm,hl];kernel_rfl)
theorem bau {Q:Nat→Prop} {w:World} (A:Option Addr) (c:Nat) (v:List Int) (hf:qf Q w A (qr v)) (hl:v.length=33) (h0:v.getD 29 0=0) :
 Calls prog 259 #[.slice A 33 c] w fun e w'=>e=.returned (.tuple #[.agg (qr (v.eraseIdx 29)).toArray,.bool true])∧Below w.1.size w w':=by
 obtain⟨ab,ao,rfl,-,hab,-⟩:=afe hf om;have HFL:=hid (hf.lt.less fun b q=>q.2);have HZ:=fun W=>hid (bkp W)
 have HH:=hid (o4 hl h0);have HAB:=hid hab;clear hf hl h0 hab;go_enter func259,ntmps259;go_upto_region 1 with(refine qc rfl 26 rfl kx.toArray (HZ _).out ?_;intro W1 hW1;have HG1:=hid hW1;clear hW1)
 have hsz:(w.alloc (.cells #[.slice (some ⟨ab,ao,none⟩) 33 c] 49)).1.size=w.1.size+1:=by simp
 have HX1:Hid (Blk W1 w.1.size [.slice (some ⟨ab,ao,none⟩) 33 c]):=hid ((Blk.newL (qg w _ _) rfl).on HG1.out.bel);have HR1:Hid (Blk W1 (w.1.size+1) kx):=hid (by have:=Blk.newL (L:=kx) HG1.out rfl;rwa [hsz]at this);have HB1:Hid (Below w.1.size w W1):=hid (qb (qa _ _) HG1.out.bel);have HS1:Hid (W1.1.size=w.1.size+2):=hid (by have:=HG1.out.sz;rw[hsz]at this;exact this);clear hsz HG1;go_upto_region 2 with(refine qc rfl 26 rfl kx.toArray (HZ _).out ?_;intro W2 hW2;have HG2:=hid hW2;clear hW2)
 try go_frame
 have HX2:=hid (HX1.out.on HG2.out.bel);have HR2:=hid (HR1.out.on HG2.out.bel);have HP2:Hid (Blk W2 W1.1.size kx):=hid (Blk.newL HG2.out rfl);have HB2:=hid (qb HB1.out HG2.out.bel);have HS2:Hid (W2.1.size=W1.1.size+1):=hid HG2.out.sz;clear HG2 HX1 HR1 HB1;go_upto_region 3 with fail;have HX3:Hid (Blk (W2.alloc (.cells #[.int .i64 0] 2)) w.1.size [.slice (some ⟨ab,ao,none⟩) 33 c]):=hid (HX2.out.on (qa _ _));have HR3:Hid (Blk (W2.alloc (.cells #[.int .i64 0] 2)) (w.1.size+1) kx):=hid (HR2.out.on (qa _ _));have HP3:Hid (Blk (W2.alloc (.cells #[.int .i64 0] 2)) W1.1.size kx):=hid (HP2.out.on (qa _ _));have HN3:Hid (Blk (W2.alloc (.cells #[.int .i64 0] 2)) W2.1.size [.int .i64 0]):=hid (Blk.newL (qg _ _ _) rfl);have HB3:Hid (Below w.1.size w (W2.alloc (.cells #[.int .i64 0] 2))):=hid (qb HB2.out (qa _ _));have HS3:Hid ((W2.alloc (.cells #[.int .i64 0] 2)).1.size=W2.1.size+1):=hid sm;clear HX2 HR2 HP2 HB2
 generalize W2.alloc (.cells #[.int .i64 0] 2)=W3 at *;have HD:Hid (W1.1.size≠W2.1.size∧w.1.size<W1.1.size∧W1.1.size<W2.1.size∧W2.1.size<W3.1.size∧w.1.size+1<W1.1.size):=hid (by have:=HS1.out;have:=HS2.out;have:=HS3.out;omega);have HRS:Hid (w.1.size≤w.1.size+1):=hid (b2g _);generalize W1.1.size=p at *;generalize W2.1.size=n at *;generalize w.1.size+1=r at *;have HPL:=hid (asb p n W3);go_wp2_with fail;refine(HPL.out).mono ?_;rintro e W4 ⟨rfl,hk,hb⟩;have HG4:=hid hk;have HX4:=hid (HX3.out.on hb);have HR4:=hid (HR3.out.on hb);have HP4:=hid (HP3.out.on hb);have HN4:=hid (HN3.out.on hb);have HB4:=hid (qb HB3.out hb);clear hk hb HX3 HR3 HP3 HN3 HB3 HPL;have x0:=HX4.out.cell 0 (v:=.slice (some ⟨ab,ao,none⟩) 33 c) rfl
 have HE:Hid (Calls prog 263 #[.func (.func 264) #[] #[.pointer (some ⟨w.1.size,0,none⟩)],.slice (some ⟨W3.1.size,0,none⟩) 33 33] W4 fun e w'=>e=.returned (.tuple #[])∧Blk w' p (ae6 v 33)∧Blk w' n (aiy v 33)∧qj (fun k=>k≠p∧k≠n) W4 w'):=hid (by
  have hd:=HD.out;refine a0p HH.out.1 HG4.out x0 ?_ ?_ ?_ ⟨by omega,by omega,by omega,by omega,by omega⟩
  ·exact(HFL.out.below HB4.out (fun b q=>q)).less fun b q=>by omega
  ·rw[baw];exact HP4.out
  ·have:aiy v 0=[.int .i64 0]:=by unfold aiy;rw[if_neg om]
   rw[this];exact HN4.out)
 go_wp2_with fail;refine HE.out.mono ?_;rintro e W5 ⟨rfl,hp,hn,hk⟩;have hel:(v.eraseIdx 29).length=32:=by rw[b4a,HH.out.1];rfl
 rw[bfr v HH.out.1]at hp;have n0:W5.cell? ⟨n,0,none⟩=some (.int .i64 0):=hn.cell 0 (by unfold aiy;rw[if_pos om,HH.out.2];rfl);have HP5:=hid hp;have HB5:Hid (Below w.1.size w W5):=hid (HB4.out.trans (hk.below (fun j hj=>by have:=HD.out;omega)));have HR5:Hid (Blk W5 r kx):=hid (HR4.out.kept (hk.block r (by have:=HD.out;omega)) hk.size);clear hp hn hk HE HR4 HP4 HN4 HB4 HX4 x0 HG4 HFL;generalize hu:v.eraseIdx 29=u at *;have HU:=hid hu;clear hu;have HSZ:=hid (ak7 hel);have HON:=hid (aid u);have HUL:=hid hel;have HTH:Hid (W5.there r 0 (qr u).toArray.size):=hid (by rw[o6,jm,hel];exact HR5.out.there 0 32 (a8 _));have HC:Hid ((qr u).toArray.toList.length=kx.length):=hid (by rw[show (qr u).toArray.toList=qr u from by simp,jm,hel];rfl);clear hel
 go_wp2_with (first
  | refine b0i rfl 26 _ rfl p 0 rfl (qr u) _ HP5.out.rg underlying26 sm (by rw[jm,HUL.out];kernel_rfl) ?_
  | (refine qe rfl 26 _ _ rfl r 0 (qr u).toArray rfl rfl HTH.out HSZ.out HON.out ?_;intro W6 hs;have HR6:Hid (Blk W6 r (qr u)):=hid (HR5.out.all hs HC.out);have HB6:=hid (HB5.out.trans (hs.below HRS.out));clear hs))
 have HLD:=hid (aql HR6.out HUL.out);exact b9 (v:=.tuple #[.agg (qr u).toArray,.bool true]) (by rw[zm rfl];simp[asAddr,Result.andThen];rw[HLD.out]) rfl ⟨by rw[HU.out],HB6.out⟩
def ag1 (b:List UInt8):Int×List Int:=if(xk ak6 b).1=0 then(0,(xk ak6 b).2.eraseIdx 29)else((xk ak6 b).1,List.replicate 32 0)
theorem a0q (b:List UInt8):(ag1 b).2.length=32:=by
 unfold ag1
 split
 ·rename_i h;dsimp only;rw[b4a,abv h];rfl
 ·rfl
theorem a0r {Q0:Nat→Prop} {w:World} (X:Option Addr) (d:Nat) (b:List UInt8) (hB:qf Q0 w X (bsV b)) (hm:b.length≤1000000) :
 Calls prog 257 #[.slice X b.length d] w fun e w'=>e=.returned (.tuple #[.agg (qr (ag1 b).2).toArray,.int .i64 (ag1 b).1])∧Below w.1.size w w':=by
 have HF:=fun W=>hid (av7 W)
 have HS:=ail (d:=d) aqj dc hB hm;have HZ:=fun W=>hid (bkp W)
 have HB0:=fun W=>hid (bl0 W)
 have hplen:=a0q b
 have HLN:Hid ((xk ak6 b).1=0 →(xk ak6 b).2.length=33 ∧(xk ak6 b).2.getD 29 0=0):=hid (fun h=>⟨abv h,by
  obtain⟨x,h1,h2,h3⟩:=alg ak6 b (ald h) 29 dc;rw[l9,h1];have e1:(ak6[29]'(by decide)).lo=0:=rfl;have e2:(ak6[29]'(by decide)).hi=0:=rfl;rw[e1]at h2;rw[e2]at h3;show x=0;omega⟩)
 unfold ag1 at *;obtain⟨⟨E,v⟩,hr⟩:∃r,xk ak6 b=r:=⟨_,rfl⟩;rw[hr]at HS HLN hplen ⊢;dsimp only at *;generalize hL:b.length=L at *;unfold ac5 at HF;rw[show ak6.length=33 from rfl]at *;clear hB hr hL
 by_cases hE:E=0
 ·subst hE;have hl:=HLN.out rfl;rw[if_pos rfl]at hplen ⊢;have HV:=hid hl;have HPL:=hid hplen;dsimp only at *;have HOF:=fun(QQ:Nat→Prop) A c W (q:qf QQ W A (qr v))=>hid (bau A c v q hl.1 hl.2)
  unfold ky at HS;dsimp only at HS;simp only[hl.1]at HS;clear HLN hl hplen;generalize v.eraseIdx 29=u at *;go_enter func257,ntmps257;go_upto_region 1 with(refine qc rfl 26 rfl kx.toArray (HZ _).out ?_;intro W1 hW1;have HK1:=hid (Blk.newL (L:=kx) hW1 rfl);have HB1:=hid hW1.bel;clear hW1)
  go_wp2_with fail;refine((HF _).out).mono ?_;rintro e w2 ⟨A,c,rfl,hf,hb⟩;have HT:=HS _ c _ _ HB1.out hf hb;have HK2:=hid (HK1.out.on hb);have HB2:=hid (qb HB1.out hb);clear hf hb HS HK1 HB1;go_wp2_with fail;refine HT.out.mono ?_;rintro e w3 ⟨A3,c3,rfl,hf,hb⟩;have HFL:=hid hf;have HK3:=hid (HK2.out.on hb);have HB3:=hid (qb HB2.out hb);clear hf hb HK2 HB2 HT;have HOFX:=HOF _ _ c3 _ HFL.out;clear HOF;go_wp2_with fail;refine HOFX.out.mono ?_;rintro e w4 ⟨rfl,hb⟩;have HK4:=hid (HK3.out.on hb);have HB4:=hid (qb HB3.out hb);clear hb HK3 HB3 HOFX HFL;have HSZ:=hid (ak7 HPL.out);have HON:=hid (aid u);have HTZ:Hid (∀W b,Blk W b kx→W.there b 0 (qr u).toArray.size):=hid (fun W b hb=>by rw[o6,jm,HPL.out];exact hb.there 0 32 (a8 _));have HC:Hid ((qr u).toArray.toList.length=kx.length):=hid (by rw[show (qr u).toArray.toList=qr u from by simp,jm,HPL.out];rfl)
  go_wp2_with (first
   | (refine qc rfl 26 rfl kx.toArray (HZ _).out ?_;intro W5 hW;have HP5:=hid (Blk.newL (L:=kx) hW rfl);have HK5:=hid (HK4.out.on hW.bel);have HB5:=hid (qb HB4.out hW.bel);clear hW)
   | (refine qe rfl 26 _ _ rfl w4.1.size 0 (qr u).toArray rfl rfl (HTZ.out _ _ HP5.out) HSZ.out HON.out ?_;intro W6 hs;have HP6:Hid (Blk W6 w4.1.size (qr u)):=hid (HP5.out.all hs HC.out);have HK6:=hid (HK5.out.far hs (b0y HK4.out.lt));have HB6:=hid (HB5.out.trans (hs.below HB4.out.size));clear hs)
   | refine b0i rfl 26 _ rfl w4.1.size 0 rfl (qr u) _ HP6.out.rg underlying26 sm (by rw[jm,HPL.out];kernel_rfl) ?_
   | (refine qe rfl 26 _ _ rfl w.1.size 0 (qr u).toArray rfl rfl (HTZ.out _ _ HK6.out) HSZ.out HON.out ?_;intro W7 hs;have HK7:Hid (Blk W7 w.1.size (qr u)):=hid (HK6.out.all hs HC.out);have HB7:=hid (HB6.out.trans (hs.below (a8 _)));clear hs))
  have HLD:=hid (aql HK7.out HPL.out);exact b9 (v:=.tuple #[.agg (qr u).toArray,.int .i64 0]) (by rw[zm rfl];simp[asAddr,Result.andThen];rw[HLD.out]) rfl ⟨rfl,HB7.out⟩
 ·have hE2:(E != 0)=true:=by rw[b0g];exact hE
  have hE3:(E==0)=false:=by rw[l6];exact hE
  rw[if_neg hE];clear hE HLN hplen;show Calls prog _ _ w fun e w'=>e=.returned (.tuple #[.agg kx.toArray,.int .i64 E])∧Below w.1.size w w'
  go_enter func257,ntmps257;go_upto_region 1 with(refine qc rfl 26 rfl kx.toArray (HZ _).out ?_;intro W1 hW1;have HK1:=hid (Blk.newL (L:=kx) hW1 rfl);have HB1:=hid hW1.bel;clear hW1)
  go_wp2_with fail;refine((HF _).out).mono ?_;rintro e w2 ⟨A,c,rfl,hf,hb⟩;have HT:=HS _ c _ _ HB1.out hf hb;have HK2:=hid (HK1.out.on hb);have HB2:=hid (qb HB1.out hb);clear hf hb HS HK1 HB1;go_wp2_with fail;refine HT.out.mono ?_;rintro e w3 ⟨A3,c3,rfl,hf,hb⟩;have HK3:=hid (HK2.out.on hb);have HB3:=hid (qb HB2.out hb);clear hf hb HK2 HB2 HT
  go_wp2_with (first
   | refine zo rfl 26 rfl (HB0 _).out ?_
   | (refine qe rfl 26 _ _ rfl w.1.size 0 kx.toArray rfl rfl (HK3.out.there 0 32 (a8 _)) (ak7 (v:=List.replicate 32 0) rfl) (aid (List.replicate 32 0)) ?_;intro W5 hs;have HK5:Hid (Blk W5 w.1.size (qr (List.replicate 32 0))):=hid (HK3.out.all hs rfl);have HB5:=hid (HB3.out.trans (hs.below (a8 _)));clear hs))
  have HLD:=hid (aql HK5.out rfl);exact b9 (v:=.tuple #[.agg kx.toArray,.int .i64 E]) (by rw[zm rfl];simp[asAddr,Result.andThen];rw[HLD.out];rfl) rfl ⟨rfl,HB5.out⟩
theorem bmp (a b c d:Int) (w:World):(binOp .eql 222 (.agg #[.int .i64 a,.int .i64 b]) (.agg #[.int .i64 c,.int .i64 d])).run prog w=.ok (.bool ((a==c) && (b==d))) w:=by
 have he:prog.underlying 3=some (.int .i64):=underlying3;have hsz:∀w,(sizeOf 3).run prog w=.ok 1 w:=fun w=>by kernel_rfl
 have e:∀n:Nat,(Op.equalIn (n+2) 222 (.agg #[.int .i64 a,.int .i64 b]) (.agg #[.int .i64 c,.int .i64 d])).run prog w=.ok ((a==c) && (b==d)) w:=fun n=>by
  rw[Op.equalIn];simp only[b1k,b24 underlying222,b1f,hsz,Std.Legacy.Range.forIn_eq_forIn_range',Std.Legacy.Range.size,b47,b4p,Nat.div_one];have p0:∀x y:Int,(part 3 #[.int .i64 x,.int .i64 y] (0*1)).run prog w=.ok (.int .i64 x) w:=fun x y=>by simp[part,isAgg,b24 he]
  have p1:∀x y:Int,(part 3 #[.int .i64 x,.int .i64 y] (1*1)).run prog w=.ok (.int .i64 y) w:=fun x y=>by simp[part,isAgg,b24 he]
  have q:∀x y:Int,(Op.equalIn (n+1) 3 (.int .i64 x) (.int .i64 y)).run prog w=.ok (x==y) w:=fun x y=>run_equalIn_int w n 3 .i64 .i64 x y he
  rw[show List.range' 0 2 1=[0,1]from rfl];simp only[List.forIn_cons,List.forIn_nil,b1k,p0,q,b1f];cases a==c
  ·simp
  ·simp only[Bool.not_true,b22,b4z,b27,b1f,Bool.true_and,b1k,p1,q];cases b==d<;>simp
 rw[run_eql_struct,e 9998];rfl
def vh (c i:Nat):Value:=
 if c=1∧i=7 then .iface 224 (.agg #[])else if c=1∧i=53 then .iface 225 (.agg #[])else if c=1∧i=4 then .iface 226 (.agg #[])
 else if c=5 ∧(i=0∨i=1)then .iface 227 (.agg #[])else if c=6∧i=138 then .iface 228 (.agg #[])else .nilIface
theorem j8 (c i:Nat) (x y:Int) (b:Bool) (h:(((c:Int)==x) && ((i:Int)==y))=b) (W:World):(binOp .eql 222 (.agg #[.int .i64 (c:Int),.int .i64 (i:Int)]) (.agg #[.int .i64 x,.int .i64 y])).run prog W=.ok (.bool b) W:=by rw[bmp,h]
theorem abr {c i x y:Nat} (h:¬(c=x∧i=y)):(((c:Int)==(x:Int)) && ((i:Int)==(y:Int)))=false:=by
 rw[Bool.eq_false_iff];simp;omega
theorem al2 {c i x y:Nat} (h:c=x∧i=y):(((c:Int)==(x:Int)) && ((i:Int)==(y:Int)))=true:=by
 simp;omega
theorem alk (c i:Nat) (w:World):Calls prog 78 #[.int .i64 c,.int .i64 i] w fun e w'=>e=.returned (vh c i)∧w=w':=by
 by_cases h1:c=1∧i=7
 ·have e:vh c i=.iface 224 (.agg #[]):=by unfold vh;rw[if_pos h1]
  rw[e];have E1:=j8 c i 1 7 true (al2 (x:=1) (y:=7) h1);clear e h1;go_enter func78,ntmps78;go_wp2_with fail;go_ret;exact⟨rfl,rfl⟩
 by_cases h2:c=1∧i=53
 ·have e:vh c i=.iface 225 (.agg #[]):=by unfold vh;rw[if_neg h1,if_pos h2]
  rw[e];have E1:=j8 c i 1 7 false (abr (x:=1) (y:=7) h1);have E2:=j8 c i 1 53 true (al2 (x:=1) (y:=53) h2);clear e h1 h2;go_enter func78,ntmps78;go_wp2_with fail;go_ret;exact⟨rfl,rfl⟩
 by_cases h3:c=1∧i=4
 ·have e:vh c i=.iface 226 (.agg #[]):=by unfold vh;rw[if_neg h1,if_neg h2,if_pos h3]
  rw[e];have E1:=j8 c i 1 7 false (abr (x:=1) (y:=7) h1);have E2:=j8 c i 1 53 false (abr (x:=1) (y:=53) h2);have E3:=j8 c i 1 4 true (al2 (x:=1) (y:=4) h3);clear e h1 h2 h3;go_enter func78,ntmps78;go_wp2_with fail;go_ret;exact⟨rfl,rfl⟩
 by_cases h4:c=5∧i=0
 ·have e:vh c i=.iface 227 (.agg #[]):=by unfold vh;rw[if_neg h1,if_neg h2,if_neg h3,if_pos ⟨h4.1,.inl h4.2⟩]
  rw[e];have E1:=j8 c i 1 7 false (abr (x:=1) (y:=7) h1);have E2:=j8 c i 1 53 false (abr (x:=1) (y:=53) h2);have E3:=j8 c i 1 4 false (abr (x:=1) (y:=4) h3);have E4:=j8 c i 5 0 true (al2 (x:=5) (y:=0) h4);clear e h1 h2 h3 h4;go_enter func78,ntmps78;go_wp2_with fail;go_ret;exact⟨rfl,rfl⟩
 by_cases h5:c=5∧i=1
 ·have e:vh c i=.iface 227 (.agg #[]):=by unfold vh;rw[if_neg h1,if_neg h2,if_neg h3,if_pos ⟨h5.1,.inr h5.2⟩]
  rw[e];have E1:=j8 c i 1 7 false (abr (x:=1) (y:=7) h1);have E2:=j8 c i 1 53 false (abr (x:=1) (y:=53) h2);have E3:=j8 c i 1 4 false (abr (x:=1) (y:=4) h3);have E4:=j8 c i 5 0 false (abr (x:=5) (y:=0) h4);have E5:=j8 c i 5 1 true (al2 (x:=5) (y:=1) h5);clear e h1 h2 h3 h4 h5;go_enter func78,ntmps78;go_wp2_with fail;go_ret;exact⟨rfl,rfl⟩
 have h45:¬(c=5 ∧(i=0∨i=1)):=by omega
 by_cases h6:c=6∧i=138
 ·have e:vh c i=.iface 228 (.agg #[]):=by unfold vh;rw[if_neg h1,if_neg h2,if_neg h3,if_neg h45,if_pos h6]
  rw[e];have E1:=j8 c i 1 7 false (abr (x:=1) (y:=7) h1);have E2:=j8 c i 1 53 false (abr (x:=1) (y:=53) h2);have E3:=j8 c i 1 4 false (abr (x:=1) (y:=4) h3);have E4:=j8 c i 5 0 false (abr (x:=5) (y:=0) h4);have E5:=j8 c i 5 1 false (abr (x:=5) (y:=1) h5);have E6:=j8 c i 6 138 true (al2 (x:=6) (y:=138) h6);clear e h1 h2 h3 h4 h5 h6 h45;go_enter func78,ntmps78;go_wp2_with fail;go_ret;exact⟨rfl,rfl⟩
 have e:vh c i=.nilIface:=by unfold vh;rw[if_neg h1,if_neg h2,if_neg h3,if_neg h45,if_neg h6]
 rw[e];have E1:=j8 c i 1 7 false (abr (x:=1) (y:=7) h1);have E2:=j8 c i 1 53 false (abr (x:=1) (y:=53) h2);have E3:=j8 c i 1 4 false (abr (x:=1) (y:=4) h3);have E4:=j8 c i 5 0 false (abr (x:=5) (y:=0) h4);have E5:=j8 c i 5 1 false (abr (x:=5) (y:=1) h5);have E6:=j8 c i 6 138 false (abr (x:=6) (y:=138) h6);clear e h1 h2 h3 h4 h5 h6 h45;go_enter func78,ntmps78;go_wp2_with fail;go_ret;exact⟨rfl,rfl⟩
