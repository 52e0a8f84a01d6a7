/- Parts. -/
import Derived.Test.YtdkhlkfleggbaaaGreatV02
namespace Go.Proofs.YtdkhlkfleggbaaaGreat
set_option maxHeartbeats 2000000
set_option maxRecDepth 8000
open Tryz
set_option linter.unusedVariables false
open Go.RowKit
def kz (md:Region.Mode) (ops:Array Oper):Nat->Nat->Array Bool->Bool
 | 0,_,_=>true
 | m+1,k,listed=>(Region.ready md ops listed).contains k && Region.free md ops listed k && kz md ops m (k+1) (listed.setIfInBounds k true)
def qh:Nat->Nat->Array Bool->Array Bool
 | 0,_,listed=>listed
 | m+1,k,listed=>qh m (k+1) (listed.setIfInBounds k true)
theorem xq (md:Region.Mode) (ops:Array Oper) (g:Nat):∀(m f k:Nat) (listed:Array Bool),kz md ops m k listed=true->Region.lexHead md ops g f (k+m) (qh m k listed)=true->Region.lexHead md ops g (m+f) k listed=true
 | 0,f,k,listed,_,h=>by rw[b0j];exact h
 | m+1,f,k,listed,h,h2=>by
  rw[show m+1+f=(m+f)+1 from by omega];unfold kz at h;rw[b0g]at h;unfold Region.lexHead;rw[b0g];exact⟨h.1,xq md ops g m f (k+1) _ h.2 (by rw[show k+1+m=k +(m+1)from by omega];exact h2)⟩
theorem xr:∀(m n k:Nat) (listed:Array Bool),qh n (k+m) (qh m k listed)=qh (m+n) k listed
 | 0,n,k,listed=>by rw[b0j];rfl
 | m+1,n,k,listed=>by
  rw[show m+1+n=(m+n)+1 from by omega,show k +(m+1)=k+1+m from by omega];exact xr m n (k+1) _
def plL:List Oper:=[
{dst:=some 5,op:=Op.move (Operand.tmp 0),type:=403,pos := "pvt.go:35",after:=#[],guard:=none},
 {dst:=some 6,op:=Op.nilCheck (Operand.tmp 5),type:=0,pos := "pvt.go:35",after:=#[{on:=0,ground:=Ground.data}],guard:=none},
 {dst:=some 7,op:=Op.fieldAddr 26 (Operand.tmp 6) 0,type:=0,pos := "pvt.go:35",after:=#[{on:=1,ground:=Ground.data}],guard:=none},
 {dst:=some 8,op:=Op.move (Operand.tmp 0),type:=403,pos := "pvt.go:35",after:=#[],guard:=none},
 {dst:=some 9,op:=Op.nilCheck (Operand.tmp 8),type:=0,pos := "pvt.go:35",after:=#[{on:=3,ground:=Ground.data}],guard:=none},
 {dst:=some 10,op:=Op.fieldAddr 26 (Operand.tmp 9) 1,type:=0,pos := "pvt.go:35",after:=#[{on:=4,ground:=Ground.data}],guard:=none},
 {dst:=some 11,op:=Op.move (Operand.tmp 0),type:=403,pos := "pvt.go:35",after:=#[],guard:=none},
 {dst:=some 12,op:=Op.nilCheck (Operand.tmp 11),type:=0,pos := "pvt.go:35",after:=#[{on:=6,ground:=Ground.data}],guard:=none},
 {dst:=some 13,op:=Op.fieldAddr 26 (Operand.tmp 12) 2,type:=0,pos := "pvt.go:35",after:=#[{on:=7,ground:=Ground.data}],guard:=none},
 {dst:=some 14,op:=Op.move (Operand.tmp 0),type:=403,pos := "pvt.go:35",after:=#[],guard:=none},
 {dst:=some 15,op:=Op.nilCheck (Operand.tmp 14),type:=0,pos := "pvt.go:35",after:=#[{on:=9,ground:=Ground.data}],guard:=none},
 {dst:=some 16,op:=Op.fieldAddr 26 (Operand.tmp 15) 3,type:=0,pos := "pvt.go:35",after:=#[{on:=10,ground:=Ground.data}],guard:=none},
 {dst:=some 17,op:=Op.move (Operand.tmp 0),type:=403,pos := "pvt.go:35",after:=#[],guard:=none},
 {dst:=some 18,op:=Op.nilCheck (Operand.tmp 17),type:=0,pos := "pvt.go:35",after:=#[{on:=12,ground:=Ground.data}],guard:=none},
 {dst:=some 19,op:=Op.fieldAddr 26 (Operand.tmp 18) 4,type:=0,pos := "pvt.go:35",after:=#[{on:=13,ground:=Ground.data}],guard:=none},
 {dst:=some 20,op:=Op.move (Operand.tmp 0),type:=403,pos := "pvt.go:35",after:=#[],guard:=none},
 {dst:=some 21,op:=Op.nilCheck (Operand.tmp 20),type:=0,pos := "pvt.go:35",after:=#[{on:=15,ground:=Ground.data}],guard:=none},
 {dst:=some 22,op:=Op.fieldAddr 26 (Operand.tmp 21) 5,type:=0,pos := "pvt.go:35",after:=#[{on:=16,ground:=Ground.data}],guard:=none},
 {dst:=some 23,op:=Op.move (Operand.tmp 0),type:=403,pos := "pvt.go:35",after:=#[],guard:=none},
 {dst:=some 24,op:=Op.nilCheck (Operand.tmp 23),type:=0,pos := "pvt.go:35",after:=#[{on:=18,ground:=Ground.data}],guard:=none},
 {dst:=some 25,op:=Op.fieldAddr 26 (Operand.tmp 24) 6,type:=0,pos := "pvt.go:35",after:=#[{on:=19,ground:=Ground.data}],guard:=none},
 {dst:=some 26,op:=Op.move (Operand.tmp 0),type:=403,pos := "pvt.go:35",after:=#[],guard:=none},
 {dst:=some 27,op:=Op.nilCheck (Operand.tmp 26),type:=0,pos := "pvt.go:35",after:=#[{on:=21,ground:=Ground.data}],guard:=none},
 {dst:=some 28,op:=Op.fieldAddr 26 (Operand.tmp 27) 7,type:=0,pos := "pvt.go:35",after:=#[{on:=22,ground:=Ground.data}],guard:=none},
 {dst:=some 29,op:=Op.move (Operand.tmp 0),type:=403,pos := "pvt.go:35",after:=#[],guard:=none},
 {dst:=some 30,op:=Op.nilCheck (Operand.tmp 29),type:=0,pos := "pvt.go:35",after:=#[{on:=24,ground:=Ground.data}],guard:=none},
 {dst:=some 31,op:=Op.fieldAddr 26 (Operand.tmp 30) 8,type:=0,pos := "pvt.go:35",after:=#[{on:=25,ground:=Ground.data}],guard:=none},
 {dst:=some 32,op:=Op.move (Operand.tmp 0),type:=403,pos := "pvt.go:35",after:=#[],guard:=none},
 {dst:=some 33,op:=Op.nilCheck (Operand.tmp 32),type:=0,pos := "pvt.go:35",after:=#[{on:=27,ground:=Ground.data}],guard:=none},
 {dst:=some 34,op:=Op.fieldAddr 26 (Operand.tmp 33) 9,type:=0,pos := "pvt.go:35",after:=#[{on:=28,ground:=Ground.data}],guard:=none},
 {dst:=some 35,op:=Op.move (Operand.tmp 0),type:=403,pos := "pvt.go:35",after:=#[],guard:=none},
 {dst:=some 36,op:=Op.nilCheck (Operand.tmp 35),type:=0,pos := "pvt.go:35",after:=#[{on:=30,ground:=Ground.data}],guard:=none},
 {dst:=some 37,op:=Op.fieldAddr 26 (Operand.tmp 36) 10,type:=0,pos := "pvt.go:35",after:=#[{on:=31,ground:=Ground.data}],guard:=none},
 {dst:=some 38,op:=Op.move (Operand.tmp 0),type:=403,pos := "pvt.go:35",after:=#[],guard:=none},
 {dst:=some 39,op:=Op.nilCheck (Operand.tmp 38),type:=0,pos := "pvt.go:35",after:=#[{on:=33,ground:=Ground.data}],guard:=none},
 {dst:=some 40,op:=Op.fieldAddr 26 (Operand.tmp 39) 11,type:=0,pos := "pvt.go:35",after:=#[{on:=34,ground:=Ground.data}],guard:=none},
 {dst:=some 41,op:=Op.move (Operand.tmp 0),type:=403,pos := "pvt.go:35",after:=#[],guard:=none},
 {dst:=some 42,op:=Op.nilCheck (Operand.tmp 41),type:=0,pos := "pvt.go:35",after:=#[{on:=36,ground:=Ground.data}],guard:=none},
 {dst:=some 43,op:=Op.fieldAddr 26 (Operand.tmp 42) 12,type:=0,pos := "pvt.go:35",after:=#[{on:=37,ground:=Ground.data}],guard:=none},
 {dst:=some 44,op:=Op.move (Operand.tmp 0),type:=403,pos := "pvt.go:35",after:=#[],guard:=none},
 {dst:=some 45,op:=Op.nilCheck (Operand.tmp 44),type:=0,pos := "pvt.go:35",after:=#[{on:=39,ground:=Ground.data}],guard:=none},
 {dst:=some 46,op:=Op.fieldAddr 26 (Operand.tmp 45) 13,type:=0,pos := "pvt.go:35",after:=#[{on:=40,ground:=Ground.data}],guard:=none},
 {dst:=some 47,op:=Op.move (Operand.tmp 0),type:=403,pos := "pvt.go:35",after:=#[],guard:=none},
 {dst:=some 48,op:=Op.nilCheck (Operand.tmp 47),type:=0,pos := "pvt.go:35",after:=#[{on:=42,ground:=Ground.data}],guard:=none},
 {dst:=some 49,op:=Op.fieldAddr 26 (Operand.tmp 48) 14,type:=0,pos := "pvt.go:35",after:=#[{on:=43,ground:=Ground.data}],guard:=none},
 {dst:=some 50,op:=Op.move (Operand.tmp 0),type:=403,pos := "pvt.go:35",after:=#[],guard:=none},
 {dst:=some 51,op:=Op.nilCheck (Operand.tmp 50),type:=0,pos := "pvt.go:35",after:=#[{on:=45,ground:=Ground.data}],guard:=none},
 {dst:=some 52,op:=Op.fieldAddr 26 (Operand.tmp 51) 15,type:=0,pos := "pvt.go:35",after:=#[{on:=46,ground:=Ground.data}],guard:=none},
 {dst:=some 53,op:=Op.move (Operand.tmp 0),type:=403,pos := "pvt.go:35",after:=#[],guard:=none},
 {dst:=some 54,op:=Op.nilCheck (Operand.tmp 53),type:=0,pos := "pvt.go:35",after:=#[{on:=48,ground:=Ground.data}],guard:=none},
 {dst:=some 55,op:=Op.fieldAddr 26 (Operand.tmp 54) 16,type:=0,pos := "pvt.go:35",after:=#[{on:=49,ground:=Ground.data}],guard:=none},
 {dst:=some 56,op:=Op.move (Operand.tmp 0),type:=403,pos := "pvt.go:35",after:=#[],guard:=none},
 {dst:=some 57,op:=Op.nilCheck (Operand.tmp 56),type:=0,pos := "pvt.go:35",after:=#[{on:=51,ground:=Ground.data}],guard:=none},
 {dst:=some 58,op:=Op.fieldAddr 26 (Operand.tmp 57) 17,type:=0,pos := "pvt.go:35",after:=#[{on:=52,ground:=Ground.data}],guard:=none},
 {dst:=some 59,op:=Op.move (Operand.tmp 0),type:=403,pos := "pvt.go:35",after:=#[],guard:=none},
 {dst:=some 60,op:=Op.nilCheck (Operand.tmp 59),type:=0,pos := "pvt.go:35",after:=#[{on:=54,ground:=Ground.data}],guard:=none},
 {dst:=some 61,op:=Op.fieldAddr 26 (Operand.tmp 60) 18,type:=0,pos := "pvt.go:35",after:=#[{on:=55,ground:=Ground.data}],guard:=none},
 {dst:=some 62,op:=Op.move (Operand.tmp 0),type:=403,pos := "pvt.go:35",after:=#[],guard:=none},
 {dst:=some 63,op:=Op.nilCheck (Operand.tmp 62),type:=0,pos := "pvt.go:35",after:=#[{on:=57,ground:=Ground.data}],guard:=none},
 {dst:=some 64,op:=Op.fieldAddr 26 (Operand.tmp 63) 19,type:=0,pos := "pvt.go:35",after:=#[{on:=58,ground:=Ground.data}],guard:=none},
 {dst:=some 65,op:=Op.move (Operand.tmp 0),type:=403,pos := "pvt.go:35",after:=#[],guard:=none},
 {dst:=some 66,op:=Op.nilCheck (Operand.tmp 65),type:=0,pos := "pvt.go:35",after:=#[{on:=60,ground:=Ground.data}],guard:=none},
 {dst:=some 67,op:=Op.fieldAddr 26 (Operand.tmp 66) 20,type:=0,pos := "pvt.go:35",after:=#[{on:=61,ground:=Ground.data}],guard:=none},
 {dst:=some 68,op:=Op.move (Operand.tmp 0),type:=403,pos := "pvt.go:35",after:=#[],guard:=none},
 {dst:=some 69,op:=Op.nilCheck (Operand.tmp 68),type:=0,pos := "pvt.go:35",after:=#[{on:=63,ground:=Ground.data}],guard:=none},
 {dst:=some 70,op:=Op.fieldAddr 26 (Operand.tmp 69) 21,type:=0,pos := "pvt.go:35",after:=#[{on:=64,ground:=Ground.data}],guard:=none},
 {dst:=some 71,op:=Op.move (Operand.tmp 0),type:=403,pos := "pvt.go:35",after:=#[],guard:=none},
 {dst:=some 72,op:=Op.nilCheck (Operand.tmp 71),type:=0,pos := "pvt.go:35",after:=#[{on:=66,ground:=Ground.data}],guard:=none},
 {dst:=some 73,op:=Op.fieldAddr 26 (Operand.tmp 72) 22,type:=0,pos := "pvt.go:35",after:=#[{on:=67,ground:=Ground.data}],guard:=none},
 {dst:=some 74,op:=Op.move (Operand.tmp 0),type:=403,pos := "pvt.go:35",after:=#[],guard:=none},
 {dst:=some 75,op:=Op.nilCheck (Operand.tmp 74),type:=0,pos := "pvt.go:35",after:=#[{on:=69,ground:=Ground.data}],guard:=none},
 {dst:=some 76,op:=Op.fieldAddr 26 (Operand.tmp 75) 23,type:=0,pos := "pvt.go:35",after:=#[{on:=70,ground:=Ground.data}],guard:=none},
 {dst:=some 77,op:=Op.move (Operand.tmp 0),type:=403,pos := "pvt.go:35",after:=#[],guard:=none},
 {dst:=some 78,op:=Op.nilCheck (Operand.tmp 77),type:=0,pos := "pvt.go:35",after:=#[{on:=72,ground:=Ground.data}],guard:=none},
 {dst:=some 79,op:=Op.fieldAddr 26 (Operand.tmp 78) 24,type:=0,pos := "pvt.go:35",after:=#[{on:=73,ground:=Ground.data}],guard:=none},
 {dst:=some 80,op:=Op.move (Operand.tmp 0),type:=403,pos := "pvt.go:35",after:=#[],guard:=none},
 {dst:=some 81,op:=Op.nilCheck (Operand.tmp 80),type:=0,pos := "pvt.go:35",after:=#[{on:=75,ground:=Ground.data}],guard:=none},
 {dst:=some 82,op:=Op.fieldAddr 26 (Operand.tmp 81) 25,type:=0,pos := "pvt.go:35",after:=#[{on:=76,ground:=Ground.data}],guard:=none},
 {dst:=some 83,op:=Op.move (Operand.tmp 0),type:=403,pos := "pvt.go:35",after:=#[],guard:=none},
 {dst:=some 84,op:=Op.nilCheck (Operand.tmp 83),type:=0,pos := "pvt.go:35",after:=#[{on:=78,ground:=Ground.data}],guard:=none},
 {dst:=some 85,op:=Op.fieldAddr 26 (Operand.tmp 84) 26,type:=0,pos := "pvt.go:35",after:=#[{on:=79,ground:=Ground.data}],guard:=none},
 {dst:=some 86,op:=Op.move (Operand.tmp 0),type:=403,pos := "pvt.go:35",after:=#[],guard:=none},
 {dst:=some 87,op:=Op.nilCheck (Operand.tmp 86),type:=0,pos := "pvt.go:35",after:=#[{on:=81,ground:=Ground.data}],guard:=none},
 {dst:=some 88,op:=Op.fieldAddr 26 (Operand.tmp 87) 27,type:=0,pos := "pvt.go:35",after:=#[{on:=82,ground:=Ground.data}],guard:=none},
 {dst:=some 89,op:=Op.move (Operand.tmp 0),type:=403,pos := "pvt.go:35",after:=#[],guard:=none},
 {dst:=some 90,op:=Op.nilCheck (Operand.tmp 89),type:=0,pos := "pvt.go:35",after:=#[{on:=84,ground:=Ground.data}],guard:=none},
 {dst:=some 91,op:=Op.fieldAddr 26 (Operand.tmp 90) 28,type:=0,pos := "pvt.go:35",after:=#[{on:=85,ground:=Ground.data}],guard:=none},
 {dst:=some 92,op:=Op.move (Operand.tmp 1),type:=404,pos := "pvt.go:35",after:=#[],guard:=none},
 {dst:=some 93,op:=Op.move (Operand.tmp 0),type:=403,pos := "pvt.go:35",after:=#[],guard:=none},
 {dst:=some 94,op:=Op.nilCheck (Operand.tmp 93),type:=0,pos := "pvt.go:35",after:=#[{on:=88,ground:=Ground.data}],guard:=none},
 {dst:=some 95,op:=Op.fieldAddr 26 (Operand.tmp 94) 29,type:=0,pos := "pvt.go:35",after:=#[{on:=89,ground:=Ground.data}],guard:=none},
 {dst:=some 96,op:=Op.move (Operand.tmp 0),type:=403,pos := "pvt.go:35",after:=#[],guard:=none},
 {dst:=some 97,op:=Op.nilCheck (Operand.tmp 96),type:=0,pos := "pvt.go:35",after:=#[{on:=91,ground:=Ground.data}],guard:=none},
 {dst:=some 98,op:=Op.fieldAddr 26 (Operand.tmp 97) 30,type:=0,pos := "pvt.go:35",after:=#[{on:=92,ground:=Ground.data}],guard:=none},
 {dst:=some 99,op:=Op.move (Operand.tmp 0),type:=403,pos := "pvt.go:35",after:=#[],guard:=none},
 {dst:=some 100,op:=Op.nilCheck (Operand.tmp 99),type:=0,pos := "pvt.go:35",after:=#[{on:=94,ground:=Ground.data}],guard:=none},
 {dst:=some 101,op:=Op.fieldAddr 26 (Operand.tmp 100) 31,type:=0,pos := "pvt.go:35",after:=#[{on:=95,ground:=Ground.data}],guard:=none},
 {dst:=some 102,op:=Op.buildSlice 401 33 #[(0,Operand.tmp 7),(1,Operand.tmp 10),(2,Operand.tmp 13),(3,Operand.tmp 16),(4,Operand.tmp 19),(5,Operand.tmp 22),(6,Operand.tmp 25),(7,Operand.tmp 28),(8,Operand.tmp 31),(9,Operand.tmp 34),(10,Operand.tmp 37),(11,Operand.tmp 40),(12,Operand.tmp 43),(13,Operand.tmp 46),(14,Operand.tmp 49),(15,Operand.tmp 52),(16,Operand.tmp 55),(17,Operand.tmp 58),(18,Operand.tmp 61),(19,Operand.tmp 64),(20,Operand.tmp 67),(21,Operand.tmp 70),(22,Operand.tmp 73),(23,Operand.tmp 76),(24,Operand.tmp 79),(25,Operand.tmp 82),(26,Operand.tmp 85),(27,Operand.tmp 88),(28,Operand.tmp 91),(29,Operand.tmp 92),(30,Operand.tmp 95),(31,Operand.tmp 98),(32,Operand.tmp 101)],type:=401,pos := "pvt.go:35",after:=#[{on:=2,ground:=Ground.data},{on:=5,ground:=Ground.data},{on:=8,ground:=Ground.data},{on:=11,ground:=Ground.data},{on:=14,ground:=Ground.data},{on:=17,ground:=Ground.data},{on:=20,ground:=Ground.data},{on:=23,ground:=Ground.data},{on:=26,ground:=Ground.data},{on:=29,ground:=Ground.data},{on:=32,ground:=Ground.data},{on:=35,ground:=Ground.data},{on:=38,ground:=Ground.data},{on:=41,ground:=Ground.data},{on:=44,ground:=Ground.data},{on:=47,ground:=Ground.data},{on:=50,ground:=Ground.data},{on:=53,ground:=Ground.data},{on:=56,ground:=Ground.data},{on:=59,ground:=Ground.data},{on:=62,ground:=Ground.data},{on:=65,ground:=Ground.data},{on:=68,ground:=Ground.data},{on:=71,ground:=Ground.data},{on:=74,ground:=Ground.data},{on:=77,ground:=Ground.data},{on:=80,ground:=Ground.data},{on:=83,ground:=Ground.data},{on:=86,ground:=Ground.data},{on:=87,ground:=Ground.data},{on:=90,ground:=Ground.data},{on:=93,ground:=Ground.data},{on:=96,ground:=Ground.data}],guard:=none},
 {dst:=some 4,op:=Op.assign (Operand.tmp 102),type:=401,pos := "pvt.go:35",after:=#[{on:=97,ground:=Ground.data},{on:=0,ground:=Ground.phase},{on:=1,ground:=Ground.phase},{on:=2,ground:=Ground.phase},{on:=3,ground:=Ground.phase},{on:=4,ground:=Ground.phase},{on:=5,ground:=Ground.phase},{on:=6,ground:=Ground.phase},{on:=7,ground:=Ground.phase},{on:=8,ground:=Ground.phase},{on:=9,ground:=Ground.phase},{on:=10,ground:=Ground.phase},{on:=11,ground:=Ground.phase},{on:=12,ground:=Ground.phase},{on:=13,ground:=Ground.phase},{on:=14,ground:=Ground.phase},{on:=15,ground:=Ground.phase},{on:=16,ground:=Ground.phase},{on:=17,ground:=Ground.phase},{on:=18,ground:=Ground.phase},{on:=19,ground:=Ground.phase},{on:=20,ground:=Ground.phase},{on:=21,ground:=Ground.phase},{on:=22,ground:=Ground.phase},{on:=23,ground:=Ground.phase},{on:=24,ground:=Ground.phase},{on:=25,ground:=Ground.phase},{on:=26,ground:=Ground.phase},{on:=27,ground:=Ground.phase},{on:=28,ground:=Ground.phase},{on:=29,ground:=Ground.phase},{on:=30,ground:=Ground.phase},{on:=31,ground:=Ground.phase},{on:=32,ground:=Ground.phase},{on:=33,ground:=Ground.phase},{on:=34,ground:=Ground.phase},{on:=35,ground:=Ground.phase},{on:=36,ground:=Ground.phase},{on:=37,ground:=Ground.phase},{on:=38,ground:=Ground.phase},{on:=39,ground:=Ground.phase},{on:=40,ground:=Ground.phase},{on:=41,ground:=Ground.phase},{on:=42,ground:=Ground.phase},{on:=43,ground:=Ground.phase},{on:=44,ground:=Ground.phase},{on:=45,ground:=Ground.phase},{on:=46,ground:=Ground.phase},{on:=47,ground:=Ground.phase},{on:=48,ground:=Ground.phase},{on:=49,ground:=Ground.phase},{on:=50,ground:=Ground.phase},{on:=51,ground:=Ground.phase},{on:=52,ground:=Ground.phase},{on:=53,ground:=Ground.phase},{on:=54,ground:=Ground.phase},{on:=55,ground:=Ground.phase},{on:=56,ground:=Ground.phase},{on:=57,ground:=Ground.phase},{on:=58,ground:=Ground.phase},{on:=59,ground:=Ground.phase},{on:=60,ground:=Ground.phase},{on:=61,ground:=Ground.phase},{on:=62,ground:=Ground.phase},{on:=63,ground:=Ground.phase},{on:=64,ground:=Ground.phase},{on:=65,ground:=Ground.phase},{on:=66,ground:=Ground.phase},{on:=67,ground:=Ground.phase},{on:=68,ground:=Ground.phase},{on:=69,ground:=Ground.phase},{on:=70,ground:=Ground.phase},{on:=71,ground:=Ground.phase},{on:=72,ground:=Ground.phase},{on:=73,ground:=Ground.phase},{on:=74,ground:=Ground.phase},{on:=75,ground:=Ground.phase},{on:=76,ground:=Ground.phase},{on:=77,ground:=Ground.phase},{on:=78,ground:=Ground.phase},{on:=79,ground:=Ground.phase},{on:=80,ground:=Ground.phase},{on:=81,ground:=Ground.phase},{on:=82,ground:=Ground.phase},{on:=83,ground:=Ground.phase},{on:=84,ground:=Ground.phase},{on:=85,ground:=Ground.phase},{on:=86,ground:=Ground.phase},{on:=87,ground:=Ground.phase},{on:=88,ground:=Ground.phase},{on:=89,ground:=Ground.phase},{on:=90,ground:=Ground.phase},{on:=91,ground:=Ground.phase},{on:=92,ground:=Ground.phase},{on:=93,ground:=Ground.phase},{on:=94,ground:=Ground.phase},{on:=95,ground:=Ground.phase},{on:=96,ground:=Ground.phase},{on:=97,ground:=Ground.phase}],guard:=none}]
def pl0:Array Bool:=Array.replicate 99 false
theorem bm8:kz .any plL.toArray 8 0 (qh 0 0 pl0)=true:=by kernel_rfl
theorem bm9:kz .any plL.toArray 8 8 (qh 8 0 pl0)=true:=by kernel_rfl
theorem bj6:kz .any plL.toArray 8 16 (qh 16 0 pl0)=true:=by kernel_rfl
theorem bj7:kz .any plL.toArray 8 24 (qh 24 0 pl0)=true:=by kernel_rfl
theorem bj8:kz .any plL.toArray 8 32 (qh 32 0 pl0)=true:=by kernel_rfl
theorem bj9:kz .any plL.toArray 8 40 (qh 40 0 pl0)=true:=by kernel_rfl
theorem bka:kz .any plL.toArray 8 48 (qh 48 0 pl0)=true:=by kernel_rfl
theorem bkb:kz .any plL.toArray 8 56 (qh 56 0 pl0)=true:=by kernel_rfl
theorem bkc:kz .any plL.toArray 8 64 (qh 64 0 pl0)=true:=by kernel_rfl
theorem bkd:kz .any plL.toArray 8 72 (qh 72 0 pl0)=true:=by kernel_rfl
theorem bke:kz .any plL.toArray 8 80 (qh 80 0 pl0)=true:=by kernel_rfl
theorem bkf:kz .any plL.toArray 8 88 (qh 88 0 pl0)=true:=by kernel_rfl
theorem bkg:kz .any plL.toArray 1 96 (qh 96 0 pl0)=true:=by kernel_rfl
theorem bm6:([0,1,2,3,4,5,6,7].all λi=>(List.range 98).any λj=>decide (i<j) && Region.waitsFor .any plL.toArray j i)=true:=by kernel_rfl
theorem bm7:([8,9,10,11,12,13,14,15].all λi=>(List.range 98).any λj=>decide (i<j) && Region.waitsFor .any plL.toArray j i)=true:=by kernel_rfl
theorem bjv:([16,17,18,19,20,21,22,23].all λi=>(List.range 98).any λj=>decide (i<j) && Region.waitsFor .any plL.toArray j i)=true:=by kernel_rfl
theorem bjw:([24,25,26,27,28,29,30,31].all λi=>(List.range 98).any λj=>decide (i<j) && Region.waitsFor .any plL.toArray j i)=true:=by kernel_rfl
theorem bjx:([32,33,34,35,36,37,38,39].all λi=>(List.range 98).any λj=>decide (i<j) && Region.waitsFor .any plL.toArray j i)=true:=by kernel_rfl
theorem bjy:([40,41,42,43,44,45,46,47].all λi=>(List.range 98).any λj=>decide (i<j) && Region.waitsFor .any plL.toArray j i)=true:=by kernel_rfl
theorem bjz:([48,49,50,51,52,53,54,55].all λi=>(List.range 98).any λj=>decide (i<j) && Region.waitsFor .any plL.toArray j i)=true:=by kernel_rfl
theorem bj0:([56,57,58,59,60,61,62,63].all λi=>(List.range 98).any λj=>decide (i<j) && Region.waitsFor .any plL.toArray j i)=true:=by kernel_rfl
theorem bj1:([64,65,66,67,68,69,70,71].all λi=>(List.range 98).any λj=>decide (i<j) && Region.waitsFor .any plL.toArray j i)=true:=by kernel_rfl
theorem bj2:([72,73,74,75,76,77,78,79].all λi=>(List.range 98).any λj=>decide (i<j) && Region.waitsFor .any plL.toArray j i)=true:=by kernel_rfl
theorem bj3:([80,81,82,83,84,85,86,87].all λi=>(List.range 98).any λj=>decide (i<j) && Region.waitsFor .any plL.toArray j i)=true:=by kernel_rfl
theorem bj4:([88,89,90,91,92,93,94,95].all λi=>(List.range 98).any λj=>decide (i<j) && Region.waitsFor .any plL.toArray j i)=true:=by kernel_rfl
theorem bj5:([96].all λi=>(List.range 98).any λj=>decide (i<j) && Region.waitsFor .any plL.toArray j i)=true:=by kernel_rfl
theorem bm5:Region.seqB .any plL.toArray 2 97 (qh 97 0 pl0)=true:=by kernel_rfl
theorem bgs:Region.chainB .any plL.toArray 97=true:=by kernel_rfl
theorem bm4:Region.noSelect plL.toArray=true:=by kernel_rfl
theorem bjt:Region.sinkB .any plL.toArray 97=true:=by
 unfold Region.sinkB;rw[show List.range 97=[0,1,2,3,4,5,6,7]++[8,9,10,11,12,13,14,15]++[16,17,18,19,20,21,22,23]++[24,25,26,27,28,29,30,31]++[32,33,34,35,36,37,38,39]++[40,41,42,43,44,45,46,47]++[48,49,50,51,52,53,54,55]++[56,57,58,59,60,61,62,63]++[64,65,66,67,68,69,70,71]++[72,73,74,75,76,77,78,79]++[80,81,82,83,84,85,86,87]++[88,89,90,91,92,93,94,95]++[96]from by decide +kernel];simp only[List.all_append,b0g];exact⟨⟨⟨⟨⟨⟨⟨⟨⟨⟨⟨⟨bm6,bm7⟩,bjv⟩,bjw⟩,bjx⟩,bjy⟩,bjz⟩,bj0⟩,bj1⟩,bj2⟩,bj3⟩,bj4⟩,bj5⟩
theorem bm3:Region.lexHead .any plL.toArray 2 0 97 (qh 97 0 pl0)=true:=bm5
theorem bm2:Region.lexHead .any plL.toArray 2 1 96 (qh 96 0 pl0)=true:=by
 have:=xq .any plL.toArray 2 1 0 96 (qh 96 0 pl0) bkg;rw[show (qh 1 96 (qh 96 0 pl0))=qh 97 0 pl0 from by have e:=xr 96 1 0 pl0;rw[b0j]at e;exact e]at this;exact this bm3
theorem bm1:Region.lexHead .any plL.toArray 2 9 88 (qh 88 0 pl0)=true:=by
 have:=xq .any plL.toArray 2 8 1 88 (qh 88 0 pl0) bkf;rw[show (qh 8 88 (qh 88 0 pl0))=qh 96 0 pl0 from by have e:=xr 88 8 0 pl0;rw[b0j]at e;exact e]at this;exact this bm2
theorem bm0:Region.lexHead .any plL.toArray 2 17 80 (qh 80 0 pl0)=true:=by
 have:=xq .any plL.toArray 2 8 9 80 (qh 80 0 pl0) bke;rw[show (qh 8 80 (qh 80 0 pl0))=qh 88 0 pl0 from by have e:=xr 80 8 0 pl0;rw[b0j]at e;exact e]at this;exact this bm1
theorem bmz:Region.lexHead .any plL.toArray 2 25 72 (qh 72 0 pl0)=true:=by
 have:=xq .any plL.toArray 2 8 17 72 (qh 72 0 pl0) bkd;rw[show (qh 8 72 (qh 72 0 pl0))=qh 80 0 pl0 from by have e:=xr 72 8 0 pl0;rw[b0j]at e;exact e]at this;exact this bm0
theorem bmy:Region.lexHead .any plL.toArray 2 33 64 (qh 64 0 pl0)=true:=by
 have:=xq .any plL.toArray 2 8 25 64 (qh 64 0 pl0) bkc;rw[show (qh 8 64 (qh 64 0 pl0))=qh 72 0 pl0 from by have e:=xr 64 8 0 pl0;rw[b0j]at e;exact e]at this;exact this bmz
theorem bmx:Region.lexHead .any plL.toArray 2 41 56 (qh 56 0 pl0)=true:=by
 have:=xq .any plL.toArray 2 8 33 56 (qh 56 0 pl0) bkb;rw[show (qh 8 56 (qh 56 0 pl0))=qh 64 0 pl0 from by have e:=xr 56 8 0 pl0;rw[b0j]at e;exact e]at this;exact this bmy
theorem bmw:Region.lexHead .any plL.toArray 2 49 48 (qh 48 0 pl0)=true:=by
 have:=xq .any plL.toArray 2 8 41 48 (qh 48 0 pl0) bka;rw[show (qh 8 48 (qh 48 0 pl0))=qh 56 0 pl0 from by have e:=xr 48 8 0 pl0;rw[b0j]at e;exact e]at this;exact this bmx
theorem bmv:Region.lexHead .any plL.toArray 2 57 40 (qh 40 0 pl0)=true:=by
 have:=xq .any plL.toArray 2 8 49 40 (qh 40 0 pl0) bj9;rw[show (qh 8 40 (qh 40 0 pl0))=qh 48 0 pl0 from by have e:=xr 40 8 0 pl0;rw[b0j]at e;exact e]at this;exact this bmw
theorem bmu:Region.lexHead .any plL.toArray 2 65 32 (qh 32 0 pl0)=true:=by
 have:=xq .any plL.toArray 2 8 57 32 (qh 32 0 pl0) bj8;rw[show (qh 8 32 (qh 32 0 pl0))=qh 40 0 pl0 from by have e:=xr 32 8 0 pl0;rw[b0j]at e;exact e]at this;exact this bmv
theorem bmt:Region.lexHead .any plL.toArray 2 73 24 (qh 24 0 pl0)=true:=by
 have:=xq .any plL.toArray 2 8 65 24 (qh 24 0 pl0) bj7;rw[show (qh 8 24 (qh 24 0 pl0))=qh 32 0 pl0 from by have e:=xr 24 8 0 pl0;rw[b0j]at e;exact e]at this;exact this bmu
theorem bms:Region.lexHead .any plL.toArray 2 81 16 (qh 16 0 pl0)=true:=by
 have:=xq .any plL.toArray 2 8 73 16 (qh 16 0 pl0) bj6;rw[show (qh 8 16 (qh 16 0 pl0))=qh 24 0 pl0 from by have e:=xr 16 8 0 pl0;rw[b0j]at e;exact e]at this;exact this bmt
theorem bol:Region.lexHead .any plL.toArray 2 89 8 (qh 8 0 pl0)=true:=by
 have:=xq .any plL.toArray 2 8 81 8 (qh 8 0 pl0) bm9;rw[show (qh 8 8 (qh 8 0 pl0))=qh 16 0 pl0 from by have e:=xr 8 8 0 pl0;rw[b0j]at e;exact e]at this;exact this bms
theorem bok:Region.lexHead .any plL.toArray 2 97 0 (qh 0 0 pl0)=true:=by
 have:=xq .any plL.toArray 2 8 89 0 (qh 0 0 pl0) bm8;rw[show (qh 8 0 (qh 0 0 pl0))=qh 8 0 pl0 from by have e:=xr 0 8 0 pl0;rw[b0j]at e;exact e]at this;exact this bol
def ahv (j:Nat):Nat:=if j<29 then j else j+1
def afd (v:List Int) (k:Nat):List Value:=(List.range 32).map λj=>Value.int .i64 (if ahv j<k then v.getD (ahv j) 0 else 0)
def ai6 (v:List Int) (k:Nat):List Value:=[Value.int .i64 (if 29<k then v.getD 29 0 else 0)]
theorem aqx (v:List Int) (k:Nat):(afd v k).length=32:=by simp[afd]
def aws (p n i:Nat):Addr:=if i<29 then⟨p,i,none⟩else if i=29 then⟨n,0,none⟩else⟨p,i-1,none⟩
def awt (p n:Nat):List Value:=(List.range 33).map λi=>Value.pointer (some (aws p n i))
theorem bgz (v:List Int) (k o:Nat) (ho:o<32) (hk:ahv o=k):afd v (k+1)=(afd v k).set o (.int .i64 (v.getD k 0)):=by
 apply b24;intro j;rw[List.getElem?_set]
 by_cases hj:o=j
 ·subst hj;rw[if_pos rfl,if_pos (by rw[aqx];exact ho)];unfold afd;rw[b0l,b3y ho];simp[hk]
 ·rw[if_neg hj];unfold afd;rw[b0l,b0l];rcases b08 j 32 with q|q
  ·rw[b3y q]
   have hne:ahv j≠k:=λe=>hj (by
    rw[<- hk]at e;unfold ahv at e
    split at e<;>split at e<;>omega)
   simp only[b26]
   congr 3
   have:(ahv j<k+1)=(ahv j<k):=by apply propext;omega
   simp only[this]
  ·rw[b0c (by simpa using q)];rfl
theorem bb4 (v:List Int) (h:∀j,j<32->ahv j≠29):afd v 30=afd v 29:=by
 unfold afd;apply List.map_congr_left;intro j hj;have hj':j<32:=by simpa using hj
 have:=h j hj'
 congr 1
 have e:(ahv j<30)=(ahv j<29):=by apply propext;omega
 simp only[e]
theorem bb5 (v:List Int):afd v 0=qt (List.replicate 32 0):=by
 unfold afd;simp only[b04,b4v];rfl
theorem bgy (v:List Int) (hl:v.length=33):afd v 33=qt (v.eraseIdx 29):=by
 apply b24;intro j;unfold afd qt;rw[b0l,b0l];rcases b08 j 32 with q|q
 ·rw[b3y q,List.getElem?_eraseIdx];have h33:ahv j<33:=by unfold ahv;split<;>omega
  simp only[b26,if_pos h33];unfold ahv
  split
  ·rw[l9,d7 om];rfl
  ·rw[l9,d7 om];rfl
 ·rw[b0c (by simpa using q),b0c (by rw[b4g,hl];simpa using q)];rfl
theorem bju:plL.toArray.size=99:=by kernel_rfl
theorem bgt:Region.lexTailB .any plL.toArray 97=true:=by
 unfold Region.lexTailB;rw[bm4,bjt,bgs,bju];have h:Region.lexHead .any plL.toArray 2 97 0 (Array.replicate 99 false)=true:=bok;rw[show 99-97=2 from rfl,h];rfl
set_option maxRecDepth 100000 in
theorem asp (p n:Nat) (w:World):Calls prog 262 #[.pointer (some ⟨p,0,none⟩),.pointer (some ⟨n,0,none⟩)] w λe w'=>e=.returned (.slice (some ⟨w.1.size,0,none⟩) 33 33)/\Blk w' w.1.size (awt p n)/\Below w.1.size w w':=by
 go_enter func262,ntmps262;go_wp2_with fail
 repeat rw[List.append_eq]
 simp only[b0u,b0y];refine wp_region_still_tail (l:=plL) 97 kr bgt ?_;unfold plL;simp only[b3h,b2b,b4m,b2k]
 repeat still_step
 refine wpStill_nil ?_;change wpList _ _ _ _ _ w.drew;have hb:Below w.1.size w w.drew:=(n9 _ _).drew;have hz:w.drew.1.size=w.1.size:=rfl;have HBZ:=q_ (o3 hb hz);clear hb hz;generalize w.drew=w2 at *;go_wp2_with fail;go_ret;have hz:=HBZ.o.2;refine⟨by rw[<- hz];rfl,?_,HBZ.o.1.trans ((qa w2 _).mono (b1e hz.symm))⟩;rw[<- hz];exact Blk.newL (qg w2 _ _) rfl
theorem a6q {w:World} {k b o bx ab ao c:Nat} {x y:Value} (h1:w.cell? ⟨bx,0,none⟩=some (.slice (some ⟨ab,ao,none⟩) 33 c)) (hk:k<33) (h2:w.cell? ⟨ab,ao+k,none⟩=some x) (h3:w.cell? ⟨b,o,none⟩=some y) (h4:w.frozen? ⟨b,o,none⟩=false) (hx:∃n,x=.int .i64 n) :
 Calls prog 264 #[.int .i64 k,.pointer (some ⟨b,o,none⟩),.pointer (some ⟨bx,0,none⟩)] w λe w'=>e=.returned (.tuple #[])/\w'=w.setCell ⟨b,o,none⟩ x:=by
 obtain⟨n,rfl⟩:=hx;have i1:(k:Int)<33:=by omega
 have i2:(0:Int) <=(k:Int):=o5 _;go_enter func264,ntmps264;go_wp2_with fail;exact b4t (v:=.tuple #[]) (by simp[results,results264,go_sem]) rfl ⟨rfl,rfl⟩
theorem a1j {w:World} {p n g bx ab ao c:Nat} {v:List Int} (hv:v.length=33) (hg:Blk w g (awt p n)) (hx:w.cell? ⟨bx,0,none⟩=some (.slice (some ⟨ab,ao,none⟩) 33 c)) (hf:qf (λb=>b≠p/\b≠n) w (some ⟨ab,ao,none⟩) (qt v)) (hp:Blk w p (afd v 0)) (hn:Blk w n (ai6 v 0)) (hd:p≠n/\g≠p/\g≠n/\bx≠p/\bx≠n) :
 Calls prog 263 #[.func (.func 264) #[] #[.pointer (some ⟨bx,0,none⟩)],.slice (some ⟨g,0,none⟩) 33 33] w λe w'=>e=.returned (.tuple #[])/\Blk w' p (afd v 33)/\Blk w' n (ai6 v 33)/\qi (λk=>k≠p/\k≠n) w w':=by
 have HG:=q_ hg;have HX:=q_ hx;have HF:=q_ hf;have HP:=q_ hp;have HN:=q_ hn;have HD:=q_ hd;have HV:=q_ hv;clear hg hx hf hp hn hd hv;go_enter func263,ntmps263;go_wp2_with fail
 go_loopg [8] 33 (λh s8 wr=>∃k:Nat,k<=33/\33-k<=h/\s8=.int .i64 k/\Q_ (Blk wr p (afd v k))/\Q_ (Blk wr n (ai6 v k))/\Q_ (qi (λk=>k≠p/\k≠n) w wr))
 case atStart=>exact⟨0,by omega,by omega,rfl,HP,HN,qi.refl _ _⟩
 case round=>
  obtain⟨k,hk,hg,rfl,HPK,HNK,HS⟩:=hrel
  by_cases hlt:k<33
  ·have i1:(k:Int)<33:=by omega
   have i2:(0:Int) <=(k:Int):=o5 _;have hkv:k<v.length:=by rw[HV.o];exact hlt
   obtain⟨b',o',e1,hq,hc⟩:=HF.o k (.int .i64 v[k]) (by unfold qt;rw[b0l,d7 hkv];rfl);injection e1 with e1;injection e1 with e1 e2;subst e1 e2
   have hc':=(HS.o.cell (o:=ao+k) hq).trans hc;have hx':=(HS.o.cell (o:=0) ⟨HD.o.2.2.2.1,HD.o.2.2.2.2⟩).trans HX.o;have hpl:wr.cell? ⟨g,k,none⟩=some (.pointer (some (aws p n k))):=(HS.o.cell ⟨HD.o.2.1,HD.o.2.2.1⟩).trans (HG.o.cell k (by unfold awt;rw[b0l,b3y hlt];rfl))
   obtain⟨pb,po,hpa,y,hy,hz,hput⟩:∃pb po,aws p n k=⟨pb,po,none⟩/\∃y,wr.cell? ⟨pb,po,none⟩=some y/\wr.frozen? ⟨pb,po,none⟩=false/\Q_ (Blk (wr.setCell ⟨pb,po,none⟩ (.int .i64 v[k])) p (afd v (k+1))/\Blk (wr.setCell ⟨pb,po,none⟩ (.int .i64 v[k])) n (ai6 v (k+1))/\qi (λk=>k≠p/\k≠n) w (wr.setCell ⟨pb,po,none⟩ (.int .i64 v[k]))):=by
    have hvk:v.getD k 0=v[k]:=by rw[l9,d7 hkv];rfl
    have hat:∀o,o<32->ahv o=k->k≠29->∃y,wr.cell? ⟨p,o,none⟩=some y/\wr.frozen? ⟨p,o,none⟩=false/\Q_ (Blk (wr.setCell ⟨p,o,none⟩ (.int .i64 v[k])) p (afd v (k+1))/\Blk (wr.setCell ⟨p,o,none⟩ (.int .i64 v[k])) n (ai6 v (k+1))/\qi (λk=>k≠p/\k≠n) w (wr.setCell ⟨p,o,none⟩ (.int .i64 v[k]))):=λo ho hpo hk29=>by
     refine⟨_,HPK.o.cell o (d7 (by rw[aqx];exact ho)),HPK.o.fz o,?_⟩;obtain⟨q1,q2⟩:=HPK.o.set (by rw[aqx];exact ho) (.int .i64 v[k]);refine q_ ⟨?_,?_,HS.o.stored q2 (λq=>q.1 rfl)⟩
     ·rw[bgz v k o ho hpo,hvk];exact q1
     ·have e:ai6 v (k+1)=ai6 v k:=by
       unfold ai6;have:(29<k+1)=(29<k):=by apply propext;omega
       simp only[this]
      rw[e];exact HNK.o.far q2 (λq=>HD.o.1 q.symm)
    unfold aws
    by_cases h1:k<29
    ·rw[if_pos h1];exact⟨p,k,rfl,hat k om (by unfold ahv;rw[if_pos h1]) om⟩
    ·by_cases h2:k=29
     ·rw[if_neg h1,if_pos h2];refine⟨n,0,rfl,_,HNK.o.cell 0 rfl,HNK.o.fz 0,?_⟩;obtain⟨q1,q2⟩:=HNK.o.set (o:=0) (by simp[ai6]) (.int .i64 v[k]);refine q_ ⟨?_,?_,HS.o.stored q2 (λq=>q.2 rfl)⟩
      ·have e:afd v (k+1)=afd v k:=by
        rw[h2];exact bb4 v (λj hj=>by unfold ahv;split<;>omega)
       rw[e];exact HPK.o.far q2 HD.o.1
      ·have e:ai6 v (k+1)=(ai6 v k).set 0 (.int .i64 v[k]):=by
        unfold ai6;rw[if_pos om,b15]
        congr 2
        rw[<- hvk,h2]
       rw[e];exact q1
     ·rw[if_neg h1,if_neg h2];exact⟨p,k-1,rfl,hat (k-1) om (by unfold ahv;rw[if_neg om];omega) h2⟩
   rw[hpa]at hpl;have HO:=q_ (a6q hx' hlt hc' hy hz ⟨_,rfl⟩);clear hc hx' hc' hy hz hpa hq;generalize v[k]=x at *;go_wp2_with (refine HO.o.mono ?_;rintro e w' ⟨rfl,rfl⟩)
   go_roundg (33-(k+1))
   case measure=>omega
   case rel=>exact⟨k+1,by omega,by omega,by go_num,hput.o.1,hput.o.2.1,hput.o.2.2⟩
  ·obtain rfl:k=33:=by omega
   go_wp2_with fail;exact b4t (v:=.tuple #[]) (by simp[results,results263,go_sem]) rfl ⟨rfl,HPK.o,HNK.o,HS.o⟩
def k9:List Value:=qt (List.replicate 32 0)
theorem bl1 (w:World):(zeroValue 26).run prog w=.ok (.agg k9.toArray) w:=by kernel_rfl
theorem bnb (w:World):(Instr.build 26 #[]).run prog w=.ok (.agg k9.toArray) w:=by kernel_rfl
theorem ail (v:List Int):(qt v).toArray.all (·.oneCell')=true:=kf (λx hx=>by
 have:x∈qt v:=by simpa using hx
 obtain⟨n,-,rfl⟩:=b2f.1 this;rfl)
theorem alc {v:List Int} (h:v.length=32):(prog.info? 26).map (·.size)=some (qt v).toArray.size:=by
 rw[o6,jn,h];kernel_rfl
theorem aqy {W:World} {b:Nat} {v:List Int} (h:Blk W b (qt v)) (hl:v.length=32):(loadVar 26 ⟨b,0,none⟩).run prog W=.ok (.agg (qt v).toArray) W:=
 t9 (P:=prog) W b 0 26 (qt v) _ h.rg underlying26 sm (by rw[jn,hl];kernel_rfl)
theorem bb3 {Q:Nat->Prop} {w:World} (A:Option Addr) (c:Nat) (v:List Int) (hf:qf Q w A (qt v)) (hl:v.length=33) (h0:v.getD 29 0=0) :
 Calls prog 259 #[.slice A 33 c] w λe w'=>e=.returned (.tuple #[.agg (qt (v.eraseIdx 29)).toArray,.bool true])/\Below w.1.size w w':=by
 obtain⟨ab,ao,rfl,-,hab,-⟩:=afp hf om;have HFL:=q_ (hf.lt.less λb q=>q.2);have HZ:=λW=>q_ (bl1 W)
 have HH:=q_ (o3 hl h0);have HAB:=q_ hab;clear hf hl h0 hab;go_enter func259,ntmps259;go_upto_region 1 with(refine qc rfl 26 rfl k9.toArray (HZ _).o ?_;intro W1 hW1;have HG1:=q_ hW1;clear hW1)
 have hsz:(w.alloc (.cells #[.slice (some ⟨ab,ao,none⟩) 33 c] 49)).1.size=w.1.size+1:=by simp
 have HX1:Q_ (Blk W1 w.1.size [.slice (some ⟨ab,ao,none⟩) 33 c]):=q_ ((Blk.newL (qg w _ _) rfl).on HG1.o.bel);have HR1:Q_ (Blk W1 (w.1.size+1) k9):=q_ (by have:=Blk.newL (L:=k9) HG1.o rfl;rwa [hsz]at this);have HB1:Q_ (Below w.1.size w W1):=q_ (qb (qa _ _) HG1.o.bel);have HS1:Q_ (W1.1.size=w.1.size+2):=q_ (by have:=HG1.o.sz;rw[hsz]at this;exact this);clear hsz HG1;go_upto_region 2 with(refine qc rfl 26 rfl k9.toArray (HZ _).o ?_;intro W2 hW2;have HG2:=q_ hW2;clear hW2)
 try go_frame
 have HX2:=q_ (HX1.o.on HG2.o.bel);have HR2:=q_ (HR1.o.on HG2.o.bel);have HP2:Q_ (Blk W2 W1.1.size k9):=q_ (Blk.newL HG2.o rfl);have HB2:=q_ (qb HB1.o HG2.o.bel);have HS2:Q_ (W2.1.size=W1.1.size+1):=q_ HG2.o.sz;clear HG2 HX1 HR1 HB1;go_upto_region 3 with fail;have HX3:Q_ (Blk (W2.alloc (.cells #[.int .i64 0] 2)) w.1.size [.slice (some ⟨ab,ao,none⟩) 33 c]):=q_ (HX2.o.on (qa _ _));have HR3:Q_ (Blk (W2.alloc (.cells #[.int .i64 0] 2)) (w.1.size+1) k9):=q_ (HR2.o.on (qa _ _));have HP3:Q_ (Blk (W2.alloc (.cells #[.int .i64 0] 2)) W1.1.size k9):=q_ (HP2.o.on (qa _ _));have HN3:Q_ (Blk (W2.alloc (.cells #[.int .i64 0] 2)) W2.1.size [.int .i64 0]):=q_ (Blk.newL (qg _ _ _) rfl);have HB3:Q_ (Below w.1.size w (W2.alloc (.cells #[.int .i64 0] 2))):=q_ (qb HB2.o (qa _ _));have HS3:Q_ ((W2.alloc (.cells #[.int .i64 0] 2)).1.size=W2.1.size+1):=q_ sm;clear HX2 HR2 HP2 HB2
 generalize W2.alloc (.cells #[.int .i64 0] 2)=W3 at *;have HD:Q_ (W1.1.size≠W2.1.size/\w.1.size<W1.1.size/\W1.1.size<W2.1.size/\W2.1.size<W3.1.size/\w.1.size+1<W1.1.size):=q_ (by have:=HS1.o;have:=HS2.o;have:=HS3.o;omega);have HRS:Q_ (w.1.size<=w.1.size+1):=q_ (b2r _);generalize W1.1.size=p at *;generalize W2.1.size=n at *;generalize w.1.size+1=r at *;have HPL:=q_ (asp p n W3);go_wp2_with fail;refine(HPL.o).mono ?_;rintro e W4 ⟨rfl,hk,hb⟩;have HG4:=q_ hk;have HX4:=q_ (HX3.o.on hb);have HR4:=q_ (HR3.o.on hb);have HP4:=q_ (HP3.o.on hb);have HN4:=q_ (HN3.o.on hb);have HB4:=q_ (qb HB3.o hb);clear hk hb HX3 HR3 HP3 HN3 HB3 HPL;have x0:=HX4.o.cell 0 (v:=.slice (some ⟨ab,ao,none⟩) 33 c) rfl
 have HE:Q_ (Calls prog 263 #[.func (.func 264) #[] #[.pointer (some ⟨w.1.size,0,none⟩)],.slice (some ⟨W3.1.size,0,none⟩) 33 33] W4 λe w'=>e=.returned (.tuple #[])/\Blk w' p (afd v 33)/\Blk w' n (ai6 v 33)/\qi (λk=>k≠p/\k≠n) W4 w'):=q_ (by
  have hd:=HD.o;refine a1j HH.o.1 HG4.o x0 ?_ ?_ ?_ ⟨by omega,by omega,by omega,by omega,by omega⟩
  ·exact(HFL.o.below HB4.o (λb q=>q)).less λb q=>by omega
  ·rw[bb5];exact HP4.o
  ·have:ai6 v 0=[.int .i64 0]:=by unfold ai6;rw[if_neg om]
   rw[this];exact HN4.o)
 go_wp2_with fail;refine HE.o.mono ?_;rintro e W5 ⟨rfl,hp,hn,hk⟩;have hel:(v.eraseIdx 29).length=32:=by rw[b4g,HH.o.1];rfl
 rw[bgy v HH.o.1]at hp;have n0:W5.cell? ⟨n,0,none⟩=some (.int .i64 0):=hn.cell 0 (by unfold ai6;rw[if_pos om,HH.o.2];rfl);have HP5:=q_ hp;have HB5:Q_ (Below w.1.size w W5):=q_ (HB4.o.trans (hk.below (λj hj=>by have:=HD.o;omega)));have HR5:Q_ (Blk W5 r k9):=q_ (HR4.o.kept (hk.block r (by have:=HD.o;omega)) hk.size);clear hp hn hk HE HR4 HP4 HN4 HB4 HX4 x0 HG4 HFL;generalize hu:v.eraseIdx 29=u at *;have HU:=q_ hu;clear hu;have HSZ:=q_ (alc hel);have HON:=q_ (ail u);have HUL:=q_ hel;have HTH:Q_ (W5.there r 0 (qt u).toArray.size):=q_ (by rw[o6,jn,hel];exact HR5.o.there 0 32 (a8 _));have HC:Q_ ((qt u).toArray.toList.length=k9.length):=q_ (by rw[show (qt u).toArray.toList=qt u from by simp,jn,hel];rfl);clear hel
 go_wp2_with (first
  | refine b0q rfl 26 _ rfl p 0 rfl (qt u) _ HP5.o.rg underlying26 sm (by rw[jn,HUL.o];kernel_rfl) ?_
  | (refine qe rfl 26 _ _ rfl r 0 (qt u).toArray rfl rfl HTH.o HSZ.o HON.o ?_;intro W6 hs;have HR6:Q_ (Blk W6 r (qt u)):=q_ (HR5.o.all hs HC.o);have HB6:=q_ (HB5.o.trans (hs.below HRS.o));clear hs))
 have HLD:=q_ (aqy HR6.o HUL.o);exact b9 (v:=.tuple #[.agg (qt u).toArray,.bool true]) (by rw[zj rfl];simp[asAddr,Result.andThen];rw[HLD.o]) rfl ⟨by rw[HU.o],HB6.o⟩
def ag8 (b:List UInt8):Int×List Int:=if(xl alb b).1=0 then(0,(xl alb b).2.eraseIdx 29)else((xl alb b).1,List.replicate 32 0)
theorem a1k (b:List UInt8):(ag8 b).2.length=32:=by
 unfold ag8
 split
 ·rename_i h;dsimp only;rw[b4g,aby h];rfl
 ·rfl
theorem a1l {Q0:Nat->Prop} {w:World} (X:Option Addr) (d:Nat) (b:List UInt8) (hB:qf Q0 w X (bsV b)) (hm:b.length<=1100000) :
 Calls prog 257 #[.slice X b.length d] w λe w'=>e=.returned (.tuple #[.agg (qt (ag8 b).2).toArray,.int .i64 (ag8 b).1])/\Below w.1.size w w':=by
 have HF:=λW=>q_ (aww W)
 have HS:=ais (d:=d) aqw dc hB hm;have HZ:=λW=>q_ (bl1 W)
 have HB0:=λW=>q_ (bnb W)
 have hplen:=a1k b
 have HLN:Q_ ((xl alb b).1=0 ->(xl alb b).2.length=33 /\(xl alb b).2.getD 29 0=0):=q_ (λh=>⟨aby h,by
  obtain⟨x,h1,h2,h3⟩:=alp alb b (alj h) 29 dc;rw[l9,h1];have e1:(alb[29]'(by decide)).lo=0:=rfl;have e2:(alb[29]'(by decide)).hi=0:=rfl;rw[e1]at h2;rw[e2]at h3;show x=0;omega⟩)
 unfold ag8 at *;obtain⟨⟨E,v⟩,hr⟩:∃r,xl alb b=r:=⟨_,rfl⟩;rw[hr]at HS HLN hplen ⊢;dsimp only at *;generalize hL:b.length=L at *;unfold ac9 at HF;rw[show alb.length=33 from rfl]at *;clear hB hr hL
 by_cases hE:E=0
 ·subst hE;have hl:=HLN.o rfl;rw[if_pos rfl]at hplen ⊢;have HV:=q_ hl;have HPL:=q_ hplen;dsimp only at *;have HOF:=fun(QQ:Nat->Prop) A c W (q:qf QQ W A (qt v))=>q_ (bb3 A c v q hl.1 hl.2)
  unfold vc at HS;dsimp only at HS;simp only[hl.1]at HS;clear HLN hl hplen;generalize v.eraseIdx 29=u at *;go_enter func257,ntmps257;go_upto_region 1 with(refine qc rfl 26 rfl k9.toArray (HZ _).o ?_;intro W1 hW1;have HK1:=q_ (Blk.newL (L:=k9) hW1 rfl);have HB1:=q_ hW1.bel;clear hW1)
  go_wp2_with fail;refine((HF _).o).mono ?_;rintro e w2 ⟨A,c,rfl,hf,hb⟩;have HT:=HS _ c _ _ HB1.o hf hb;have HK2:=q_ (HK1.o.on hb);have HB2:=q_ (qb HB1.o hb);clear hf hb HS HK1 HB1;go_wp2_with fail;refine HT.o.mono ?_;rintro e w3 ⟨A3,c3,rfl,hf,hb⟩;have HFL:=q_ hf;have HK3:=q_ (HK2.o.on hb);have HB3:=q_ (qb HB2.o hb);clear hf hb HK2 HB2 HT;have HOFX:=HOF _ _ c3 _ HFL.o;clear HOF;go_wp2_with fail;refine HOFX.o.mono ?_;rintro e w4 ⟨rfl,hb⟩;have HK4:=q_ (HK3.o.on hb);have HB4:=q_ (qb HB3.o hb);clear hb HK3 HB3 HOFX HFL;have HSZ:=q_ (alc HPL.o);have HON:=q_ (ail u);have HTZ:Q_ (∀W b,Blk W b k9->W.there b 0 (qt u).toArray.size):=q_ (λW b hb=>by rw[o6,jn,HPL.o];exact hb.there 0 32 (a8 _));have HC:Q_ ((qt u).toArray.toList.length=k9.length):=q_ (by rw[show (qt u).toArray.toList=qt u from by simp,jn,HPL.o];rfl)
  go_wp2_with (first
   | (refine qc rfl 26 rfl k9.toArray (HZ _).o ?_;intro W5 hW;have HP5:=q_ (Blk.newL (L:=k9) hW rfl);have HK5:=q_ (HK4.o.on hW.bel);have HB5:=q_ (qb HB4.o hW.bel);clear hW)
   | (refine qe rfl 26 _ _ rfl w4.1.size 0 (qt u).toArray rfl rfl (HTZ.o _ _ HP5.o) HSZ.o HON.o ?_;intro W6 hs;have HP6:Q_ (Blk W6 w4.1.size (qt u)):=q_ (HP5.o.all hs HC.o);have HK6:=q_ (HK5.o.far hs (b09 HK4.o.lt));have HB6:=q_ (HB5.o.trans (hs.below HB4.o.size));clear hs)
   | refine b0q rfl 26 _ rfl w4.1.size 0 rfl (qt u) _ HP6.o.rg underlying26 sm (by rw[jn,HPL.o];kernel_rfl) ?_
   | (refine qe rfl 26 _ _ rfl w.1.size 0 (qt u).toArray rfl rfl (HTZ.o _ _ HK6.o) HSZ.o HON.o ?_;intro W7 hs;have HK7:Q_ (Blk W7 w.1.size (qt u)):=q_ (HK6.o.all hs HC.o);have HB7:=q_ (HB6.o.trans (hs.below (a8 _)));clear hs))
  have HLD:=q_ (aqy HK7.o HPL.o);exact b9 (v:=.tuple #[.agg (qt u).toArray,.int .i64 0]) (by rw[zj rfl];simp[asAddr,Result.andThen];rw[HLD.o]) rfl ⟨rfl,HB7.o⟩
 ·have hE2:(E != 0)=true:=by rw[b0r];exact hE
  have hE3:(E==0)=false:=by rw[l7];exact hE
  rw[if_neg hE];clear hE HLN hplen;show Calls prog _ _ w λe w'=>e=.returned (.tuple #[.agg k9.toArray,.int .i64 E])/\Below w.1.size w w'
  go_enter func257,ntmps257;go_upto_region 1 with(refine qc rfl 26 rfl k9.toArray (HZ _).o ?_;intro W1 hW1;have HK1:=q_ (Blk.newL (L:=k9) hW1 rfl);have HB1:=q_ hW1.bel;clear hW1)
  go_wp2_with fail;refine((HF _).o).mono ?_;rintro e w2 ⟨A,c,rfl,hf,hb⟩;have HT:=HS _ c _ _ HB1.o hf hb;have HK2:=q_ (HK1.o.on hb);have HB2:=q_ (qb HB1.o hb);clear hf hb HS HK1 HB1;go_wp2_with fail;refine HT.o.mono ?_;rintro e w3 ⟨A3,c3,rfl,hf,hb⟩;have HK3:=q_ (HK2.o.on hb);have HB3:=q_ (qb HB2.o hb);clear hf hb HK2 HB2 HT
  go_wp2_with (first
   | refine zo rfl 26 rfl (HB0 _).o ?_
   | (refine qe rfl 26 _ _ rfl w.1.size 0 k9.toArray rfl rfl (HK3.o.there 0 32 (a8 _)) (alc (v:=List.replicate 32 0) rfl) (ail (List.replicate 32 0)) ?_;intro W5 hs;have HK5:Q_ (Blk W5 w.1.size (qt (List.replicate 32 0))):=q_ (HK3.o.all hs rfl);have HB5:=q_ (HB3.o.trans (hs.below (a8 _)));clear hs))
  have HLD:=q_ (aqy HK5.o rfl);exact b9 (v:=.tuple #[.agg k9.toArray,.int .i64 E]) (by rw[zj rfl];simp[asAddr,Result.andThen];rw[HLD.o];rfl) rfl ⟨rfl,HB5.o⟩
theorem bn2 (a b c d:Int) (w:World):(binOp .eql 222 (.agg #[.int .i64 a,.int .i64 b]) (.agg #[.int .i64 c,.int .i64 d])).run prog w=.ok (.bool ((a==c) && (b==d))) w:=by
 have he:prog.underlying 3=some (.int .i64):=underlying3;have hsz:∀w,(sizeOf 3).run prog w=.ok 1 w:=λw=>by kernel_rfl
 have e:∀n:Nat,(Op.equalIn (n+2) 222 (.agg #[.int .i64 a,.int .i64 b]) (.agg #[.int .i64 c,.int .i64 d])).run prog w=.ok ((a==c) && (b==d)) w:=λn=>by
  rw[Op.equalIn];simp only[b1k,b3f underlying222,b1f,hsz,Std.Legacy.Range.forIn_eq_forIn_range',Std.Legacy.Range.size,b5f,b4w,Nat.div_one];have p0:∀x y:Int,(part 3 #[.int .i64 x,.int .i64 y] (0*1)).run prog w=.ok (.int .i64 x) w:=λx y=>by simp[part,isAgg,b3f he]
  have p1:∀x y:Int,(part 3 #[.int .i64 x,.int .i64 y] (1*1)).run prog w=.ok (.int .i64 y) w:=λx y=>by simp[part,isAgg,b3f he]
  have q:∀x y:Int,(Op.equalIn (n+1) 3 (.int .i64 x) (.int .i64 y)).run prog w=.ok (x==y) w:=λx y=>run_equalIn_int w n 3 .i64 .i64 x y he
  rw[show List.range' 0 2 1=[0,1]from rfl];simp only[List.forIn_cons,List.forIn_nil,b1k,p0,q,b1f];cases a==c
  ·simp
  ·simp only[Bool.not_true,b2w,b4v,b21,b1f,Bool.true_and,b1k,p1,q];cases b==d<;>simp
 rw[run_eql_struct,e 9998];rfl
def vl (c i:Nat):Value:=
 if c=1/\i=7 then .iface 224 (.agg #[])else if c=1/\i=53 then .iface 225 (.agg #[])else if c=1/\i=4 then .iface 226 (.agg #[])
 else if c=5 /\(i=0\/i=1)then .iface 227 (.agg #[])else if c=6/\i=138 then .iface 228 (.agg #[])else .nilIface
theorem ka (c i:Nat) (x y:Int) (b:Bool) (h:(((c:Int)==x) && ((i:Int)==y))=b) (W:World):(binOp .eql 222 (.agg #[.int .i64 (c:Int),.int .i64 (i:Int)]) (.agg #[.int .i64 x,.int .i64 y])).run prog W=.ok (.bool b) W:=by rw[bn2,h]
theorem abu {c i x y:Nat} (h:¬(c=x/\i=y)):(((c:Int)==(x:Int)) && ((i:Int)==(y:Int)))=false:=by
 rw[Bool.eq_false_iff];simp;omega
theorem amj {c i x y:Nat} (h:c=x/\i=y):(((c:Int)==(x:Int)) && ((i:Int)==(y:Int)))=true:=by
 simp;omega
theorem alt (c i:Nat) (w:World):Calls prog 78 #[.int .i64 c,.int .i64 i] w λe w'=>e=.returned (vl c i)/\w=w':=by
 by_cases h1:c=1/\i=7
 ·have e:vl c i=.iface 224 (.agg #[]):=by unfold vl;rw[if_pos h1]
  rw[e];have E1:=ka c i 1 7 true (amj (x:=1) (y:=7) h1);clear e h1;go_enter func78,ntmps78;go_wp2_with fail;go_ret;exact⟨rfl,rfl⟩
 by_cases h2:c=1/\i=53
 ·have e:vl c i=.iface 225 (.agg #[]):=by unfold vl;rw[if_neg h1,if_pos h2]
  rw[e];have E1:=ka c i 1 7 false (abu (x:=1) (y:=7) h1);have E2:=ka c i 1 53 true (amj (x:=1) (y:=53) h2);clear e h1 h2;go_enter func78,ntmps78;go_wp2_with fail;go_ret;exact⟨rfl,rfl⟩
 by_cases h3:c=1/\i=4
 ·have e:vl c i=.iface 226 (.agg #[]):=by unfold vl;rw[if_neg h1,if_neg h2,if_pos h3]
  rw[e];have E1:=ka c i 1 7 false (abu (x:=1) (y:=7) h1);have E2:=ka c i 1 53 false (abu (x:=1) (y:=53) h2);have E3:=ka c i 1 4 true (amj (x:=1) (y:=4) h3);clear e h1 h2 h3;go_enter func78,ntmps78;go_wp2_with fail;go_ret;exact⟨rfl,rfl⟩
 by_cases h4:c=5/\i=0
 ·have e:vl c i=.iface 227 (.agg #[]):=by unfold vl;rw[if_neg h1,if_neg h2,if_neg h3,if_pos ⟨h4.1,.inl h4.2⟩]
  rw[e];have E1:=ka c i 1 7 false (abu (x:=1) (y:=7) h1);have E2:=ka c i 1 53 false (abu (x:=1) (y:=53) h2);have E3:=ka c i 1 4 false (abu (x:=1) (y:=4) h3);have E4:=ka c i 5 0 true (amj (x:=5) (y:=0) h4);clear e h1 h2 h3 h4;go_enter func78,ntmps78;go_wp2_with fail;go_ret;exact⟨rfl,rfl⟩
 by_cases h5:c=5/\i=1
 ·have e:vl c i=.iface 227 (.agg #[]):=by unfold vl;rw[if_neg h1,if_neg h2,if_neg h3,if_pos ⟨h5.1,.inr h5.2⟩]
  rw[e];have E1:=ka c i 1 7 false (abu (x:=1) (y:=7) h1);have E2:=ka c i 1 53 false (abu (x:=1) (y:=53) h2);have E3:=ka c i 1 4 false (abu (x:=1) (y:=4) h3);have E4:=ka c i 5 0 false (abu (x:=5) (y:=0) h4);have E5:=ka c i 5 1 true (amj (x:=5) (y:=1) h5);clear e h1 h2 h3 h4 h5;go_enter func78,ntmps78;go_wp2_with fail;go_ret;exact⟨rfl,rfl⟩
 have h45:¬(c=5 /\(i=0\/i=1)):=by omega
 by_cases h6:c=6/\i=138
 ·have e:vl c i=.iface 228 (.agg #[]):=by unfold vl;rw[if_neg h1,if_neg h2,if_neg h3,if_neg h45,if_pos h6]
  rw[e];have E1:=ka c i 1 7 false (abu (x:=1) (y:=7) h1);have E2:=ka c i 1 53 false (abu (x:=1) (y:=53) h2);have E3:=ka c i 1 4 false (abu (x:=1) (y:=4) h3);have E4:=ka c i 5 0 false (abu (x:=5) (y:=0) h4);have E5:=ka c i 5 1 false (abu (x:=5) (y:=1) h5);have E6:=ka c i 6 138 true (amj (x:=6) (y:=138) h6);clear e h1 h2 h3 h4 h5 h6 h45;go_enter func78,ntmps78;go_wp2_with fail;go_ret;exact⟨rfl,rfl⟩
 have e:vl c i=.nilIface:=by unfold vl;rw[if_neg h1,if_neg h2,if_neg h3,if_neg h45,if_neg h6]
 rw[e];have E1:=ka c i 1 7 false (abu (x:=1) (y:=7) h1);have E2:=ka c i 1 53 false (abu (x:=1) (y:=53) h2);have E3:=ka c i 1 4 false (abu (x:=1) (y:=4) h3);have E4:=ka c i 5 0 false (abu (x:=5) (y:=0) h4);have E5:=ka c i 5 1 false (abu (x:=5) (y:=1) h5);have E6:=ka c i 6 138 false (abu (x:=6) (y:=138) h6);clear e h1 h2 h3 h4 h5 h6 h45;go_enter func78,ntmps78;go_wp2_with fail;go_ret;exact⟨rfl,rfl⟩
