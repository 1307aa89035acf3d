/- Lemmas for the law WholeSound. -/
import Derived.Test.YtiknadellddjhaaGreatDoorProg
import Derived.KernelRfl
import Derived.Test.YtiknadellddjhaaGreatDoorS00
set_option linter.all false
open Go.Proofs.Tryz
open Go Go.cc
namespace Go.cc
open Go
def iS:Value->Int | .int _ n=>n | _=>0
def ahd:Value->Bool | .bool b=>b | _=>false
def AY:Value->ByteArray | .string s=>s | _=>ByteArray.empty
def bd(n:Int):List Value:=[.int .i64 n]
def q4:List Value->Int | [v]=>iS v | _=>0
def fA(x:BitVec 64):List Value:=[u64 x]
def T0(v:Value):BitVec 64:=BitVec.ofInt 64 (iS v)
def WS:List Value->BitVec 64 | [v]=>T0 v | _=>0
def kz(b:Bool):List Value:=[.bool b]
def zm:List Value->Bool | [v]=>ahd v | _=>false
def dV(s:ByteArray):List Value:=[.string s]
def WQ:List Value->ByteArray | [v]=>AY v | _=>ByteArray.empty
def cD(v:Value):List Value:=[v]
def l6:List Value->Value | [v]=>v | _=>.nilIface
def zr(n:Nat):List Value:=[.int .u8 (n:Int)]
structure b5 where
 A:Int
 B:Int
 deriving DecidableEq,Inhabited
def bz(p:b5):List Value:=[.int .i64 p.A,.int .i64 p.B]
def DV:List Value->b5 | [a,b]=>⟨iS a,iS b⟩ | _=>⟨0,0⟩
instance:ee bd 1:=⟨λ_=>rfl,by decide⟩
instance:ee fA 1:=⟨λ_=>rfl,by decide⟩
instance:ee kz 1:=⟨λ_=>rfl,by decide⟩
instance:ee dV 1:=⟨λ_=>rfl,by decide⟩
instance:ee cD 1:=⟨λ_=>rfl,by decide⟩
instance:ee zr 1:=⟨λ_=>rfl,by decide⟩
instance:ee bz 2:=⟨λ_=>rfl,by decide⟩
instance:n5 bd (λ_=>True):=⟨λ_ _ u hu=>by simp[bd]at hu;subst hu;rfl⟩
instance:n5 dV (λ_=>True):=⟨λ_ _ u hu=>by simp[dV]at hu;subst hu;rfl⟩
instance:n5 cD (λv=>v.oneCell'=true):=⟨λ_ h u hu=>by simp[cD]at hu;subst hu;exact h⟩
instance:n5 bz (λ_=>True):=⟨λ_ _ u hu=>by simp[bz]at hu;rcases hu with rfl | rfl<;>rfl⟩
structure eL where
 aI:Int
 place:Int
 dir:Int
 loc:Int
 value:Int
 bq:Int
 deriving DecidableEq,Inhabited
def ec(e:eL):List Value:=[.int .i64 e.aI,.int .i64 e.place,.int .i64 e.dir,.int .i64 e.loc,.int .i64 e.value,.int .i64 e.bq]
def Hy:List Value->eL | [a,b,c,d,e,f]=>⟨iS a,iS b,iS c,iS d,iS e,iS f⟩ | _=>⟨0,0,0,0,0,0⟩
structure ny where
 aI:Int
 place:Int
 dE:Int
 deriving DecidableEq,Inhabited
def fE(e:ny):List Value:=[.int .i64 e.aI,.int .i64 e.place,.int .i64 e.dE]
def BB:List Value->ny | [a,b,c]=>⟨iS a,iS b,iS c⟩ | _=>⟨0,0,0⟩
structure cE where
 aI:Int
 bq:Int
 loc:ByteArray
 deriving DecidableEq,Inhabited
def ev(e:cE):List Value:=[.int .i64 e.aI,.int .i64 e.bq,.string e.loc]
def WR:List Value->cE | [a,b,c]=>⟨iS a,iS b,AY c⟩ | _=>⟨0,0,ByteArray.empty⟩
structure gG where
 kind:Int
 n:Int
 deriving DecidableEq,Inhabited
def pv(e:gG):List Value:=[.int .i64 e.kind,.int .i64 e.n]
def WM:List Value->gG | [a,b]=>⟨iS a,iS b⟩ | _=>⟨0,0⟩
instance:ee ec 6:=⟨λ_=>rfl,by decide⟩
instance:ee fE 3:=⟨λ_=>rfl,by decide⟩
instance:ee ev 3:=⟨λ_=>rfl,by decide⟩
instance:ee pv 2:=⟨λ_=>rfl,by decide⟩
instance:n5 ec (λ_=>True):=⟨λ_ _ u hu=>by simp[ec]at hu;rcases hu with rfl | rfl | rfl | rfl | rfl | rfl<;>rfl⟩
instance:n5 fE (λ_=>True):=⟨λ_ _ u hu=>by simp[fE]at hu;rcases hu with rfl | rfl | rfl<;>rfl⟩
instance:n5 ev (λ_=>True):=⟨λ_ _ u hu=>by simp[ev]at hu;rcases hu with rfl | rfl | rfl<;>rfl⟩
end Go.cc
namespace Go.Proofs.bK
instance:jg prog 3 (.int .i64):=⟨underlying3⟩
instance:gO prog 3:=.of underlying3
instance:dh prog 3 1 8 (.int .i64 0):=.of
instance:jw prog 3 bd q4:=⟨trivial⟩
instance:jg prog 4 (.bool):=⟨underlying4⟩
instance:gO prog 4:=.of underlying4
instance:dh prog 4 1 1 (.bool false):=.of
instance:jg prog 5 (.int .u8):=⟨underlying5⟩
instance:gO prog 5:=.of underlying5
instance:dh prog 5 1 1 (.int .u8 0):=.of
instance:jg prog 9 (.string):=⟨underlying9⟩
instance:gO prog 9:=.of underlying9
instance:dh prog 9 1 16 (.string ByteArray.empty):=.of
instance:jw prog 9 dV WQ:=⟨trivial⟩
instance:jg prog 21 (.int .i32):=⟨underlying21⟩
instance:gO prog 22:=.of underlying22
instance:fz prog 22 72:=⟨underlying22⟩
instance:gO prog 23:=.of underlying23
instance:dh prog 23 1 24 U:=.of
instance:fz prog 23 167:=⟨underlying23⟩
instance:hI prog 25 3:=.of underlying25
instance:dh prog 25 3 32 (.agg #[.int .i64 0,.int .i64 0,.string ByteArray.empty]):=.of
instance:b4 prog 25 0 0:=.of (n:=0) underlying25
instance:b4 prog 25 1 1:=.of (n:=0) underlying25
instance:b4 prog 25 2 2:=.of (n:=0) underlying25
instance:iX prog 25 (.agg #[.int .i64 0,.int .i64 0,.string ByteArray.empty]) [(0,1),(1,1),(2,1)]:=.of underlying25
instance:jw prog 25 ev WR:=⟨trivial⟩
instance:gO prog 26:=.of underlying26
instance:fz prog 26 28:=⟨underlying26⟩
instance:hI prog 28 6:=.of underlying28
instance:dh prog 28 6 72 (.agg #[.int .i64 0,.int .i64 0,.int .i64 0,.string ByteArray.empty,.int .i64 0,U]):=.of
instance:b4 prog 28 0 0:=.of (n:=0) underlying28
instance:b4 prog 28 1 1:=.of (n:=2) underlying28
instance:b4 prog 28 2 4:=.of (n:=0) underlying28
instance:b4 prog 28 3 5:=.of (n:=0) underlying28
instance:hI prog 30 7:=.of underlying30
instance:b4 prog 30 0 0:=.of (n:=0) underlying30
instance:b4 prog 30 1 1:=.of (n:=5) underlying30
instance:hI prog 32 12:=.of underlying32
instance:b4 prog 32 0 0:=.of (n:=0) underlying32
instance:b4 prog 32 1 1:=.of (n:=0) underlying32
instance:b4 prog 32 2 2:=.of (n:=0) underlying32
instance:b4 prog 32 3 3:=.of (n:=0) underlying32
instance:b4 prog 32 4 4:=.of (n:=0) underlying32
instance:b4 prog 32 5 5:=.of (n:=6) underlying32
instance:gO prog 33:=.of underlying33
instance:dh prog 33 1 24 U:=.of
instance:fz prog 33 3:=⟨underlying33⟩
instance:jw prog 33 cD l6:=⟨trivial⟩
instance:gO prog 34:=.of underlying34
instance:dh prog 34 1 24 U:=.of
instance:fz prog 34 9:=⟨underlying34⟩
instance:gO prog 35:=.of underlying35
instance:dh prog 35 1 24 U:=.of
instance:fz prog 35 138:=⟨underlying35⟩
instance:gO prog 36:=.of underlying36
instance:dh prog 36 1 24 U:=.of
instance:fz prog 36 140:=⟨underlying36⟩
instance:gO prog 37:=.of underlying37
instance:dh prog 37 1 24 U:=.of
instance:fz prog 37 178:=⟨underlying37⟩
instance:gO prog 38:=.of underlying38
instance:dh prog 38 1 24 U:=.of
instance:fz prog 38 25:=⟨underlying38⟩
instance:gO prog 39:=.of underlying39
instance:dh prog 39 1 24 U:=.of
instance:fz prog 39 87:=⟨underlying39⟩
instance:hI prog 41 9:=.of underlying41
instance:dh prog 41 9 216 (.agg #[U,U,U,U,U,U,U,U,U]):=.of
instance:b4 prog 41 0 0:=.of (n:=0) underlying41
instance:b4 prog 41 1 1:=.of (n:=0) underlying41
instance:b4 prog 41 2 2:=.of (n:=0) underlying41
instance:b4 prog 41 3 3:=.of (n:=0) underlying41
instance:b4 prog 41 4 4:=.of (n:=0) underlying41
instance:b4 prog 41 5 5:=.of (n:=0) underlying41
instance:b4 prog 41 6 6:=.of (n:=0) underlying41
instance:b4 prog 41 7 7:=.of (n:=0) underlying41
instance:b4 prog 41 8 8:=.of (n:=0) underlying41
instance:iX prog 41 (.agg #[U,U,U,U,U,U,U,U,U]) [(0,1),(1,1),(2,1),(3,1),(4,1),(5,1),(6,1),(7,1),(8,1)]:=.of underlying41
instance:gO prog 42:=.of underlying42
instance:dh prog 42 1 8 (.int .i64 0):=.of
instance:gO prog 45:=.of underlying45
instance:dh prog 45 1 24 U:=.of
instance:fz prog 45 97:=⟨underlying45⟩
instance:hI prog 47 2:=.of underlying47
instance:dh prog 47 2 48 (.agg #[U,U]):=.of
instance:b4 prog 47 0 0:=.of (n:=0) underlying47
instance:b4 prog 47 1 1:=.of (n:=0) underlying47
instance:iX prog 47 (.agg #[U,U]) [(0,1),(1,1)]:=.of underlying47
instance:gO prog 51:=.of underlying51
instance:dh prog 51 1 24 U:=.of
instance:fz prog 51 33:=⟨underlying51⟩
instance:hI prog 53 2:=.of underlying53
instance:dh prog 53 2 48 (.agg #[U,U]):=.of
instance:b4 prog 53 0 0:=.of (n:=0) underlying53
instance:b4 prog 53 1 1:=.of (n:=0) underlying53
instance:hI prog 70 2:=.of underlying70
instance:dh prog 70 2 24 (.agg #[.string ByteArray.empty,.int .i64 0]):=.of
instance:b4 prog 70 0 0:=.of (n:=0) underlying70
instance:b4 prog 70 1 1:=.of (n:=0) underlying70
instance:iX prog 70 (.agg #[.string ByteArray.empty,.int .i64 0]) [(0,1),(1,1)]:=.of underlying70
instance:hI prog 72 5:=.of underlying72
instance:dh prog 72 5 56 (.agg #[.int .i64 0,.int .i64 0,.string ByteArray.empty,.string ByteArray.empty,.int .i64 0]):=.of
instance:b4 prog 72 0 0:=.of (n:=0) underlying72
instance:b4 prog 72 1 1:=.of (n:=0) underlying72
instance:b4 prog 72 2 2:=.of (n:=0) underlying72
instance:b4 prog 72 3 3:=.of (n:=1) underlying72
instance:gO prog 79:=.of underlying79
instance:dh prog 79 1 8 (.nilFunc):=.of
instance:gO prog 80:=.of underlying80
instance:fz prog 80 165:=⟨underlying80⟩
instance:gO prog 81:=.of underlying81
instance:dh prog 81 1 8 (.int .u64 0):=.of
instance:jw prog 81 fA WS:=⟨trivial⟩
instance:hI prog 83 4:=.of underlying83
instance:dh prog 83 4 32 (.agg #[.int .u64 0,.int .u64 0,.int .u64 0,.int .u64 0]):=.of
instance:Bi prog 83 4 81:=⟨underlying83⟩
instance:b4 prog 85 0 0:=.of (n:=11) underlying85
instance:b4 prog 85 1 12:=.of (n:=0) underlying85
instance:b4 prog 85 2 13:=.of (n:=0) underlying85
instance:b4 prog 85 3 14:=.of (n:=0) underlying85
instance:b4 prog 85 4 15:=.of (n:=3) underlying85
instance:b4 prog 85 5 19:=.of (n:=0) underlying85
instance:b4 prog 85 6 20:=.of (n:=0) underlying85
instance:b4 prog 85 7 21:=.of (n:=0) underlying85
instance:b4 prog 85 8 22:=.of (n:=0) underlying85
instance:b4 prog 85 9 23:=.of (n:=0) underlying85
instance:b4 prog 85 10 24:=.of (n:=0) underlying85
instance:b4 prog 85 11 25:=.of (n:=0) underlying85
instance:iX prog 85 (.agg #[.int .i64 0,.string ByteArray.empty,.string ByteArray.empty,U,U,.int .i64 0,.int .i64 0,.int .i64 0,.int .i64 0,.string ByteArray.empty,.int .i64 0,U,.int .i64 0,U,U,.int .u64 0,.int .u64 0,.int .u64 0,.int .u64 0,U,U,U,U,U,.int .i64 0,.bool false]) [(0,12),(12,1),(13,1),(14,1),(15,4),(19,1),(20,1),(21,1),(22,1),(23,1),(24,1),(25,1)]:=.of underlying85
instance:hI prog 87 2:=.of underlying87
instance:dh prog 87 2 16 (.agg #[.int .i64 0,.int .i64 0]):=.of
instance:b4 prog 87 0 0:=.of (n:=0) underlying87
instance:b4 prog 87 1 1:=.of (n:=0) underlying87
instance:iX prog 87 (.agg #[.int .i64 0,.int .i64 0]) [(0,1),(1,1)]:=.of underlying87
instance:jw prog 87 pv WM:=⟨trivial⟩
instance:gO prog 91:=.of underlying91
instance:dh prog 91 1 24 U:=.of
instance:fz prog 91 183:=⟨underlying91⟩
instance:hI prog 93 16:=.of underlying93
instance:dh prog 93 16 264 (.agg #[.int .i64 0,.string ByteArray.empty,.string ByteArray.empty,U,U,.int .i64 0,.int .i64 0,.int .i64 0,.int .i64 0,.string ByteArray.empty,.int .i64 0,U,U,U,U,U]):=.of
instance:b4 prog 93 2 13:=.of (n:=0) underlying93
instance:b4 prog 93 3 14:=.of (n:=0) underlying93
instance:iX prog 93 (.agg #[.int .i64 0,.string ByteArray.empty,.string ByteArray.empty,U,U,.int .i64 0,.int .i64 0,.int .i64 0,.int .i64 0,.string ByteArray.empty,.int .i64 0,U,U,U,U,U]) [(0,12),(12,1),(13,1),(14,1),(15,1)]:=.of underlying93
instance:hI prog 97 2:=.of underlying97
instance:dh prog 97 2 16 (.agg #[.int .i64 0,.int .i64 0]):=.of
instance:b4 prog 97 0 0:=.of (n:=0) underlying97
instance:b4 prog 97 1 1:=.of (n:=0) underlying97
instance:iX prog 97 (.agg #[.int .i64 0,.int .i64 0]) [(0,1),(1,1)]:=.of underlying97
instance:gO prog 101:=.of underlying101
instance:dh prog 101 1 8 (.pointer none):=.of
instance:gO prog 104:=.of underlying104
instance:dh prog 104 1 8 (.nilFunc):=.of
instance:gO prog 105:=.of underlying105
instance:fz prog 105 198:=⟨underlying105⟩
instance:gO prog 106:=.of underlying106
instance:fz prog 106 4:=⟨underlying106⟩
instance:b4 prog 108 0 0:=.of (n:=11) underlying108
instance:b4 prog 108 1 12:=.of (n:=8) underlying108
instance:b4 prog 108 2 21:=.of (n:=0) underlying108
instance:b4 prog 108 3 22:=.of (n:=0) underlying108
instance:b4 prog 108 4 23:=.of (n:=0) underlying108
instance:b4 prog 108 5 24:=.of (n:=0) underlying108
instance:b4 prog 108 6 25:=.of (n:=0) underlying108
instance:b4 prog 108 7 26:=.of (n:=0) underlying108
instance:b4 prog 108 8 27:=.of (n:=1) underlying108
instance:iX prog 108 (.agg #[.int .i64 0,.string ByteArray.empty,.string ByteArray.empty,U,U,.int .i64 0,.int .i64 0,.int .i64 0,.int .i64 0,.string ByteArray.empty,.int .i64 0,U,U,U,U,U,U,U,U,U,U,.bool false,U,U,U,U,U,U,U]) [(0,12),(12,9),(21,1),(22,1),(23,1),(24,1),(25,1),(26,1),(27,2)]:=.of underlying108
instance:gO prog 111:=.of underlying111
instance:fz prog 111 81:=⟨underlying111⟩
instance:hI prog 113 2:=.of underlying113
instance:dh prog 113 2 32 (.agg #[.int .i64 0,U]):=.of
instance:b4 prog 113 0 0:=.of (n:=0) underlying113
instance:b4 prog 113 1 1:=.of (n:=0) underlying113
instance:iX prog 113 (.agg #[.int .i64 0,U]) [(0,1),(1,1)]:=.of underlying113
instance:hI prog 115 18:=.of underlying115
instance:dh prog 115 18 288 (.agg #[.int .i64 0,U,.int .i64 0,U,.int .i64 0,U,.int .i64 0,U,.int .i64 0,U,.int .i64 0,U,.int .i64 0,U,.int .i64 0,U,.int .i64 0,U]):=.of
instance:b4 prog 115 0 0:=.of (n:=1) underlying115
instance:b4 prog 115 1 2:=.of (n:=1) underlying115
instance:b4 prog 115 2 4:=.of (n:=1) underlying115
instance:b4 prog 115 3 6:=.of (n:=1) underlying115
instance:b4 prog 115 4 8:=.of (n:=1) underlying115
instance:b4 prog 115 5 10:=.of (n:=1) underlying115
instance:b4 prog 115 6 12:=.of (n:=1) underlying115
instance:b4 prog 115 7 14:=.of (n:=1) underlying115
instance:b4 prog 115 8 16:=.of (n:=1) underlying115
instance:iX prog 115 (.agg #[.int .i64 0,U,.int .i64 0,U,.int .i64 0,U,.int .i64 0,U,.int .i64 0,U,.int .i64 0,U,.int .i64 0,U,.int .i64 0,U,.int .i64 0,U]) [(0,2),(2,2),(4,2),(6,2),(8,2),(10,2),(12,2),(14,2),(16,2)]:=.of underlying115
instance:hI prog 123 29:=.of underlying123
instance:dh prog 123 29 552 (.agg #[U,U,U,U,U,U,U,U,U,U,U,.int .i64 0,U,.int .i64 0,U,.int .i64 0,U,.int .i64 0,U,.int .i64 0,U,.int .i64 0,U,.int .i64 0,U,.int .i64 0,U,.int .i64 0,U]):=.of
instance:b4 prog 123 0 0:=.of (n:=8) underlying123
instance:b4 prog 123 1 9:=.of (n:=1) underlying123
instance:b4 prog 123 2 11:=.of (n:=17) underlying123
instance:iX prog 123 (.agg #[U,U,U,U,U,U,U,U,U,U,U,.int .i64 0,U,.int .i64 0,U,.int .i64 0,U,.int .i64 0,U,.int .i64 0,U,.int .i64 0,U,.int .i64 0,U,.int .i64 0,U,.int .i64 0,U]) [(0,9),(9,2),(11,18)]:=.of underlying123
instance:gO prog 127:=.of underlying127
instance:dh prog 127 1 24 U:=.of
instance:fz prog 127 133:=⟨underlying127⟩
instance:hI prog 129 26:=.of underlying129
instance:dh prog 129 26 432 (.agg #[.int .i64 0,.string ByteArray.empty,.string ByteArray.empty,U,U,.int .i64 0,.int .i64 0,.int .i64 0,.int .i64 0,.string ByteArray.empty,.int .i64 0,U,.int .i64 0,U,.int .u64 0,U,U,U,U,U,U,U,U,U,.bool false,.bool false]):=.of
instance:b4 prog 129 0 0:=.of (n:=11) underlying129
instance:b4 prog 129 1 12:=.of (n:=0) underlying129
instance:b4 prog 129 2 13:=.of (n:=0) underlying129
instance:b4 prog 129 3 14:=.of (n:=0) underlying129
instance:b4 prog 129 4 15:=.of (n:=8) underlying129
instance:b4 prog 129 5 24:=.of (n:=0) underlying129
instance:b4 prog 129 6 25:=.of (n:=0) underlying129
instance:iX prog 129 (.agg #[.int .i64 0,.string ByteArray.empty,.string ByteArray.empty,U,U,.int .i64 0,.int .i64 0,.int .i64 0,.int .i64 0,.string ByteArray.empty,.int .i64 0,U,.int .i64 0,U,.int .u64 0,U,U,U,U,U,U,U,U,U,.bool false,.bool false]) [(0,12),(12,1),(13,1),(14,1),(15,9),(24,1),(25,1)]:=.of underlying129
instance:hI prog 133 4:=.of underlying133
instance:dh prog 133 4 40 (.agg #[.int .i64 0,.int .i64 0,.string ByteArray.empty,.int .u64 0]):=.of
instance:b4 prog 133 0 0:=.of (n:=0) underlying133
instance:b4 prog 133 1 1:=.of (n:=0) underlying133
instance:b4 prog 133 2 2:=.of (n:=0) underlying133
instance:b4 prog 133 3 3:=.of (n:=0) underlying133
instance:iX prog 133 (.agg #[.int .i64 0,.int .i64 0,.string ByteArray.empty,.int .u64 0]) [(0,1),(1,1),(2,1),(3,1)]:=.of underlying133
instance:hI prog 138 6:=.of underlying138
instance:dh prog 138 6 48 (.agg #[.int .i64 0,.int .i64 0,.int .i64 0,.int .i64 0,.int .i64 0,.int .i64 0]):=.of
instance:b4 prog 138 0 0:=.of (n:=0) underlying138
instance:b4 prog 138 1 1:=.of (n:=0) underlying138
instance:b4 prog 138 2 2:=.of (n:=0) underlying138
instance:b4 prog 138 3 3:=.of (n:=0) underlying138
instance:b4 prog 138 4 4:=.of (n:=0) underlying138
instance:b4 prog 138 5 5:=.of (n:=0) underlying138
instance:iX prog 138 (.agg #[.int .i64 0,.int .i64 0,.int .i64 0,.int .i64 0,.int .i64 0,.int .i64 0]) [(0,1),(1,1),(2,1),(3,1),(4,1),(5,1)]:=.of underlying138
instance:jw prog 138 ec Hy:=⟨trivial⟩
instance:hI prog 140 3:=.of underlying140
instance:dh prog 140 3 24 (.agg #[.int .i64 0,.int .i64 0,.int .i64 0]):=.of
instance:b4 prog 140 0 0:=.of (n:=0) underlying140
instance:b4 prog 140 1 1:=.of (n:=0) underlying140
instance:b4 prog 140 2 2:=.of (n:=0) underlying140
instance:iX prog 140 (.agg #[.int .i64 0,.int .i64 0,.int .i64 0]) [(0,1),(1,1),(2,1)]:=.of underlying140
instance:jw prog 140 fE BB:=⟨trivial⟩
instance:hI prog 142 2:=.of underlying142
instance:dh prog 142 2 48 (.agg #[U,U]):=.of
instance:b4 prog 142 0 0:=.of (n:=0) underlying142
instance:b4 prog 142 1 1:=.of (n:=0) underlying142
instance:iX prog 142 (.agg #[U,U]) [(0,1),(1,1)]:=.of underlying142
instance:jg prog 156 (.int .u64):=⟨underlying156⟩
instance:jg prog 161 (.int .i64):=⟨underlying161⟩
instance:dh prog 161 1 8 (.int .i64 0):=.of
instance:gO prog 163:=.of underlying163
instance:dh prog 163 1 16 (.nilIface):=.of
instance:hI prog 165 5:=.of underlying165
instance:dh prog 165 5 48 (.agg #[.nilIface,.int .u64 0,.int .u64 0,.int .u64 0,.int .u64 0]):=.of
instance:b4 prog 165 0 0:=.of (n:=0) underlying165
instance:b4 prog 165 1 1:=.of (n:=3) underlying165
instance:iX prog 165 (.agg #[.nilIface,.int .u64 0,.int .u64 0,.int .u64 0,.int .u64 0]) [(0,1),(1,4)]:=.of underlying165
instance:dh prog 166 1 16 (.string ByteArray.empty):=.of
instance:gO prog 167:=.of underlying167
instance:dh prog 167 1 24 U:=.of
instance:fz prog 167 169:=⟨underlying167⟩
instance:jw prog 167 cD l6:=⟨trivial⟩
instance:hI prog 169 8:=.of underlying169
instance:dh prog 169 8 80 (.agg #[.int .i64 0,.int .i64 0,.int .i64 0,.int .i64 0,.int .i64 0,.string ByteArray.empty,.string ByteArray.empty,.int .i64 0]):=.of
instance:b4 prog 169 0 0:=.of (n:=0) underlying169
instance:b4 prog 169 1 1:=.of (n:=0) underlying169
instance:b4 prog 169 2 2:=.of (n:=0) underlying169
instance:b4 prog 169 3 3:=.of (n:=0) underlying169
instance:b4 prog 169 4 4:=.of (n:=0) underlying169
instance:b4 prog 169 5 5:=.of (n:=0) underlying169
instance:b4 prog 169 6 6:=.of (n:=0) underlying169
instance:b4 prog 169 7 7:=.of (n:=0) underlying169
instance:iX prog 169 (.agg #[.int .i64 0,.int .i64 0,.int .i64 0,.int .i64 0,.int .i64 0,.string ByteArray.empty,.string ByteArray.empty,.int .i64 0]) [(0,1),(1,1),(2,1),(3,1),(4,1),(5,1),(6,1),(7,1)]:=.of underlying169
instance:dh prog 176 1 8 (.int .i64 0):=.of
instance:hI prog 178 2:=.of underlying178
instance:dh prog 178 2 16 (.agg #[.int .i64 0,.int .i64 0]):=.of
instance:b4 prog 178 0 0:=.of (n:=0) underlying178
instance:b4 prog 178 1 1:=.of (n:=0) underlying178
instance:iX prog 178 (.agg #[.int .i64 0,.int .i64 0]) [(0,1),(1,1)]:=.of underlying178
instance:jw prog 178 bz DV:=⟨trivial⟩
instance:gO prog 181:=.of underlying181
instance:fz prog 181 70:=⟨underlying181⟩
instance:hI prog 183 2:=.of underlying183
instance:dh prog 183 2 32 (.agg #[U,.int .i64 0]):=.of
instance:b4 prog 183 0 0:=.of (n:=0) underlying183
instance:b4 prog 183 1 1:=.of (n:=0) underlying183
instance:iX prog 183 (.agg #[U,.int .i64 0]) [(0,1),(1,1)]:=.of underlying183
instance:gO prog 198:=.of underlying198
instance:dh prog 198 1 24 U:=.of
instance:fz prog 198 201:=⟨underlying198⟩
instance:jw prog 198 cD l6:=⟨trivial⟩
instance:hI prog 201 3:=.of underlying201
instance:dh prog 201 3 24 (.agg #[.int .i64 0,.int .i64 0,.int .i64 0]):=.of
instance:b4 prog 201 0 0:=.of (n:=0) underlying201
instance:b4 prog 201 1 1:=.of (n:=0) underlying201
instance:b4 prog 201 2 2:=.of (n:=0) underlying201
instance:iX prog 201 (.agg #[.int .i64 0,.int .i64 0,.int .i64 0]) [(0,1),(1,1),(2,1)]:=.of underlying201
instance:fz prog 214 79:=⟨underlying214⟩
instance:dh prog 238 3 24 (.agg #[.int .i64 0,.int .i64 0,.int .i64 0]):=.of
instance:b4 prog 238 0 0:=.of (n:=0) underlying238
instance:b4 prog 238 1 1:=.of (n:=0) underlying238
instance:b4 prog 238 2 2:=.of (n:=0) underlying238
instance:iX prog 238 (.agg #[.int .i64 0,.int .i64 0,.int .i64 0]) [(0,1),(1,1),(2,1)]:=.of underlying238
instance:hI prog 256 5:=.of underlying256
instance:dh prog 256 5 48 (.agg #[.int .i64 0,.string ByteArray.empty,.int .i64 0,.int .i64 0,.int .i64 0]):=.of
instance:b4 prog 256 0 0:=.of (n:=0) underlying256
instance:b4 prog 256 1 1:=.of (n:=0) underlying256
instance:b4 prog 256 2 2:=.of (n:=0) underlying256
instance:b4 prog 256 3 3:=.of (n:=0) underlying256
instance:iX prog 256 (.agg #[.int .i64 0,.string ByteArray.empty,.int .i64 0,.int .i64 0,.int .i64 0]) [(0,1),(1,1),(2,1),(3,1),(4,1)]:=.of underlying256
instance:b4 prog 262 0 0:=.of (n:=0) underlying262
instance:b4 prog 262 1 1:=.of (n:=0) underlying262
instance:b4 prog 262 2 2:=.of (n:=0) underlying262
instance:b4 prog 262 3 3:=.of (n:=0) underlying262
instance:b4 prog 262 4 4:=.of (n:=0) underlying262
instance:b4 prog 262 5 5:=.of (n:=0) underlying262
instance:b4 prog 262 6 6:=.of (n:=0) underlying262
instance:iX prog 262 (.agg #[.bool false,.int .i64 0,U,U,U,U,U]) [(0,1),(1,1),(2,1),(3,1),(4,1),(5,1),(6,1)]:=.of underlying262
instance:gO prog 264:=.of underlying264
instance:dh prog 264 1 24 U:=.of
instance:fz prog 264 267:=⟨underlying264⟩
instance:b4 prog 266 0 0:=.of (n:=0) underlying266
instance:b4 prog 266 1 1:=.of (n:=0) underlying266
instance:b4 prog 266 2 2:=.of (n:=0) underlying266
instance:b4 prog 266 3 3:=.of (n:=0) underlying266
instance:b4 prog 266 4 4:=.of (n:=0) underlying266
instance:b4 prog 266 5 5:=.of (n:=0) underlying266
instance:iX prog 266 (.agg #[.int .i64 0,U,U,U,U,U]) [(0,1),(1,1),(2,1),(3,1),(4,1),(5,1)]:=.of underlying266
instance:gO prog 267:=.of underlying267
instance:dh prog 267 1 8 (.pointer none):=.of
instance:b4 prog 269 0 0:=.of (n:=0) underlying269
instance:b4 prog 271 0 0:=.of (n:=1) underlying271
instance:b4 prog 271 1 2:=.of (n:=0) underlying271
instance:iX prog 271 (.agg #[U,.int .i64 0,U]) [(0,2),(2,1)]:=.of underlying271
instance:gO prog 298:=.of underlying298
instance:fz prog 300 113:=⟨underlying300⟩
instance:iX prog 327 (.agg #[]) []:=.of underlying327
instance:fz prog 350 354:=⟨underlying350⟩
instance:gO prog 352:=.of underlying352
instance:hI prog 354 2:=.of underlying354
instance:dh prog 354 2 16 (.agg #[.int .i64 0,.nilFunc]):=.of
instance:b4 prog 354 0 0:=.of (n:=0) underlying354
instance:b4 prog 354 1 1:=.of (n:=0) underlying354
instance:iX prog 354 (.agg #[.int .i64 0,.nilFunc]) [(0,1),(1,1)]:=.of underlying354
instance:b4 prog 359 0 0:=.of (n:=7) underlying359
instance:b4 prog 359 1 8:=.of (n:=1) underlying359
instance:b4 prog 359 2 10:=.of (n:=1) underlying359
instance:b4 prog 359 3 12:=.of (n:=0) underlying359
instance:b4 prog 359 4 13:=.of (n:=1) underlying359
instance:b4 prog 359 5 15:=.of (n:=4) underlying359
instance:iX prog 359 (.agg #[.int .i64 0,.int .i64 0,.int .i64 0,.int .i64 0,.int .i64 0,.string ByteArray.empty,.string ByteArray.empty,.int .i64 0,.string ByteArray.empty,.int .i64 0,.string ByteArray.empty,.int .i64 0,.int .i64 0,U,.int .i64 0,.int .i64 0,.string ByteArray.empty,.int .i64 0,.int .i64 0,.int .i64 0]) [(0,8),(8,2),(10,2),(12,1),(13,2),(15,5)]:=.of underlying359
instance:Bi prog 424 64 5:=⟨underlying424⟩
instance:aS prog 5:=.of func5
instance:aS prog 6:=.of func6
instance:aS prog 7:=.of func7
instance:aS prog 8:=.of func8
instance:aS prog 9:=.of func9
instance:aS prog 10:=.of func10
instance:aS prog 11:=.of func11
instance:aS prog 12:=.of func12
instance:aS prog 13:=.of func13
instance:aS prog 14:=.of func14
instance:aS prog 15:=.of func15
instance:aS prog 19:=.of func19
instance:aS prog 20:=.of func20
instance:aS prog 21:=.of func21
instance:aS prog 22:=.of func22
instance:aS prog 23:=.of func23
instance:aS prog 24:=.of func24
instance:aS prog 25:=.of func25
instance:aS prog 26:=.of func26
instance:aS prog 27:=.of func27
instance:aS prog 30:=.of func30
instance:aS prog 31:=.of func31
instance:aS prog 32:=.of func32
instance:aS prog 33:=.of func33
instance:aS prog 34:=.of func34
instance:aS prog 35:=.of func35
instance:aS prog 36:=.of func36
instance:aS prog 37:=.of func37
instance:aS prog 38:=.of func38
instance:aS prog 39:=.of func39
instance:aS prog 40:=.of func40
instance:aS prog 41:=.of func41
instance:aS prog 42:=.of func42
instance:aS prog 43:=.of func43
instance:aS prog 44:=.of func44
instance:aS prog 45:=.of func45
instance:aS prog 46:=.of func46
instance:aS prog 47:=.of func47
instance:aS prog 48:=.of func48
instance:aS prog 49:=.of func49
instance:aS prog 50:=.of func50
instance:aS prog 51:=.of func51
instance:aS prog 58:=.of func58
instance:aS prog 59:=.of func59
instance:aS prog 60:=.of func60
instance:aS prog 61:=.of func61
instance:aS prog 62:=.of func62
instance:aS prog 63:=.of func63
instance:aS prog 64:=.of func64
instance:aS prog 65:=.of func65
instance:aS prog 66:=.of func66
instance:aS prog 67:=.of func67
instance:aS prog 68:=.of func68
instance:aS prog 69:=.of func69
instance:aS prog 70:=.of func70
instance:aS prog 71:=.of func71
instance:aS prog 72:=.of func72
instance:aS prog 73:=.of func73
instance:aS prog 74:=.of func74
instance:aS prog 75:=.of func75
instance:aS prog 76:=.of func76
instance:aS prog 77:=.of func77
instance:aS prog 83:=.of func83
instance:aS prog 84:=.of func84
instance:aS prog 85:=.of func85
instance:aS prog 86:=.of func86
instance:aS prog 87:=.of func87
instance:aS prog 88:=.of func88
instance:aS prog 89:=.of func89
instance:aS prog 90:=.of func90
instance:aS prog 91:=.of func91
instance:aS prog 92:=.of func92
instance:aS prog 93:=.of func93
instance:aS prog 94:=.of func94
instance:aS prog 95:=.of func95
instance:aS prog 96:=.of func96
instance:aS prog 97:=.of func97
instance:aS prog 98:=.of func98
instance:aS prog 99:=.of func99
instance:aS prog 100:=.of func100
instance:aS prog 101:=.of func101
instance:aS prog 102:=.of func102
instance:aS prog 103:=.of func103
instance:aS prog 104:=.of func104
instance:aS prog 105:=.of func105
instance:aS prog 106:=.of func106
instance:aS prog 107:=.of func107
instance:aS prog 108:=.of func108
instance:aS prog 109:=.of func109
instance:aS prog 110:=.of func110
instance:aS prog 111:=.of func111
instance:aS prog 112:=.of func112
instance:aS prog 113:=.of func113
instance:aS prog 114:=.of func114
instance:aS prog 115:=.of func115
instance:aS prog 116:=.of func116
instance:aS prog 117:=.of func117
instance:aS prog 118:=.of func118
instance:aS prog 119:=.of func119
instance:aS prog 120:=.of func120
instance:aS prog 129:=.of func129
instance:aS prog 130:=.of func130
instance:aS prog 136:=.of func136
instance:aS prog 137:=.of func137
instance:aS prog 138:=.of func138
instance:aS prog 139:=.of func139
instance:aS prog 140:=.of func140
instance:aS prog 141:=.of func141
instance:aS prog 142:=.of func142
instance:aS prog 143:=.of func143
instance:aS prog 144:=.of func144
instance:aS prog 145:=.of func145
instance:aS prog 146:=.of func146
instance:aS prog 147:=.of func147
instance:aS prog 149:=.of func149
instance:aS prog 150:=.of func150
instance:aS prog 151:=.of func151
instance:aS prog 152:=.of func152
instance:aS prog 153:=.of func153
instance:aS prog 154:=.of func154
instance:aS prog 155:=.of func155
instance:aS prog 161:=.of func161
instance:aS prog 162:=.of func162
instance:aS prog 163:=.of func163
instance:aS prog 164:=.of func164
instance:aS prog 165:=.of func165
instance:aS prog 166:=.of func166
instance:aS prog 167:=.of func167
instance:aS prog 168:=.of func168
instance:aS prog 169:=.of func169
instance:aS prog 170:=.of func170
instance:aS prog 171:=.of func171
instance:aS prog 172:=.of func172
instance:aS prog 173:=.of func173
instance:aS prog 174:=.of func174
instance:aS prog 175:=.of func175
instance:aS prog 176:=.of func176
instance:aS prog 177:=.of func177
instance:aS prog 178:=.of func178
instance:aS prog 179:=.of func179
instance:aS prog 180:=.of func180
instance:aS prog 181:=.of func181
instance:aS prog 182:=.of func182
instance:aS prog 183:=.of func183
instance:aS prog 184:=.of func184
instance:aS prog 185:=.of func185
instance:aS prog 186:=.of func186
instance:aS prog 187:=.of func187
instance:aS prog 188:=.of func188
instance:aS prog 189:=.of func189
instance:aS prog 190:=.of func190
instance:aS prog 191:=.of func191
instance:aS prog 192:=.of func192
instance:aS prog 193:=.of func193
instance:aS prog 194:=.of func194
instance:aS prog 195:=.of func195
instance:aS prog 196:=.of func196
instance:aS prog 197:=.of func197
instance:aS prog 198:=.of func198
instance:aS prog 199:=.of func199
instance:aS prog 200:=.of func200
instance:aS prog 201:=.of func201
instance:aS prog 202:=.of func202
instance:aS prog 203:=.of func203
instance:aS prog 204:=.of func204
instance:aS prog 205:=.of func205
instance:aS prog 206:=.of func206
instance:aS prog 207:=.of func207
instance:aS prog 208:=.of func208
instance:aS prog 209:=.of func209
instance:aS prog 221:=.of func221
instance:aS prog 222:=.of func222
instance:aS prog 223:=.of func223
instance:aS prog 224:=.of func224
instance:aS prog 225:=.of func225
instance:aS prog 226:=.of func226
instance:aS prog 227:=.of func227
instance:aS prog 228:=.of func228
instance:aS prog 229:=.of func229
instance:aS prog 230:=.of func230
instance:aS prog 234:=.of func234
instance:aS prog 247:=.of func247
instance:aS prog 248:=.of func248
instance:aS prog 249:=.of func249
instance:aS prog 250:=.of func250
instance:aS prog 251:=.of func251
instance:aS prog 252:=.of func252
instance:aS prog 253:=.of func253
instance:aS prog 254:=.of func254
instance:aS prog 255:=.of func255
instance:aS prog 256:=.of func256
instance:aS prog 257:=.of func257
instance:aS prog 258:=.of func258
instance:aS prog 259:=.of func259
instance:aS prog 260:=.of func260
instance:aS prog 261:=.of func261
instance:aS prog 262:=.of func262
instance:aS prog 263:=.of func263
instance:aS prog 264:=.of func264
instance:aS prog 265:=.of func265
instance:aS prog 266:=.of func266
instance:aS prog 267:=.of func267
instance:aS prog 268:=.of func268
instance:aS prog 269:=.of func269
instance:aS prog 271:=.of func271
instance:aS prog 272:=.of func272
instance:aS prog 273:=.of func273
instance:aS prog 274:=.of func274
instance:aS prog 275:=.of func275
instance:aS prog 276:=.of func276
instance:aS prog 277:=.of func277
instance:aS prog 278:=.of func278
instance:aS prog 279:=.of func279
instance:aS prog 280:=.of func280
instance:aS prog 281:=.of func281
instance:aS prog 282:=.of func282
instance:aS prog 283:=.of func283
instance:aS prog 284:=.of func284
instance:aS prog 285:=.of func285
instance:aS prog 286:=.of func286
instance:aS prog 287:=.of func287
instance:aS prog 288:=.of func288
instance:aS prog 289:=.of func289
instance:aS prog 290:=.of func290
instance:aS prog 291:=.of func291
instance:aS prog 292:=.of func292
instance:aS prog 297:=.of func297
instance:aS prog 298:=.of func298
instance:aS prog 299:=.of func299
instance:aS prog 300:=.of func300
instance:aS prog 326:=.of func326
instance:aS prog 327:=.of func327
instance:aS prog 328:=.of func328
instance:aS prog 329:=.of func329
instance:aS prog 330:=.of func330
instance:aS prog 331:=.of func331
instance:aS prog 332:=.of func332
instance:aS prog 333:=.of func333
instance:aS prog 334:=.of func334
instance:aS prog 335:=.of func335
instance:aS prog 336:=.of func336
instance:aS prog 337:=.of func337
instance:aS prog 338:=.of func338
instance:aS prog 339:=.of func339
instance:aS prog 340:=.of func340
instance:aS prog 341:=.of func341
instance:aS prog 342:=.of func342
instance:aS prog 344:=.of func344
instance:aS prog 345:=.of func345
instance:aS prog 346:=.of func346
instance:aS prog 347:=.of func347
instance:aS prog 348:=.of func348
instance:aS prog 349:=.of func349
instance:aS prog 350:=.of func350
instance:aS prog 351:=.of func351
instance:aS prog 352:=.of func352
instance:aS prog 353:=.of func353
instance:aS prog 354:=.of func354
instance:aS prog 355:=.of func355
instance:aS prog 360:=.of func360
instance:aS prog 361:=.of func361
instance:aS prog 362:=.of func362
instance:aS prog 363:=.of func363
instance:aS prog 374:=.of func374
instance:aS prog 375:=.of func375
instance:aS prog 376:=.of func376
instance:aS prog 377:=.of func377
instance:aS prog 378:=.of func378
instance:aS prog 379:=.of func379
instance:aS prog 389:=.of func389
instance:aS prog 390:=.of func390
instance:aS prog 392:=.of func392
instance:aS prog 393:=.of func393
instance:aS prog 397:=.of func397
instance:aS prog 402:=.of func402
instance:aS prog 403:=.of func403
instance:aS prog 421:=.of func421
instance:aS prog 422:=.of func422
instance:aS prog 423:=.of func423
instance:aS prog 426:=.of func426
theorem mixed:prog.follows .mixedOrders=true:=by kernel_rfl
end Go.Proofs.bK
namespace Go.cc
open Go Go.RowKit
section
variable {P:Program} {ops:Array Oper} {Q:Exit->Act->World->Prop} {N:Nat} {tm:dU} {A:World->Prop} {listed:Array Bool} {S:World->Prop} {order:List Nat} {fuel:Nat}
def uX(P:Program)(ops:Array Oper)(Q:Exit->Act->World->Prop)(fuel:Nat)(listed:Array Bool)(S:World->Prop)(i:Nat):Act->World->Prop:=
 λa w=>wx .any ops listed->i∈Region.ready .any ops listed->wpOp P ops Q i (λdI I=>(A7 .any ops i=true/\Region.ready .any ops (listed.setIfInBounds i true)=[]/\Q .normal dI I)\/ ∃S',((∀w,S' w->S w)\/A8 .any ops i listed=true)/\S' I/\A9 P .any ops Q fuel (listed.setIfInBounds i true) S' dI I) a w
theorem nn(i:Nat) (j:Nat) (h1:cL N (uX P ops Q fuel listed S i) tm A) (h2:cL N (uX P ops Q fuel listed S j) tm A) (aH:Region.ready .any ops listed=[i,j]:=by kernel_rfl):cL N (hs P ops Q (fuel+1) listed S order) tm A:=by
 unfold cL hs at *;intro a w ag hw eE _;refine⟨λh=>(by rw[h]at aH;cases aH),λk hk=>?_⟩;have fe:=hk;rw[aH]at hk;simp only[amG,aoH,or_false]at hk;rcases hk with rfl | rfl
 ·exact h1 a w ag hw eE fe
 exact h2 a w ag hw eE fe
theorem Fl(i j l:Nat)(aH:Region.ready .any ops listed=[i,j,l]:=by kernel_rfl)(h1:cL N (uX P ops Q fuel listed S i) tm A)(h2:cL N (uX P ops Q fuel listed S j) tm A)(h3:cL N (uX P ops Q fuel listed S l) tm A):cL N (hs P ops Q (fuel+1) listed S order) tm A:=by
 unfold cL hs at *;intro a w ag hw eE _;refine⟨λh=>(by rw[h]at aH;cases aH),λk hk=>?_⟩;have fe:=hk;rw[aH]at hk;simp only[amG,aoH,or_false]at hk;rcases hk with rfl | rfl | rfl
 ·exact h1 a w ag hw eE fe
 ·exact h2 a w ag hw eE fe
 exact h3 a w ag hw eE fe
theorem cB{i:Nat}{dst:Option Tmp}{op:Op}{ty:TypeId}{pos:String}{cR:Array Edge}(order:List Nat)(S':World->Prop)(hi:ops[i]?=some ⟨dst,op,ty,pos,cR,none⟩:=by rfl) (qy:∀w,S' w->S w:=by first | exact λ_ h=>h | exact λ_ h=>h.tail | exact eS) (h:gq P N op dst Q tm A (λdI I=>S' I/\hs P ops Q fuel (listed.setIfInBounds i true) S' order dI I)):cL N (uX P ops Q fuel listed S i) tm A:=by unfold cL uX;intro a w ag hw eE hk;unfold wpOp;simp only[hi,Region.wanted];refine .inl (Oper.wp_mono (λdI I cr=>?_) ((by unfold gq at h;exact h a w ty pos cR none ag hw)));obtain⟨h1,h2⟩:=cr;unfold hs at h2;exact .inr ⟨S',.inl qy,h1,h2 (wJ eE hk) h1⟩
theorem eo(i:Nat) (h1:cL N (uX P ops Q fuel listed S i) tm A) (aH:Region.ready .any ops listed=[i]:=by kernel_rfl):cL N (hs P ops Q (fuel+1) listed S order) tm A:=by unfold cL hs at *;intro a w ag hw eE _;refine⟨λh=>(by rw[h]at aH;cases aH),λk hk=>?_⟩;have fe:=hk;rw[aH]at hk;simp only[amG,aoH,or_false]at hk;subst hk;exact h1 a w ag hw eE fe
theorem OK{op:Op}{c:Bool}{u:Value}(ai:c=false):uV P N op tm A c u:=by unfold uV;intro h;rw[ai]at h;cases h
theorem abb{i j g:Nat}{want b:Bool}{dst:Option Tmp}{op:Op}{ty:TypeId}{pos:String}{cR:Array Edge}(S':World->Prop)(hi:ops[i]?=some ⟨dst,op,ty,pos,cR,some (j,want)⟩:=by rfl)(aH:Region.ready .any ops listed=[i]:=by kernel_rfl) (ad:(ops[j]?).bind (·.dst)=some g:=by rfl) (ay:jq tm g=some (true,.bool b):=by rfl) (hb:b=want) (qy:∀w,S' w->S w:=by first | exact λ_ h=>h | exact λ_ h=>h.tail | exact eS) (h:gq P N op dst Q tm A (λdI I=>S' I/\hs P ops Q fuel (listed.setIfInBounds i true) S' order dI I)):cL N (hs P ops Q (fuel+1) listed S (i::order)) tm A:=by unfold cL hs;intro a w ag hw eE _;have aR:=Ba (ops:=ops) ag ad ay;refine⟨λh=>(by rw[h]at aH;cases aH),λk hk=>?_⟩;have wX:=wJ eE hk;rw[aH,amv]at hk;subst hk;unfold wpOp;simp only[hi,Region.wanted,aR,if_true,hb,beq_self_eq_true];refine .inl (Oper.wp_mono (λdI I cr=>?_) ((by unfold gq at h;exact h a w ty pos cR _ ag hw)));obtain⟨h1,h2⟩:=cr;unfold hs at h2;exact .inr ⟨S',.inl qy,h1,h2 wX h1⟩
end
theorem h7{P:Program}{N:Nat}{Q pU:Exit->Act->World->Prop}{tm:dU}{A:World->Prop}{x y:Code}{eT:Type}(dX:eT->Prop)(T:eT->dU)(bN:eT->World->Prop) (h:fh P N x (Exit.then (mn N dX T bN) pU) tm A) (aR:∀s,dX s->fh P N y Q (T s) (bN s)):fh P N x (Exit.then (λa w=>y.wp P Q a w) pU) tm A:=by
 unfold fh cL at *;intro a w ag hw;refine wp_mono (h a w ag hw) λe dI I q=>?_;cases e with
 | normal=>have q':mn N dX T bN dI I:=q;unfold mn at q';obtain⟨s,ia,cn,fi⟩:=q';exact aR s ia dI I cn fi
 | _=>exact q
attribute [irreducible] uX
section
variable {P:Program} {N:Nat} {tm:dU} {A:World->Prop} {c:Bool}
theorem oz{t e sz b len dc off n:Nat}{z:Value}{k:IntKind}{x y:Operand}[aE:Bi P t len e][cP:dh P e sz b z](hx:bo tm c x (.pointer (some ⟨dc,off,none⟩)))(aR:bo tm c y (.int k (n:Int))) (hb:c=true->n<len):bR P N (.indexAddr t x y) tm A c (.pointer (some ⟨dc,off+n* sz,none⟩)):=by
 unfold bR;intro ai a w _ _ _ _ _ cn hw;simp only[execOp,aR.get cn ai,hx.get cn ai];refine hG ?_;obtain⟨i,hi,ma,_⟩:=cP.h;subst ma;have h0:(0:Int)<=(n:Int)/\(n:Int)<len:=⟨by omega,by have:=hb ai;omega⟩;show(Instr.indexAt t (.pointer (some ⟨dc,off,none⟩)) (.int k (n:Int))).run P w=_;rcases Nat.eq_zero_or_pos n with rfl | bh
 ·simp[Instr.indexAt,asIntOf,run_underlying aE.h,Instr.sureAddr,hb ai,sizeOf,typeInfo,hi,Addr.add]
 by_cases ag:i.size=0
 ·simp[Instr.indexAt,asIntOf,run_underlying aE.h,Instr.sureAddr,hb ai,sizeOf,typeInfo,hi,Addr.add,ag]
 simp[Instr.indexAt,asIntOf,run_underlying aE.h,Instr.sureAddr,hb ai,sizeOf,typeInfo,hi,Addr.add,ag,show ¬n=0 from by omega]
theorem nX{op:Op}{v dL:Value}(h:bR P N op tm A c dL)(e:dL=v):bR P N op tm A c v:=e▸h
theorem Ay{eT:Type}{A:eT->World->Prop}{op:Op}{v:Value}(h:∀s,bR P N op tm (A s) c v):bR P N op tm (λw=>∃s,A s w) c v:=by unfold bR;intro ai a w d ty pos cR g ag ⟨s,hw⟩;have cr:=h s;unfold bR at cr;exact cr ai a w d ty pos cR g ag hw
theorem Sn{aQ:Type}{S:Nat->Prop}{B:World}{bs:List dr}{H:List aA}{enc:aQ->List Value}{sz t e b:Nat}{z v:Value}{l:Int}{xs:List aQ}{x y:Operand}[aE:fz P t e][cP:dh P e sz b z] (hx:bo tm c x v:=by exact b7) (aR:bo tm c y (.int .i64 l):=by exact b7) (h:aV S B enc sz v xs) (h0:0<=l) (hb:l.toNat<=xs.length):bR P N (.slice t x (some y) none none) tm (Mem bs H) c (gU sz l.toNat xs.length v):=by obtain⟨m,rfl⟩:∃m:Nat,l=m:=⟨l.toNat,by omega⟩;exact KL hx aR h (λ_=>by simpa using hb)
end
end Go.cc
