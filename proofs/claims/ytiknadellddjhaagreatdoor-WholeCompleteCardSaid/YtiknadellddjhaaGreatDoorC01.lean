/- Lemmas for the law WholeComplete. -/
import Derived.Test.YtiknadellddjhaaGreatDoorProg
import Derived.KernelRfl
import Derived.Test.YtiknadellddjhaaGreatDoorC00
set_option linter.all false
open Go.Proofs.Tryz
open Go Go.b9
namespace Go.b9
open Go
def ja:Value->Int | .int _ n=>n | _=>0
def aiY:Value->Bool | .bool b=>b | _=>false
def BD:Value->ByteArray | .string s=>s | _=>ByteArray.empty
def a7(n:Int):List Value:=[.int .i64 n]
def oE:List Value->Int | [v]=>ja v | _=>0
def fJ(x:BitVec 64):List Value:=[u64 x]
def UY(v:Value):BitVec 64:=BitVec.ofInt 64 (ja v)
def X4:List Value->BitVec 64 | [v]=>UY v | _=>0
def kQ(b:Bool):List Value:=[.bool b]
def Ab:List Value->Bool | [v]=>aiY v | _=>false
def dU(s:ByteArray):List Value:=[.string s]
def X2:List Value->ByteArray | [v]=>BD v | _=>ByteArray.empty
def ct(v:Value):List Value:=[v]
def kv:List Value->Value | [v]=>v | _=>.nilIface
def Ah(n:Nat):List Value:=[.int .u8 (n:Int)]
structure ca where
 A:Int
 B:Int
 deriving DecidableEq,Inhabited
def bB(p:ca):List Value:=[.int .i64 p.A,.int .i64 p.B]
def EA:List Value->ca | [a,b]=>⟨ja a,ja b⟩ | _=>⟨0,0⟩
instance:eg a7 1:=⟨λ_=>rfl,by decide⟩
instance:eg fJ 1:=⟨λ_=>rfl,by decide⟩
instance:eg kQ 1:=⟨λ_=>rfl,by decide⟩
instance:eg dU 1:=⟨λ_=>rfl,by decide⟩
instance:eg ct 1:=⟨λ_=>rfl,by decide⟩
instance:eg Ah 1:=⟨λ_=>rfl,by decide⟩
instance:eg bB 2:=⟨λ_=>rfl,by decide⟩
instance:nR a7 (λ_=>True):=⟨λ_ _ u hu=>by simp[a7]at hu;subst hu;rfl⟩
instance:nR dU (λ_=>True):=⟨λ_ _ u hu=>by simp[dU]at hu;subst hu;rfl⟩
instance:nR ct (λv=>v.oneCell'=true):=⟨λ_ h u hu=>by simp[ct]at hu;subst hu;exact h⟩
instance:nR bB (λ_=>True):=⟨λ_ _ u hu=>by simp[bB]at hu;rcases hu with rfl | rfl<;>rfl⟩
structure eV where
 aH:Int
 place:Int
 dir:Int
 loc:Int
 value:Int
 bo:Int
 deriving DecidableEq,Inhabited
def ef(e:eV):List Value:=[.int .i64 e.aH,.int .i64 e.place,.int .i64 e.dir,.int .i64 e.loc,.int .i64 e.value,.int .i64 e.bo]
def H5:List Value->eV | [a,b,c,d,e,f]=>⟨ja a,ja b,ja c,ja d,ja e,ja f⟩ | _=>⟨0,0,0,0,0,0⟩
structure nx where
 aH:Int
 place:Int
 dA:Int
 deriving DecidableEq,Inhabited
def fE(e:nx):List Value:=[.int .i64 e.aH,.int .i64 e.place,.int .i64 e.dA]
def Ch:List Value->nx | [a,b,c]=>⟨ja a,ja b,ja c⟩ | _=>⟨0,0,0⟩
structure cK where
 aH:Int
 bo:Int
 loc:ByteArray
 deriving DecidableEq,Inhabited
def eH(e:cK):List Value:=[.int .i64 e.aH,.int .i64 e.bo,.string e.loc]
def X3:List Value->cK | [a,b,c]=>⟨ja a,ja b,BD c⟩ | _=>⟨0,0,ByteArray.empty⟩
structure gl where
 kind:Int
 n:Int
 deriving DecidableEq,Inhabited
def oF(e:gl):List Value:=[.int .i64 e.kind,.int .i64 e.n]
def XZ:List Value->gl | [a,b]=>⟨ja a,ja b⟩ | _=>⟨0,0⟩
instance:eg ef 6:=⟨λ_=>rfl,by decide⟩
instance:eg fE 3:=⟨λ_=>rfl,by decide⟩
instance:eg eH 3:=⟨λ_=>rfl,by decide⟩
instance:eg oF 2:=⟨λ_=>rfl,by decide⟩
instance:nR ef (λ_=>True):=⟨λ_ _ u hu=>by simp[ef]at hu;rcases hu with rfl | rfl | rfl | rfl | rfl | rfl<;>rfl⟩
instance:nR fE (λ_=>True):=⟨λ_ _ u hu=>by simp[fE]at hu;rcases hu with rfl | rfl | rfl<;>rfl⟩
instance:nR eH (λ_=>True):=⟨λ_ _ u hu=>by simp[eH]at hu;rcases hu with rfl | rfl | rfl<;>rfl⟩
end Go.b9
namespace Go.Proofs.bA
instance:jr prog 3 (.int .i64):=⟨underlying3⟩
instance:gS prog 3:=.of underlying3
instance:dn prog 3 1 8 (.int .i64 0):=.of
instance:jo prog 3 a7 oE:=⟨trivial⟩
instance:jr prog 4 (.bool):=⟨underlying4⟩
instance:gS prog 4:=.of underlying4
instance:dn prog 4 1 1 (.bool false):=.of
instance:jr prog 5 (.int .u8):=⟨underlying5⟩
instance:gS prog 5:=.of underlying5
instance:dn prog 5 1 1 (.int .u8 0):=.of
instance:jr prog 9 (.string):=⟨underlying9⟩
instance:gS prog 9:=.of underlying9
instance:dn prog 9 1 16 (.string ByteArray.empty):=.of
instance:jo prog 9 dU X2:=⟨trivial⟩
instance:jr prog 21 (.int .i32):=⟨underlying21⟩
instance:gS prog 22:=.of underlying22
instance:fD prog 22 72:=⟨underlying22⟩
instance:gS prog 23:=.of underlying23
instance:dn prog 23 1 24 aa:=.of
instance:fD prog 23 167:=⟨underlying23⟩
instance:ij prog 25 3:=.of underlying25
instance:dn prog 25 3 32 (.agg #[.int .i64 0,.int .i64 0,.string ByteArray.empty]):=.of
instance:ch prog 25 0 0:=.of (n:=0) underlying25
instance:ch prog 25 1 1:=.of (n:=0) underlying25
instance:ch prog 25 2 2:=.of (n:=0) underlying25
instance:je prog 25 (.agg #[.int .i64 0,.int .i64 0,.string ByteArray.empty]) [(0,1),(1,1),(2,1)]:=.of underlying25
instance:jo prog 25 eH X3:=⟨trivial⟩
instance:gS prog 26:=.of underlying26
instance:fD prog 26 28:=⟨underlying26⟩
instance:ij prog 28 6:=.of underlying28
instance:dn prog 28 6 72 (.agg #[.int .i64 0,.int .i64 0,.int .i64 0,.string ByteArray.empty,.int .i64 0,aa]):=.of
instance:ch prog 28 0 0:=.of (n:=0) underlying28
instance:ch prog 28 1 1:=.of (n:=2) underlying28
instance:ch prog 28 2 4:=.of (n:=0) underlying28
instance:ch prog 28 3 5:=.of (n:=0) underlying28
instance:ij prog 30 7:=.of underlying30
instance:ch prog 30 0 0:=.of (n:=0) underlying30
instance:ch prog 30 1 1:=.of (n:=5) underlying30
instance:ij prog 32 12:=.of underlying32
instance:ch prog 32 0 0:=.of (n:=0) underlying32
instance:ch prog 32 1 1:=.of (n:=0) underlying32
instance:ch prog 32 2 2:=.of (n:=0) underlying32
instance:ch prog 32 3 3:=.of (n:=0) underlying32
instance:ch prog 32 4 4:=.of (n:=0) underlying32
instance:ch prog 32 5 5:=.of (n:=6) underlying32
instance:gS prog 33:=.of underlying33
instance:dn prog 33 1 24 aa:=.of
instance:fD prog 33 3:=⟨underlying33⟩
instance:jo prog 33 ct kv:=⟨trivial⟩
instance:gS prog 34:=.of underlying34
instance:dn prog 34 1 24 aa:=.of
instance:fD prog 34 9:=⟨underlying34⟩
instance:gS prog 35:=.of underlying35
instance:dn prog 35 1 24 aa:=.of
instance:fD prog 35 138:=⟨underlying35⟩
instance:gS prog 36:=.of underlying36
instance:dn prog 36 1 24 aa:=.of
instance:fD prog 36 140:=⟨underlying36⟩
instance:gS prog 37:=.of underlying37
instance:dn prog 37 1 24 aa:=.of
instance:fD prog 37 178:=⟨underlying37⟩
instance:gS prog 38:=.of underlying38
instance:dn prog 38 1 24 aa:=.of
instance:fD prog 38 25:=⟨underlying38⟩
instance:gS prog 39:=.of underlying39
instance:dn prog 39 1 24 aa:=.of
instance:fD prog 39 87:=⟨underlying39⟩
instance:ij prog 41 9:=.of underlying41
instance:dn prog 41 9 216 (.agg #[aa,aa,aa,aa,aa,aa,aa,aa,aa]):=.of
instance:ch prog 41 0 0:=.of (n:=0) underlying41
instance:ch prog 41 1 1:=.of (n:=0) underlying41
instance:ch prog 41 2 2:=.of (n:=0) underlying41
instance:ch prog 41 3 3:=.of (n:=0) underlying41
instance:ch prog 41 4 4:=.of (n:=0) underlying41
instance:ch prog 41 5 5:=.of (n:=0) underlying41
instance:ch prog 41 6 6:=.of (n:=0) underlying41
instance:ch prog 41 7 7:=.of (n:=0) underlying41
instance:ch prog 41 8 8:=.of (n:=0) underlying41
instance:je prog 41 (.agg #[aa,aa,aa,aa,aa,aa,aa,aa,aa]) [(0,1),(1,1),(2,1),(3,1),(4,1),(5,1),(6,1),(7,1),(8,1)]:=.of underlying41
instance:gS prog 42:=.of underlying42
instance:dn prog 42 1 8 (.int .i64 0):=.of
instance:gS prog 45:=.of underlying45
instance:dn prog 45 1 24 aa:=.of
instance:fD prog 45 97:=⟨underlying45⟩
instance:ij prog 47 2:=.of underlying47
instance:dn prog 47 2 48 (.agg #[aa,aa]):=.of
instance:ch prog 47 0 0:=.of (n:=0) underlying47
instance:ch prog 47 1 1:=.of (n:=0) underlying47
instance:je prog 47 (.agg #[aa,aa]) [(0,1),(1,1)]:=.of underlying47
instance:gS prog 51:=.of underlying51
instance:dn prog 51 1 24 aa:=.of
instance:fD prog 51 33:=⟨underlying51⟩
instance:ij prog 53 2:=.of underlying53
instance:dn prog 53 2 48 (.agg #[aa,aa]):=.of
instance:ch prog 53 0 0:=.of (n:=0) underlying53
instance:ch prog 53 1 1:=.of (n:=0) underlying53
instance:je prog 53 (.agg #[aa,aa]) [(0,1),(1,1)]:=.of underlying53
instance:ij prog 70 2:=.of underlying70
instance:dn prog 70 2 24 (.agg #[.string ByteArray.empty,.int .i64 0]):=.of
instance:ch prog 70 0 0:=.of (n:=0) underlying70
instance:ch prog 70 1 1:=.of (n:=0) underlying70
instance:je prog 70 (.agg #[.string ByteArray.empty,.int .i64 0]) [(0,1),(1,1)]:=.of underlying70
instance:ij prog 72 5:=.of underlying72
instance:dn prog 72 5 56 (.agg #[.int .i64 0,.int .i64 0,.string ByteArray.empty,.string ByteArray.empty,.int .i64 0]):=.of
instance:ch prog 72 0 0:=.of (n:=0) underlying72
instance:ch prog 72 1 1:=.of (n:=0) underlying72
instance:ch prog 72 2 2:=.of (n:=0) underlying72
instance:ch prog 72 3 3:=.of (n:=1) underlying72
instance:gS prog 79:=.of underlying79
instance:dn prog 79 1 8 (.nilFunc):=.of
instance:gS prog 80:=.of underlying80
instance:fD prog 80 165:=⟨underlying80⟩
instance:gS prog 81:=.of underlying81
instance:dn prog 81 1 8 (.int .u64 0):=.of
instance:jo prog 81 fJ X4:=⟨trivial⟩
instance:ij prog 83 4:=.of underlying83
instance:dn prog 83 4 32 (.agg #[.int .u64 0,.int .u64 0,.int .u64 0,.int .u64 0]):=.of
instance:BX prog 83 4 81:=⟨underlying83⟩
instance:ch prog 85 0 0:=.of (n:=11) underlying85
instance:ch prog 85 1 12:=.of (n:=0) underlying85
instance:ch prog 85 2 13:=.of (n:=0) underlying85
instance:ch prog 85 3 14:=.of (n:=0) underlying85
instance:ch prog 85 4 15:=.of (n:=3) underlying85
instance:ch prog 85 5 19:=.of (n:=0) underlying85
instance:ch prog 85 6 20:=.of (n:=0) underlying85
instance:ch prog 85 7 21:=.of (n:=0) underlying85
instance:ch prog 85 8 22:=.of (n:=0) underlying85
instance:ch prog 85 9 23:=.of (n:=0) underlying85
instance:ch prog 85 10 24:=.of (n:=0) underlying85
instance:ch prog 85 11 25:=.of (n:=0) underlying85
instance:je prog 85 (.agg #[.int .i64 0,.string ByteArray.empty,.string ByteArray.empty,aa,aa,.int .i64 0,.int .i64 0,.int .i64 0,.int .i64 0,.string ByteArray.empty,.int .i64 0,aa,.int .i64 0,aa,aa,.int .u64 0,.int .u64 0,.int .u64 0,.int .u64 0,aa,aa,aa,aa,aa,.int .i64 0,.bool false]) [(0,12),(12,1),(13,1),(14,1),(15,4),(19,1),(20,1),(21,1),(22,1),(23,1),(24,1),(25,1)]:=.of underlying85
instance:ij prog 87 2:=.of underlying87
instance:dn prog 87 2 16 (.agg #[.int .i64 0,.int .i64 0]):=.of
instance:ch prog 87 0 0:=.of (n:=0) underlying87
instance:ch prog 87 1 1:=.of (n:=0) underlying87
instance:je prog 87 (.agg #[.int .i64 0,.int .i64 0]) [(0,1),(1,1)]:=.of underlying87
instance:jo prog 87 oF XZ:=⟨trivial⟩
instance:gS prog 91:=.of underlying91
instance:dn prog 91 1 24 aa:=.of
instance:fD prog 91 183:=⟨underlying91⟩
instance:ij prog 97 2:=.of underlying97
instance:dn prog 97 2 16 (.agg #[.int .i64 0,.int .i64 0]):=.of
instance:ch prog 97 0 0:=.of (n:=0) underlying97
instance:ch prog 97 1 1:=.of (n:=0) underlying97
instance:je prog 97 (.agg #[.int .i64 0,.int .i64 0]) [(0,1),(1,1)]:=.of underlying97
instance:gS prog 101:=.of underlying101
instance:dn prog 101 1 8 (.pointer none):=.of
instance:gS prog 104:=.of underlying104
instance:dn prog 104 1 8 (.nilFunc):=.of
instance:gS prog 105:=.of underlying105
instance:fD prog 105 198:=⟨underlying105⟩
instance:gS prog 106:=.of underlying106
instance:fD prog 106 4:=⟨underlying106⟩
instance:ch prog 108 0 0:=.of (n:=11) underlying108
instance:ch prog 108 1 12:=.of (n:=8) underlying108
instance:ch prog 108 2 21:=.of (n:=0) underlying108
instance:ch prog 108 3 22:=.of (n:=0) underlying108
instance:ch prog 108 4 23:=.of (n:=0) underlying108
instance:ch prog 108 5 24:=.of (n:=0) underlying108
instance:ch prog 108 6 25:=.of (n:=0) underlying108
instance:ch prog 108 7 26:=.of (n:=0) underlying108
instance:ch prog 108 8 27:=.of (n:=1) underlying108
instance:je prog 108 (.agg #[.int .i64 0,.string ByteArray.empty,.string ByteArray.empty,aa,aa,.int .i64 0,.int .i64 0,.int .i64 0,.int .i64 0,.string ByteArray.empty,.int .i64 0,aa,aa,aa,aa,aa,aa,aa,aa,aa,aa,.bool false,aa,aa,aa,aa,aa,aa,aa]) [(0,12),(12,9),(21,1),(22,1),(23,1),(24,1),(25,1),(26,1),(27,2)]:=.of underlying108
instance:gS prog 111:=.of underlying111
instance:fD prog 111 81:=⟨underlying111⟩
instance:ij prog 113 2:=.of underlying113
instance:dn prog 113 2 32 (.agg #[.int .i64 0,aa]):=.of
instance:ch prog 113 0 0:=.of (n:=0) underlying113
instance:ch prog 113 1 1:=.of (n:=0) underlying113
instance:je prog 113 (.agg #[.int .i64 0,aa]) [(0,1),(1,1)]:=.of underlying113
instance:ij prog 115 18:=.of underlying115
instance:dn prog 115 18 288 (.agg #[.int .i64 0,aa,.int .i64 0,aa,.int .i64 0,aa,.int .i64 0,aa,.int .i64 0,aa,.int .i64 0,aa,.int .i64 0,aa,.int .i64 0,aa,.int .i64 0,aa]):=.of
instance:ch prog 115 0 0:=.of (n:=1) underlying115
instance:ch prog 115 1 2:=.of (n:=1) underlying115
instance:ch prog 115 2 4:=.of (n:=1) underlying115
instance:ch prog 115 3 6:=.of (n:=1) underlying115
instance:ch prog 115 4 8:=.of (n:=1) underlying115
instance:ch prog 115 5 10:=.of (n:=1) underlying115
instance:ch prog 115 6 12:=.of (n:=1) underlying115
instance:ch prog 115 7 14:=.of (n:=1) underlying115
instance:ch prog 115 8 16:=.of (n:=1) underlying115
instance:je prog 115 (.agg #[.int .i64 0,aa,.int .i64 0,aa,.int .i64 0,aa,.int .i64 0,aa,.int .i64 0,aa,.int .i64 0,aa,.int .i64 0,aa,.int .i64 0,aa,.int .i64 0,aa]) [(0,2),(2,2),(4,2),(6,2),(8,2),(10,2),(12,2),(14,2),(16,2)]:=.of underlying115
instance:ij prog 123 29:=.of underlying123
instance:dn prog 123 29 552 (.agg #[aa,aa,aa,aa,aa,aa,aa,aa,aa,aa,aa,.int .i64 0,aa,.int .i64 0,aa,.int .i64 0,aa,.int .i64 0,aa,.int .i64 0,aa,.int .i64 0,aa,.int .i64 0,aa,.int .i64 0,aa,.int .i64 0,aa]):=.of
instance:ch prog 123 0 0:=.of (n:=8) underlying123
instance:ch prog 123 1 9:=.of (n:=1) underlying123
instance:ch prog 123 2 11:=.of (n:=17) underlying123
instance:je prog 123 (.agg #[aa,aa,aa,aa,aa,aa,aa,aa,aa,aa,aa,.int .i64 0,aa,.int .i64 0,aa,.int .i64 0,aa,.int .i64 0,aa,.int .i64 0,aa,.int .i64 0,aa,.int .i64 0,aa,.int .i64 0,aa,.int .i64 0,aa]) [(0,9),(9,2),(11,18)]:=.of underlying123
instance:gS prog 127:=.of underlying127
instance:dn prog 127 1 24 aa:=.of
instance:fD prog 127 133:=⟨underlying127⟩
instance:ij prog 129 26:=.of underlying129
instance:dn prog 129 26 432 (.agg #[.int .i64 0,.string ByteArray.empty,.string ByteArray.empty,aa,aa,.int .i64 0,.int .i64 0,.int .i64 0,.int .i64 0,.string ByteArray.empty,.int .i64 0,aa,.int .i64 0,aa,.int .u64 0,aa,aa,aa,aa,aa,aa,aa,aa,aa,.bool false,.bool false]):=.of
instance:ch prog 129 0 0:=.of (n:=11) underlying129
instance:ch prog 129 1 12:=.of (n:=0) underlying129
instance:ch prog 129 2 13:=.of (n:=0) underlying129
instance:ch prog 129 3 14:=.of (n:=0) underlying129
instance:ch prog 129 4 15:=.of (n:=8) underlying129
instance:ch prog 129 5 24:=.of (n:=0) underlying129
instance:ch prog 129 6 25:=.of (n:=0) underlying129
instance:je prog 129 (.agg #[.int .i64 0,.string ByteArray.empty,.string ByteArray.empty,aa,aa,.int .i64 0,.int .i64 0,.int .i64 0,.int .i64 0,.string ByteArray.empty,.int .i64 0,aa,.int .i64 0,aa,.int .u64 0,aa,aa,aa,aa,aa,aa,aa,aa,aa,.bool false,.bool false]) [(0,12),(12,1),(13,1),(14,1),(15,9),(24,1),(25,1)]:=.of underlying129
instance:ij prog 133 4:=.of underlying133
instance:dn prog 133 4 40 (.agg #[.int .i64 0,.int .i64 0,.string ByteArray.empty,.int .u64 0]):=.of
instance:ch prog 133 0 0:=.of (n:=0) underlying133
instance:ch prog 133 1 1:=.of (n:=0) underlying133
instance:ch prog 133 2 2:=.of (n:=0) underlying133
instance:ch prog 133 3 3:=.of (n:=0) underlying133
instance:je prog 133 (.agg #[.int .i64 0,.int .i64 0,.string ByteArray.empty,.int .u64 0]) [(0,1),(1,1),(2,1),(3,1)]:=.of underlying133
instance:ij prog 138 6:=.of underlying138
instance:dn prog 138 6 48 (.agg #[.int .i64 0,.int .i64 0,.int .i64 0,.int .i64 0,.int .i64 0,.int .i64 0]):=.of
instance:ch prog 138 0 0:=.of (n:=0) underlying138
instance:ch prog 138 1 1:=.of (n:=0) underlying138
instance:ch prog 138 2 2:=.of (n:=0) underlying138
instance:ch prog 138 3 3:=.of (n:=0) underlying138
instance:ch prog 138 4 4:=.of (n:=0) underlying138
instance:ch prog 138 5 5:=.of (n:=0) underlying138
instance:je prog 138 (.agg #[.int .i64 0,.int .i64 0,.int .i64 0,.int .i64 0,.int .i64 0,.int .i64 0]) [(0,1),(1,1),(2,1),(3,1),(4,1),(5,1)]:=.of underlying138
instance:jo prog 138 ef H5:=⟨trivial⟩
instance:ij prog 140 3:=.of underlying140
instance:dn prog 140 3 24 (.agg #[.int .i64 0,.int .i64 0,.int .i64 0]):=.of
instance:ch prog 140 0 0:=.of (n:=0) underlying140
instance:ch prog 140 1 1:=.of (n:=0) underlying140
instance:ch prog 140 2 2:=.of (n:=0) underlying140
instance:je prog 140 (.agg #[.int .i64 0,.int .i64 0,.int .i64 0]) [(0,1),(1,1),(2,1)]:=.of underlying140
instance:jo prog 140 fE Ch:=⟨trivial⟩
instance:ij prog 142 2:=.of underlying142
instance:dn prog 142 2 48 (.agg #[aa,aa]):=.of
instance:ch prog 142 0 0:=.of (n:=0) underlying142
instance:ch prog 142 1 1:=.of (n:=0) underlying142
instance:je prog 142 (.agg #[aa,aa]) [(0,1),(1,1)]:=.of underlying142
instance:jr prog 156 (.int .u64):=⟨underlying156⟩
instance:jr prog 161 (.int .i64):=⟨underlying161⟩
instance:dn prog 161 1 8 (.int .i64 0):=.of
instance:gS prog 163:=.of underlying163
instance:dn prog 163 1 16 (.nilIface):=.of
instance:ij prog 165 5:=.of underlying165
instance:dn prog 165 5 48 (.agg #[.nilIface,.int .u64 0,.int .u64 0,.int .u64 0,.int .u64 0]):=.of
instance:ch prog 165 0 0:=.of (n:=0) underlying165
instance:ch prog 165 1 1:=.of (n:=3) underlying165
instance:je prog 165 (.agg #[.nilIface,.int .u64 0,.int .u64 0,.int .u64 0,.int .u64 0]) [(0,1),(1,4)]:=.of underlying165
instance:dn prog 166 1 16 (.string ByteArray.empty):=.of
instance:gS prog 167:=.of underlying167
instance:dn prog 167 1 24 aa:=.of
instance:fD prog 167 169:=⟨underlying167⟩
instance:jo prog 167 ct kv:=⟨trivial⟩
instance:ij prog 169 8:=.of underlying169
instance:dn prog 169 8 80 (.agg #[.int .i64 0,.int .i64 0,.int .i64 0,.int .i64 0,.int .i64 0,.string ByteArray.empty,.string ByteArray.empty,.int .i64 0]):=.of
instance:ch prog 169 0 0:=.of (n:=0) underlying169
instance:ch prog 169 1 1:=.of (n:=0) underlying169
instance:ch prog 169 2 2:=.of (n:=0) underlying169
instance:ch prog 169 3 3:=.of (n:=0) underlying169
instance:ch prog 169 4 4:=.of (n:=0) underlying169
instance:ch prog 169 5 5:=.of (n:=0) underlying169
instance:ch prog 169 6 6:=.of (n:=0) underlying169
instance:ch prog 169 7 7:=.of (n:=0) underlying169
instance:je prog 169 (.agg #[.int .i64 0,.int .i64 0,.int .i64 0,.int .i64 0,.int .i64 0,.string ByteArray.empty,.string ByteArray.empty,.int .i64 0]) [(0,1),(1,1),(2,1),(3,1),(4,1),(5,1),(6,1),(7,1)]:=.of underlying169
instance:dn prog 176 1 8 (.int .i64 0):=.of
instance:ij prog 178 2:=.of underlying178
instance:dn prog 178 2 16 (.agg #[.int .i64 0,.int .i64 0]):=.of
instance:ch prog 178 0 0:=.of (n:=0) underlying178
instance:ch prog 178 1 1:=.of (n:=0) underlying178
instance:je prog 178 (.agg #[.int .i64 0,.int .i64 0]) [(0,1),(1,1)]:=.of underlying178
instance:jo prog 178 bB EA:=⟨trivial⟩
instance:gS prog 181:=.of underlying181
instance:fD prog 181 70:=⟨underlying181⟩
instance:ij prog 183 2:=.of underlying183
instance:dn prog 183 2 32 (.agg #[aa,.int .i64 0]):=.of
instance:ch prog 183 0 0:=.of (n:=0) underlying183
instance:ch prog 183 1 1:=.of (n:=0) underlying183
instance:je prog 183 (.agg #[aa,.int .i64 0]) [(0,1),(1,1)]:=.of underlying183
instance:gS prog 198:=.of underlying198
instance:dn prog 198 1 24 aa:=.of
instance:fD prog 198 201:=⟨underlying198⟩
instance:jo prog 198 ct kv:=⟨trivial⟩
instance:ij prog 201 3:=.of underlying201
instance:dn prog 201 3 24 (.agg #[.int .i64 0,.int .i64 0,.int .i64 0]):=.of
instance:ch prog 201 0 0:=.of (n:=0) underlying201
instance:ch prog 201 1 1:=.of (n:=0) underlying201
instance:ch prog 201 2 2:=.of (n:=0) underlying201
instance:je prog 201 (.agg #[.int .i64 0,.int .i64 0,.int .i64 0]) [(0,1),(1,1),(2,1)]:=.of underlying201
instance:fD prog 214 79:=⟨underlying214⟩
instance:dn prog 238 3 24 (.agg #[.int .i64 0,.int .i64 0,.int .i64 0]):=.of
instance:ch prog 238 0 0:=.of (n:=0) underlying238
instance:ch prog 238 1 1:=.of (n:=0) underlying238
instance:ch prog 238 2 2:=.of (n:=0) underlying238
instance:je prog 238 (.agg #[.int .i64 0,.int .i64 0,.int .i64 0]) [(0,1),(1,1),(2,1)]:=.of underlying238
instance:ij prog 256 5:=.of underlying256
instance:dn prog 256 5 48 (.agg #[.int .i64 0,.string ByteArray.empty,.int .i64 0,.int .i64 0,.int .i64 0]):=.of
instance:ch prog 256 0 0:=.of (n:=0) underlying256
instance:ch prog 256 1 1:=.of (n:=0) underlying256
instance:ch prog 256 2 2:=.of (n:=0) underlying256
instance:ch prog 256 3 3:=.of (n:=0) underlying256
instance:je prog 256 (.agg #[.int .i64 0,.string ByteArray.empty,.int .i64 0,.int .i64 0,.int .i64 0]) [(0,1),(1,1),(2,1),(3,1),(4,1)]:=.of underlying256
instance:ch prog 262 0 0:=.of (n:=0) underlying262
instance:ch prog 262 1 1:=.of (n:=0) underlying262
instance:ch prog 262 2 2:=.of (n:=0) underlying262
instance:ch prog 262 3 3:=.of (n:=0) underlying262
instance:ch prog 262 4 4:=.of (n:=0) underlying262
instance:ch prog 262 5 5:=.of (n:=0) underlying262
instance:ch prog 262 6 6:=.of (n:=0) underlying262
instance:je prog 262 (.agg #[.bool false,.int .i64 0,aa,aa,aa,aa,aa]) [(0,1),(1,1),(2,1),(3,1),(4,1),(5,1),(6,1)]:=.of underlying262
instance:gS prog 264:=.of underlying264
instance:dn prog 264 1 24 aa:=.of
instance:fD prog 264 267:=⟨underlying264⟩
instance:ch prog 266 0 0:=.of (n:=0) underlying266
instance:ch prog 266 1 1:=.of (n:=0) underlying266
instance:ch prog 266 2 2:=.of (n:=0) underlying266
instance:ch prog 266 3 3:=.of (n:=0) underlying266
instance:ch prog 266 4 4:=.of (n:=0) underlying266
instance:ch prog 266 5 5:=.of (n:=0) underlying266
instance:je prog 266 (.agg #[.int .i64 0,aa,aa,aa,aa,aa]) [(0,1),(1,1),(2,1),(3,1),(4,1),(5,1)]:=.of underlying266
instance:gS prog 267:=.of underlying267
instance:dn prog 267 1 8 (.pointer none):=.of
instance:ch prog 269 0 0:=.of (n:=0) underlying269
instance:ch prog 271 0 0:=.of (n:=1) underlying271
instance:ch prog 271 1 2:=.of (n:=0) underlying271
instance:je prog 271 (.agg #[aa,.int .i64 0,aa]) [(0,2),(2,1)]:=.of underlying271
instance:gS prog 298:=.of underlying298
instance:fD prog 300 113:=⟨underlying300⟩
instance:je prog 327 (.agg #[]) []:=.of underlying327
instance:fD prog 350 354:=⟨underlying350⟩
instance:gS prog 352:=.of underlying352
instance:ij prog 354 2:=.of underlying354
instance:dn prog 354 2 16 (.agg #[.int .i64 0,.nilFunc]):=.of
instance:ch prog 354 0 0:=.of (n:=0) underlying354
instance:ch prog 354 1 1:=.of (n:=0) underlying354
instance:je prog 354 (.agg #[.int .i64 0,.nilFunc]) [(0,1),(1,1)]:=.of underlying354
instance:ch prog 359 0 0:=.of (n:=7) underlying359
instance:ch prog 359 1 8:=.of (n:=1) underlying359
instance:ch prog 359 2 10:=.of (n:=1) underlying359
instance:ch prog 359 3 12:=.of (n:=0) underlying359
instance:ch prog 359 4 13:=.of (n:=1) underlying359
instance:ch prog 359 5 15:=.of (n:=4) underlying359
instance:je prog 359 (.agg #[.int .i64 0,.int .i64 0,.int .i64 0,.int .i64 0,.int .i64 0,.string ByteArray.empty,.string ByteArray.empty,.int .i64 0,.string ByteArray.empty,.int .i64 0,.string ByteArray.empty,.int .i64 0,.int .i64 0,aa,.int .i64 0,.int .i64 0,.string ByteArray.empty,.int .i64 0,.int .i64 0,.int .i64 0]) [(0,8),(8,2),(10,2),(12,1),(13,2),(15,5)]:=.of underlying359
instance:BX prog 424 64 5:=⟨underlying424⟩
instance:aS prog 5:=.of func5
instance:aS prog 7:=.of func7
instance:aS prog 9:=.of func9
instance:aS prog 10:=.of func10
instance:aS prog 11:=.of func11
instance:aS prog 12:=.of func12
instance:aS prog 13:=.of func13
instance:aS prog 14:=.of func14
instance:aS prog 15:=.of func15
instance:aS prog 16:=.of func16
instance:aS prog 17:=.of func17
instance:aS prog 18:=.of func18
instance:aS prog 19:=.of func19
instance:aS prog 20:=.of func20
instance:aS prog 21:=.of func21
instance:aS prog 22:=.of func22
instance:aS prog 23:=.of func23
instance:aS prog 24:=.of func24
instance:aS prog 25:=.of func25
instance:aS prog 26:=.of func26
instance:aS prog 30:=.of func30
instance:aS prog 31:=.of func31
instance:aS prog 32:=.of func32
instance:aS prog 33:=.of func33
instance:aS prog 34:=.of func34
instance:aS prog 35:=.of func35
instance:aS prog 36:=.of func36
instance:aS prog 37:=.of func37
instance:aS prog 38:=.of func38
instance:aS prog 39:=.of func39
instance:aS prog 40:=.of func40
instance:aS prog 41:=.of func41
instance:aS prog 42:=.of func42
instance:aS prog 43:=.of func43
instance:aS prog 44:=.of func44
instance:aS prog 45:=.of func45
instance:aS prog 46:=.of func46
instance:aS prog 47:=.of func47
instance:aS prog 48:=.of func48
instance:aS prog 49:=.of func49
instance:aS prog 50:=.of func50
instance:aS prog 51:=.of func51
instance:aS prog 52:=.of func52
instance:aS prog 53:=.of func53
instance:aS prog 54:=.of func54
instance:aS prog 55:=.of func55
instance:aS prog 56:=.of func56
instance:aS prog 57:=.of func57
instance:aS prog 58:=.of func58
instance:aS prog 59:=.of func59
instance:aS prog 60:=.of func60
instance:aS prog 61:=.of func61
instance:aS prog 62:=.of func62
instance:aS prog 63:=.of func63
instance:aS prog 64:=.of func64
instance:aS prog 65:=.of func65
instance:aS prog 66:=.of func66
instance:aS prog 67:=.of func67
instance:aS prog 68:=.of func68
instance:aS prog 69:=.of func69
instance:aS prog 70:=.of func70
instance:aS prog 71:=.of func71
instance:aS prog 72:=.of func72
instance:aS prog 73:=.of func73
instance:aS prog 74:=.of func74
instance:aS prog 75:=.of func75
instance:aS prog 76:=.of func76
instance:aS prog 77:=.of func77
instance:aS prog 83:=.of func83
instance:aS prog 84:=.of func84
instance:aS prog 85:=.of func85
instance:aS prog 86:=.of func86
instance:aS prog 87:=.of func87
instance:aS prog 88:=.of func88
instance:aS prog 89:=.of func89
instance:aS prog 90:=.of func90
instance:aS prog 91:=.of func91
instance:aS prog 92:=.of func92
instance:aS prog 93:=.of func93
instance:aS prog 94:=.of func94
instance:aS prog 95:=.of func95
instance:aS prog 96:=.of func96
instance:aS prog 97:=.of func97
instance:aS prog 98:=.of func98
instance:aS prog 99:=.of func99
instance:aS prog 100:=.of func100
instance:aS prog 101:=.of func101
instance:aS prog 102:=.of func102
instance:aS prog 103:=.of func103
instance:aS prog 104:=.of func104
instance:aS prog 105:=.of func105
instance:aS prog 106:=.of func106
instance:aS prog 107:=.of func107
instance:aS prog 108:=.of func108
instance:aS prog 109:=.of func109
instance:aS prog 110:=.of func110
instance:aS prog 111:=.of func111
instance:aS prog 112:=.of func112
instance:aS prog 113:=.of func113
instance:aS prog 114:=.of func114
instance:aS prog 115:=.of func115
instance:aS prog 116:=.of func116
instance:aS prog 117:=.of func117
instance:aS prog 118:=.of func118
instance:aS prog 119:=.of func119
instance:aS prog 120:=.of func120
instance:aS prog 121:=.of func121
instance:aS prog 122:=.of func122
instance:aS prog 123:=.of func123
instance:aS prog 124:=.of func124
instance:aS prog 125:=.of func125
instance:aS prog 126:=.of func126
instance:aS prog 127:=.of func127
instance:aS prog 128:=.of func128
instance:aS prog 129:=.of func129
instance:aS prog 130:=.of func130
instance:aS prog 136:=.of func136
instance:aS prog 137:=.of func137
instance:aS prog 138:=.of func138
instance:aS prog 139:=.of func139
instance:aS prog 140:=.of func140
instance:aS prog 141:=.of func141
instance:aS prog 142:=.of func142
instance:aS prog 143:=.of func143
instance:aS prog 144:=.of func144
instance:aS prog 145:=.of func145
instance:aS prog 146:=.of func146
instance:aS prog 147:=.of func147
instance:aS prog 149:=.of func149
instance:aS prog 150:=.of func150
instance:aS prog 151:=.of func151
instance:aS prog 152:=.of func152
instance:aS prog 153:=.of func153
instance:aS prog 154:=.of func154
instance:aS prog 155:=.of func155
instance:aS prog 161:=.of func161
instance:aS prog 162:=.of func162
instance:aS prog 163:=.of func163
instance:aS prog 164:=.of func164
instance:aS prog 165:=.of func165
instance:aS prog 166:=.of func166
instance:aS prog 167:=.of func167
instance:aS prog 168:=.of func168
instance:aS prog 169:=.of func169
instance:aS prog 170:=.of func170
instance:aS prog 171:=.of func171
instance:aS prog 172:=.of func172
instance:aS prog 173:=.of func173
instance:aS prog 174:=.of func174
instance:aS prog 175:=.of func175
instance:aS prog 176:=.of func176
instance:aS prog 177:=.of func177
instance:aS prog 178:=.of func178
instance:aS prog 179:=.of func179
instance:aS prog 180:=.of func180
instance:aS prog 181:=.of func181
instance:aS prog 182:=.of func182
instance:aS prog 183:=.of func183
instance:aS prog 184:=.of func184
instance:aS prog 185:=.of func185
instance:aS prog 186:=.of func186
instance:aS prog 187:=.of func187
instance:aS prog 188:=.of func188
instance:aS prog 189:=.of func189
instance:aS prog 190:=.of func190
instance:aS prog 191:=.of func191
instance:aS prog 192:=.of func192
instance:aS prog 193:=.of func193
instance:aS prog 194:=.of func194
instance:aS prog 195:=.of func195
instance:aS prog 196:=.of func196
instance:aS prog 197:=.of func197
instance:aS prog 198:=.of func198
instance:aS prog 199:=.of func199
instance:aS prog 200:=.of func200
instance:aS prog 201:=.of func201
instance:aS prog 202:=.of func202
instance:aS prog 203:=.of func203
instance:aS prog 204:=.of func204
instance:aS prog 205:=.of func205
instance:aS prog 206:=.of func206
instance:aS prog 207:=.of func207
instance:aS prog 208:=.of func208
instance:aS prog 209:=.of func209
instance:aS prog 210:=.of func210
instance:aS prog 211:=.of func211
instance:aS prog 212:=.of func212
instance:aS prog 213:=.of func213
instance:aS prog 214:=.of func214
instance:aS prog 215:=.of func215
instance:aS prog 216:=.of func216
instance:aS prog 221:=.of func221
instance:aS prog 222:=.of func222
instance:aS prog 223:=.of func223
instance:aS prog 224:=.of func224
instance:aS prog 225:=.of func225
instance:aS prog 226:=.of func226
instance:aS prog 227:=.of func227
instance:aS prog 228:=.of func228
instance:aS prog 229:=.of func229
instance:aS prog 230:=.of func230
instance:aS prog 234:=.of func234
instance:aS prog 247:=.of func247
instance:aS prog 248:=.of func248
instance:aS prog 249:=.of func249
instance:aS prog 250:=.of func250
instance:aS prog 251:=.of func251
instance:aS prog 252:=.of func252
instance:aS prog 253:=.of func253
instance:aS prog 254:=.of func254
instance:aS prog 255:=.of func255
instance:aS prog 256:=.of func256
instance:aS prog 257:=.of func257
instance:aS prog 258:=.of func258
instance:aS prog 259:=.of func259
instance:aS prog 260:=.of func260
instance:aS prog 261:=.of func261
instance:aS prog 262:=.of func262
instance:aS prog 263:=.of func263
instance:aS prog 264:=.of func264
instance:aS prog 265:=.of func265
instance:aS prog 266:=.of func266
instance:aS prog 267:=.of func267
instance:aS prog 268:=.of func268
instance:aS prog 269:=.of func269
instance:aS prog 271:=.of func271
instance:aS prog 272:=.of func272
instance:aS prog 273:=.of func273
instance:aS prog 274:=.of func274
instance:aS prog 275:=.of func275
instance:aS prog 276:=.of func276
instance:aS prog 277:=.of func277
instance:aS prog 278:=.of func278
instance:aS prog 279:=.of func279
instance:aS prog 280:=.of func280
instance:aS prog 281:=.of func281
instance:aS prog 282:=.of func282
instance:aS prog 283:=.of func283
instance:aS prog 284:=.of func284
instance:aS prog 285:=.of func285
instance:aS prog 286:=.of func286
instance:aS prog 287:=.of func287
instance:aS prog 288:=.of func288
instance:aS prog 289:=.of func289
instance:aS prog 290:=.of func290
instance:aS prog 291:=.of func291
instance:aS prog 292:=.of func292
instance:aS prog 293:=.of func293
instance:aS prog 297:=.of func297
instance:aS prog 298:=.of func298
instance:aS prog 299:=.of func299
instance:aS prog 300:=.of func300
instance:aS prog 326:=.of func326
instance:aS prog 327:=.of func327
instance:aS prog 328:=.of func328
instance:aS prog 329:=.of func329
instance:aS prog 330:=.of func330
instance:aS prog 331:=.of func331
instance:aS prog 332:=.of func332
instance:aS prog 333:=.of func333
instance:aS prog 334:=.of func334
instance:aS prog 335:=.of func335
instance:aS prog 336:=.of func336
instance:aS prog 337:=.of func337
instance:aS prog 338:=.of func338
instance:aS prog 339:=.of func339
instance:aS prog 340:=.of func340
instance:aS prog 341:=.of func341
instance:aS prog 342:=.of func342
instance:aS prog 344:=.of func344
instance:aS prog 345:=.of func345
instance:aS prog 346:=.of func346
instance:aS prog 347:=.of func347
instance:aS prog 348:=.of func348
instance:aS prog 349:=.of func349
instance:aS prog 350:=.of func350
instance:aS prog 351:=.of func351
instance:aS prog 352:=.of func352
instance:aS prog 353:=.of func353
instance:aS prog 354:=.of func354
instance:aS prog 355:=.of func355
instance:aS prog 360:=.of func360
instance:aS prog 361:=.of func361
instance:aS prog 362:=.of func362
instance:aS prog 363:=.of func363
instance:aS prog 374:=.of func374
instance:aS prog 375:=.of func375
instance:aS prog 376:=.of func376
instance:aS prog 377:=.of func377
instance:aS prog 378:=.of func378
instance:aS prog 379:=.of func379
instance:aS prog 389:=.of func389
instance:aS prog 390:=.of func390
instance:aS prog 392:=.of func392
instance:aS prog 393:=.of func393
instance:aS prog 397:=.of func397
instance:aS prog 402:=.of func402
instance:aS prog 403:=.of func403
instance:aS prog 421:=.of func421
instance:aS prog 422:=.of func422
instance:aS prog 423:=.of func423
instance:aS prog 426:=.of func426
theorem mixed:prog.follows .mixedOrders=true:=by kernel_rfl
end Go.Proofs.bA
namespace Go.b9
open Go Go.RowKit
section
variable {P:Program} {ops:Array Oper} {Q:Exit->Act->World->Prop} {N:Nat} {tm:dY} {A:World->Prop} {listed:Array Bool} {S:World->Prop} {order:List Nat} {fuel:Nat}
def vq(P:Program)(ops:Array Oper)(Q:Exit->Act->World->Prop)(fuel:Nat)(listed:Array Bool)(S:World->Prop)(i:Nat):Act->World->Prop:=
 λa w=>w3 .any ops listed->i∈Region.ready .any ops listed->wpOp P ops Q i (λdJ I=>(BK .any ops i=true/\Region.ready .any ops (listed.setIfInBounds i true)=[]/\Q .normal dJ I)\/ ∃S',((∀w,S' w->S w)\/BL .any ops i listed=true)/\S' I/\BM P .any ops Q fuel (listed.setIfInBounds i true) S' dJ I) a w
theorem mf(i:Nat) (j:Nat) (h1:cR N (vq P ops Q fuel listed S i) tm A) (h2:cR N (vq P ops Q fuel listed S j) tm A) (aM:Region.ready .any ops listed=[i,j]:=by kernel_rfl):cR N (hI P ops Q (fuel+1) listed S order) tm A:=by
 unfold cR hI at *;intro a w aj hw eA _;refine⟨λh=>(by rw[h]at aM;cases aM),λk hk=>?_⟩;have fk:=hk;rw[aM]at hk;simp only[aoO,aq2,or_false]at hk;rcases hk with rfl | rfl
 ·exact h1 a w aj hw eA fk
 exact h2 a w aj hw eA fk
theorem De(i j l:Nat)(aM:Region.ready .any ops listed=[i,j,l]:=by kernel_rfl)(h1:cR N (vq P ops Q fuel listed S i) tm A)(h2:cR N (vq P ops Q fuel listed S j) tm A)(h3:cR N (vq P ops Q fuel listed S l) tm A):cR N (hI P ops Q (fuel+1) listed S order) tm A:=by
 unfold cR hI at *;intro a w aj hw eA _;refine⟨λh=>(by rw[h]at aM;cases aM),λk hk=>?_⟩;have fk:=hk;rw[aM]at hk;simp only[aoO,aq2,or_false]at hk;rcases hk with rfl | rfl | rfl
 ·exact h1 a w aj hw eA fk
 ·exact h2 a w aj hw eA fk
 exact h3 a w aj hw eA fk
theorem cp{i:Nat}{dst:Option Tmp}{op:Op}{ty:TypeId}{pos:String}{cV:Array Edge}(order:List Nat)(S':World->Prop)(hi:ops[i]?=some ⟨dst,op,ty,pos,cV,none⟩:=by rfl) (qK:∀w,S' w->S w:=by first | exact λ_ h=>h | exact λ_ h=>h.tail | exact ek) (h:gz P N op dst Q tm A (λdJ I=>S' I/\hI P ops Q fuel (listed.setIfInBounds i true) S' order dJ I)):cR N (vq P ops Q fuel listed S i) tm A:=by unfold cR vq;intro a w aj hw eA hk;unfold wpOp;simp only[hi,Region.wanted];refine .inl (Oper.wp_mono (λdJ I cm=>?_) ((by unfold gz at h;exact h a w ty pos cV none aj hw)));obtain⟨h1,h2⟩:=cm;unfold hI at h2;exact .inr ⟨S',.inl qK,h1,h2 (xe eA hk) h1⟩
theorem ed(i:Nat) (h1:cR N (vq P ops Q fuel listed S i) tm A) (aM:Region.ready .any ops listed=[i]:=by kernel_rfl):cR N (hI P ops Q (fuel+1) listed S order) tm A:=by unfold cR hI at *;intro a w aj hw eA _;refine⟨λh=>(by rw[h]at aM;cases aM),λk hk=>?_⟩;have fk:=hk;rw[aM]at hk;simp only[aoO,aq2,or_false]at hk;subst hk;exact h1 a w aj hw eA fk
theorem IA{op:Op}{c:Bool}{u:Value}(ai:c=false):vo P N op tm A c u:=by unfold vo;intro h;rw[ai]at h;cases h
theorem acq{i j g:Nat}{want b:Bool}{dst:Option Tmp}{op:Op}{ty:TypeId}{pos:String}{cV:Array Edge}(S':World->Prop)(hi:ops[i]?=some ⟨dst,op,ty,pos,cV,some (j,want)⟩:=by rfl)(aM:Region.ready .any ops listed=[i]:=by kernel_rfl) (ae:(ops[j]?).bind (·.dst)=some g:=by rfl) (az:jB tm g=some (true,.bool b):=by rfl) (hb:b=want) (qK:∀w,S' w->S w:=by first | exact λ_ h=>h | exact λ_ h=>h.tail | exact ek) (h:gz P N op dst Q tm A (λdJ I=>S' I/\hI P ops Q fuel (listed.setIfInBounds i true) S' order dJ I)):cR N (hI P ops Q (fuel+1) listed S (i::order)) tm A:=by unfold cR hI;intro a w aj hw eA _;have aY:=BO (ops:=ops) aj ae az;refine⟨λh=>(by rw[h]at aM;cases aM),λk hk=>?_⟩;have xx:=xe eA hk;rw[aM,aoB]at hk;subst hk;unfold wpOp;simp only[hi,Region.wanted,aY,if_true,hb,beq_self_eq_true];refine .inl (Oper.wp_mono (λdJ I cm=>?_) ((by unfold gz at h;exact h a w ty pos cV _ aj hw)));obtain⟨h1,h2⟩:=cm;unfold hI at h2;exact .inr ⟨S',.inl qK,h1,h2 xx h1⟩
end
theorem ih{P:Program}{N:Nat}{Q pZ:Exit->Act->World->Prop}{tm:dY}{A:World->Prop}{x y:Code}{e2:Type}(ee:e2->Prop)(T:e2->dY)(bV:e2->World->Prop) (h:fp P N x (Exit.then (mQ N ee T bV) pZ) tm A) (aY:∀s,ee s->fp P N y Q (T s) (bV s)):fp P N x (Exit.then (λa w=>y.wp P Q a w) pZ) tm A:=by
 unfold fp cR at *;intro a w aj hw;refine wp_mono (h a w aj hw) λe dJ I q=>?_;cases e with
 | normal=>have q':mQ N ee T bV dJ I:=q;unfold mQ at q';obtain⟨s,iq,cy,fs⟩:=q';exact aY s iq dJ I cy fs
 | _=>exact q
attribute [irreducible] vq
section
variable {P:Program} {N:Nat} {tm:dY} {A:World->Prop} {c:Bool}
theorem oT{t e sz b len df off n:Nat}{z:Value}{k:IntKind}{x y:Operand}[aJ:BX P t len e][cF:dn P e sz b z](hx:bt tm c x (.pointer (some ⟨df,off,none⟩)))(aY:bt tm c y (.int k (n:Int))) (hb:c=true->n<len):bW P N (.indexAddr t x y) tm A c (.pointer (some ⟨df,off+n* sz,none⟩)):=by
 unfold bW;intro ai a w _ _ _ _ _ cy hw;simp only[execOp,aY.get cy ai,hx.get cy ai];refine hX ?_;obtain⟨i,hi,mF,_⟩:=cF.h;subst mF;have h0:(0:Int)<=(n:Int)/\(n:Int)<len:=⟨by omega,by have:=hb ai;omega⟩;show(Instr.indexAt t (.pointer (some ⟨df,off,none⟩)) (.int k (n:Int))).run P w=_;rcases Nat.eq_zero_or_pos n with rfl | bd
 ·simp[Instr.indexAt,asIntOf,run_underlying aJ.h,Instr.sureAddr,hb ai,sizeOf,typeInfo,hi,Addr.add]
 by_cases aj:i.size=0
 ·simp[Instr.indexAt,asIntOf,run_underlying aJ.h,Instr.sureAddr,hb ai,sizeOf,typeInfo,hi,Addr.add,aj]
 simp[Instr.indexAt,asIntOf,run_underlying aJ.h,Instr.sureAddr,hb ai,sizeOf,typeInfo,hi,Addr.add,aj,show ¬n=0 from by omega]
theorem om{op:Op}{v dG:Value}(h:bW P N op tm A c dG)(e:dG=v):bW P N op tm A c v:=e▸h
theorem Bg{e2:Type}{A:e2->World->Prop}{op:Op}{v:Value}(h:∀s,bW P N op tm (A s) c v):bW P N op tm (λw=>∃s,A s w) c v:=by unfold bW;intro ai a w d ty pos cV g aj ⟨s,hw⟩;have cm:=h s;unfold bW at cm;exact cm ai a w d ty pos cV g aj hw
theorem Tm{aX:Type}{S:Nat->Prop}{B:World}{bs:List dm}{H:List aB}{enc:aX->List Value}{sz t e b:Nat}{z v:Value}{l:Int}{xs:List aX}{x y:Operand}[aJ:fD P t e][cF:dn P e sz b z] (hx:bt tm c x v:=by exact cb) (aY:bt tm c y (.int .i64 l):=by exact cb) (h:aZ S B enc sz v xs) (h0:0<=l) (hb:l.toNat<=xs.length):bW P N (.slice t x (some y) none none) tm (Mem bs H) c (gU sz l.toNat xs.length v):=by obtain⟨m,rfl⟩:∃m:Nat,l=m:=⟨l.toNat,by omega⟩;exact Ls hx aY h (λ_=>by simpa using hb)
end
end Go.b9
