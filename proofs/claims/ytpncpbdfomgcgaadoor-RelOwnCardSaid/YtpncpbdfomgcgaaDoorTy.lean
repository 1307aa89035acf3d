/- The facts on the seat's types and functions that the engine asks for: printed by wip/mkty.py. -/
import Derived.Test.YtpncpbdfomgcgaaDoorEng
import Derived.Test.YtpncpbdfomgcgaaDoorEnc
import Derived.Test.YtpncpbdfomgcgaaDoorProg
import Derived.KernelRfl
namespace Go.Proofs.YtpncpbdfomgcgaaDoor
open Go Go.Eng

instance : T1 Tryd.prog 1 := .of Tryd.underlying1 rfl
instance : TE Tryd.prog 1 1 8 (.nilFunc) := .of (by kernel_rfl)
instance : TU Tryd.prog 2 (.int .i64) := ⟨Tryd.underlying2⟩
instance : T1 Tryd.prog 2 := .of Tryd.underlying2 rfl
instance : TE Tryd.prog 2 1 8 (.int .i64 0) := .of (by kernel_rfl)
instance : EncOf Tryd.prog 2 encI decI := ⟨trivial⟩
instance : TU Tryd.prog 3 (.int .i64) := ⟨Tryd.underlying3⟩
instance : T1 Tryd.prog 3 := .of Tryd.underlying3 rfl
instance : TE Tryd.prog 3 1 8 (.int .i64 0) := .of (by kernel_rfl)
instance : EncOf Tryd.prog 3 encI decI := ⟨trivial⟩
instance : TU Tryd.prog 4 (.bool) := ⟨Tryd.underlying4⟩
instance : T1 Tryd.prog 4 := .of Tryd.underlying4 rfl
instance : TE Tryd.prog 4 1 1 (.bool false) := .of (by kernel_rfl)
instance : EncOf Tryd.prog 4 encB decB := ⟨trivial⟩
instance : TU Tryd.prog 5 (.int .u8) := ⟨Tryd.underlying5⟩
instance : T1 Tryd.prog 5 := .of Tryd.underlying5 rfl
instance : TE Tryd.prog 5 1 1 (.int .u8 0) := .of (by kernel_rfl)
instance : EncOf Tryd.prog 5 encU8 decU8 := ⟨trivial⟩
instance : TN Tryd.prog 7 4 := .of Tryd.underlying7 rfl (by kernel_rfl)
instance : TE Tryd.prog 7 4 24 (.agg #[.int .i64 0, .int .i64 0, .bool false, .int .u8 0]) := .of (by kernel_rfl)
instance : TF Tryd.prog 7 0 0 := .of (n := 0) Tryd.underlying7 rfl rfl (by kernel_rfl)
instance : TF Tryd.prog 7 1 1 := .of (n := 0) Tryd.underlying7 rfl rfl (by kernel_rfl)
instance : TF Tryd.prog 7 2 2 := .of (n := 0) Tryd.underlying7 rfl rfl (by kernel_rfl)
instance : TF Tryd.prog 7 3 3 := .of (n := 0) Tryd.underlying7 rfl rfl (by kernel_rfl)
instance : TP Tryd.prog 7 (.agg #[.int .i64 0, .int .i64 0, .bool false, .int .u8 0]) [(0, 1), (1, 1), (2, 1), (3, 1)] := .of Tryd.underlying7 (by kernel_rfl) (by kernel_rfl)
instance : TU Tryd.prog 9 (.string) := ⟨Tryd.underlying9⟩
instance : T1 Tryd.prog 9 := .of Tryd.underlying9 rfl
instance : TE Tryd.prog 9 1 16 (.string ByteArray.empty) := .of (by kernel_rfl)
instance : EncOf Tryd.prog 9 encT decT := ⟨trivial⟩
instance : TU Tryd.prog 12 (.int .u64) := ⟨Tryd.underlying12⟩
instance : T1 Tryd.prog 12 := .of Tryd.underlying12 rfl
instance : TE Tryd.prog 12 1 8 (.int .u64 0) := .of (by kernel_rfl)
instance : EncOf Tryd.prog 12 encW decW := ⟨trivial⟩
instance : TN Tryd.prog 13 2 := .of Tryd.underlying13 rfl (by kernel_rfl)
instance : TE Tryd.prog 13 2 24 (.agg #[.string ByteArray.empty, .int .u64 0]) := .of (by kernel_rfl)
instance : TF Tryd.prog 13 0 0 := .of (n := 0) Tryd.underlying13 rfl rfl (by kernel_rfl)
instance : TF Tryd.prog 13 1 1 := .of (n := 0) Tryd.underlying13 rfl rfl (by kernel_rfl)
instance : TP Tryd.prog 13 (.agg #[.string ByteArray.empty, .int .u64 0]) [(0, 1), (1, 1)] := .of Tryd.underlying13 (by kernel_rfl) (by kernel_rfl)
instance : T1 Tryd.prog 17 := .of Tryd.underlying17 rfl
instance : TE Tryd.prog 17 1 8 (.pointer none) := .of (by kernel_rfl)
instance : EncOf Tryd.prog 17 encV decV := ⟨trivial⟩
instance : TN Tryd.prog 18 1 := .of Tryd.underlying18 rfl (by kernel_rfl)
instance : TE Tryd.prog 18 1 8 (.agg #[.pointer none]) := .of (by kernel_rfl)
instance : TF Tryd.prog 18 0 0 := .of (n := 0) Tryd.underlying18 rfl rfl (by kernel_rfl)
instance : TP Tryd.prog 18 (.agg #[.pointer none]) [(0, 1)] := .of Tryd.underlying18 (by kernel_rfl) (by kernel_rfl)
instance : T1 Tryd.prog 20 := .of Tryd.underlying20 rfl
instance : TE Tryd.prog 20 1 16 (.nilIface) := .of (by kernel_rfl)
instance : EncOf Tryd.prog 20 encV decV := ⟨trivial⟩
instance : TU Tryd.prog 21 (.int .i32) := ⟨Tryd.underlying21⟩
instance : T1 Tryd.prog 21 := .of Tryd.underlying21 rfl
instance : TE Tryd.prog 21 1 4 (.int .i32 0) := .of (by kernel_rfl)
instance : TU Tryd.prog 22 (.slice 24) := ⟨Tryd.underlying22⟩
instance : T1 Tryd.prog 22 := .of Tryd.underlying22 rfl
instance : TE Tryd.prog 22 1 24 (.slice none 0 0) := .of (by kernel_rfl)
instance : TSl Tryd.prog 22 24 := ⟨Tryd.underlying22⟩
instance : EncOf Tryd.prog 22 encV decV := ⟨trivial⟩
instance : TN Tryd.prog 23 2 := .of Tryd.underlying23 rfl (by kernel_rfl)
instance : TE Tryd.prog 23 2 16 (.agg #[.int .i64 0, .int .i64 0]) := .of (by kernel_rfl)
instance : TF Tryd.prog 23 0 0 := .of (n := 0) Tryd.underlying23 rfl rfl (by kernel_rfl)
instance : TF Tryd.prog 23 1 1 := .of (n := 0) Tryd.underlying23 rfl rfl (by kernel_rfl)
instance : TP Tryd.prog 23 (.agg #[.int .i64 0, .int .i64 0]) [(0, 1), (1, 1)] := .of Tryd.underlying23 (by kernel_rfl) (by kernel_rfl)
instance : TN Tryd.prog 24 2 := .of Tryd.underlying24 rfl (by kernel_rfl)
instance : TE Tryd.prog 24 2 16 (.agg #[.int .i64 0, .int .i64 0]) := .of (by kernel_rfl)
instance : TF Tryd.prog 24 0 0 := .of (n := 0) Tryd.underlying24 rfl rfl (by kernel_rfl)
instance : TF Tryd.prog 24 1 1 := .of (n := 0) Tryd.underlying24 rfl rfl (by kernel_rfl)
instance : TP Tryd.prog 24 (.agg #[.int .i64 0, .int .i64 0]) [(0, 1), (1, 1)] := .of Tryd.underlying24 (by kernel_rfl) (by kernel_rfl)
instance : EncOf Tryd.prog 24 encPair decPair := ⟨trivial⟩
instance : TU Tryd.prog 25 (.slice 38) := ⟨Tryd.underlying25⟩
instance : T1 Tryd.prog 25 := .of Tryd.underlying25 rfl
instance : TE Tryd.prog 25 1 24 (.slice none 0 0) := .of (by kernel_rfl)
instance : TSl Tryd.prog 25 38 := ⟨Tryd.underlying25⟩
instance : EncOf Tryd.prog 25 encV decV := ⟨trivial⟩
instance : TN Tryd.prog 26 2 := .of Tryd.underlying26 rfl (by kernel_rfl)
instance : TE Tryd.prog 26 2 32 (.agg #[.int .i64 0, .slice none 0 0]) := .of (by kernel_rfl)
instance : TF Tryd.prog 26 0 0 := .of (n := 0) Tryd.underlying26 rfl rfl (by kernel_rfl)
instance : TF Tryd.prog 26 1 1 := .of (n := 0) Tryd.underlying26 rfl rfl (by kernel_rfl)
instance : TP Tryd.prog 26 (.agg #[.int .i64 0, .slice none 0 0]) [(0, 1), (1, 1)] := .of Tryd.underlying26 (by kernel_rfl) (by kernel_rfl)
instance : TN Tryd.prog 27 2 := .of Tryd.underlying27 rfl (by kernel_rfl)
instance : TE Tryd.prog 27 2 32 (.agg #[.int .i64 0, .slice none 0 0]) := .of (by kernel_rfl)
instance : TF Tryd.prog 27 0 0 := .of (n := 0) Tryd.underlying27 rfl rfl (by kernel_rfl)
instance : TF Tryd.prog 27 1 1 := .of (n := 0) Tryd.underlying27 rfl rfl (by kernel_rfl)
instance : TP Tryd.prog 27 (.agg #[.int .i64 0, .slice none 0 0]) [(0, 1), (1, 1)] := .of Tryd.underlying27 (by kernel_rfl) (by kernel_rfl)
instance : TU Tryd.prog 28 (.int .i64) := ⟨Tryd.underlying28⟩
instance : T1 Tryd.prog 28 := .of Tryd.underlying28 rfl
instance : TE Tryd.prog 28 1 8 (.int .i64 0) := .of (by kernel_rfl)
instance : EncOf Tryd.prog 28 encI decI := ⟨trivial⟩
instance : T1 Tryd.prog 30 := .of Tryd.underlying30 rfl
instance : TE Tryd.prog 30 1 8 (.nilFunc) := .of (by kernel_rfl)
instance : T1 Tryd.prog 32 := .of Tryd.underlying32 rfl
instance : TE Tryd.prog 32 1 8 (.nilFunc) := .of (by kernel_rfl)
instance : T1 Tryd.prog 33 := .of Tryd.underlying33 rfl
instance : TE Tryd.prog 33 1 8 (.nilFunc) := .of (by kernel_rfl)
instance : T1 Tryd.prog 34 := .of Tryd.underlying34 rfl
instance : TE Tryd.prog 34 1 8 (.nilFunc) := .of (by kernel_rfl)
instance : T1 Tryd.prog 35 := .of Tryd.underlying35 rfl
instance : TE Tryd.prog 35 1 8 (.nilFunc) := .of (by kernel_rfl)
instance : T1 Tryd.prog 36 := .of Tryd.underlying36 rfl
instance : TE Tryd.prog 36 1 8 (.nilFunc) := .of (by kernel_rfl)
instance : T1 Tryd.prog 37 := .of Tryd.underlying37 rfl
instance : TE Tryd.prog 37 1 8 (.nilFunc) := .of (by kernel_rfl)
instance : TU Tryd.prog 38 (.int .u64) := ⟨Tryd.underlying38⟩
instance : T1 Tryd.prog 38 := .of Tryd.underlying38 rfl
instance : TE Tryd.prog 38 1 8 (.int .u64 0) := .of (by kernel_rfl)
instance : EncOf Tryd.prog 38 encW decW := ⟨trivial⟩
instance : TN Tryd.prog 39 2 := .of Tryd.underlying39 rfl (by kernel_rfl)
instance : TE Tryd.prog 39 2 16 (.agg #[.int .u64 0, .int .u64 0]) := .of (by kernel_rfl)
instance : TAr Tryd.prog 39 2 38 := ⟨Tryd.underlying39⟩
instance : T1 Tryd.prog 40 := .of Tryd.underlying40 rfl
instance : TE Tryd.prog 40 1 8 (.nilFunc) := .of (by kernel_rfl)
instance : T1 Tryd.prog 41 := .of Tryd.underlying41 rfl
instance : TE Tryd.prog 41 1 8 (.nilFunc) := .of (by kernel_rfl)
instance : T1 Tryd.prog 42 := .of Tryd.underlying42 rfl
instance : TE Tryd.prog 42 1 8 (.nilFunc) := .of (by kernel_rfl)
instance : T1 Tryd.prog 43 := .of Tryd.underlying43 rfl
instance : TE Tryd.prog 43 1 8 (.nilFunc) := .of (by kernel_rfl)
instance : T1 Tryd.prog 44 := .of Tryd.underlying44 rfl
instance : TE Tryd.prog 44 1 8 (.nilFunc) := .of (by kernel_rfl)
instance : T1 Tryd.prog 46 := .of Tryd.underlying46 rfl
instance : TE Tryd.prog 46 1 8 (.nilFunc) := .of (by kernel_rfl)
instance : T1 Tryd.prog 47 := .of Tryd.underlying47 rfl
instance : TE Tryd.prog 47 1 8 (.nilFunc) := .of (by kernel_rfl)
instance : T1 Tryd.prog 48 := .of Tryd.underlying48 rfl
instance : TE Tryd.prog 48 1 8 (.nilFunc) := .of (by kernel_rfl)
instance : TU Tryd.prog 49 (.slice 3) := ⟨Tryd.underlying49⟩
instance : T1 Tryd.prog 49 := .of Tryd.underlying49 rfl
instance : TE Tryd.prog 49 1 24 (.slice none 0 0) := .of (by kernel_rfl)
instance : TSl Tryd.prog 49 3 := ⟨Tryd.underlying49⟩
instance : EncOf Tryd.prog 49 encV decV := ⟨trivial⟩
instance : T1 Tryd.prog 51 := .of Tryd.underlying51 rfl
instance : TE Tryd.prog 51 1 8 (.nilFunc) := .of (by kernel_rfl)
instance : T1 Tryd.prog 52 := .of Tryd.underlying52 rfl
instance : TE Tryd.prog 52 1 8 (.nilFunc) := .of (by kernel_rfl)
instance : T1 Tryd.prog 53 := .of Tryd.underlying53 rfl
instance : TE Tryd.prog 53 1 8 (.nilFunc) := .of (by kernel_rfl)
instance : TU Tryd.prog 54 (.int .u64) := ⟨Tryd.underlying54⟩
instance : T1 Tryd.prog 54 := .of Tryd.underlying54 rfl
instance : TE Tryd.prog 54 1 8 (.int .u64 0) := .of (by kernel_rfl)
instance : EncOf Tryd.prog 54 encW decW := ⟨trivial⟩
instance : T1 Tryd.prog 55 := .of Tryd.underlying55 rfl
instance : TE Tryd.prog 55 1 8 (.nilFunc) := .of (by kernel_rfl)
instance : T1 Tryd.prog 56 := .of Tryd.underlying56 rfl
instance : TE Tryd.prog 56 1 8 (.nilFunc) := .of (by kernel_rfl)
instance : T1 Tryd.prog 57 := .of Tryd.underlying57 rfl
instance : TE Tryd.prog 57 1 8 (.nilFunc) := .of (by kernel_rfl)
instance : T1 Tryd.prog 58 := .of Tryd.underlying58 rfl
instance : TE Tryd.prog 58 1 8 (.nilFunc) := .of (by kernel_rfl)
instance : T1 Tryd.prog 59 := .of Tryd.underlying59 rfl
instance : TE Tryd.prog 59 1 8 (.nilFunc) := .of (by kernel_rfl)
instance : T1 Tryd.prog 60 := .of Tryd.underlying60 rfl
instance : TE Tryd.prog 60 1 8 (.nilFunc) := .of (by kernel_rfl)
instance : T1 Tryd.prog 61 := .of Tryd.underlying61 rfl
instance : TE Tryd.prog 61 1 8 (.nilFunc) := .of (by kernel_rfl)
instance : T1 Tryd.prog 62 := .of Tryd.underlying62 rfl
instance : TE Tryd.prog 62 1 8 (.nilFunc) := .of (by kernel_rfl)
instance : T1 Tryd.prog 63 := .of Tryd.underlying63 rfl
instance : TE Tryd.prog 63 1 8 (.nilFunc) := .of (by kernel_rfl)
instance : T1 Tryd.prog 64 := .of Tryd.underlying64 rfl
instance : TE Tryd.prog 64 1 8 (.nilFunc) := .of (by kernel_rfl)
instance : T1 Tryd.prog 65 := .of Tryd.underlying65 rfl
instance : TE Tryd.prog 65 1 8 (.nilFunc) := .of (by kernel_rfl)
instance : T1 Tryd.prog 66 := .of Tryd.underlying66 rfl
instance : TE Tryd.prog 66 1 8 (.nilFunc) := .of (by kernel_rfl)
instance : T1 Tryd.prog 67 := .of Tryd.underlying67 rfl
instance : TE Tryd.prog 67 1 8 (.nilFunc) := .of (by kernel_rfl)
instance : TU Tryd.prog 68 (.slice 4) := ⟨Tryd.underlying68⟩
instance : T1 Tryd.prog 68 := .of Tryd.underlying68 rfl
instance : TE Tryd.prog 68 1 24 (.slice none 0 0) := .of (by kernel_rfl)
instance : TSl Tryd.prog 68 4 := ⟨Tryd.underlying68⟩
instance : EncOf Tryd.prog 68 encV decV := ⟨trivial⟩
instance : T1 Tryd.prog 69 := .of Tryd.underlying69 rfl
instance : TE Tryd.prog 69 1 8 (.nilFunc) := .of (by kernel_rfl)
instance : TN Tryd.prog 70 64 := .of Tryd.underlying70 rfl (by kernel_rfl)
instance : TE Tryd.prog 70 64 64 (.agg #[.int .u8 0, .int .u8 0, .int .u8 0, .int .u8 0, .int .u8 0, .int .u8 0, .int .u8 0, .int .u8 0, .int .u8 0, .int .u8 0, .int .u8 0, .int .u8 0, .int .u8 0, .int .u8 0, .int .u8 0, .int .u8 0, .int .u8 0, .int .u8 0, .int .u8 0, .int .u8 0, .int .u8 0, .int .u8 0, .int .u8 0, .int .u8 0, .int .u8 0, .int .u8 0, .int .u8 0, .int .u8 0, .int .u8 0, .int .u8 0, .int .u8 0, .int .u8 0, .int .u8 0, .int .u8 0, .int .u8 0, .int .u8 0, .int .u8 0, .int .u8 0, .int .u8 0, .int .u8 0, .int .u8 0, .int .u8 0, .int .u8 0, .int .u8 0, .int .u8 0, .int .u8 0, .int .u8 0, .int .u8 0, .int .u8 0, .int .u8 0, .int .u8 0, .int .u8 0, .int .u8 0, .int .u8 0, .int .u8 0, .int .u8 0, .int .u8 0, .int .u8 0, .int .u8 0, .int .u8 0, .int .u8 0, .int .u8 0, .int .u8 0, .int .u8 0]) := .of (by kernel_rfl)
instance : TAr Tryd.prog 70 64 5 := ⟨Tryd.underlying70⟩
instance : T1 Tryd.prog 71 := .of Tryd.underlying71 rfl
instance : TE Tryd.prog 71 1 8 (.nilFunc) := .of (by kernel_rfl)
instance : TN Tryd.prog 72 4 := .of Tryd.underlying72 rfl (by kernel_rfl)
instance : TE Tryd.prog 72 4 40 (.agg #[.pointer none, .pointer none, .pointer none, .string ByteArray.empty]) := .of (by kernel_rfl)
instance : TF Tryd.prog 72 0 0 := .of (n := 0) Tryd.underlying72 rfl rfl (by kernel_rfl)
instance : TF Tryd.prog 72 1 1 := .of (n := 0) Tryd.underlying72 rfl rfl (by kernel_rfl)
instance : TF Tryd.prog 72 2 2 := .of (n := 0) Tryd.underlying72 rfl rfl (by kernel_rfl)
instance : TF Tryd.prog 72 3 3 := .of (n := 0) Tryd.underlying72 rfl rfl (by kernel_rfl)
instance : TP Tryd.prog 72 (.agg #[.pointer none, .pointer none, .pointer none, .string ByteArray.empty]) [(0, 1), (1, 1), (2, 1), (3, 1)] := .of Tryd.underlying72 (by kernel_rfl) (by kernel_rfl)
instance : TN Tryd.prog 74 0 := .of Tryd.underlying74 rfl (by kernel_rfl)
instance : TE Tryd.prog 74 0 0 (.agg #[]) := .of (by kernel_rfl)
instance : TAr Tryd.prog 74 0 16 := ⟨Tryd.underlying74⟩
instance : TN Tryd.prog 75 0 := .of Tryd.underlying75 rfl (by kernel_rfl)
instance : TE Tryd.prog 75 0 0 (.agg #[]) := .of (by kernel_rfl)
instance : TP Tryd.prog 75 (.agg #[]) [(0, 0)] := .of Tryd.underlying75 (by kernel_rfl) (by kernel_rfl)
instance : T1 Tryd.prog 77 := .of Tryd.underlying77 rfl
instance : TE Tryd.prog 77 1 8 (.nilFunc) := .of (by kernel_rfl)
instance : TU Tryd.prog 78 (.int .u32) := ⟨Tryd.underlying78⟩
instance : T1 Tryd.prog 78 := .of Tryd.underlying78 rfl
instance : TE Tryd.prog 78 1 4 (.int .u32 0) := .of (by kernel_rfl)
instance : T1 Tryd.prog 81 := .of Tryd.underlying81 rfl
instance : TE Tryd.prog 81 1 8 (.nilFunc) := .of (by kernel_rfl)
instance : T1 Tryd.prog 82 := .of Tryd.underlying82 rfl
instance : TE Tryd.prog 82 1 8 (.pointer none) := .of (by kernel_rfl)
instance : EncOf Tryd.prog 82 encV decV := ⟨trivial⟩
instance : TN Tryd.prog 85 11 := .of Tryd.underlying85 rfl (by kernel_rfl)
instance : TE Tryd.prog 85 11 48 (.agg #[.int .u64 0, .int .u64 0, .int .u32 0, .int .u8 0, .int .u8 0, .int .u8 0, .int .u8 0, .nilFunc, .pointer none, .int .i32 0, .int .i32 0]) := .of (by kernel_rfl)
instance : TF Tryd.prog 85 0 0 := .of (n := 0) Tryd.underlying85 rfl rfl (by kernel_rfl)
instance : TF Tryd.prog 85 1 1 := .of (n := 0) Tryd.underlying85 rfl rfl (by kernel_rfl)
instance : TF Tryd.prog 85 2 2 := .of (n := 0) Tryd.underlying85 rfl rfl (by kernel_rfl)
instance : TF Tryd.prog 85 3 3 := .of (n := 0) Tryd.underlying85 rfl rfl (by kernel_rfl)
instance : TF Tryd.prog 85 4 4 := .of (n := 0) Tryd.underlying85 rfl rfl (by kernel_rfl)
instance : TF Tryd.prog 85 5 5 := .of (n := 0) Tryd.underlying85 rfl rfl (by kernel_rfl)
instance : TF Tryd.prog 85 6 6 := .of (n := 0) Tryd.underlying85 rfl rfl (by kernel_rfl)
instance : TF Tryd.prog 85 7 7 := .of (n := 0) Tryd.underlying85 rfl rfl (by kernel_rfl)
instance : TF Tryd.prog 85 8 8 := .of (n := 0) Tryd.underlying85 rfl rfl (by kernel_rfl)
instance : TF Tryd.prog 85 9 9 := .of (n := 0) Tryd.underlying85 rfl rfl (by kernel_rfl)
instance : TF Tryd.prog 85 10 10 := .of (n := 0) Tryd.underlying85 rfl rfl (by kernel_rfl)
instance : TP Tryd.prog 85 (.agg #[.int .u64 0, .int .u64 0, .int .u32 0, .int .u8 0, .int .u8 0, .int .u8 0, .int .u8 0, .nilFunc, .pointer none, .int .i32 0, .int .i32 0]) [(0, 1), (1, 1), (2, 1), (3, 1), (4, 1), (5, 1), (6, 1), (7, 1), (8, 1), (9, 1), (10, 1)] := .of Tryd.underlying85 (by kernel_rfl) (by kernel_rfl)
instance : T1 Tryd.prog 87 := .of Tryd.underlying87 rfl
instance : TE Tryd.prog 87 1 8 (.pointer none) := .of (by kernel_rfl)
instance : FN Tryd.prog 3 := ⟨Tryd.f3, Tryd.func3, by kernel_rfl, by kernel_rfl⟩
instance : FN Tryd.prog 4 := ⟨Tryd.f4, Tryd.func4, by kernel_rfl, by kernel_rfl⟩
instance : FN Tryd.prog 5 := ⟨Tryd.f5, Tryd.func5, by kernel_rfl, by kernel_rfl⟩
instance : FN Tryd.prog 6 := ⟨Tryd.f6, Tryd.func6, by kernel_rfl, by kernel_rfl⟩
instance : FN Tryd.prog 7 := ⟨Tryd.f7, Tryd.func7, by kernel_rfl, by kernel_rfl⟩
instance : FN Tryd.prog 8 := ⟨Tryd.f8, Tryd.func8, by kernel_rfl, by kernel_rfl⟩
instance : FN Tryd.prog 9 := ⟨Tryd.f9, Tryd.func9, by kernel_rfl, by kernel_rfl⟩
instance : FN Tryd.prog 10 := ⟨Tryd.f10, Tryd.func10, by kernel_rfl, by kernel_rfl⟩
instance : FN Tryd.prog 11 := ⟨Tryd.f11, Tryd.func11, by kernel_rfl, by kernel_rfl⟩
instance : FN Tryd.prog 12 := ⟨Tryd.f12, Tryd.func12, by kernel_rfl, by kernel_rfl⟩
instance : FN Tryd.prog 13 := ⟨Tryd.f13, Tryd.func13, by kernel_rfl, by kernel_rfl⟩
instance : FN Tryd.prog 14 := ⟨Tryd.f14, Tryd.func14, by kernel_rfl, by kernel_rfl⟩
instance : FN Tryd.prog 15 := ⟨Tryd.f15, Tryd.func15, by kernel_rfl, by kernel_rfl⟩
instance : FN Tryd.prog 16 := ⟨Tryd.f16, Tryd.func16, by kernel_rfl, by kernel_rfl⟩
instance : FN Tryd.prog 17 := ⟨Tryd.f17, Tryd.func17, by kernel_rfl, by kernel_rfl⟩
instance : FN Tryd.prog 18 := ⟨Tryd.f18, Tryd.func18, by kernel_rfl, by kernel_rfl⟩
instance : FN Tryd.prog 19 := ⟨Tryd.f19, Tryd.func19, by kernel_rfl, by kernel_rfl⟩
instance : FN Tryd.prog 20 := ⟨Tryd.f20, Tryd.func20, by kernel_rfl, by kernel_rfl⟩
instance : FN Tryd.prog 21 := ⟨Tryd.f21, Tryd.func21, by kernel_rfl, by kernel_rfl⟩
instance : FN Tryd.prog 22 := ⟨Tryd.f22, Tryd.func22, by kernel_rfl, by kernel_rfl⟩
instance : FN Tryd.prog 23 := ⟨Tryd.f23, Tryd.func23, by kernel_rfl, by kernel_rfl⟩
instance : FN Tryd.prog 24 := ⟨Tryd.f24, Tryd.func24, by kernel_rfl, by kernel_rfl⟩
instance : FN Tryd.prog 25 := ⟨Tryd.f25, Tryd.func25, by kernel_rfl, by kernel_rfl⟩
instance : FN Tryd.prog 26 := ⟨Tryd.f26, Tryd.func26, by kernel_rfl, by kernel_rfl⟩
instance : FN Tryd.prog 27 := ⟨Tryd.f27, Tryd.func27, by kernel_rfl, by kernel_rfl⟩
instance : FN Tryd.prog 28 := ⟨Tryd.f28, Tryd.func28, by kernel_rfl, by kernel_rfl⟩
instance : FN Tryd.prog 29 := ⟨Tryd.f29, Tryd.func29, by kernel_rfl, by kernel_rfl⟩
instance : FN Tryd.prog 30 := ⟨Tryd.f30, Tryd.func30, by kernel_rfl, by kernel_rfl⟩
instance : FN Tryd.prog 31 := ⟨Tryd.f31, Tryd.func31, by kernel_rfl, by kernel_rfl⟩
instance : FN Tryd.prog 32 := ⟨Tryd.f32, Tryd.func32, by kernel_rfl, by kernel_rfl⟩
instance : FN Tryd.prog 33 := ⟨Tryd.f33, Tryd.func33, by kernel_rfl, by kernel_rfl⟩
instance : FN Tryd.prog 34 := ⟨Tryd.f34, Tryd.func34, by kernel_rfl, by kernel_rfl⟩
instance : FN Tryd.prog 35 := ⟨Tryd.f35, Tryd.func35, by kernel_rfl, by kernel_rfl⟩
instance : FN Tryd.prog 36 := ⟨Tryd.f36, Tryd.func36, by kernel_rfl, by kernel_rfl⟩
instance : FN Tryd.prog 37 := ⟨Tryd.f37, Tryd.func37, by kernel_rfl, by kernel_rfl⟩
instance : FN Tryd.prog 38 := ⟨Tryd.f38, Tryd.func38, by kernel_rfl, by kernel_rfl⟩
instance : FN Tryd.prog 39 := ⟨Tryd.f39, Tryd.func39, by kernel_rfl, by kernel_rfl⟩
instance : FN Tryd.prog 40 := ⟨Tryd.f40, Tryd.func40, by kernel_rfl, by kernel_rfl⟩
instance : FN Tryd.prog 41 := ⟨Tryd.f41, Tryd.func41, by kernel_rfl, by kernel_rfl⟩
instance : FN Tryd.prog 42 := ⟨Tryd.f42, Tryd.func42, by kernel_rfl, by kernel_rfl⟩
instance : FN Tryd.prog 43 := ⟨Tryd.f43, Tryd.func43, by kernel_rfl, by kernel_rfl⟩
instance : FN Tryd.prog 44 := ⟨Tryd.f44, Tryd.func44, by kernel_rfl, by kernel_rfl⟩
instance : FN Tryd.prog 45 := ⟨Tryd.f45, Tryd.func45, by kernel_rfl, by kernel_rfl⟩
instance : FN Tryd.prog 46 := ⟨Tryd.f46, Tryd.func46, by kernel_rfl, by kernel_rfl⟩
instance : FN Tryd.prog 47 := ⟨Tryd.f47, Tryd.func47, by kernel_rfl, by kernel_rfl⟩
instance : FN Tryd.prog 48 := ⟨Tryd.f48, Tryd.func48, by kernel_rfl, by kernel_rfl⟩
instance : FN Tryd.prog 49 := ⟨Tryd.f49, Tryd.func49, by kernel_rfl, by kernel_rfl⟩
instance : FN Tryd.prog 50 := ⟨Tryd.f50, Tryd.func50, by kernel_rfl, by kernel_rfl⟩
instance : FN Tryd.prog 51 := ⟨Tryd.f51, Tryd.func51, by kernel_rfl, by kernel_rfl⟩
instance : FN Tryd.prog 52 := ⟨Tryd.f52, Tryd.func52, by kernel_rfl, by kernel_rfl⟩
instance : FN Tryd.prog 53 := ⟨Tryd.f53, Tryd.func53, by kernel_rfl, by kernel_rfl⟩
instance : FN Tryd.prog 54 := ⟨Tryd.f54, Tryd.func54, by kernel_rfl, by kernel_rfl⟩
instance : FN Tryd.prog 55 := ⟨Tryd.f55, Tryd.func55, by kernel_rfl, by kernel_rfl⟩
instance : FN Tryd.prog 56 := ⟨Tryd.f56, Tryd.func56, by kernel_rfl, by kernel_rfl⟩
instance : FN Tryd.prog 57 := ⟨Tryd.f57, Tryd.func57, by kernel_rfl, by kernel_rfl⟩
instance : FN Tryd.prog 58 := ⟨Tryd.f58, Tryd.func58, by kernel_rfl, by kernel_rfl⟩
instance : FN Tryd.prog 59 := ⟨Tryd.f59, Tryd.func59, by kernel_rfl, by kernel_rfl⟩
instance : FN Tryd.prog 60 := ⟨Tryd.f60, Tryd.func60, by kernel_rfl, by kernel_rfl⟩
instance : FN Tryd.prog 61 := ⟨Tryd.f61, Tryd.func61, by kernel_rfl, by kernel_rfl⟩
instance : FN Tryd.prog 62 := ⟨Tryd.f62, Tryd.func62, by kernel_rfl, by kernel_rfl⟩
instance : FN Tryd.prog 63 := ⟨Tryd.f63, Tryd.func63, by kernel_rfl, by kernel_rfl⟩
instance : FN Tryd.prog 64 := ⟨Tryd.f64, Tryd.func64, by kernel_rfl, by kernel_rfl⟩
instance : FN Tryd.prog 65 := ⟨Tryd.f65, Tryd.func65, by kernel_rfl, by kernel_rfl⟩
instance : FN Tryd.prog 66 := ⟨Tryd.f66, Tryd.func66, by kernel_rfl, by kernel_rfl⟩
instance : FN Tryd.prog 67 := ⟨Tryd.f67, Tryd.func67, by kernel_rfl, by kernel_rfl⟩
instance : FN Tryd.prog 68 := ⟨Tryd.f68, Tryd.func68, by kernel_rfl, by kernel_rfl⟩
theorem mixed : Tryd.prog.follows .mixedOrders = true := by kernel_rfl
end Go.Proofs.YtpncpbdfomgcgaaDoor
