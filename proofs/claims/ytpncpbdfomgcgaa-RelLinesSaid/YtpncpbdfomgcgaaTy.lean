/- The facts on the seat's types and functions that the engine asks for: printed by wip/mkty.py. -/
import Derived.Test.YtpncpbdfomgcgaaEng
import Derived.Test.YtpncpbdfomgcgaaEnc
import Derived.Test.YtpncpbdfomgcgaaProg
import Derived.KernelRfl
namespace Go.Proofs.Ytpncpbdfomgcgaa
open Go Go.Eng

instance : T1 Try.prog 1 := .of Try.underlying1 rfl
instance : TE Try.prog 1 1 8 (.nilFunc) := .of (by kernel_rfl)
instance : TU Try.prog 2 (.int .i64) := ⟨Try.underlying2⟩
instance : T1 Try.prog 2 := .of Try.underlying2 rfl
instance : TE Try.prog 2 1 8 (.int .i64 0) := .of (by kernel_rfl)
instance : EncOf Try.prog 2 encI decI := ⟨trivial⟩
instance : TU Try.prog 3 (.int .i64) := ⟨Try.underlying3⟩
instance : T1 Try.prog 3 := .of Try.underlying3 rfl
instance : TE Try.prog 3 1 8 (.int .i64 0) := .of (by kernel_rfl)
instance : EncOf Try.prog 3 encI decI := ⟨trivial⟩
instance : TU Try.prog 4 (.bool) := ⟨Try.underlying4⟩
instance : T1 Try.prog 4 := .of Try.underlying4 rfl
instance : TE Try.prog 4 1 1 (.bool false) := .of (by kernel_rfl)
instance : EncOf Try.prog 4 encB decB := ⟨trivial⟩
instance : TU Try.prog 5 (.int .u8) := ⟨Try.underlying5⟩
instance : T1 Try.prog 5 := .of Try.underlying5 rfl
instance : TE Try.prog 5 1 1 (.int .u8 0) := .of (by kernel_rfl)
instance : EncOf Try.prog 5 encU8 decU8 := ⟨trivial⟩
instance : TN Try.prog 7 4 := .of Try.underlying7 rfl (by kernel_rfl)
instance : TE Try.prog 7 4 24 (.agg #[.int .i64 0, .int .i64 0, .bool false, .int .u8 0]) := .of (by kernel_rfl)
instance : TF Try.prog 7 0 0 := .of (n := 0) Try.underlying7 rfl rfl (by kernel_rfl)
instance : TF Try.prog 7 1 1 := .of (n := 0) Try.underlying7 rfl rfl (by kernel_rfl)
instance : TF Try.prog 7 2 2 := .of (n := 0) Try.underlying7 rfl rfl (by kernel_rfl)
instance : TF Try.prog 7 3 3 := .of (n := 0) Try.underlying7 rfl rfl (by kernel_rfl)
instance : TP Try.prog 7 (.agg #[.int .i64 0, .int .i64 0, .bool false, .int .u8 0]) [(0, 1), (1, 1), (2, 1), (3, 1)] := .of Try.underlying7 (by kernel_rfl) (by kernel_rfl)
instance : TU Try.prog 9 (.string) := ⟨Try.underlying9⟩
instance : T1 Try.prog 9 := .of Try.underlying9 rfl
instance : TE Try.prog 9 1 16 (.string ByteArray.empty) := .of (by kernel_rfl)
instance : EncOf Try.prog 9 encT decT := ⟨trivial⟩
instance : TU Try.prog 12 (.int .u64) := ⟨Try.underlying12⟩
instance : T1 Try.prog 12 := .of Try.underlying12 rfl
instance : TE Try.prog 12 1 8 (.int .u64 0) := .of (by kernel_rfl)
instance : EncOf Try.prog 12 encW decW := ⟨trivial⟩
instance : TN Try.prog 13 2 := .of Try.underlying13 rfl (by kernel_rfl)
instance : TE Try.prog 13 2 24 (.agg #[.string ByteArray.empty, .int .u64 0]) := .of (by kernel_rfl)
instance : TF Try.prog 13 0 0 := .of (n := 0) Try.underlying13 rfl rfl (by kernel_rfl)
instance : TF Try.prog 13 1 1 := .of (n := 0) Try.underlying13 rfl rfl (by kernel_rfl)
instance : TP Try.prog 13 (.agg #[.string ByteArray.empty, .int .u64 0]) [(0, 1), (1, 1)] := .of Try.underlying13 (by kernel_rfl) (by kernel_rfl)
instance : T1 Try.prog 17 := .of Try.underlying17 rfl
instance : TE Try.prog 17 1 8 (.pointer none) := .of (by kernel_rfl)
instance : EncOf Try.prog 17 encV decV := ⟨trivial⟩
instance : TN Try.prog 18 1 := .of Try.underlying18 rfl (by kernel_rfl)
instance : TE Try.prog 18 1 8 (.agg #[.pointer none]) := .of (by kernel_rfl)
instance : TF Try.prog 18 0 0 := .of (n := 0) Try.underlying18 rfl rfl (by kernel_rfl)
instance : TP Try.prog 18 (.agg #[.pointer none]) [(0, 1)] := .of Try.underlying18 (by kernel_rfl) (by kernel_rfl)
instance : T1 Try.prog 20 := .of Try.underlying20 rfl
instance : TE Try.prog 20 1 16 (.nilIface) := .of (by kernel_rfl)
instance : EncOf Try.prog 20 encV decV := ⟨trivial⟩
instance : TU Try.prog 21 (.int .i32) := ⟨Try.underlying21⟩
instance : T1 Try.prog 21 := .of Try.underlying21 rfl
instance : TE Try.prog 21 1 4 (.int .i32 0) := .of (by kernel_rfl)
instance : TU Try.prog 22 (.slice 42) := ⟨Try.underlying22⟩
instance : T1 Try.prog 22 := .of Try.underlying22 rfl
instance : TE Try.prog 22 1 24 (.slice none 0 0) := .of (by kernel_rfl)
instance : TSl Try.prog 22 42 := ⟨Try.underlying22⟩
instance : EncOf Try.prog 22 encV decV := ⟨trivial⟩
instance : TN Try.prog 23 2 := .of Try.underlying23 rfl (by kernel_rfl)
instance : TE Try.prog 23 2 32 (.agg #[.int .i64 0, .slice none 0 0]) := .of (by kernel_rfl)
instance : TF Try.prog 23 0 0 := .of (n := 0) Try.underlying23 rfl rfl (by kernel_rfl)
instance : TF Try.prog 23 1 1 := .of (n := 0) Try.underlying23 rfl rfl (by kernel_rfl)
instance : TP Try.prog 23 (.agg #[.int .i64 0, .slice none 0 0]) [(0, 1), (1, 1)] := .of Try.underlying23 (by kernel_rfl) (by kernel_rfl)
instance : TN Try.prog 24 2 := .of Try.underlying24 rfl (by kernel_rfl)
instance : TE Try.prog 24 2 32 (.agg #[.int .i64 0, .slice none 0 0]) := .of (by kernel_rfl)
instance : TF Try.prog 24 0 0 := .of (n := 0) Try.underlying24 rfl rfl (by kernel_rfl)
instance : TF Try.prog 24 1 1 := .of (n := 0) Try.underlying24 rfl rfl (by kernel_rfl)
instance : TP Try.prog 24 (.agg #[.int .i64 0, .slice none 0 0]) [(0, 1), (1, 1)] := .of Try.underlying24 (by kernel_rfl) (by kernel_rfl)
instance : T1 Try.prog 25 := .of Try.underlying25 rfl
instance : TE Try.prog 25 1 8 (.nilFunc) := .of (by kernel_rfl)
instance : TU Try.prog 26 (.int .i64) := ⟨Try.underlying26⟩
instance : T1 Try.prog 26 := .of Try.underlying26 rfl
instance : TE Try.prog 26 1 8 (.int .i64 0) := .of (by kernel_rfl)
instance : EncOf Try.prog 26 encI decI := ⟨trivial⟩
instance : T1 Try.prog 28 := .of Try.underlying28 rfl
instance : TE Try.prog 28 1 8 (.nilFunc) := .of (by kernel_rfl)
instance : TU Try.prog 29 (.slice 3) := ⟨Try.underlying29⟩
instance : T1 Try.prog 29 := .of Try.underlying29 rfl
instance : TE Try.prog 29 1 24 (.slice none 0 0) := .of (by kernel_rfl)
instance : TSl Try.prog 29 3 := ⟨Try.underlying29⟩
instance : EncOf Try.prog 29 encV decV := ⟨trivial⟩
instance : T1 Try.prog 31 := .of Try.underlying31 rfl
instance : TE Try.prog 31 1 8 (.nilFunc) := .of (by kernel_rfl)
instance : T1 Try.prog 32 := .of Try.underlying32 rfl
instance : TE Try.prog 32 1 8 (.nilFunc) := .of (by kernel_rfl)
instance : T1 Try.prog 33 := .of Try.underlying33 rfl
instance : TE Try.prog 33 1 8 (.nilFunc) := .of (by kernel_rfl)
instance : T1 Try.prog 34 := .of Try.underlying34 rfl
instance : TE Try.prog 34 1 8 (.nilFunc) := .of (by kernel_rfl)
instance : T1 Try.prog 35 := .of Try.underlying35 rfl
instance : TE Try.prog 35 1 8 (.nilFunc) := .of (by kernel_rfl)
instance : T1 Try.prog 37 := .of Try.underlying37 rfl
instance : TE Try.prog 37 1 8 (.nilFunc) := .of (by kernel_rfl)
instance : T1 Try.prog 38 := .of Try.underlying38 rfl
instance : TE Try.prog 38 1 8 (.nilFunc) := .of (by kernel_rfl)
instance : T1 Try.prog 39 := .of Try.underlying39 rfl
instance : TE Try.prog 39 1 8 (.nilFunc) := .of (by kernel_rfl)
instance : T1 Try.prog 40 := .of Try.underlying40 rfl
instance : TE Try.prog 40 1 8 (.nilFunc) := .of (by kernel_rfl)
instance : T1 Try.prog 41 := .of Try.underlying41 rfl
instance : TE Try.prog 41 1 8 (.nilFunc) := .of (by kernel_rfl)
instance : TU Try.prog 42 (.int .u64) := ⟨Try.underlying42⟩
instance : T1 Try.prog 42 := .of Try.underlying42 rfl
instance : TE Try.prog 42 1 8 (.int .u64 0) := .of (by kernel_rfl)
instance : EncOf Try.prog 42 encW decW := ⟨trivial⟩
instance : T1 Try.prog 43 := .of Try.underlying43 rfl
instance : TE Try.prog 43 1 8 (.nilFunc) := .of (by kernel_rfl)
instance : T1 Try.prog 44 := .of Try.underlying44 rfl
instance : TE Try.prog 44 1 8 (.nilFunc) := .of (by kernel_rfl)
instance : TU Try.prog 45 (.int .u64) := ⟨Try.underlying45⟩
instance : T1 Try.prog 45 := .of Try.underlying45 rfl
instance : TE Try.prog 45 1 8 (.int .u64 0) := .of (by kernel_rfl)
instance : EncOf Try.prog 45 encW decW := ⟨trivial⟩
instance : TU Try.prog 46 (.slice 4) := ⟨Try.underlying46⟩
instance : T1 Try.prog 46 := .of Try.underlying46 rfl
instance : TE Try.prog 46 1 24 (.slice none 0 0) := .of (by kernel_rfl)
instance : TSl Try.prog 46 4 := ⟨Try.underlying46⟩
instance : EncOf Try.prog 46 encV decV := ⟨trivial⟩
instance : T1 Try.prog 47 := .of Try.underlying47 rfl
instance : TE Try.prog 47 1 8 (.nilFunc) := .of (by kernel_rfl)
instance : TN Try.prog 48 2 := .of Try.underlying48 rfl (by kernel_rfl)
instance : TE Try.prog 48 2 16 (.agg #[.int .i64 0, .int .i64 0]) := .of (by kernel_rfl)
instance : TF Try.prog 48 0 0 := .of (n := 0) Try.underlying48 rfl rfl (by kernel_rfl)
instance : TF Try.prog 48 1 1 := .of (n := 0) Try.underlying48 rfl rfl (by kernel_rfl)
instance : TP Try.prog 48 (.agg #[.int .i64 0, .int .i64 0]) [(0, 1), (1, 1)] := .of Try.underlying48 (by kernel_rfl) (by kernel_rfl)
instance : TN Try.prog 49 2 := .of Try.underlying49 rfl (by kernel_rfl)
instance : TE Try.prog 49 2 16 (.agg #[.int .i64 0, .int .i64 0]) := .of (by kernel_rfl)
instance : TF Try.prog 49 0 0 := .of (n := 0) Try.underlying49 rfl rfl (by kernel_rfl)
instance : TF Try.prog 49 1 1 := .of (n := 0) Try.underlying49 rfl rfl (by kernel_rfl)
instance : TP Try.prog 49 (.agg #[.int .i64 0, .int .i64 0]) [(0, 1), (1, 1)] := .of Try.underlying49 (by kernel_rfl) (by kernel_rfl)
instance : EncOf Try.prog 49 encPair decPair := ⟨trivial⟩
instance : TU Try.prog 50 (.slice 49) := ⟨Try.underlying50⟩
instance : T1 Try.prog 50 := .of Try.underlying50 rfl
instance : TE Try.prog 50 1 24 (.slice none 0 0) := .of (by kernel_rfl)
instance : TSl Try.prog 50 49 := ⟨Try.underlying50⟩
instance : EncOf Try.prog 50 encV decV := ⟨trivial⟩
instance : T1 Try.prog 51 := .of Try.underlying51 rfl
instance : TE Try.prog 51 1 8 (.nilFunc) := .of (by kernel_rfl)
instance : T1 Try.prog 52 := .of Try.underlying52 rfl
instance : TE Try.prog 52 1 8 (.nilFunc) := .of (by kernel_rfl)
instance : T1 Try.prog 53 := .of Try.underlying53 rfl
instance : TE Try.prog 53 1 8 (.nilFunc) := .of (by kernel_rfl)
instance : T1 Try.prog 54 := .of Try.underlying54 rfl
instance : TE Try.prog 54 1 8 (.nilFunc) := .of (by kernel_rfl)
instance : T1 Try.prog 55 := .of Try.underlying55 rfl
instance : TE Try.prog 55 1 8 (.nilFunc) := .of (by kernel_rfl)
instance : TN Try.prog 56 4 := .of Try.underlying56 rfl (by kernel_rfl)
instance : TE Try.prog 56 4 40 (.agg #[.pointer none, .pointer none, .pointer none, .string ByteArray.empty]) := .of (by kernel_rfl)
instance : TF Try.prog 56 0 0 := .of (n := 0) Try.underlying56 rfl rfl (by kernel_rfl)
instance : TF Try.prog 56 1 1 := .of (n := 0) Try.underlying56 rfl rfl (by kernel_rfl)
instance : TF Try.prog 56 2 2 := .of (n := 0) Try.underlying56 rfl rfl (by kernel_rfl)
instance : TF Try.prog 56 3 3 := .of (n := 0) Try.underlying56 rfl rfl (by kernel_rfl)
instance : TP Try.prog 56 (.agg #[.pointer none, .pointer none, .pointer none, .string ByteArray.empty]) [(0, 1), (1, 1), (2, 1), (3, 1)] := .of Try.underlying56 (by kernel_rfl) (by kernel_rfl)
instance : TN Try.prog 58 0 := .of Try.underlying58 rfl (by kernel_rfl)
instance : TE Try.prog 58 0 0 (.agg #[]) := .of (by kernel_rfl)
instance : TAr Try.prog 58 0 16 := ⟨Try.underlying58⟩
instance : TN Try.prog 59 0 := .of Try.underlying59 rfl (by kernel_rfl)
instance : TE Try.prog 59 0 0 (.agg #[]) := .of (by kernel_rfl)
instance : TP Try.prog 59 (.agg #[]) [(0, 0)] := .of Try.underlying59 (by kernel_rfl) (by kernel_rfl)
instance : T1 Try.prog 61 := .of Try.underlying61 rfl
instance : TE Try.prog 61 1 8 (.nilFunc) := .of (by kernel_rfl)
instance : TU Try.prog 62 (.int .u32) := ⟨Try.underlying62⟩
instance : T1 Try.prog 62 := .of Try.underlying62 rfl
instance : TE Try.prog 62 1 4 (.int .u32 0) := .of (by kernel_rfl)
instance : T1 Try.prog 65 := .of Try.underlying65 rfl
instance : TE Try.prog 65 1 8 (.nilFunc) := .of (by kernel_rfl)
instance : T1 Try.prog 66 := .of Try.underlying66 rfl
instance : TE Try.prog 66 1 8 (.pointer none) := .of (by kernel_rfl)
instance : EncOf Try.prog 66 encV decV := ⟨trivial⟩
instance : TN Try.prog 69 11 := .of Try.underlying69 rfl (by kernel_rfl)
instance : TE Try.prog 69 11 48 (.agg #[.int .u64 0, .int .u64 0, .int .u32 0, .int .u8 0, .int .u8 0, .int .u8 0, .int .u8 0, .nilFunc, .pointer none, .int .i32 0, .int .i32 0]) := .of (by kernel_rfl)
instance : TF Try.prog 69 0 0 := .of (n := 0) Try.underlying69 rfl rfl (by kernel_rfl)
instance : TF Try.prog 69 1 1 := .of (n := 0) Try.underlying69 rfl rfl (by kernel_rfl)
instance : TF Try.prog 69 2 2 := .of (n := 0) Try.underlying69 rfl rfl (by kernel_rfl)
instance : TF Try.prog 69 3 3 := .of (n := 0) Try.underlying69 rfl rfl (by kernel_rfl)
instance : TF Try.prog 69 4 4 := .of (n := 0) Try.underlying69 rfl rfl (by kernel_rfl)
instance : TF Try.prog 69 5 5 := .of (n := 0) Try.underlying69 rfl rfl (by kernel_rfl)
instance : TF Try.prog 69 6 6 := .of (n := 0) Try.underlying69 rfl rfl (by kernel_rfl)
instance : TF Try.prog 69 7 7 := .of (n := 0) Try.underlying69 rfl rfl (by kernel_rfl)
instance : TF Try.prog 69 8 8 := .of (n := 0) Try.underlying69 rfl rfl (by kernel_rfl)
instance : TF Try.prog 69 9 9 := .of (n := 0) Try.underlying69 rfl rfl (by kernel_rfl)
instance : TF Try.prog 69 10 10 := .of (n := 0) Try.underlying69 rfl rfl (by kernel_rfl)
instance : TP Try.prog 69 (.agg #[.int .u64 0, .int .u64 0, .int .u32 0, .int .u8 0, .int .u8 0, .int .u8 0, .int .u8 0, .nilFunc, .pointer none, .int .i32 0, .int .i32 0]) [(0, 1), (1, 1), (2, 1), (3, 1), (4, 1), (5, 1), (6, 1), (7, 1), (8, 1), (9, 1), (10, 1)] := .of Try.underlying69 (by kernel_rfl) (by kernel_rfl)
instance : T1 Try.prog 71 := .of Try.underlying71 rfl
instance : TE Try.prog 71 1 8 (.pointer none) := .of (by kernel_rfl)
instance : FN Try.prog 3 := ⟨Try.f3, Try.func3, by kernel_rfl, by kernel_rfl⟩
instance : FN Try.prog 4 := ⟨Try.f4, Try.func4, by kernel_rfl, by kernel_rfl⟩
instance : FN Try.prog 5 := ⟨Try.f5, Try.func5, by kernel_rfl, by kernel_rfl⟩
instance : FN Try.prog 6 := ⟨Try.f6, Try.func6, by kernel_rfl, by kernel_rfl⟩
instance : FN Try.prog 7 := ⟨Try.f7, Try.func7, by kernel_rfl, by kernel_rfl⟩
instance : FN Try.prog 8 := ⟨Try.f8, Try.func8, by kernel_rfl, by kernel_rfl⟩
instance : FN Try.prog 9 := ⟨Try.f9, Try.func9, by kernel_rfl, by kernel_rfl⟩
instance : FN Try.prog 10 := ⟨Try.f10, Try.func10, by kernel_rfl, by kernel_rfl⟩
instance : FN Try.prog 11 := ⟨Try.f11, Try.func11, by kernel_rfl, by kernel_rfl⟩
instance : FN Try.prog 12 := ⟨Try.f12, Try.func12, by kernel_rfl, by kernel_rfl⟩
instance : FN Try.prog 13 := ⟨Try.f13, Try.func13, by kernel_rfl, by kernel_rfl⟩
instance : FN Try.prog 14 := ⟨Try.f14, Try.func14, by kernel_rfl, by kernel_rfl⟩
instance : FN Try.prog 15 := ⟨Try.f15, Try.func15, by kernel_rfl, by kernel_rfl⟩
instance : FN Try.prog 16 := ⟨Try.f16, Try.func16, by kernel_rfl, by kernel_rfl⟩
instance : FN Try.prog 17 := ⟨Try.f17, Try.func17, by kernel_rfl, by kernel_rfl⟩
instance : FN Try.prog 18 := ⟨Try.f18, Try.func18, by kernel_rfl, by kernel_rfl⟩
instance : FN Try.prog 19 := ⟨Try.f19, Try.func19, by kernel_rfl, by kernel_rfl⟩
instance : FN Try.prog 20 := ⟨Try.f20, Try.func20, by kernel_rfl, by kernel_rfl⟩
instance : FN Try.prog 21 := ⟨Try.f21, Try.func21, by kernel_rfl, by kernel_rfl⟩
instance : FN Try.prog 22 := ⟨Try.f22, Try.func22, by kernel_rfl, by kernel_rfl⟩
instance : FN Try.prog 23 := ⟨Try.f23, Try.func23, by kernel_rfl, by kernel_rfl⟩
instance : FN Try.prog 24 := ⟨Try.f24, Try.func24, by kernel_rfl, by kernel_rfl⟩
instance : FN Try.prog 25 := ⟨Try.f25, Try.func25, by kernel_rfl, by kernel_rfl⟩
instance : FN Try.prog 26 := ⟨Try.f26, Try.func26, by kernel_rfl, by kernel_rfl⟩
instance : FN Try.prog 27 := ⟨Try.f27, Try.func27, by kernel_rfl, by kernel_rfl⟩
instance : FN Try.prog 28 := ⟨Try.f28, Try.func28, by kernel_rfl, by kernel_rfl⟩
instance : FN Try.prog 29 := ⟨Try.f29, Try.func29, by kernel_rfl, by kernel_rfl⟩
instance : FN Try.prog 30 := ⟨Try.f30, Try.func30, by kernel_rfl, by kernel_rfl⟩
instance : FN Try.prog 31 := ⟨Try.f31, Try.func31, by kernel_rfl, by kernel_rfl⟩
instance : FN Try.prog 32 := ⟨Try.f32, Try.func32, by kernel_rfl, by kernel_rfl⟩
instance : FN Try.prog 33 := ⟨Try.f33, Try.func33, by kernel_rfl, by kernel_rfl⟩
instance : FN Try.prog 34 := ⟨Try.f34, Try.func34, by kernel_rfl, by kernel_rfl⟩
theorem mixed : Try.prog.follows .mixedOrders = true := by kernel_rfl
end Go.Proofs.Ytpncpbdfomgcgaa
