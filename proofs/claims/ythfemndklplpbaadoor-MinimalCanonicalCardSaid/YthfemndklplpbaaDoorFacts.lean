/- The closed facts of this program that the proofs lean on, by program: a row a type or function. -/
import Derived.Test.YthfemndklplpbaaDoorCoreE
import Derived.Test.YthfemndklplpbaaDoorRows
set_option linter.unusedSectionVars false
set_option linter.unusedSimpArgs false
set_option linter.unusedVariables false
set_option linter.unnecessarySimpa false
namespace Go.Proofs.YthfemndklplpbaaDoor
open Go.Lx Go.RowKit

theorem mixed : Tryd.prog.follows .mixedOrders = true := by kernel_rfl
theorem inf1 : Inf Tryd.prog 1 (.nilFunc) 1 8 := by unfold Inf; kernel_rfl
theorem inf2 : Inf Tryd.prog 2 (.int .i64 0) 1 8 := by unfold Inf; kernel_rfl
theorem inf3 : Inf Tryd.prog 3 (.int .i64 0) 1 8 := by unfold Inf; kernel_rfl
theorem inf4 : Inf Tryd.prog 4 (.bool false) 1 1 := by unfold Inf; kernel_rfl
theorem inf5 : Inf Tryd.prog 5 (.int .u8 0) 1 1 := by unfold Inf; kernel_rfl
theorem inf6 : Inf Tryd.prog 6 (.int .u8 0) 1 1 := by unfold Inf; kernel_rfl
theorem inf7 : Inf Tryd.prog 7 ((.agg #[(.int .i64 0), (.int .i64 0), (.bool false), (.int .u8 0)])) 4 24 := by unfold Inf; kernel_rfl
theorem inf8 : Inf Tryd.prog 8 ((.agg #[(.int .i64 0), (.int .i64 0), (.bool false), (.int .u8 0)])) 4 24 := by unfold Inf; kernel_rfl
theorem inf9 : Inf Tryd.prog 9 (.string ByteArray.empty) 1 16 := by unfold Inf; kernel_rfl
theorem inf10 : Inf Tryd.prog 10 (.string ByteArray.empty) 1 16 := by unfold Inf; kernel_rfl
theorem inf11 : Inf Tryd.prog 11 (.string ByteArray.empty) 1 16 := by unfold Inf; kernel_rfl
theorem inf12 : Inf Tryd.prog 12 (.int .u64 0) 1 8 := by unfold Inf; kernel_rfl
theorem inf13 : Inf Tryd.prog 13 ((.agg #[(.string ByteArray.empty), (.int .u64 0)])) 2 24 := by unfold Inf; kernel_rfl
theorem inf14 : Inf Tryd.prog 14 ((.agg #[(.string ByteArray.empty), (.int .u64 0)])) 2 24 := by unfold Inf; kernel_rfl
theorem inf15 : Inf Tryd.prog 15 (.pointer none) 1 8 := by unfold Inf; kernel_rfl
theorem inf16 : Inf Tryd.prog 16 (.pointer none) 1 8 := by unfold Inf; kernel_rfl
theorem inf17 : Inf Tryd.prog 17 (.pointer none) 1 8 := by unfold Inf; kernel_rfl
theorem inf18 : Inf Tryd.prog 18 ((.agg #[(.pointer none)])) 1 8 := by unfold Inf; kernel_rfl
theorem inf19 : Inf Tryd.prog 19 ((.agg #[(.pointer none)])) 1 8 := by unfold Inf; kernel_rfl
theorem inf20 : Inf Tryd.prog 20 (.nilIface) 1 16 := by unfold Inf; kernel_rfl
theorem inf21 : Inf Tryd.prog 21 (.int .i32 0) 1 4 := by unfold Inf; kernel_rfl
theorem inf22 : Inf Tryd.prog 22 ((.slice none 0 0)) 1 24 := by unfold Inf; kernel_rfl
theorem inf23 : Inf Tryd.prog 23 ((.slice none 0 0)) 1 24 := by unfold Inf; kernel_rfl
theorem inf24 : Inf Tryd.prog 24 ((.agg #[(.int .i64 0), (.int .i64 0), (.slice none 0 0), (.slice none 0 0)])) 4 64 := by unfold Inf; kernel_rfl
theorem inf25 : Inf Tryd.prog 25 ((.agg #[(.int .i64 0), (.int .i64 0), (.slice none 0 0), (.slice none 0 0)])) 4 64 := by unfold Inf; kernel_rfl
theorem inf26 : Inf Tryd.prog 26 (.nilFunc) 1 8 := by unfold Inf; kernel_rfl
theorem inf27 : Inf Tryd.prog 27 (.int .i64 0) 1 8 := by unfold Inf; kernel_rfl
theorem inf28 : Inf Tryd.prog 28 (.nilFunc) 1 8 := by unfold Inf; kernel_rfl
theorem inf29 : Inf Tryd.prog 29 (.nilFunc) 1 8 := by unfold Inf; kernel_rfl
theorem inf30 : Inf Tryd.prog 30 (.nilFunc) 1 8 := by unfold Inf; kernel_rfl
theorem inf32 : Inf Tryd.prog 32 (.nilFunc) 1 8 := by unfold Inf; kernel_rfl
theorem inf33 : Inf Tryd.prog 33 ((.slice none 0 0)) 1 24 := by unfold Inf; kernel_rfl
theorem inf35 : Inf Tryd.prog 35 (.nilFunc) 1 8 := by unfold Inf; kernel_rfl
theorem inf36 : Inf Tryd.prog 36 (.nilFunc) 1 8 := by unfold Inf; kernel_rfl
theorem inf37 : Inf Tryd.prog 37 (.nilFunc) 1 8 := by unfold Inf; kernel_rfl
theorem inf38 : Inf Tryd.prog 38 (.nilFunc) 1 8 := by unfold Inf; kernel_rfl
theorem inf39 : Inf Tryd.prog 39 (.nilFunc) 1 8 := by unfold Inf; kernel_rfl
theorem inf40 : Inf Tryd.prog 40 (.nilFunc) 1 8 := by unfold Inf; kernel_rfl
theorem inf41 : Inf Tryd.prog 41 (.nilFunc) 1 8 := by unfold Inf; kernel_rfl
theorem inf42 : Inf Tryd.prog 42 ((.slice none 0 0)) 1 24 := by unfold Inf; kernel_rfl
theorem inf44 : Inf Tryd.prog 44 (.nilFunc) 1 8 := by unfold Inf; kernel_rfl
theorem inf45 : Inf Tryd.prog 45 (.nilFunc) 1 8 := by unfold Inf; kernel_rfl
theorem inf47 : Inf Tryd.prog 47 (.nilFunc) 1 8 := by unfold Inf; kernel_rfl
theorem inf48 : Inf Tryd.prog 48 (.nilFunc) 1 8 := by unfold Inf; kernel_rfl
theorem inf49 : Inf Tryd.prog 49 (.nilFunc) 1 8 := by unfold Inf; kernel_rfl
theorem inf50 : Inf Tryd.prog 50 (.nilFunc) 1 8 := by unfold Inf; kernel_rfl
theorem inf51 : Inf Tryd.prog 51 (.nilFunc) 1 8 := by unfold Inf; kernel_rfl
theorem inf52 : Inf Tryd.prog 52 (.nilFunc) 1 8 := by unfold Inf; kernel_rfl
theorem inf53 : Inf Tryd.prog 53 (.nilFunc) 1 8 := by unfold Inf; kernel_rfl
theorem inf54 : Inf Tryd.prog 54 (.nilFunc) 1 8 := by unfold Inf; kernel_rfl
theorem inf55 : Inf Tryd.prog 55 (.nilFunc) 1 8 := by unfold Inf; kernel_rfl
theorem inf56 : Inf Tryd.prog 56 (.nilFunc) 1 8 := by unfold Inf; kernel_rfl
theorem inf57 : Inf Tryd.prog 57 (.nilFunc) 1 8 := by unfold Inf; kernel_rfl
theorem inf58 : Inf Tryd.prog 58 ((.slice none 0 0)) 1 24 := by unfold Inf; kernel_rfl
theorem inf59 : Inf Tryd.prog 59 (.nilFunc) 1 8 := by unfold Inf; kernel_rfl
theorem inf60 : Inf Tryd.prog 60 (.nilFunc) 1 8 := by unfold Inf; kernel_rfl
theorem inf61 : Inf Tryd.prog 61 (.nilFunc) 1 8 := by unfold Inf; kernel_rfl
theorem inf62 : Inf Tryd.prog 62 (.nilFunc) 1 8 := by unfold Inf; kernel_rfl
theorem inf63 : Inf Tryd.prog 63 ((.slice none 0 0)) 1 24 := by unfold Inf; kernel_rfl
theorem inf64 : Inf Tryd.prog 64 (.nilFunc) 1 8 := by unfold Inf; kernel_rfl
theorem inf65 : Inf Tryd.prog 65 (.nilFunc) 1 8 := by unfold Inf; kernel_rfl
theorem inf66 : Inf Tryd.prog 66 (.nilFunc) 1 8 := by unfold Inf; kernel_rfl
theorem inf67 : Inf Tryd.prog 67 (.nilFunc) 1 8 := by unfold Inf; kernel_rfl
theorem inf68 : Inf Tryd.prog 68 (.nilFunc) 1 8 := by unfold Inf; kernel_rfl
theorem inf69 : Inf Tryd.prog 69 (.nilFunc) 1 8 := by unfold Inf; kernel_rfl
theorem inf70 : Inf Tryd.prog 70 (.nilFunc) 1 8 := by unfold Inf; kernel_rfl
theorem inf71 : Inf Tryd.prog 71 (.nilFunc) 1 8 := by unfold Inf; kernel_rfl
theorem inf72 : Inf Tryd.prog 72 (.nilFunc) 1 8 := by unfold Inf; kernel_rfl
theorem inf73 : Inf Tryd.prog 73 (.nilFunc) 1 8 := by unfold Inf; kernel_rfl
theorem inf74 : Inf Tryd.prog 74 (.nilFunc) 1 8 := by unfold Inf; kernel_rfl
theorem inf75 : Inf Tryd.prog 75 ((.agg #[(.int .i64 0), (.int .i64 0)])) 2 16 := by unfold Inf; kernel_rfl
theorem inf76 : Inf Tryd.prog 76 ((.agg #[(.int .i64 0), (.int .i64 0)])) 2 16 := by unfold Inf; kernel_rfl
theorem inf77 : Inf Tryd.prog 77 (.map none) 1 8 := by unfold Inf; kernel_rfl
theorem inf78 : Inf Tryd.prog 78 ((.agg #[(.int .i64 0), (.int .i64 0), (.slice none 0 0)])) 3 40 := by unfold Inf; kernel_rfl
theorem inf79 : Inf Tryd.prog 79 ((.agg #[(.int .i64 0), (.int .i64 0), (.slice none 0 0)])) 3 40 := by unfold Inf; kernel_rfl
theorem inf80 : Inf Tryd.prog 80 ((.slice none 0 0)) 1 24 := by unfold Inf; kernel_rfl
theorem inf81 : Inf Tryd.prog 81 (.nilFunc) 1 8 := by unfold Inf; kernel_rfl
theorem inf83 : Inf Tryd.prog 83 (.nilFunc) 1 8 := by unfold Inf; kernel_rfl
theorem inf84 : Inf Tryd.prog 84 (.nilFunc) 1 8 := by unfold Inf; kernel_rfl
theorem inf85 : Inf Tryd.prog 85 (.nilFunc) 1 8 := by unfold Inf; kernel_rfl
theorem inf87 : Inf Tryd.prog 87 (.nilFunc) 1 8 := by unfold Inf; kernel_rfl
theorem inf88 : Inf Tryd.prog 88 (.int .u64 0) 1 8 := by unfold Inf; kernel_rfl
theorem inf89 : Inf Tryd.prog 89 (.nilFunc) 1 8 := by unfold Inf; kernel_rfl
theorem inf90 : Inf Tryd.prog 90 (.nilFunc) 1 8 := by unfold Inf; kernel_rfl
theorem inf91 : Inf Tryd.prog 91 (.nilFunc) 1 8 := by unfold Inf; kernel_rfl
theorem inf92 : Inf Tryd.prog 92 (.map none) 1 8 := by unfold Inf; kernel_rfl
theorem inf94 : Inf Tryd.prog 94 (.nilFunc) 1 8 := by unfold Inf; kernel_rfl
theorem inf95 : Inf Tryd.prog 95 (.nilFunc) 1 8 := by unfold Inf; kernel_rfl
theorem inf96 : Inf Tryd.prog 96 (.nilFunc) 1 8 := by unfold Inf; kernel_rfl
theorem inf97 : Inf Tryd.prog 97 (.nilFunc) 1 8 := by unfold Inf; kernel_rfl
theorem inf98 : Inf Tryd.prog 98 (.nilFunc) 1 8 := by unfold Inf; kernel_rfl
theorem inf99 : Inf Tryd.prog 99 ((.agg #[(.int .i64 0), (.int .i64 0), (.slice none 0 0), (.slice none 0 0)])) 4 64 := by unfold Inf; kernel_rfl
theorem inf100 : Inf Tryd.prog 100 ((.agg #[(.int .i64 0), (.int .i64 0), (.slice none 0 0), (.slice none 0 0)])) 4 64 := by unfold Inf; kernel_rfl
theorem inf101 : Inf Tryd.prog 101 (.nilFunc) 1 8 := by unfold Inf; kernel_rfl
theorem inf102 : Inf Tryd.prog 102 (.nilFunc) 1 8 := by unfold Inf; kernel_rfl
theorem inf103 : Inf Tryd.prog 103 (.nilFunc) 1 8 := by unfold Inf; kernel_rfl
theorem inf104 : Inf Tryd.prog 104 (.int .u64 0) 1 8 := by unfold Inf; kernel_rfl
theorem inf105 : Inf Tryd.prog 105 (.nilFunc) 1 8 := by unfold Inf; kernel_rfl
theorem inf106 : Inf Tryd.prog 106 ((.agg #[(.int .u8 0), (.int .u8 0), (.int .u8 0), (.int .u8 0), (.int .u8 0), (.int .u8 0), (.int .u8 0), (.int .u8 0), (.int .u8 0), (.int .u8 0), (.int .u8 0), (.int .u8 0), (.int .u8 0), (.int .u8 0), (.int .u8 0), (.int .u8 0), (.int .u8 0), (.int .u8 0), (.int .u8 0), (.int .u8 0), (.int .u8 0), (.int .u8 0), (.int .u8 0), (.int .u8 0)])) 24 24 := by unfold Inf; kernel_rfl
theorem inf107 : Inf Tryd.prog 107 (.nilFunc) 1 8 := by unfold Inf; kernel_rfl
theorem inf108 : Inf Tryd.prog 108 (.nilFunc) 1 8 := by unfold Inf; kernel_rfl
theorem inf110 : Inf Tryd.prog 110 (.nilFunc) 1 8 := by unfold Inf; kernel_rfl
theorem inf111 : Inf Tryd.prog 111 (.nilFunc) 1 8 := by unfold Inf; kernel_rfl
theorem inf112 : Inf Tryd.prog 112 ((.agg #[(.int .u64 0), (.int .u64 0), (.int .u64 0), (.int .u64 0), (.int .u64 0), (.int .u64 0), (.int .u64 0), (.int .u64 0), (.int .u64 0), (.int .u64 0), (.int .u64 0), (.int .u64 0), (.int .u64 0), (.int .u64 0), (.int .u64 0), (.int .u64 0), (.int .u64 0), (.int .u64 0), (.int .u64 0), (.int .u64 0)])) 20 160 := by unfold Inf; kernel_rfl
theorem inf113 : Inf Tryd.prog 113 (.int .u32 0) 1 4 := by unfold Inf; kernel_rfl
theorem inf115 : Inf Tryd.prog 115 (.nilFunc) 1 8 := by unfold Inf; kernel_rfl
theorem inf116 : Inf Tryd.prog 116 (.nilFunc) 1 8 := by unfold Inf; kernel_rfl
theorem inf117 : Inf Tryd.prog 117 ((.agg #[(.int .u8 0), (.int .u8 0), (.int .u8 0), (.int .u8 0), (.int .u8 0), (.int .u8 0), (.int .u8 0), (.int .u8 0), (.int .u8 0), (.int .u8 0), (.int .u8 0), (.int .u8 0), (.int .u8 0), (.int .u8 0), (.int .u8 0), (.int .u8 0), (.int .u8 0), (.int .u8 0), (.int .u8 0), (.int .u8 0), (.int .u8 0), (.int .u8 0), (.int .u8 0), (.int .u8 0), (.int .u8 0), (.int .u8 0), (.int .u8 0), (.int .u8 0), (.int .u8 0), (.int .u8 0), (.int .u8 0), (.int .u8 0)])) 32 32 := by unfold Inf; kernel_rfl
theorem inf118 : Inf Tryd.prog 118 ((.agg #[(.int .u8 0), (.int .u8 0), (.int .u8 0), (.int .u8 0), (.int .u8 0), (.int .u8 0), (.int .u8 0), (.int .u8 0), (.int .u8 0), (.int .u8 0), (.int .u8 0), (.int .u8 0), (.int .u8 0), (.int .u8 0), (.int .u8 0), (.int .u8 0), (.int .u8 0), (.int .u8 0), (.int .u8 0), (.int .u8 0), (.int .u8 0), (.int .u8 0), (.int .u8 0), (.int .u8 0), (.int .u8 0), (.int .u8 0), (.int .u8 0), (.int .u8 0), (.int .u8 0), (.int .u8 0), (.int .u8 0), (.int .u8 0), (.int .u8 0), (.int .u8 0), (.int .u8 0), (.int .u8 0), (.int .u8 0), (.int .u8 0), (.int .u8 0), (.int .u8 0), (.int .u8 0), (.int .u8 0), (.int .u8 0), (.int .u8 0), (.int .u8 0), (.int .u8 0), (.int .u8 0), (.int .u8 0), (.int .u8 0), (.int .u8 0), (.int .u8 0), (.int .u8 0), (.int .u8 0), (.int .u8 0), (.int .u8 0), (.int .u8 0), (.int .u8 0), (.int .u8 0), (.int .u8 0), (.int .u8 0), (.int .u8 0), (.int .u8 0), (.int .u8 0), (.int .u8 0)])) 64 64 := by unfold Inf; kernel_rfl
theorem inf119 : Inf Tryd.prog 119 (.nilFunc) 1 8 := by unfold Inf; kernel_rfl
theorem inf120 : Inf Tryd.prog 120 ((.agg #[(.pointer none), (.pointer none), (.pointer none), (.string ByteArray.empty)])) 4 40 := by unfold Inf; kernel_rfl
theorem inf121 : Inf Tryd.prog 121 ((.agg #[(.pointer none), (.pointer none), (.pointer none), (.string ByteArray.empty)])) 4 40 := by unfold Inf; kernel_rfl
theorem inf122 : Inf Tryd.prog 122 ((.agg #[])) 0 0 := by unfold Inf; kernel_rfl
theorem inf123 : Inf Tryd.prog 123 ((.agg #[])) 0 0 := by unfold Inf; kernel_rfl
theorem inf124 : Inf Tryd.prog 124 ((.agg #[])) 0 0 := by unfold Inf; kernel_rfl
theorem inf125 : Inf Tryd.prog 125 (.nilFunc) 1 8 := by unfold Inf; kernel_rfl
theorem inf126 : Inf Tryd.prog 126 (.int .u8 0) 1 1 := by unfold Inf; kernel_rfl
theorem inf127 : Inf Tryd.prog 127 (.int .u8 0) 1 1 := by unfold Inf; kernel_rfl
theorem inf128 : Inf Tryd.prog 128 (.nilFunc) 1 8 := by unfold Inf; kernel_rfl
theorem inf129 : Inf Tryd.prog 129 (.pointer none) 1 8 := by unfold Inf; kernel_rfl
theorem inf130 : Inf Tryd.prog 130 (.int .i32 0) 1 4 := by unfold Inf; kernel_rfl
theorem inf131 : Inf Tryd.prog 131 (.int .i32 0) 1 4 := by unfold Inf; kernel_rfl
theorem inf132 : Inf Tryd.prog 132 ((.agg #[(.int .u64 0), (.int .u64 0), (.int .u32 0), (.int .u8 0), (.int .u8 0), (.int .u8 0), (.int .u8 0), .nilFunc, (.pointer none), (.int .i32 0), (.int .i32 0)])) 11 48 := by unfold Inf; kernel_rfl
theorem inf133 : Inf Tryd.prog 133 ((.agg #[(.int .u64 0), (.int .u64 0), (.int .u32 0), (.int .u8 0), (.int .u8 0), (.int .u8 0), (.int .u8 0), .nilFunc, (.pointer none), (.int .i32 0), (.int .i32 0)])) 11 48 := by unfold Inf; kernel_rfl
theorem inf134 : Inf Tryd.prog 134 (.pointer none) 1 8 := by unfold Inf; kernel_rfl
theorem plan7 : Plan Tryd.prog 7 [(0, 1), (1, 1), (2, 1), (3, 1)] := ⟨_, Tryd.underlying7, fun w => by simp [run_sizeOf' inf2, run_sizeOf' inf3, run_sizeOf' inf4, run_sizeOf' inf6]⟩
theorem plan8 : Plan Tryd.prog 8 [(0, 1), (1, 1), (2, 1), (3, 1)] := ⟨_, Tryd.underlying8, fun w => by simp [run_sizeOf' inf2, run_sizeOf' inf3, run_sizeOf' inf4, run_sizeOf' inf6]⟩
theorem plan13 : Plan Tryd.prog 13 [(0, 1), (1, 1)] := ⟨_, Tryd.underlying13, fun w => by simp [run_sizeOf' inf9, run_sizeOf' inf12]⟩
theorem plan14 : Plan Tryd.prog 14 [(0, 1), (1, 1)] := ⟨_, Tryd.underlying14, fun w => by simp [run_sizeOf' inf9, run_sizeOf' inf12]⟩
theorem plan18 : Plan Tryd.prog 18 [(0, 1)] := ⟨_, Tryd.underlying18, fun w => by simp [run_sizeOf' inf17]⟩
theorem plan19 : Plan Tryd.prog 19 [(0, 1)] := ⟨_, Tryd.underlying19, fun w => by simp [run_sizeOf' inf17]⟩
theorem plan24 : Plan Tryd.prog 24 [(0, 1), (1, 1), (2, 1), (3, 1)] := ⟨_, Tryd.underlying24, fun w => by simp [run_sizeOf' inf3, run_sizeOf' inf22, run_sizeOf' inf23]⟩
theorem plan25 : Plan Tryd.prog 25 [(0, 1), (1, 1), (2, 1), (3, 1)] := ⟨_, Tryd.underlying25, fun w => by simp [run_sizeOf' inf3, run_sizeOf' inf22, run_sizeOf' inf23]⟩
theorem plan75 : Plan Tryd.prog 75 [(0, 1), (1, 1)] := ⟨_, Tryd.underlying75, fun w => by simp [run_sizeOf' inf3]⟩
theorem plan76 : Plan Tryd.prog 76 [(0, 1), (1, 1)] := ⟨_, Tryd.underlying76, fun w => by simp [run_sizeOf' inf3]⟩
theorem plan78 : Plan Tryd.prog 78 [(0, 2), (2, 1)] := ⟨_, Tryd.underlying78, fun w => by simp [run_sizeOf' inf42, run_sizeOf' inf76]⟩
theorem plan79 : Plan Tryd.prog 79 [(0, 2), (2, 1)] := ⟨_, Tryd.underlying79, fun w => by simp [run_sizeOf' inf42, run_sizeOf' inf76]⟩
theorem plan99 : Plan Tryd.prog 99 [(0, 4)] := ⟨_, Tryd.underlying99, fun w => by simp [run_sizeOf' inf25]⟩
theorem plan100 : Plan Tryd.prog 100 [(0, 4)] := ⟨_, Tryd.underlying100, fun w => by simp [run_sizeOf' inf25]⟩
theorem plan120 : Plan Tryd.prog 120 [(0, 1), (1, 1), (2, 1), (3, 1)] := ⟨_, Tryd.underlying120, fun w => by simp [run_sizeOf' inf9, run_sizeOf' inf17]⟩
theorem plan121 : Plan Tryd.prog 121 [(0, 1), (1, 1), (2, 1), (3, 1)] := ⟨_, Tryd.underlying121, fun w => by simp [run_sizeOf' inf9, run_sizeOf' inf17]⟩
theorem plan123 : Plan Tryd.prog 123 [(0, 0)] := ⟨_, Tryd.underlying123, fun w => by simp [run_sizeOf' inf122]⟩
theorem plan124 : Plan Tryd.prog 124 [(0, 0)] := ⟨_, Tryd.underlying124, fun w => by simp [run_sizeOf' inf122]⟩
theorem plan132 : Plan Tryd.prog 132 [(0, 1), (1, 1), (2, 1), (3, 1), (4, 1), (5, 1), (6, 1), (7, 1), (8, 1), (9, 1), (10, 1)] := ⟨_, Tryd.underlying132, fun w => by simp [run_sizeOf' inf5, run_sizeOf' inf12, run_sizeOf' inf113, run_sizeOf' inf126, run_sizeOf' inf127, run_sizeOf' inf128, run_sizeOf' inf129, run_sizeOf' inf130, run_sizeOf' inf131]⟩
theorem plan133 : Plan Tryd.prog 133 [(0, 1), (1, 1), (2, 1), (3, 1), (4, 1), (5, 1), (6, 1), (7, 1), (8, 1), (9, 1), (10, 1)] := ⟨_, Tryd.underlying133, fun w => by simp [run_sizeOf' inf5, run_sizeOf' inf12, run_sizeOf' inf113, run_sizeOf' inf126, run_sizeOf' inf127, run_sizeOf' inf128, run_sizeOf' inf129, run_sizeOf' inf130, run_sizeOf' inf131]⟩
theorem ent2 : Enters Tryd.prog 2 Tryd.f2 := ⟨Tryd.func2, by kernel_rfl, rfl⟩
theorem ent3 : Enters Tryd.prog 3 Tryd.f3 := ⟨Tryd.func3, by kernel_rfl, rfl⟩
theorem ent4 : Enters Tryd.prog 4 Tryd.f4 := ⟨Tryd.func4, by kernel_rfl, rfl⟩
theorem ent5 : Enters Tryd.prog 5 Tryd.f5 := ⟨Tryd.func5, by kernel_rfl, rfl⟩
theorem ent6 : Enters Tryd.prog 6 Tryd.f6 := ⟨Tryd.func6, by kernel_rfl, rfl⟩
theorem ent7 : Enters Tryd.prog 7 Tryd.f7 := ⟨Tryd.func7, by kernel_rfl, rfl⟩
theorem ent8 : Enters Tryd.prog 8 Tryd.f8 := ⟨Tryd.func8, by kernel_rfl, rfl⟩
theorem ent9 : Enters Tryd.prog 9 Tryd.f9 := ⟨Tryd.func9, by kernel_rfl, rfl⟩
theorem ent10 : Enters Tryd.prog 10 Tryd.f10 := ⟨Tryd.func10, by kernel_rfl, rfl⟩
theorem ent11 : Enters Tryd.prog 11 Tryd.f11 := ⟨Tryd.func11, by kernel_rfl, rfl⟩
theorem ent12 : Enters Tryd.prog 12 Tryd.f12 := ⟨Tryd.func12, by kernel_rfl, rfl⟩
theorem ent13 : Enters Tryd.prog 13 Tryd.f13 := ⟨Tryd.func13, by kernel_rfl, rfl⟩
theorem ent14 : Enters Tryd.prog 14 Tryd.f14 := ⟨Tryd.func14, by kernel_rfl, rfl⟩
theorem ent15 : Enters Tryd.prog 15 Tryd.f15 := ⟨Tryd.func15, by kernel_rfl, rfl⟩
theorem ent16 : Enters Tryd.prog 16 Tryd.f16 := ⟨Tryd.func16, by kernel_rfl, rfl⟩
theorem ent17 : Enters Tryd.prog 17 Tryd.f17 := ⟨Tryd.func17, by kernel_rfl, rfl⟩
theorem ent18 : Enters Tryd.prog 18 Tryd.f18 := ⟨Tryd.func18, by kernel_rfl, rfl⟩
theorem ent19 : Enters Tryd.prog 19 Tryd.f19 := ⟨Tryd.func19, by kernel_rfl, rfl⟩
theorem ent20 : Enters Tryd.prog 20 Tryd.f20 := ⟨Tryd.func20, by kernel_rfl, rfl⟩
theorem ent21 : Enters Tryd.prog 21 Tryd.f21 := ⟨Tryd.func21, by kernel_rfl, rfl⟩
theorem ent22 : Enters Tryd.prog 22 Tryd.f22 := ⟨Tryd.func22, by kernel_rfl, rfl⟩
theorem ent23 : Enters Tryd.prog 23 Tryd.f23 := ⟨Tryd.func23, by kernel_rfl, rfl⟩
theorem ent24 : Enters Tryd.prog 24 Tryd.f24 := ⟨Tryd.func24, by kernel_rfl, rfl⟩
theorem ent25 : Enters Tryd.prog 25 Tryd.f25 := ⟨Tryd.func25, by kernel_rfl, rfl⟩
theorem ent26 : Enters Tryd.prog 26 Tryd.f26 := ⟨Tryd.func26, by kernel_rfl, rfl⟩
theorem ent27 : Enters Tryd.prog 27 Tryd.f27 := ⟨Tryd.func27, by kernel_rfl, rfl⟩
theorem ent28 : Enters Tryd.prog 28 Tryd.f28 := ⟨Tryd.func28, by kernel_rfl, rfl⟩
theorem ent29 : Enters Tryd.prog 29 Tryd.f29 := ⟨Tryd.func29, by kernel_rfl, rfl⟩
theorem ent30 : Enters Tryd.prog 30 Tryd.f30 := ⟨Tryd.func30, by kernel_rfl, rfl⟩
theorem ent31 : Enters Tryd.prog 31 Tryd.f31 := ⟨Tryd.func31, by kernel_rfl, rfl⟩
theorem ent32 : Enters Tryd.prog 32 Tryd.f32 := ⟨Tryd.func32, by kernel_rfl, rfl⟩
theorem ent33 : Enters Tryd.prog 33 Tryd.f33 := ⟨Tryd.func33, by kernel_rfl, rfl⟩
theorem ent34 : Enters Tryd.prog 34 Tryd.f34 := ⟨Tryd.func34, by kernel_rfl, rfl⟩
theorem ent35 : Enters Tryd.prog 35 Tryd.f35 := ⟨Tryd.func35, by kernel_rfl, rfl⟩
theorem ent36 : Enters Tryd.prog 36 Tryd.f36 := ⟨Tryd.func36, by kernel_rfl, rfl⟩
theorem ent37 : Enters Tryd.prog 37 Tryd.f37 := ⟨Tryd.func37, by kernel_rfl, rfl⟩
theorem ent38 : Enters Tryd.prog 38 Tryd.f38 := ⟨Tryd.func38, by kernel_rfl, rfl⟩
theorem ent39 : Enters Tryd.prog 39 Tryd.f39 := ⟨Tryd.func39, by kernel_rfl, rfl⟩
theorem ent40 : Enters Tryd.prog 40 Tryd.f40 := ⟨Tryd.func40, by kernel_rfl, rfl⟩
theorem ent41 : Enters Tryd.prog 41 Tryd.f41 := ⟨Tryd.func41, by kernel_rfl, rfl⟩
theorem ent42 : Enters Tryd.prog 42 Tryd.f42 := ⟨Tryd.func42, by kernel_rfl, rfl⟩
theorem ent43 : Enters Tryd.prog 43 Tryd.f43 := ⟨Tryd.func43, by kernel_rfl, rfl⟩
theorem ent44 : Enters Tryd.prog 44 Tryd.f44 := ⟨Tryd.func44, by kernel_rfl, rfl⟩
theorem ent45 : Enters Tryd.prog 45 Tryd.f45 := ⟨Tryd.func45, by kernel_rfl, rfl⟩
theorem ent46 : Enters Tryd.prog 46 Tryd.f46 := ⟨Tryd.func46, by kernel_rfl, rfl⟩
theorem ent47 : Enters Tryd.prog 47 Tryd.f47 := ⟨Tryd.func47, by kernel_rfl, rfl⟩
theorem ent48 : Enters Tryd.prog 48 Tryd.f48 := ⟨Tryd.func48, by kernel_rfl, rfl⟩
theorem ent49 : Enters Tryd.prog 49 Tryd.f49 := ⟨Tryd.func49, by kernel_rfl, rfl⟩
theorem ent50 : Enters Tryd.prog 50 Tryd.f50 := ⟨Tryd.func50, by kernel_rfl, rfl⟩
theorem ent51 : Enters Tryd.prog 51 Tryd.f51 := ⟨Tryd.func51, by kernel_rfl, rfl⟩
theorem ent52 : Enters Tryd.prog 52 Tryd.f52 := ⟨Tryd.func52, by kernel_rfl, rfl⟩
theorem ent53 : Enters Tryd.prog 53 Tryd.f53 := ⟨Tryd.func53, by kernel_rfl, rfl⟩
theorem ent54 : Enters Tryd.prog 54 Tryd.f54 := ⟨Tryd.func54, by kernel_rfl, rfl⟩
theorem ent55 : Enters Tryd.prog 55 Tryd.f55 := ⟨Tryd.func55, by kernel_rfl, rfl⟩
theorem ent56 : Enters Tryd.prog 56 Tryd.f56 := ⟨Tryd.func56, by kernel_rfl, rfl⟩
theorem ent57 : Enters Tryd.prog 57 Tryd.f57 := ⟨Tryd.func57, by kernel_rfl, rfl⟩
theorem ent58 : Enters Tryd.prog 58 Tryd.f58 := ⟨Tryd.func58, by kernel_rfl, rfl⟩
theorem ent59 : Enters Tryd.prog 59 Tryd.f59 := ⟨Tryd.func59, by kernel_rfl, rfl⟩
theorem ent60 : Enters Tryd.prog 60 Tryd.f60 := ⟨Tryd.func60, by kernel_rfl, rfl⟩
theorem ent61 : Enters Tryd.prog 61 Tryd.f61 := ⟨Tryd.func61, by kernel_rfl, rfl⟩
theorem ent62 : Enters Tryd.prog 62 Tryd.f62 := ⟨Tryd.func62, by kernel_rfl, rfl⟩
theorem ent63 : Enters Tryd.prog 63 Tryd.f63 := ⟨Tryd.func63, by kernel_rfl, rfl⟩
theorem ent64 : Enters Tryd.prog 64 Tryd.f64 := ⟨Tryd.func64, by kernel_rfl, rfl⟩
theorem ent65 : Enters Tryd.prog 65 Tryd.f65 := ⟨Tryd.func65, by kernel_rfl, rfl⟩
theorem ent66 : Enters Tryd.prog 66 Tryd.f66 := ⟨Tryd.func66, by kernel_rfl, rfl⟩
theorem ent67 : Enters Tryd.prog 67 Tryd.f67 := ⟨Tryd.func67, by kernel_rfl, rfl⟩
theorem ent68 : Enters Tryd.prog 68 Tryd.f68 := ⟨Tryd.func68, by kernel_rfl, rfl⟩
theorem ent69 : Enters Tryd.prog 69 Tryd.f69 := ⟨Tryd.func69, by kernel_rfl, rfl⟩
theorem ent70 : Enters Tryd.prog 70 Tryd.f70 := ⟨Tryd.func70, by kernel_rfl, rfl⟩
theorem ent71 : Enters Tryd.prog 71 Tryd.f71 := ⟨Tryd.func71, by kernel_rfl, rfl⟩
theorem ent72 : Enters Tryd.prog 72 Tryd.f72 := ⟨Tryd.func72, by kernel_rfl, rfl⟩
theorem ent73 : Enters Tryd.prog 73 Tryd.f73 := ⟨Tryd.func73, by kernel_rfl, rfl⟩
theorem ent74 : Enters Tryd.prog 74 Tryd.f74 := ⟨Tryd.func74, by kernel_rfl, rfl⟩
theorem ent75 : Enters Tryd.prog 75 Tryd.f75 := ⟨Tryd.func75, by kernel_rfl, rfl⟩
theorem ent76 : Enters Tryd.prog 76 Tryd.f76 := ⟨Tryd.func76, by kernel_rfl, rfl⟩
theorem ent77 : Enters Tryd.prog 77 Tryd.f77 := ⟨Tryd.func77, by kernel_rfl, rfl⟩
theorem ent78 : Enters Tryd.prog 78 Tryd.f78 := ⟨Tryd.func78, by kernel_rfl, rfl⟩
theorem ent79 : Enters Tryd.prog 79 Tryd.f79 := ⟨Tryd.func79, by kernel_rfl, rfl⟩
theorem ent80 : Enters Tryd.prog 80 Tryd.f80 := ⟨Tryd.func80, by kernel_rfl, rfl⟩
theorem ent81 : Enters Tryd.prog 81 Tryd.f81 := ⟨Tryd.func81, by kernel_rfl, rfl⟩
theorem ent82 : Enters Tryd.prog 82 Tryd.f82 := ⟨Tryd.func82, by kernel_rfl, rfl⟩
theorem ent83 : Enters Tryd.prog 83 Tryd.f83 := ⟨Tryd.func83, by kernel_rfl, rfl⟩
theorem ent105 : Enters Tryd.prog 105 Tryd.f105 := ⟨Tryd.func105, by kernel_rfl, rfl⟩
end Go.Proofs.YthfemndklplpbaaDoor
