/- What the program's tables say of the types and functions that the walks meet. -/
import Derived.Test.YtkjhhifhgcihpaaDoorRows
import Derived.Test.YtkjhhifhgcihpaaDoorXm
import Derived.KernelRfl
namespace Go.Proofs.YtkjhhifhgcihpaaDoor
open Go.Xe

theorem m_mixed : Tryd.prog.follows .mixedOrders = true := by kernel_rfl
theorem k3 : kindOf Tryd.prog 3 = some false := by kernel_rfl
theorem z3 : szOf Tryd.prog 3 = some 1 := by kernel_rfl
theorem zo3 : zeroOf Tryd.prog 3 = some (.int .i64 0) := by kernel_rfl
theorem el3 : Elem Tryd.prog 3 1 (.int .i64 0) 8 := ⟨z3, zo3, by kernel_rfl, rfl⟩
theorem k4 : kindOf Tryd.prog 4 = some false := by kernel_rfl
theorem z4 : szOf Tryd.prog 4 = some 1 := by kernel_rfl
theorem zo4 : zeroOf Tryd.prog 4 = some (.bool false) := by kernel_rfl
theorem el4 : Elem Tryd.prog 4 1 (.bool false) 1 := ⟨z4, zo4, by kernel_rfl, rfl⟩
theorem k5 : kindOf Tryd.prog 5 = some false := by kernel_rfl
theorem z5 : szOf Tryd.prog 5 = some 1 := by kernel_rfl
theorem zo5 : zeroOf Tryd.prog 5 = some (.int .u8 0) := by kernel_rfl
theorem el5 : Elem Tryd.prog 5 1 (.int .u8 0) 1 := ⟨z5, zo5, by kernel_rfl, rfl⟩
theorem k9 : kindOf Tryd.prog 9 = some false := by kernel_rfl
theorem z9 : szOf Tryd.prog 9 = some 1 := by kernel_rfl
theorem zo9 : zeroOf Tryd.prog 9 = some (.string ⟨#[]⟩) := by kernel_rfl
theorem el9 : Elem Tryd.prog 9 1 (.string ⟨#[]⟩) 16 := ⟨z9, zo9, by kernel_rfl, rfl⟩
theorem k22 : kindOf Tryd.prog 22 = some false := by kernel_rfl
theorem z22 : szOf Tryd.prog 22 = some 1 := by kernel_rfl
theorem zo22 : zeroOf Tryd.prog 22 = some (.slice none 0 0) := by kernel_rfl
theorem el22 : Elem Tryd.prog 22 1 (.slice none 0 0) 24 := ⟨z22, zo22, by kernel_rfl, rfl⟩
theorem k24 : kindOf Tryd.prog 24 = some true := by kernel_rfl
theorem z24 : szOf Tryd.prog 24 = some 4 := by kernel_rfl
theorem zo24 : zeroOf Tryd.prog 24 = some (.agg #[.int .i64 0, .int .i64 0, .string ⟨#[]⟩, .string ⟨#[]⟩]) := by kernel_rfl
theorem el24 : Elem Tryd.prog 24 4 (.agg #[.int .i64 0, .int .i64 0, .string ⟨#[]⟩, .string ⟨#[]⟩]) 48 := ⟨z24, zo24, by kernel_rfl, rfl⟩
theorem k25 : kindOf Tryd.prog 25 = some false := by kernel_rfl
theorem z25 : szOf Tryd.prog 25 = some 1 := by kernel_rfl
theorem zo25 : zeroOf Tryd.prog 25 = some (.pointer none) := by kernel_rfl
theorem el25 : Elem Tryd.prog 25 1 (.pointer none) 8 := ⟨z25, zo25, by kernel_rfl, rfl⟩
theorem k30 : kindOf Tryd.prog 30 = some false := by kernel_rfl
theorem z30 : szOf Tryd.prog 30 = some 1 := by kernel_rfl
theorem zo30 : zeroOf Tryd.prog 30 = some (.slice none 0 0) := by kernel_rfl
theorem el30 : Elem Tryd.prog 30 1 (.slice none 0 0) 24 := ⟨z30, zo30, by kernel_rfl, rfl⟩
theorem k31 : kindOf Tryd.prog 31 = some false := by kernel_rfl
theorem z31 : szOf Tryd.prog 31 = some 1 := by kernel_rfl
theorem zo31 : zeroOf Tryd.prog 31 = some (.pointer none) := by kernel_rfl
theorem el31 : Elem Tryd.prog 31 1 (.pointer none) 8 := ⟨z31, zo31, by kernel_rfl, rfl⟩
theorem k32 : kindOf Tryd.prog 32 = some false := by kernel_rfl
theorem z32 : szOf Tryd.prog 32 = some 1 := by kernel_rfl
theorem zo32 : zeroOf Tryd.prog 32 = some (.int .i64 0) := by kernel_rfl
theorem el32 : Elem Tryd.prog 32 1 (.int .i64 0) 8 := ⟨z32, zo32, by kernel_rfl, rfl⟩
theorem k36 : kindOf Tryd.prog 36 = some false := by kernel_rfl
theorem z36 : szOf Tryd.prog 36 = some 1 := by kernel_rfl
theorem zo36 : zeroOf Tryd.prog 36 = some (.slice none 0 0) := by kernel_rfl
theorem el36 : Elem Tryd.prog 36 1 (.slice none 0 0) 24 := ⟨z36, zo36, by kernel_rfl, rfl⟩
theorem k37 : kindOf Tryd.prog 37 = some false := by kernel_rfl
theorem z37 : szOf Tryd.prog 37 = some 1 := by kernel_rfl
theorem zo37 : zeroOf Tryd.prog 37 = some (.slice none 0 0) := by kernel_rfl
theorem el37 : Elem Tryd.prog 37 1 (.slice none 0 0) 24 := ⟨z37, zo37, by kernel_rfl, rfl⟩
theorem k39 : kindOf Tryd.prog 39 = some true := by kernel_rfl
theorem z39 : szOf Tryd.prog 39 = some 4 := by kernel_rfl
theorem zo39 : zeroOf Tryd.prog 39 = some (.agg #[.int .i64 0, .int .i64 0, .int .i64 0, .int .i64 0]) := by kernel_rfl
theorem el39 : Elem Tryd.prog 39 4 (.agg #[.int .i64 0, .int .i64 0, .int .i64 0, .int .i64 0]) 32 := ⟨z39, zo39, by kernel_rfl, rfl⟩
theorem k44 : kindOf Tryd.prog 44 = some false := by kernel_rfl
theorem z44 : szOf Tryd.prog 44 = some 1 := by kernel_rfl
theorem zo44 : zeroOf Tryd.prog 44 = some (.slice none 0 0) := by kernel_rfl
theorem el44 : Elem Tryd.prog 44 1 (.slice none 0 0) 24 := ⟨z44, zo44, by kernel_rfl, rfl⟩
theorem k51 : kindOf Tryd.prog 51 = some true := by kernel_rfl
theorem z51 : szOf Tryd.prog 51 = some 2 := by kernel_rfl
theorem zo51 : zeroOf Tryd.prog 51 = some (.agg #[.slice none 0 0, .slice none 0 0]) := by kernel_rfl
theorem el51 : Elem Tryd.prog 51 2 (.agg #[.slice none 0 0, .slice none 0 0]) 48 := ⟨z51, zo51, by kernel_rfl, rfl⟩
theorem k52 : kindOf Tryd.prog 52 = some false := by kernel_rfl
theorem z52 : szOf Tryd.prog 52 = some 1 := by kernel_rfl
theorem zo52 : zeroOf Tryd.prog 52 = some (.slice none 0 0) := by kernel_rfl
theorem el52 : Elem Tryd.prog 52 1 (.slice none 0 0) 24 := ⟨z52, zo52, by kernel_rfl, rfl⟩
theorem k55 : kindOf Tryd.prog 55 = some false := by kernel_rfl
theorem z55 : szOf Tryd.prog 55 = some 1 := by kernel_rfl
theorem zo55 : zeroOf Tryd.prog 55 = some (.slice none 0 0) := by kernel_rfl
theorem el55 : Elem Tryd.prog 55 1 (.slice none 0 0) 24 := ⟨z55, zo55, by kernel_rfl, rfl⟩
theorem k66 : kindOf Tryd.prog 66 = some true := by kernel_rfl
theorem z66 : szOf Tryd.prog 66 = some 101 := by kernel_rfl
theorem zo66 : zeroOf Tryd.prog 66 = some (.agg #[.string ⟨#[]⟩, .string ⟨#[]⟩, .string ⟨#[]⟩, .string ⟨#[]⟩, .string ⟨#[]⟩, .string ⟨#[]⟩, .string ⟨#[]⟩, .string ⟨#[]⟩, .string ⟨#[]⟩, .string ⟨#[]⟩, .string ⟨#[]⟩, .string ⟨#[]⟩, .string ⟨#[]⟩, .string ⟨#[]⟩, .string ⟨#[]⟩, .string ⟨#[]⟩, .string ⟨#[]⟩, .string ⟨#[]⟩, .string ⟨#[]⟩, .string ⟨#[]⟩, .string ⟨#[]⟩, .string ⟨#[]⟩, .string ⟨#[]⟩, .string ⟨#[]⟩, .string ⟨#[]⟩, .string ⟨#[]⟩, .string ⟨#[]⟩, .string ⟨#[]⟩, .string ⟨#[]⟩, .string ⟨#[]⟩, .string ⟨#[]⟩, .string ⟨#[]⟩, .string ⟨#[]⟩, .string ⟨#[]⟩, .string ⟨#[]⟩, .string ⟨#[]⟩, .string ⟨#[]⟩, .string ⟨#[]⟩, .string ⟨#[]⟩, .string ⟨#[]⟩, .string ⟨#[]⟩, .string ⟨#[]⟩, .string ⟨#[]⟩, .string ⟨#[]⟩, .string ⟨#[]⟩, .string ⟨#[]⟩, .string ⟨#[]⟩, .string ⟨#[]⟩, .string ⟨#[]⟩, .string ⟨#[]⟩, .string ⟨#[]⟩, .string ⟨#[]⟩, .string ⟨#[]⟩, .string ⟨#[]⟩, .string ⟨#[]⟩, .string ⟨#[]⟩, .string ⟨#[]⟩, .string ⟨#[]⟩, .string ⟨#[]⟩, .string ⟨#[]⟩, .string ⟨#[]⟩, .string ⟨#[]⟩, .string ⟨#[]⟩, .string ⟨#[]⟩, .string ⟨#[]⟩, .string ⟨#[]⟩, .string ⟨#[]⟩, .string ⟨#[]⟩, .string ⟨#[]⟩, .string ⟨#[]⟩, .string ⟨#[]⟩, .string ⟨#[]⟩, .string ⟨#[]⟩, .string ⟨#[]⟩, .string ⟨#[]⟩, .string ⟨#[]⟩, .string ⟨#[]⟩, .string ⟨#[]⟩, .string ⟨#[]⟩, .string ⟨#[]⟩, .string ⟨#[]⟩, .string ⟨#[]⟩, .string ⟨#[]⟩, .string ⟨#[]⟩, .string ⟨#[]⟩, .string ⟨#[]⟩, .string ⟨#[]⟩, .string ⟨#[]⟩, .string ⟨#[]⟩, .string ⟨#[]⟩, .string ⟨#[]⟩, .string ⟨#[]⟩, .string ⟨#[]⟩, .string ⟨#[]⟩, .string ⟨#[]⟩, .string ⟨#[]⟩, .string ⟨#[]⟩, .string ⟨#[]⟩, .string ⟨#[]⟩, .string ⟨#[]⟩, .string ⟨#[]⟩]) := by kernel_rfl
theorem el66 : Elem Tryd.prog 66 101 (.agg #[.string ⟨#[]⟩, .string ⟨#[]⟩, .string ⟨#[]⟩, .string ⟨#[]⟩, .string ⟨#[]⟩, .string ⟨#[]⟩, .string ⟨#[]⟩, .string ⟨#[]⟩, .string ⟨#[]⟩, .string ⟨#[]⟩, .string ⟨#[]⟩, .string ⟨#[]⟩, .string ⟨#[]⟩, .string ⟨#[]⟩, .string ⟨#[]⟩, .string ⟨#[]⟩, .string ⟨#[]⟩, .string ⟨#[]⟩, .string ⟨#[]⟩, .string ⟨#[]⟩, .string ⟨#[]⟩, .string ⟨#[]⟩, .string ⟨#[]⟩, .string ⟨#[]⟩, .string ⟨#[]⟩, .string ⟨#[]⟩, .string ⟨#[]⟩, .string ⟨#[]⟩, .string ⟨#[]⟩, .string ⟨#[]⟩, .string ⟨#[]⟩, .string ⟨#[]⟩, .string ⟨#[]⟩, .string ⟨#[]⟩, .string ⟨#[]⟩, .string ⟨#[]⟩, .string ⟨#[]⟩, .string ⟨#[]⟩, .string ⟨#[]⟩, .string ⟨#[]⟩, .string ⟨#[]⟩, .string ⟨#[]⟩, .string ⟨#[]⟩, .string ⟨#[]⟩, .string ⟨#[]⟩, .string ⟨#[]⟩, .string ⟨#[]⟩, .string ⟨#[]⟩, .string ⟨#[]⟩, .string ⟨#[]⟩, .string ⟨#[]⟩, .string ⟨#[]⟩, .string ⟨#[]⟩, .string ⟨#[]⟩, .string ⟨#[]⟩, .string ⟨#[]⟩, .string ⟨#[]⟩, .string ⟨#[]⟩, .string ⟨#[]⟩, .string ⟨#[]⟩, .string ⟨#[]⟩, .string ⟨#[]⟩, .string ⟨#[]⟩, .string ⟨#[]⟩, .string ⟨#[]⟩, .string ⟨#[]⟩, .string ⟨#[]⟩, .string ⟨#[]⟩, .string ⟨#[]⟩, .string ⟨#[]⟩, .string ⟨#[]⟩, .string ⟨#[]⟩, .string ⟨#[]⟩, .string ⟨#[]⟩, .string ⟨#[]⟩, .string ⟨#[]⟩, .string ⟨#[]⟩, .string ⟨#[]⟩, .string ⟨#[]⟩, .string ⟨#[]⟩, .string ⟨#[]⟩, .string ⟨#[]⟩, .string ⟨#[]⟩, .string ⟨#[]⟩, .string ⟨#[]⟩, .string ⟨#[]⟩, .string ⟨#[]⟩, .string ⟨#[]⟩, .string ⟨#[]⟩, .string ⟨#[]⟩, .string ⟨#[]⟩, .string ⟨#[]⟩, .string ⟨#[]⟩, .string ⟨#[]⟩, .string ⟨#[]⟩, .string ⟨#[]⟩, .string ⟨#[]⟩, .string ⟨#[]⟩, .string ⟨#[]⟩, .string ⟨#[]⟩, .string ⟨#[]⟩]) 1616 := ⟨z66, zo66, by kernel_rfl, rfl⟩
theorem k67 : kindOf Tryd.prog 67 = some true := by kernel_rfl
theorem z67 : szOf Tryd.prog 67 = some 101 := by kernel_rfl
theorem zo67 : zeroOf Tryd.prog 67 = some (.agg #[.bool false, .bool false, .bool false, .bool false, .bool false, .bool false, .bool false, .bool false, .bool false, .bool false, .bool false, .bool false, .bool false, .bool false, .bool false, .bool false, .bool false, .bool false, .bool false, .bool false, .bool false, .bool false, .bool false, .bool false, .bool false, .bool false, .bool false, .bool false, .bool false, .bool false, .bool false, .bool false, .bool false, .bool false, .bool false, .bool false, .bool false, .bool false, .bool false, .bool false, .bool false, .bool false, .bool false, .bool false, .bool false, .bool false, .bool false, .bool false, .bool false, .bool false, .bool false, .bool false, .bool false, .bool false, .bool false, .bool false, .bool false, .bool false, .bool false, .bool false, .bool false, .bool false, .bool false, .bool false, .bool false, .bool false, .bool false, .bool false, .bool false, .bool false, .bool false, .bool false, .bool false, .bool false, .bool false, .bool false, .bool false, .bool false, .bool false, .bool false, .bool false, .bool false, .bool false, .bool false, .bool false, .bool false, .bool false, .bool false, .bool false, .bool false, .bool false, .bool false, .bool false, .bool false, .bool false, .bool false, .bool false, .bool false, .bool false, .bool false, .bool false]) := by kernel_rfl
theorem el67 : Elem Tryd.prog 67 101 (.agg #[.bool false, .bool false, .bool false, .bool false, .bool false, .bool false, .bool false, .bool false, .bool false, .bool false, .bool false, .bool false, .bool false, .bool false, .bool false, .bool false, .bool false, .bool false, .bool false, .bool false, .bool false, .bool false, .bool false, .bool false, .bool false, .bool false, .bool false, .bool false, .bool false, .bool false, .bool false, .bool false, .bool false, .bool false, .bool false, .bool false, .bool false, .bool false, .bool false, .bool false, .bool false, .bool false, .bool false, .bool false, .bool false, .bool false, .bool false, .bool false, .bool false, .bool false, .bool false, .bool false, .bool false, .bool false, .bool false, .bool false, .bool false, .bool false, .bool false, .bool false, .bool false, .bool false, .bool false, .bool false, .bool false, .bool false, .bool false, .bool false, .bool false, .bool false, .bool false, .bool false, .bool false, .bool false, .bool false, .bool false, .bool false, .bool false, .bool false, .bool false, .bool false, .bool false, .bool false, .bool false, .bool false, .bool false, .bool false, .bool false, .bool false, .bool false, .bool false, .bool false, .bool false, .bool false, .bool false, .bool false, .bool false, .bool false, .bool false, .bool false, .bool false]) 101 := ⟨z67, zo67, by kernel_rfl, rfl⟩
theorem k69 : kindOf Tryd.prog 69 = some true := by kernel_rfl
theorem z69 : szOf Tryd.prog 69 = some 207 := by kernel_rfl
theorem zo69 : zeroOf Tryd.prog 69 = some (.agg #[.string ⟨#[]⟩, .string ⟨#[]⟩, .slice none 0 0, .int .i64 0, .int .i64 0, .string ⟨#[]⟩, .string ⟨#[]⟩, .string ⟨#[]⟩, .string ⟨#[]⟩, .string ⟨#[]⟩, .string ⟨#[]⟩, .string ⟨#[]⟩, .string ⟨#[]⟩, .string ⟨#[]⟩, .string ⟨#[]⟩, .string ⟨#[]⟩, .string ⟨#[]⟩, .string ⟨#[]⟩, .string ⟨#[]⟩, .string ⟨#[]⟩, .string ⟨#[]⟩, .string ⟨#[]⟩, .string ⟨#[]⟩, .string ⟨#[]⟩, .string ⟨#[]⟩, .string ⟨#[]⟩, .string ⟨#[]⟩, .string ⟨#[]⟩, .string ⟨#[]⟩, .string ⟨#[]⟩, .string ⟨#[]⟩, .string ⟨#[]⟩, .string ⟨#[]⟩, .string ⟨#[]⟩, .string ⟨#[]⟩, .string ⟨#[]⟩, .string ⟨#[]⟩, .string ⟨#[]⟩, .string ⟨#[]⟩, .string ⟨#[]⟩, .string ⟨#[]⟩, .string ⟨#[]⟩, .string ⟨#[]⟩, .string ⟨#[]⟩, .string ⟨#[]⟩, .string ⟨#[]⟩, .string ⟨#[]⟩, .string ⟨#[]⟩, .string ⟨#[]⟩, .string ⟨#[]⟩, .string ⟨#[]⟩, .string ⟨#[]⟩, .string ⟨#[]⟩, .string ⟨#[]⟩, .string ⟨#[]⟩, .string ⟨#[]⟩, .string ⟨#[]⟩, .string ⟨#[]⟩, .string ⟨#[]⟩, .string ⟨#[]⟩, .string ⟨#[]⟩, .string ⟨#[]⟩, .string ⟨#[]⟩, .string ⟨#[]⟩, .string ⟨#[]⟩, .string ⟨#[]⟩, .string ⟨#[]⟩, .string ⟨#[]⟩, .string ⟨#[]⟩, .string ⟨#[]⟩, .string ⟨#[]⟩, .string ⟨#[]⟩, .string ⟨#[]⟩, .string ⟨#[]⟩, .string ⟨#[]⟩, .string ⟨#[]⟩, .string ⟨#[]⟩, .string ⟨#[]⟩, .string ⟨#[]⟩, .string ⟨#[]⟩, .string ⟨#[]⟩, .string ⟨#[]⟩, .string ⟨#[]⟩, .string ⟨#[]⟩, .string ⟨#[]⟩, .string ⟨#[]⟩, .string ⟨#[]⟩, .string ⟨#[]⟩, .string ⟨#[]⟩, .string ⟨#[]⟩, .string ⟨#[]⟩, .string ⟨#[]⟩, .string ⟨#[]⟩, .string ⟨#[]⟩, .string ⟨#[]⟩, .string ⟨#[]⟩, .string ⟨#[]⟩, .string ⟨#[]⟩, .string ⟨#[]⟩, .string ⟨#[]⟩, .string ⟨#[]⟩, .string ⟨#[]⟩, .string ⟨#[]⟩, .string ⟨#[]⟩, .string ⟨#[]⟩, .string ⟨#[]⟩, .bool false, .bool false, .bool false, .bool false, .bool false, .bool false, .bool false, .bool false, .bool false, .bool false, .bool false, .bool false, .bool false, .bool false, .bool false, .bool false, .bool false, .bool false, .bool false, .bool false, .bool false, .bool false, .bool false, .bool false, .bool false, .bool false, .bool false, .bool false, .bool false, .bool false, .bool false, .bool false, .bool false, .bool false, .bool false, .bool false, .bool false, .bool false, .bool false, .bool false, .bool false, .bool false, .bool false, .bool false, .bool false, .bool false, .bool false, .bool false, .bool false, .bool false, .bool false, .bool false, .bool false, .bool false, .bool false, .bool false, .bool false, .bool false, .bool false, .bool false, .bool false, .bool false, .bool false, .bool false, .bool false, .bool false, .bool false, .bool false, .bool false, .bool false, .bool false, .bool false, .bool false, .bool false, .bool false, .bool false, .bool false, .bool false, .bool false, .bool false, .bool false, .bool false, .bool false, .bool false, .bool false, .bool false, .bool false, .bool false, .bool false, .bool false, .bool false, .bool false, .bool false, .bool false, .bool false, .bool false, .bool false, .bool false, .bool false, .bool false, .bool false]) := by kernel_rfl
theorem el69 : Elem Tryd.prog 69 207 (.agg #[.string ⟨#[]⟩, .string ⟨#[]⟩, .slice none 0 0, .int .i64 0, .int .i64 0, .string ⟨#[]⟩, .string ⟨#[]⟩, .string ⟨#[]⟩, .string ⟨#[]⟩, .string ⟨#[]⟩, .string ⟨#[]⟩, .string ⟨#[]⟩, .string ⟨#[]⟩, .string ⟨#[]⟩, .string ⟨#[]⟩, .string ⟨#[]⟩, .string ⟨#[]⟩, .string ⟨#[]⟩, .string ⟨#[]⟩, .string ⟨#[]⟩, .string ⟨#[]⟩, .string ⟨#[]⟩, .string ⟨#[]⟩, .string ⟨#[]⟩, .string ⟨#[]⟩, .string ⟨#[]⟩, .string ⟨#[]⟩, .string ⟨#[]⟩, .string ⟨#[]⟩, .string ⟨#[]⟩, .string ⟨#[]⟩, .string ⟨#[]⟩, .string ⟨#[]⟩, .string ⟨#[]⟩, .string ⟨#[]⟩, .string ⟨#[]⟩, .string ⟨#[]⟩, .string ⟨#[]⟩, .string ⟨#[]⟩, .string ⟨#[]⟩, .string ⟨#[]⟩, .string ⟨#[]⟩, .string ⟨#[]⟩, .string ⟨#[]⟩, .string ⟨#[]⟩, .string ⟨#[]⟩, .string ⟨#[]⟩, .string ⟨#[]⟩, .string ⟨#[]⟩, .string ⟨#[]⟩, .string ⟨#[]⟩, .string ⟨#[]⟩, .string ⟨#[]⟩, .string ⟨#[]⟩, .string ⟨#[]⟩, .string ⟨#[]⟩, .string ⟨#[]⟩, .string ⟨#[]⟩, .string ⟨#[]⟩, .string ⟨#[]⟩, .string ⟨#[]⟩, .string ⟨#[]⟩, .string ⟨#[]⟩, .string ⟨#[]⟩, .string ⟨#[]⟩, .string ⟨#[]⟩, .string ⟨#[]⟩, .string ⟨#[]⟩, .string ⟨#[]⟩, .string ⟨#[]⟩, .string ⟨#[]⟩, .string ⟨#[]⟩, .string ⟨#[]⟩, .string ⟨#[]⟩, .string ⟨#[]⟩, .string ⟨#[]⟩, .string ⟨#[]⟩, .string ⟨#[]⟩, .string ⟨#[]⟩, .string ⟨#[]⟩, .string ⟨#[]⟩, .string ⟨#[]⟩, .string ⟨#[]⟩, .string ⟨#[]⟩, .string ⟨#[]⟩, .string ⟨#[]⟩, .string ⟨#[]⟩, .string ⟨#[]⟩, .string ⟨#[]⟩, .string ⟨#[]⟩, .string ⟨#[]⟩, .string ⟨#[]⟩, .string ⟨#[]⟩, .string ⟨#[]⟩, .string ⟨#[]⟩, .string ⟨#[]⟩, .string ⟨#[]⟩, .string ⟨#[]⟩, .string ⟨#[]⟩, .string ⟨#[]⟩, .string ⟨#[]⟩, .string ⟨#[]⟩, .string ⟨#[]⟩, .string ⟨#[]⟩, .string ⟨#[]⟩, .string ⟨#[]⟩, .bool false, .bool false, .bool false, .bool false, .bool false, .bool false, .bool false, .bool false, .bool false, .bool false, .bool false, .bool false, .bool false, .bool false, .bool false, .bool false, .bool false, .bool false, .bool false, .bool false, .bool false, .bool false, .bool false, .bool false, .bool false, .bool false, .bool false, .bool false, .bool false, .bool false, .bool false, .bool false, .bool false, .bool false, .bool false, .bool false, .bool false, .bool false, .bool false, .bool false, .bool false, .bool false, .bool false, .bool false, .bool false, .bool false, .bool false, .bool false, .bool false, .bool false, .bool false, .bool false, .bool false, .bool false, .bool false, .bool false, .bool false, .bool false, .bool false, .bool false, .bool false, .bool false, .bool false, .bool false, .bool false, .bool false, .bool false, .bool false, .bool false, .bool false, .bool false, .bool false, .bool false, .bool false, .bool false, .bool false, .bool false, .bool false, .bool false, .bool false, .bool false, .bool false, .bool false, .bool false, .bool false, .bool false, .bool false, .bool false, .bool false, .bool false, .bool false, .bool false, .bool false, .bool false, .bool false, .bool false, .bool false, .bool false, .bool false, .bool false, .bool false]) 1792 := ⟨z69, zo69, by kernel_rfl, rfl⟩
theorem k70 : kindOf Tryd.prog 70 = some false := by kernel_rfl
theorem z70 : szOf Tryd.prog 70 = some 1 := by kernel_rfl
theorem zo70 : zeroOf Tryd.prog 70 = some (.slice none 0 0) := by kernel_rfl
theorem el70 : Elem Tryd.prog 70 1 (.slice none 0 0) 24 := ⟨z70, zo70, by kernel_rfl, rfl⟩
theorem k71 : kindOf Tryd.prog 71 = some false := by kernel_rfl
theorem z71 : szOf Tryd.prog 71 = some 1 := by kernel_rfl
theorem zo71 : zeroOf Tryd.prog 71 = some (.map none) := by kernel_rfl
theorem el71 : Elem Tryd.prog 71 1 (.map none) 8 := ⟨z71, zo71, by kernel_rfl, rfl⟩
theorem k73 : kindOf Tryd.prog 73 = some true := by kernel_rfl
theorem z73 : szOf Tryd.prog 73 = some 6 := by kernel_rfl
theorem zo73 : zeroOf Tryd.prog 73 = some (.agg #[.string ⟨#[]⟩, .string ⟨#[]⟩, .slice none 0 0, .int .i64 0, .int .i64 0, .map none]) := by kernel_rfl
theorem el73 : Elem Tryd.prog 73 6 (.agg #[.string ⟨#[]⟩, .string ⟨#[]⟩, .slice none 0 0, .int .i64 0, .int .i64 0, .map none]) 80 := ⟨z73, zo73, by kernel_rfl, rfl⟩
theorem k76 : kindOf Tryd.prog 76 = some false := by kernel_rfl
theorem z76 : szOf Tryd.prog 76 = some 1 := by kernel_rfl
theorem zo76 : zeroOf Tryd.prog 76 = some (.nilFunc) := by kernel_rfl
theorem el76 : Elem Tryd.prog 76 1 (.nilFunc) 8 := ⟨z76, zo76, by kernel_rfl, rfl⟩
theorem k83 : kindOf Tryd.prog 83 = some false := by kernel_rfl
theorem z83 : szOf Tryd.prog 83 = some 1 := by kernel_rfl
theorem zo83 : zeroOf Tryd.prog 83 = some (.int .u32 0) := by kernel_rfl
theorem el83 : Elem Tryd.prog 83 1 (.int .u32 0) 4 := ⟨z83, zo83, by kernel_rfl, rfl⟩
theorem k84 : kindOf Tryd.prog 84 = some false := by kernel_rfl
theorem z84 : szOf Tryd.prog 84 = some 1 := by kernel_rfl
theorem zo84 : zeroOf Tryd.prog 84 = some (.slice none 0 0) := by kernel_rfl
theorem el84 : Elem Tryd.prog 84 1 (.slice none 0 0) 24 := ⟨z84, zo84, by kernel_rfl, rfl⟩
theorem k87 : kindOf Tryd.prog 87 = some false := by kernel_rfl
theorem z87 : szOf Tryd.prog 87 = some 1 := by kernel_rfl
theorem zo87 : zeroOf Tryd.prog 87 = some (.int .u64 0) := by kernel_rfl
theorem el87 : Elem Tryd.prog 87 1 (.int .u64 0) 8 := ⟨z87, zo87, by kernel_rfl, rfl⟩
theorem k97 : kindOf Tryd.prog 97 = some false := by kernel_rfl
theorem z97 : szOf Tryd.prog 97 = some 1 := by kernel_rfl
theorem zo97 : zeroOf Tryd.prog 97 = some (.int .u64 0) := by kernel_rfl
theorem el97 : Elem Tryd.prog 97 1 (.int .u64 0) 8 := ⟨z97, zo97, by kernel_rfl, rfl⟩
theorem k105 : kindOf Tryd.prog 105 = some true := by kernel_rfl
theorem z105 : szOf Tryd.prog 105 = some 8 := by kernel_rfl
theorem zo105 : zeroOf Tryd.prog 105 = some (.agg #[.int .u32 0, .int .u32 0, .int .u32 0, .int .u32 0, .int .u32 0, .int .u32 0, .int .u32 0, .int .u32 0]) := by kernel_rfl
theorem el105 : Elem Tryd.prog 105 8 (.agg #[.int .u32 0, .int .u32 0, .int .u32 0, .int .u32 0, .int .u32 0, .int .u32 0, .int .u32 0, .int .u32 0]) 32 := ⟨z105, zo105, by kernel_rfl, rfl⟩
theorem k111 : kindOf Tryd.prog 111 = some false := by kernel_rfl
theorem z111 : szOf Tryd.prog 111 = some 1 := by kernel_rfl
theorem zo111 : zeroOf Tryd.prog 111 = some (.pointer none) := by kernel_rfl
theorem el111 : Elem Tryd.prog 111 1 (.pointer none) 8 := ⟨z111, zo111, by kernel_rfl, rfl⟩
theorem k113 : kindOf Tryd.prog 113 = some true := by kernel_rfl
theorem z113 : szOf Tryd.prog 113 = some 2 := by kernel_rfl
theorem zo113 : zeroOf Tryd.prog 113 = some (.agg #[.pointer none, .slice none 0 0]) := by kernel_rfl
theorem el113 : Elem Tryd.prog 113 2 (.agg #[.pointer none, .slice none 0 0]) 32 := ⟨z113, zo113, by kernel_rfl, rfl⟩
theorem k121 : kindOf Tryd.prog 121 = some true := by kernel_rfl
theorem z121 : szOf Tryd.prog 121 = some 64 := by kernel_rfl
theorem zo121 : zeroOf Tryd.prog 121 = some (.agg #[.int .u32 0, .int .u32 0, .int .u32 0, .int .u32 0, .int .u32 0, .int .u32 0, .int .u32 0, .int .u32 0, .int .u32 0, .int .u32 0, .int .u32 0, .int .u32 0, .int .u32 0, .int .u32 0, .int .u32 0, .int .u32 0, .int .u32 0, .int .u32 0, .int .u32 0, .int .u32 0, .int .u32 0, .int .u32 0, .int .u32 0, .int .u32 0, .int .u32 0, .int .u32 0, .int .u32 0, .int .u32 0, .int .u32 0, .int .u32 0, .int .u32 0, .int .u32 0, .int .u32 0, .int .u32 0, .int .u32 0, .int .u32 0, .int .u32 0, .int .u32 0, .int .u32 0, .int .u32 0, .int .u32 0, .int .u32 0, .int .u32 0, .int .u32 0, .int .u32 0, .int .u32 0, .int .u32 0, .int .u32 0, .int .u32 0, .int .u32 0, .int .u32 0, .int .u32 0, .int .u32 0, .int .u32 0, .int .u32 0, .int .u32 0, .int .u32 0, .int .u32 0, .int .u32 0, .int .u32 0, .int .u32 0, .int .u32 0, .int .u32 0, .int .u32 0]) := by kernel_rfl
theorem el121 : Elem Tryd.prog 121 64 (.agg #[.int .u32 0, .int .u32 0, .int .u32 0, .int .u32 0, .int .u32 0, .int .u32 0, .int .u32 0, .int .u32 0, .int .u32 0, .int .u32 0, .int .u32 0, .int .u32 0, .int .u32 0, .int .u32 0, .int .u32 0, .int .u32 0, .int .u32 0, .int .u32 0, .int .u32 0, .int .u32 0, .int .u32 0, .int .u32 0, .int .u32 0, .int .u32 0, .int .u32 0, .int .u32 0, .int .u32 0, .int .u32 0, .int .u32 0, .int .u32 0, .int .u32 0, .int .u32 0, .int .u32 0, .int .u32 0, .int .u32 0, .int .u32 0, .int .u32 0, .int .u32 0, .int .u32 0, .int .u32 0, .int .u32 0, .int .u32 0, .int .u32 0, .int .u32 0, .int .u32 0, .int .u32 0, .int .u32 0, .int .u32 0, .int .u32 0, .int .u32 0, .int .u32 0, .int .u32 0, .int .u32 0, .int .u32 0, .int .u32 0, .int .u32 0, .int .u32 0, .int .u32 0, .int .u32 0, .int .u32 0, .int .u32 0, .int .u32 0, .int .u32 0, .int .u32 0]) 256 := ⟨z121, zo121, by kernel_rfl, rfl⟩
theorem k124 : kindOf Tryd.prog 124 = some true := by kernel_rfl
theorem z124 : szOf Tryd.prog 124 = some 32 := by kernel_rfl
theorem zo124 : zeroOf Tryd.prog 124 = some (.agg #[.int .u8 0, .int .u8 0, .int .u8 0, .int .u8 0, .int .u8 0, .int .u8 0, .int .u8 0, .int .u8 0, .int .u8 0, .int .u8 0, .int .u8 0, .int .u8 0, .int .u8 0, .int .u8 0, .int .u8 0, .int .u8 0, .int .u8 0, .int .u8 0, .int .u8 0, .int .u8 0, .int .u8 0, .int .u8 0, .int .u8 0, .int .u8 0, .int .u8 0, .int .u8 0, .int .u8 0, .int .u8 0, .int .u8 0, .int .u8 0, .int .u8 0, .int .u8 0]) := by kernel_rfl
theorem el124 : Elem Tryd.prog 124 32 (.agg #[.int .u8 0, .int .u8 0, .int .u8 0, .int .u8 0, .int .u8 0, .int .u8 0, .int .u8 0, .int .u8 0, .int .u8 0, .int .u8 0, .int .u8 0, .int .u8 0, .int .u8 0, .int .u8 0, .int .u8 0, .int .u8 0, .int .u8 0, .int .u8 0, .int .u8 0, .int .u8 0, .int .u8 0, .int .u8 0, .int .u8 0, .int .u8 0, .int .u8 0, .int .u8 0, .int .u8 0, .int .u8 0, .int .u8 0, .int .u8 0, .int .u8 0, .int .u8 0]) 32 := ⟨z124, zo124, by kernel_rfl, rfl⟩
theorem k125 : kindOf Tryd.prog 125 = some false := by kernel_rfl
theorem z125 : szOf Tryd.prog 125 = some 1 := by kernel_rfl
theorem zo125 : zeroOf Tryd.prog 125 = some (.pointer none) := by kernel_rfl
theorem el125 : Elem Tryd.prog 125 1 (.pointer none) 8 := ⟨z125, zo125, by kernel_rfl, rfl⟩
theorem k126 : kindOf Tryd.prog 126 = some false := by kernel_rfl
theorem z126 : szOf Tryd.prog 126 = some 1 := by kernel_rfl
theorem zo126 : zeroOf Tryd.prog 126 = some (.pointer none) := by kernel_rfl
theorem el126 : Elem Tryd.prog 126 1 (.pointer none) 8 := ⟨z126, zo126, by kernel_rfl, rfl⟩
theorem fa24_0 {dst : Option Tmp} {ty : TypeId} {pos : String} {after : Array Edge} {guard : Option (Nat × Bool)} {E : Env} {I : Im} {L : Own} {x : Operand} {b o : Nat} (hx : ev E x = some (.pointer (some ⟨b, o, none⟩))) : Reads Tryd.prog ⟨dst, .fieldAddr 24 x 0, ty, pos, after, guard⟩ E I L (.pointer (some ⟨b, o, none⟩)) := Reads.field_at (off := 0) Tryd.underlying24 rfl z3 rfl hx
theorem fs24_0 {dst : Option Tmp} {ty : TypeId} {pos : String} {after : Array Edge} {guard : Option (Nat × Bool)} {E : Env} {I : Im} {L : Own} {x : Operand} {p : Option Addr} {q : Nat} (hx : ev E x = some (.pointer (slot p q))) (hp : ∃ b o, p = some ⟨b, o, none⟩) : Reads Tryd.prog ⟨dst, .fieldAddr 24 x 0, ty, pos, after, guard⟩ E I L (.pointer (slot p (q))) := Reads.field_slot (off := 0) Tryd.underlying24 rfl z3 rfl hx hp
theorem fa24_1 {dst : Option Tmp} {ty : TypeId} {pos : String} {after : Array Edge} {guard : Option (Nat × Bool)} {E : Env} {I : Im} {L : Own} {x : Operand} {b o : Nat} (hx : ev E x = some (.pointer (some ⟨b, o, none⟩))) : Reads Tryd.prog ⟨dst, .fieldAddr 24 x 1, ty, pos, after, guard⟩ E I L (.pointer (some ⟨b, o + 1, none⟩)) := Reads.field_at (off := 1) Tryd.underlying24 rfl z3 rfl hx
theorem fs24_1 {dst : Option Tmp} {ty : TypeId} {pos : String} {after : Array Edge} {guard : Option (Nat × Bool)} {E : Env} {I : Im} {L : Own} {x : Operand} {p : Option Addr} {q : Nat} (hx : ev E x = some (.pointer (slot p q))) (hp : ∃ b o, p = some ⟨b, o, none⟩) : Reads Tryd.prog ⟨dst, .fieldAddr 24 x 1, ty, pos, after, guard⟩ E I L (.pointer (slot p (q + 1))) := Reads.field_slot (off := 1) Tryd.underlying24 rfl z3 rfl hx hp
theorem fa24_2 {dst : Option Tmp} {ty : TypeId} {pos : String} {after : Array Edge} {guard : Option (Nat × Bool)} {E : Env} {I : Im} {L : Own} {x : Operand} {b o : Nat} (hx : ev E x = some (.pointer (some ⟨b, o, none⟩))) : Reads Tryd.prog ⟨dst, .fieldAddr 24 x 2, ty, pos, after, guard⟩ E I L (.pointer (some ⟨b, o + 2, none⟩)) := Reads.field_at (off := 2) Tryd.underlying24 rfl z9 rfl hx
theorem fs24_2 {dst : Option Tmp} {ty : TypeId} {pos : String} {after : Array Edge} {guard : Option (Nat × Bool)} {E : Env} {I : Im} {L : Own} {x : Operand} {p : Option Addr} {q : Nat} (hx : ev E x = some (.pointer (slot p q))) (hp : ∃ b o, p = some ⟨b, o, none⟩) : Reads Tryd.prog ⟨dst, .fieldAddr 24 x 2, ty, pos, after, guard⟩ E I L (.pointer (slot p (q + 2))) := Reads.field_slot (off := 2) Tryd.underlying24 rfl z9 rfl hx hp
theorem fa24_3 {dst : Option Tmp} {ty : TypeId} {pos : String} {after : Array Edge} {guard : Option (Nat × Bool)} {E : Env} {I : Im} {L : Own} {x : Operand} {b o : Nat} (hx : ev E x = some (.pointer (some ⟨b, o, none⟩))) : Reads Tryd.prog ⟨dst, .fieldAddr 24 x 3, ty, pos, after, guard⟩ E I L (.pointer (some ⟨b, o + 3, none⟩)) := Reads.field_at (off := 3) Tryd.underlying24 rfl z9 rfl hx
theorem fs24_3 {dst : Option Tmp} {ty : TypeId} {pos : String} {after : Array Edge} {guard : Option (Nat × Bool)} {E : Env} {I : Im} {L : Own} {x : Operand} {p : Option Addr} {q : Nat} (hx : ev E x = some (.pointer (slot p q))) (hp : ∃ b o, p = some ⟨b, o, none⟩) : Reads Tryd.prog ⟨dst, .fieldAddr 24 x 3, ty, pos, after, guard⟩ E I L (.pointer (slot p (q + 3))) := Reads.field_slot (off := 3) Tryd.underlying24 rfl z9 rfl hx hp
theorem fa69_0 {dst : Option Tmp} {ty : TypeId} {pos : String} {after : Array Edge} {guard : Option (Nat × Bool)} {E : Env} {I : Im} {L : Own} {x : Operand} {b o : Nat} (hx : ev E x = some (.pointer (some ⟨b, o, none⟩))) : Reads Tryd.prog ⟨dst, .fieldAddr 69 x 0, ty, pos, after, guard⟩ E I L (.pointer (some ⟨b, o, none⟩)) := Reads.field_at (off := 0) Tryd.underlying69 rfl z9 rfl hx
theorem fs69_0 {dst : Option Tmp} {ty : TypeId} {pos : String} {after : Array Edge} {guard : Option (Nat × Bool)} {E : Env} {I : Im} {L : Own} {x : Operand} {p : Option Addr} {q : Nat} (hx : ev E x = some (.pointer (slot p q))) (hp : ∃ b o, p = some ⟨b, o, none⟩) : Reads Tryd.prog ⟨dst, .fieldAddr 69 x 0, ty, pos, after, guard⟩ E I L (.pointer (slot p (q))) := Reads.field_slot (off := 0) Tryd.underlying69 rfl z9 rfl hx hp
theorem fa69_1 {dst : Option Tmp} {ty : TypeId} {pos : String} {after : Array Edge} {guard : Option (Nat × Bool)} {E : Env} {I : Im} {L : Own} {x : Operand} {b o : Nat} (hx : ev E x = some (.pointer (some ⟨b, o, none⟩))) : Reads Tryd.prog ⟨dst, .fieldAddr 69 x 1, ty, pos, after, guard⟩ E I L (.pointer (some ⟨b, o + 1, none⟩)) := Reads.field_at (off := 1) Tryd.underlying69 rfl z9 rfl hx
theorem fs69_1 {dst : Option Tmp} {ty : TypeId} {pos : String} {after : Array Edge} {guard : Option (Nat × Bool)} {E : Env} {I : Im} {L : Own} {x : Operand} {p : Option Addr} {q : Nat} (hx : ev E x = some (.pointer (slot p q))) (hp : ∃ b o, p = some ⟨b, o, none⟩) : Reads Tryd.prog ⟨dst, .fieldAddr 69 x 1, ty, pos, after, guard⟩ E I L (.pointer (slot p (q + 1))) := Reads.field_slot (off := 1) Tryd.underlying69 rfl z9 rfl hx hp
theorem fa69_2 {dst : Option Tmp} {ty : TypeId} {pos : String} {after : Array Edge} {guard : Option (Nat × Bool)} {E : Env} {I : Im} {L : Own} {x : Operand} {b o : Nat} (hx : ev E x = some (.pointer (some ⟨b, o, none⟩))) : Reads Tryd.prog ⟨dst, .fieldAddr 69 x 2, ty, pos, after, guard⟩ E I L (.pointer (some ⟨b, o + 2, none⟩)) := Reads.field_at (off := 2) Tryd.underlying69 rfl z44 rfl hx
theorem fs69_2 {dst : Option Tmp} {ty : TypeId} {pos : String} {after : Array Edge} {guard : Option (Nat × Bool)} {E : Env} {I : Im} {L : Own} {x : Operand} {p : Option Addr} {q : Nat} (hx : ev E x = some (.pointer (slot p q))) (hp : ∃ b o, p = some ⟨b, o, none⟩) : Reads Tryd.prog ⟨dst, .fieldAddr 69 x 2, ty, pos, after, guard⟩ E I L (.pointer (slot p (q + 2))) := Reads.field_slot (off := 2) Tryd.underlying69 rfl z44 rfl hx hp
theorem fa69_3 {dst : Option Tmp} {ty : TypeId} {pos : String} {after : Array Edge} {guard : Option (Nat × Bool)} {E : Env} {I : Im} {L : Own} {x : Operand} {b o : Nat} (hx : ev E x = some (.pointer (some ⟨b, o, none⟩))) : Reads Tryd.prog ⟨dst, .fieldAddr 69 x 3, ty, pos, after, guard⟩ E I L (.pointer (some ⟨b, o + 3, none⟩)) := Reads.field_at (off := 3) Tryd.underlying69 rfl z3 rfl hx
theorem fs69_3 {dst : Option Tmp} {ty : TypeId} {pos : String} {after : Array Edge} {guard : Option (Nat × Bool)} {E : Env} {I : Im} {L : Own} {x : Operand} {p : Option Addr} {q : Nat} (hx : ev E x = some (.pointer (slot p q))) (hp : ∃ b o, p = some ⟨b, o, none⟩) : Reads Tryd.prog ⟨dst, .fieldAddr 69 x 3, ty, pos, after, guard⟩ E I L (.pointer (slot p (q + 3))) := Reads.field_slot (off := 3) Tryd.underlying69 rfl z3 rfl hx hp
theorem fa69_4 {dst : Option Tmp} {ty : TypeId} {pos : String} {after : Array Edge} {guard : Option (Nat × Bool)} {E : Env} {I : Im} {L : Own} {x : Operand} {b o : Nat} (hx : ev E x = some (.pointer (some ⟨b, o, none⟩))) : Reads Tryd.prog ⟨dst, .fieldAddr 69 x 4, ty, pos, after, guard⟩ E I L (.pointer (some ⟨b, o + 4, none⟩)) := Reads.field_at (off := 4) Tryd.underlying69 rfl z3 rfl hx
theorem fs69_4 {dst : Option Tmp} {ty : TypeId} {pos : String} {after : Array Edge} {guard : Option (Nat × Bool)} {E : Env} {I : Im} {L : Own} {x : Operand} {p : Option Addr} {q : Nat} (hx : ev E x = some (.pointer (slot p q))) (hp : ∃ b o, p = some ⟨b, o, none⟩) : Reads Tryd.prog ⟨dst, .fieldAddr 69 x 4, ty, pos, after, guard⟩ E I L (.pointer (slot p (q + 4))) := Reads.field_slot (off := 4) Tryd.underlying69 rfl z3 rfl hx hp
theorem fa69_5 {dst : Option Tmp} {ty : TypeId} {pos : String} {after : Array Edge} {guard : Option (Nat × Bool)} {E : Env} {I : Im} {L : Own} {x : Operand} {b o : Nat} (hx : ev E x = some (.pointer (some ⟨b, o, none⟩))) : Reads Tryd.prog ⟨dst, .fieldAddr 69 x 5, ty, pos, after, guard⟩ E I L (.pointer (some ⟨b, o + 5, none⟩)) := Reads.field_at (off := 5) Tryd.underlying69 rfl z66 rfl hx
theorem fs69_5 {dst : Option Tmp} {ty : TypeId} {pos : String} {after : Array Edge} {guard : Option (Nat × Bool)} {E : Env} {I : Im} {L : Own} {x : Operand} {p : Option Addr} {q : Nat} (hx : ev E x = some (.pointer (slot p q))) (hp : ∃ b o, p = some ⟨b, o, none⟩) : Reads Tryd.prog ⟨dst, .fieldAddr 69 x 5, ty, pos, after, guard⟩ E I L (.pointer (slot p (q + 5))) := Reads.field_slot (off := 5) Tryd.underlying69 rfl z66 rfl hx hp
theorem fa69_6 {dst : Option Tmp} {ty : TypeId} {pos : String} {after : Array Edge} {guard : Option (Nat × Bool)} {E : Env} {I : Im} {L : Own} {x : Operand} {b o : Nat} (hx : ev E x = some (.pointer (some ⟨b, o, none⟩))) : Reads Tryd.prog ⟨dst, .fieldAddr 69 x 6, ty, pos, after, guard⟩ E I L (.pointer (some ⟨b, o + 106, none⟩)) := Reads.field_at (off := 106) Tryd.underlying69 rfl z67 rfl hx
theorem fs69_6 {dst : Option Tmp} {ty : TypeId} {pos : String} {after : Array Edge} {guard : Option (Nat × Bool)} {E : Env} {I : Im} {L : Own} {x : Operand} {p : Option Addr} {q : Nat} (hx : ev E x = some (.pointer (slot p q))) (hp : ∃ b o, p = some ⟨b, o, none⟩) : Reads Tryd.prog ⟨dst, .fieldAddr 69 x 6, ty, pos, after, guard⟩ E I L (.pointer (slot p (q + 106))) := Reads.field_slot (off := 106) Tryd.underlying69 rfl z67 rfl hx hp
theorem fa73_0 {dst : Option Tmp} {ty : TypeId} {pos : String} {after : Array Edge} {guard : Option (Nat × Bool)} {E : Env} {I : Im} {L : Own} {x : Operand} {b o : Nat} (hx : ev E x = some (.pointer (some ⟨b, o, none⟩))) : Reads Tryd.prog ⟨dst, .fieldAddr 73 x 0, ty, pos, after, guard⟩ E I L (.pointer (some ⟨b, o, none⟩)) := Reads.field_at (off := 0) Tryd.underlying73 rfl z9 rfl hx
theorem fs73_0 {dst : Option Tmp} {ty : TypeId} {pos : String} {after : Array Edge} {guard : Option (Nat × Bool)} {E : Env} {I : Im} {L : Own} {x : Operand} {p : Option Addr} {q : Nat} (hx : ev E x = some (.pointer (slot p q))) (hp : ∃ b o, p = some ⟨b, o, none⟩) : Reads Tryd.prog ⟨dst, .fieldAddr 73 x 0, ty, pos, after, guard⟩ E I L (.pointer (slot p (q))) := Reads.field_slot (off := 0) Tryd.underlying73 rfl z9 rfl hx hp
theorem fa73_1 {dst : Option Tmp} {ty : TypeId} {pos : String} {after : Array Edge} {guard : Option (Nat × Bool)} {E : Env} {I : Im} {L : Own} {x : Operand} {b o : Nat} (hx : ev E x = some (.pointer (some ⟨b, o, none⟩))) : Reads Tryd.prog ⟨dst, .fieldAddr 73 x 1, ty, pos, after, guard⟩ E I L (.pointer (some ⟨b, o + 1, none⟩)) := Reads.field_at (off := 1) Tryd.underlying73 rfl z9 rfl hx
theorem fs73_1 {dst : Option Tmp} {ty : TypeId} {pos : String} {after : Array Edge} {guard : Option (Nat × Bool)} {E : Env} {I : Im} {L : Own} {x : Operand} {p : Option Addr} {q : Nat} (hx : ev E x = some (.pointer (slot p q))) (hp : ∃ b o, p = some ⟨b, o, none⟩) : Reads Tryd.prog ⟨dst, .fieldAddr 73 x 1, ty, pos, after, guard⟩ E I L (.pointer (slot p (q + 1))) := Reads.field_slot (off := 1) Tryd.underlying73 rfl z9 rfl hx hp
theorem fa73_2 {dst : Option Tmp} {ty : TypeId} {pos : String} {after : Array Edge} {guard : Option (Nat × Bool)} {E : Env} {I : Im} {L : Own} {x : Operand} {b o : Nat} (hx : ev E x = some (.pointer (some ⟨b, o, none⟩))) : Reads Tryd.prog ⟨dst, .fieldAddr 73 x 2, ty, pos, after, guard⟩ E I L (.pointer (some ⟨b, o + 2, none⟩)) := Reads.field_at (off := 2) Tryd.underlying73 rfl z44 rfl hx
theorem fs73_2 {dst : Option Tmp} {ty : TypeId} {pos : String} {after : Array Edge} {guard : Option (Nat × Bool)} {E : Env} {I : Im} {L : Own} {x : Operand} {p : Option Addr} {q : Nat} (hx : ev E x = some (.pointer (slot p q))) (hp : ∃ b o, p = some ⟨b, o, none⟩) : Reads Tryd.prog ⟨dst, .fieldAddr 73 x 2, ty, pos, after, guard⟩ E I L (.pointer (slot p (q + 2))) := Reads.field_slot (off := 2) Tryd.underlying73 rfl z44 rfl hx hp
theorem fa73_3 {dst : Option Tmp} {ty : TypeId} {pos : String} {after : Array Edge} {guard : Option (Nat × Bool)} {E : Env} {I : Im} {L : Own} {x : Operand} {b o : Nat} (hx : ev E x = some (.pointer (some ⟨b, o, none⟩))) : Reads Tryd.prog ⟨dst, .fieldAddr 73 x 3, ty, pos, after, guard⟩ E I L (.pointer (some ⟨b, o + 3, none⟩)) := Reads.field_at (off := 3) Tryd.underlying73 rfl z3 rfl hx
theorem fs73_3 {dst : Option Tmp} {ty : TypeId} {pos : String} {after : Array Edge} {guard : Option (Nat × Bool)} {E : Env} {I : Im} {L : Own} {x : Operand} {p : Option Addr} {q : Nat} (hx : ev E x = some (.pointer (slot p q))) (hp : ∃ b o, p = some ⟨b, o, none⟩) : Reads Tryd.prog ⟨dst, .fieldAddr 73 x 3, ty, pos, after, guard⟩ E I L (.pointer (slot p (q + 3))) := Reads.field_slot (off := 3) Tryd.underlying73 rfl z3 rfl hx hp
theorem fa73_4 {dst : Option Tmp} {ty : TypeId} {pos : String} {after : Array Edge} {guard : Option (Nat × Bool)} {E : Env} {I : Im} {L : Own} {x : Operand} {b o : Nat} (hx : ev E x = some (.pointer (some ⟨b, o, none⟩))) : Reads Tryd.prog ⟨dst, .fieldAddr 73 x 4, ty, pos, after, guard⟩ E I L (.pointer (some ⟨b, o + 4, none⟩)) := Reads.field_at (off := 4) Tryd.underlying73 rfl z3 rfl hx
theorem fs73_4 {dst : Option Tmp} {ty : TypeId} {pos : String} {after : Array Edge} {guard : Option (Nat × Bool)} {E : Env} {I : Im} {L : Own} {x : Operand} {p : Option Addr} {q : Nat} (hx : ev E x = some (.pointer (slot p q))) (hp : ∃ b o, p = some ⟨b, o, none⟩) : Reads Tryd.prog ⟨dst, .fieldAddr 73 x 4, ty, pos, after, guard⟩ E I L (.pointer (slot p (q + 4))) := Reads.field_slot (off := 4) Tryd.underlying73 rfl z3 rfl hx hp
theorem fa73_5 {dst : Option Tmp} {ty : TypeId} {pos : String} {after : Array Edge} {guard : Option (Nat × Bool)} {E : Env} {I : Im} {L : Own} {x : Operand} {b o : Nat} (hx : ev E x = some (.pointer (some ⟨b, o, none⟩))) : Reads Tryd.prog ⟨dst, .fieldAddr 73 x 5, ty, pos, after, guard⟩ E I L (.pointer (some ⟨b, o + 5, none⟩)) := Reads.field_at (off := 5) Tryd.underlying73 rfl z71 rfl hx
theorem fs73_5 {dst : Option Tmp} {ty : TypeId} {pos : String} {after : Array Edge} {guard : Option (Nat × Bool)} {E : Env} {I : Im} {L : Own} {x : Operand} {p : Option Addr} {q : Nat} (hx : ev E x = some (.pointer (slot p q))) (hp : ∃ b o, p = some ⟨b, o, none⟩) : Reads Tryd.prog ⟨dst, .fieldAddr 73 x 5, ty, pos, after, guard⟩ E I L (.pointer (slot p (q + 5))) := Reads.field_slot (off := 5) Tryd.underlying73 rfl z71 rfl hx hp
theorem fa113_0 {dst : Option Tmp} {ty : TypeId} {pos : String} {after : Array Edge} {guard : Option (Nat × Bool)} {E : Env} {I : Im} {L : Own} {x : Operand} {b o : Nat} (hx : ev E x = some (.pointer (some ⟨b, o, none⟩))) : Reads Tryd.prog ⟨dst, .fieldAddr 113 x 0, ty, pos, after, guard⟩ E I L (.pointer (some ⟨b, o, none⟩)) := Reads.field_at (off := 0) Tryd.underlying113 rfl z111 rfl hx
theorem fs113_0 {dst : Option Tmp} {ty : TypeId} {pos : String} {after : Array Edge} {guard : Option (Nat × Bool)} {E : Env} {I : Im} {L : Own} {x : Operand} {p : Option Addr} {q : Nat} (hx : ev E x = some (.pointer (slot p q))) (hp : ∃ b o, p = some ⟨b, o, none⟩) : Reads Tryd.prog ⟨dst, .fieldAddr 113 x 0, ty, pos, after, guard⟩ E I L (.pointer (slot p (q))) := Reads.field_slot (off := 0) Tryd.underlying113 rfl z111 rfl hx hp
theorem fa113_1 {dst : Option Tmp} {ty : TypeId} {pos : String} {after : Array Edge} {guard : Option (Nat × Bool)} {E : Env} {I : Im} {L : Own} {x : Operand} {b o : Nat} (hx : ev E x = some (.pointer (some ⟨b, o, none⟩))) : Reads Tryd.prog ⟨dst, .fieldAddr 113 x 1, ty, pos, after, guard⟩ E I L (.pointer (some ⟨b, o + 1, none⟩)) := Reads.field_at (off := 1) Tryd.underlying113 rfl z70 rfl hx
theorem fs113_1 {dst : Option Tmp} {ty : TypeId} {pos : String} {after : Array Edge} {guard : Option (Nat × Bool)} {E : Env} {I : Im} {L : Own} {x : Operand} {p : Option Addr} {q : Nat} (hx : ev E x = some (.pointer (slot p q))) (hp : ∃ b o, p = some ⟨b, o, none⟩) : Reads Tryd.prog ⟨dst, .fieldAddr 113 x 1, ty, pos, after, guard⟩ E I L (.pointer (slot p (q + 1))) := Reads.field_slot (off := 1) Tryd.underlying113 rfl z70 rfl hx hp
theorem bd24 {dst : Option Tmp} {ty : TypeId} {pos : String} {after : Array Edge} {guard : Option (Nat × Bool)} {E : Env} {I : Im} {L : Own} {pa : List (Nat × Operand)} {vs : List (Nat × Value)} (cells : Array Value) (hp : partsEv E pa vs) (hf : Instr.fill (fun i => #[(0, 1), (1, 1), (2, 1), (3, 1)][i]?) (Value.cells (.agg #[.int .i64 0, .int .i64 0, .string ⟨#[]⟩, .string ⟨#[]⟩])) vs = some cells) : Reads Tryd.prog ⟨dst, .build 24 pa.toArray, ty, pos, after, guard⟩ E I L (.agg cells) := Reads.build (ps := [(0, 1), (1, 1), (2, 1), (3, 1)]) cells zo24 Tryd.underlying24 (by simp [placesOf, z3, z9]) hp hf
theorem bd69 {dst : Option Tmp} {ty : TypeId} {pos : String} {after : Array Edge} {guard : Option (Nat × Bool)} {E : Env} {I : Im} {L : Own} {pa : List (Nat × Operand)} {vs : List (Nat × Value)} (cells : Array Value) (hp : partsEv E pa vs) (hf : Instr.fill (fun i => #[(0, 1), (1, 1), (2, 1), (3, 1), (4, 1), (5, 101), (106, 101)][i]?) (Value.cells (.agg #[.string ⟨#[]⟩, .string ⟨#[]⟩, .slice none 0 0, .int .i64 0, .int .i64 0, .string ⟨#[]⟩, .string ⟨#[]⟩, .string ⟨#[]⟩, .string ⟨#[]⟩, .string ⟨#[]⟩, .string ⟨#[]⟩, .string ⟨#[]⟩, .string ⟨#[]⟩, .string ⟨#[]⟩, .string ⟨#[]⟩, .string ⟨#[]⟩, .string ⟨#[]⟩, .string ⟨#[]⟩, .string ⟨#[]⟩, .string ⟨#[]⟩, .string ⟨#[]⟩, .string ⟨#[]⟩, .string ⟨#[]⟩, .string ⟨#[]⟩, .string ⟨#[]⟩, .string ⟨#[]⟩, .string ⟨#[]⟩, .string ⟨#[]⟩, .string ⟨#[]⟩, .string ⟨#[]⟩, .string ⟨#[]⟩, .string ⟨#[]⟩, .string ⟨#[]⟩, .string ⟨#[]⟩, .string ⟨#[]⟩, .string ⟨#[]⟩, .string ⟨#[]⟩, .string ⟨#[]⟩, .string ⟨#[]⟩, .string ⟨#[]⟩, .string ⟨#[]⟩, .string ⟨#[]⟩, .string ⟨#[]⟩, .string ⟨#[]⟩, .string ⟨#[]⟩, .string ⟨#[]⟩, .string ⟨#[]⟩, .string ⟨#[]⟩, .string ⟨#[]⟩, .string ⟨#[]⟩, .string ⟨#[]⟩, .string ⟨#[]⟩, .string ⟨#[]⟩, .string ⟨#[]⟩, .string ⟨#[]⟩, .string ⟨#[]⟩, .string ⟨#[]⟩, .string ⟨#[]⟩, .string ⟨#[]⟩, .string ⟨#[]⟩, .string ⟨#[]⟩, .string ⟨#[]⟩, .string ⟨#[]⟩, .string ⟨#[]⟩, .string ⟨#[]⟩, .string ⟨#[]⟩, .string ⟨#[]⟩, .string ⟨#[]⟩, .string ⟨#[]⟩, .string ⟨#[]⟩, .string ⟨#[]⟩, .string ⟨#[]⟩, .string ⟨#[]⟩, .string ⟨#[]⟩, .string ⟨#[]⟩, .string ⟨#[]⟩, .string ⟨#[]⟩, .string ⟨#[]⟩, .string ⟨#[]⟩, .string ⟨#[]⟩, .string ⟨#[]⟩, .string ⟨#[]⟩, .string ⟨#[]⟩, .string ⟨#[]⟩, .string ⟨#[]⟩, .string ⟨#[]⟩, .string ⟨#[]⟩, .string ⟨#[]⟩, .string ⟨#[]⟩, .string ⟨#[]⟩, .string ⟨#[]⟩, .string ⟨#[]⟩, .string ⟨#[]⟩, .string ⟨#[]⟩, .string ⟨#[]⟩, .string ⟨#[]⟩, .string ⟨#[]⟩, .string ⟨#[]⟩, .string ⟨#[]⟩, .string ⟨#[]⟩, .string ⟨#[]⟩, .string ⟨#[]⟩, .string ⟨#[]⟩, .string ⟨#[]⟩, .string ⟨#[]⟩, .string ⟨#[]⟩, .bool false, .bool false, .bool false, .bool false, .bool false, .bool false, .bool false, .bool false, .bool false, .bool false, .bool false, .bool false, .bool false, .bool false, .bool false, .bool false, .bool false, .bool false, .bool false, .bool false, .bool false, .bool false, .bool false, .bool false, .bool false, .bool false, .bool false, .bool false, .bool false, .bool false, .bool false, .bool false, .bool false, .bool false, .bool false, .bool false, .bool false, .bool false, .bool false, .bool false, .bool false, .bool false, .bool false, .bool false, .bool false, .bool false, .bool false, .bool false, .bool false, .bool false, .bool false, .bool false, .bool false, .bool false, .bool false, .bool false, .bool false, .bool false, .bool false, .bool false, .bool false, .bool false, .bool false, .bool false, .bool false, .bool false, .bool false, .bool false, .bool false, .bool false, .bool false, .bool false, .bool false, .bool false, .bool false, .bool false, .bool false, .bool false, .bool false, .bool false, .bool false, .bool false, .bool false, .bool false, .bool false, .bool false, .bool false, .bool false, .bool false, .bool false, .bool false, .bool false, .bool false, .bool false, .bool false, .bool false, .bool false, .bool false, .bool false, .bool false, .bool false])) vs = some cells) : Reads Tryd.prog ⟨dst, .build 69 pa.toArray, ty, pos, after, guard⟩ E I L (.agg cells) := Reads.build (ps := [(0, 1), (1, 1), (2, 1), (3, 1), (4, 1), (5, 101), (106, 101)]) cells zo69 Tryd.underlying69 (by simp [placesOf, z3, z9, z44, z66, z67]) hp hf
theorem bd73 {dst : Option Tmp} {ty : TypeId} {pos : String} {after : Array Edge} {guard : Option (Nat × Bool)} {E : Env} {I : Im} {L : Own} {pa : List (Nat × Operand)} {vs : List (Nat × Value)} (cells : Array Value) (hp : partsEv E pa vs) (hf : Instr.fill (fun i => #[(0, 1), (1, 1), (2, 1), (3, 1), (4, 1), (5, 1)][i]?) (Value.cells (.agg #[.string ⟨#[]⟩, .string ⟨#[]⟩, .slice none 0 0, .int .i64 0, .int .i64 0, .map none])) vs = some cells) : Reads Tryd.prog ⟨dst, .build 73 pa.toArray, ty, pos, after, guard⟩ E I L (.agg cells) := Reads.build (ps := [(0, 1), (1, 1), (2, 1), (3, 1), (4, 1), (5, 1)]) cells zo73 Tryd.underlying73 (by simp [placesOf, z3, z9, z44, z71]) hp hf
theorem en3 : Enters Tryd.prog 3 := enters_of (by kernel_rfl)
theorem en4 : Enters Tryd.prog 4 := enters_of (by kernel_rfl)
theorem en5 : Enters Tryd.prog 5 := enters_of (by kernel_rfl)
theorem en6 : Enters Tryd.prog 6 := enters_of (by kernel_rfl)
theorem en7 : Enters Tryd.prog 7 := enters_of (by kernel_rfl)
theorem en8 : Enters Tryd.prog 8 := enters_of (by kernel_rfl)
theorem en9 : Enters Tryd.prog 9 := enters_of (by kernel_rfl)
theorem en10 : Enters Tryd.prog 10 := enters_of (by kernel_rfl)
theorem en11 : Enters Tryd.prog 11 := enters_of (by kernel_rfl)
theorem en12 : Enters Tryd.prog 12 := enters_of (by kernel_rfl)
theorem en13 : Enters Tryd.prog 13 := enters_of (by kernel_rfl)
theorem en14 : Enters Tryd.prog 14 := enters_of (by kernel_rfl)
theorem en15 : Enters Tryd.prog 15 := enters_of (by kernel_rfl)
theorem en16 : Enters Tryd.prog 16 := enters_of (by kernel_rfl)
theorem en17 : Enters Tryd.prog 17 := enters_of (by kernel_rfl)
theorem en18 : Enters Tryd.prog 18 := enters_of (by kernel_rfl)
theorem en19 : Enters Tryd.prog 19 := enters_of (by kernel_rfl)
theorem en20 : Enters Tryd.prog 20 := enters_of (by kernel_rfl)
theorem en21 : Enters Tryd.prog 21 := enters_of (by kernel_rfl)
theorem en22 : Enters Tryd.prog 22 := enters_of (by kernel_rfl)
theorem en23 : Enters Tryd.prog 23 := enters_of (by kernel_rfl)
theorem en24 : Enters Tryd.prog 24 := enters_of (by kernel_rfl)
theorem en25 : Enters Tryd.prog 25 := enters_of (by kernel_rfl)
theorem en26 : Enters Tryd.prog 26 := enters_of (by kernel_rfl)
theorem en27 : Enters Tryd.prog 27 := enters_of (by kernel_rfl)
theorem en28 : Enters Tryd.prog 28 := enters_of (by kernel_rfl)
theorem en29 : Enters Tryd.prog 29 := enters_of (by kernel_rfl)
theorem en30 : Enters Tryd.prog 30 := enters_of (by kernel_rfl)
theorem en31 : Enters Tryd.prog 31 := enters_of (by kernel_rfl)
theorem en32 : Enters Tryd.prog 32 := enters_of (by kernel_rfl)
theorem en33 : Enters Tryd.prog 33 := enters_of (by kernel_rfl)
theorem en34 : Enters Tryd.prog 34 := enters_of (by kernel_rfl)
theorem en35 : Enters Tryd.prog 35 := enters_of (by kernel_rfl)
theorem en36 : Enters Tryd.prog 36 := enters_of (by kernel_rfl)
theorem en37 : Enters Tryd.prog 37 := enters_of (by kernel_rfl)
theorem en38 : Enters Tryd.prog 38 := enters_of (by kernel_rfl)
theorem en39 : Enters Tryd.prog 39 := enters_of (by kernel_rfl)
theorem en40 : Enters Tryd.prog 40 := enters_of (by kernel_rfl)
theorem en41 : Enters Tryd.prog 41 := enters_of (by kernel_rfl)
theorem en42 : Enters Tryd.prog 42 := enters_of (by kernel_rfl)
theorem en43 : Enters Tryd.prog 43 := enters_of (by kernel_rfl)
theorem en44 : Enters Tryd.prog 44 := enters_of (by kernel_rfl)
theorem en45 : Enters Tryd.prog 45 := enters_of (by kernel_rfl)
theorem en46 : Enters Tryd.prog 46 := enters_of (by kernel_rfl)
theorem en47 : Enters Tryd.prog 47 := enters_of (by kernel_rfl)
theorem en48 : Enters Tryd.prog 48 := enters_of (by kernel_rfl)
theorem en49 : Enters Tryd.prog 49 := enters_of (by kernel_rfl)
theorem en50 : Enters Tryd.prog 50 := enters_of (by kernel_rfl)
theorem en51 : Enters Tryd.prog 51 := enters_of (by kernel_rfl)
theorem en52 : Enters Tryd.prog 52 := enters_of (by kernel_rfl)
theorem en53 : Enters Tryd.prog 53 := enters_of (by kernel_rfl)
theorem en54 : Enters Tryd.prog 54 := enters_of (by kernel_rfl)
theorem en55 : Enters Tryd.prog 55 := enters_of (by kernel_rfl)
theorem en56 : Enters Tryd.prog 56 := enters_of (by kernel_rfl)
theorem en57 : Enters Tryd.prog 57 := enters_of (by kernel_rfl)
theorem en58 : Enters Tryd.prog 58 := enters_of (by kernel_rfl)
theorem en59 : Enters Tryd.prog 59 := enters_of (by kernel_rfl)
theorem en60 : Enters Tryd.prog 60 := enters_of (by kernel_rfl)
theorem en61 : Enters Tryd.prog 61 := enters_of (by kernel_rfl)
theorem en62 : Enters Tryd.prog 62 := enters_of (by kernel_rfl)
theorem en63 : Enters Tryd.prog 63 := enters_of (by kernel_rfl)
theorem en64 : Enters Tryd.prog 64 := enters_of (by kernel_rfl)
theorem en65 : Enters Tryd.prog 65 := enters_of (by kernel_rfl)
theorem en66 : Enters Tryd.prog 66 := enters_of (by kernel_rfl)
theorem en67 : Enters Tryd.prog 67 := enters_of (by kernel_rfl)
theorem en68 : Enters Tryd.prog 68 := enters_of (by kernel_rfl)
theorem en69 : Enters Tryd.prog 69 := enters_of (by kernel_rfl)
theorem en70 : Enters Tryd.prog 70 := enters_of (by kernel_rfl)
theorem en71 : Enters Tryd.prog 71 := enters_of (by kernel_rfl)
theorem en72 : Enters Tryd.prog 72 := enters_of (by kernel_rfl)
theorem en73 : Enters Tryd.prog 73 := enters_of (by kernel_rfl)
theorem en74 : Enters Tryd.prog 74 := enters_of (by kernel_rfl)
theorem en75 : Enters Tryd.prog 75 := enters_of (by kernel_rfl)
theorem en76 : Enters Tryd.prog 76 := enters_of (by kernel_rfl)
theorem en77 : Enters Tryd.prog 77 := enters_of (by kernel_rfl)
theorem en78 : Enters Tryd.prog 78 := enters_of (by kernel_rfl)
theorem en79 : Enters Tryd.prog 79 := enters_of (by kernel_rfl)
theorem en80 : Enters Tryd.prog 80 := enters_of (by kernel_rfl)
theorem en81 : Enters Tryd.prog 81 := enters_of (by kernel_rfl)
theorem en82 : Enters Tryd.prog 82 := enters_of (by kernel_rfl)
theorem en83 : Enters Tryd.prog 83 := enters_of (by kernel_rfl)
theorem en84 : Enters Tryd.prog 84 := enters_of (by kernel_rfl)
theorem en85 : Enters Tryd.prog 85 := enters_of (by kernel_rfl)

end Go.Proofs.YtkjhhifhgcihpaaDoor
