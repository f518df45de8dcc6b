/- What the program's tables say of the types and functions that the walks meet. -/
import Derived.Test.YtmlliafhpbfdbaaDoorRows
import Derived.Test.YtmlliafhpbfdbaaDoorXm
import Derived.KernelRfl
namespace Go.Proofs.YtmlliafhpbfdbaaDoor
open Go.Xe

theorem m_mixed : Tryd.prog.follows .mixedOrders = true := by kernel_rfl
theorem k3 : kindOf Tryd.prog 3 = some false := by kernel_rfl
theorem z3 : szOf Tryd.prog 3 = some 1 := by kernel_rfl
theorem zo3 : zeroOf Tryd.prog 3 = some (.int .i64 0) := by kernel_rfl
theorem el3 : Elem Tryd.prog 3 1 (.int .i64 0) 8 := ⟨z3, zo3, by kernel_rfl, rfl⟩
theorem k4 : kindOf Tryd.prog 4 = some false := by kernel_rfl
theorem z4 : szOf Tryd.prog 4 = some 1 := by kernel_rfl
theorem zo4 : zeroOf Tryd.prog 4 = some (.bool false) := by kernel_rfl
theorem el4 : Elem Tryd.prog 4 1 (.bool false) 1 := ⟨z4, zo4, by kernel_rfl, rfl⟩
theorem k5 : kindOf Tryd.prog 5 = some false := by kernel_rfl
theorem z5 : szOf Tryd.prog 5 = some 1 := by kernel_rfl
theorem zo5 : zeroOf Tryd.prog 5 = some (.int .u8 0) := by kernel_rfl
theorem el5 : Elem Tryd.prog 5 1 (.int .u8 0) 1 := ⟨z5, zo5, by kernel_rfl, rfl⟩
theorem k9 : kindOf Tryd.prog 9 = some false := by kernel_rfl
theorem z9 : szOf Tryd.prog 9 = some 1 := by kernel_rfl
theorem zo9 : zeroOf Tryd.prog 9 = some (.string ⟨#[]⟩) := by kernel_rfl
theorem el9 : Elem Tryd.prog 9 1 (.string ⟨#[]⟩) 16 := ⟨z9, zo9, by kernel_rfl, rfl⟩
theorem k22 : kindOf Tryd.prog 22 = some true := by kernel_rfl
theorem z22 : szOf Tryd.prog 22 = some 4 := by kernel_rfl
theorem zo22 : zeroOf Tryd.prog 22 = some (.agg #[.int .i64 0, .int .i64 0, .int .i64 0, .int .i64 0]) := by kernel_rfl
theorem el22 : Elem Tryd.prog 22 4 (.agg #[.int .i64 0, .int .i64 0, .int .i64 0, .int .i64 0]) 32 := ⟨z22, zo22, by kernel_rfl, rfl⟩
theorem k23 : kindOf Tryd.prog 23 = some false := by kernel_rfl
theorem z23 : szOf Tryd.prog 23 = some 1 := by kernel_rfl
theorem zo23 : zeroOf Tryd.prog 23 = some (.slice none 0 0) := by kernel_rfl
theorem el23 : Elem Tryd.prog 23 1 (.slice none 0 0) 24 := ⟨z23, zo23, by kernel_rfl, rfl⟩
theorem k24 : kindOf Tryd.prog 24 = some true := by kernel_rfl
theorem z24 : szOf Tryd.prog 24 = some 8 := by kernel_rfl
theorem zo24 : zeroOf Tryd.prog 24 = some (.agg #[.int .i64 0, .int .i64 0, .int .i64 0, .int .i64 0, .int .i64 0, .int .i64 0, .int .i64 0, .int .i64 0]) := by kernel_rfl
theorem el24 : Elem Tryd.prog 24 8 (.agg #[.int .i64 0, .int .i64 0, .int .i64 0, .int .i64 0, .int .i64 0, .int .i64 0, .int .i64 0, .int .i64 0]) 64 := ⟨z24, zo24, by kernel_rfl, rfl⟩
theorem k26 : kindOf Tryd.prog 26 = some true := by kernel_rfl
theorem z26 : szOf Tryd.prog 26 = some 14 := by kernel_rfl
theorem zo26 : zeroOf Tryd.prog 26 = some (.agg #[.int .i64 0, .int .i64 0, .int .i64 0, .int .i64 0, .int .i64 0, .slice none 0 0, .int .i64 0, .int .i64 0, .int .i64 0, .int .i64 0, .int .i64 0, .int .i64 0, .int .i64 0, .int .i64 0]) := by kernel_rfl
theorem el26 : Elem Tryd.prog 26 14 (.agg #[.int .i64 0, .int .i64 0, .int .i64 0, .int .i64 0, .int .i64 0, .slice none 0 0, .int .i64 0, .int .i64 0, .int .i64 0, .int .i64 0, .int .i64 0, .int .i64 0, .int .i64 0, .int .i64 0]) 128 := ⟨z26, zo26, by kernel_rfl, rfl⟩
theorem k27 : kindOf Tryd.prog 27 = some true := by kernel_rfl
theorem z27 : szOf Tryd.prog 27 = some 3 := by kernel_rfl
theorem zo27 : zeroOf Tryd.prog 27 = some (.agg #[.int .i64 0, .int .i64 0, .int .i64 0]) := by kernel_rfl
theorem el27 : Elem Tryd.prog 27 3 (.agg #[.int .i64 0, .int .i64 0, .int .i64 0]) 24 := ⟨z27, zo27, by kernel_rfl, rfl⟩
theorem k29 : kindOf Tryd.prog 29 = some false := by kernel_rfl
theorem z29 : szOf Tryd.prog 29 = some 1 := by kernel_rfl
theorem zo29 : zeroOf Tryd.prog 29 = some (.slice none 0 0) := by kernel_rfl
theorem el29 : Elem Tryd.prog 29 1 (.slice none 0 0) 24 := ⟨z29, zo29, by kernel_rfl, rfl⟩
theorem k34 : kindOf Tryd.prog 34 = some true := by kernel_rfl
theorem z34 : szOf Tryd.prog 34 = some 4 := by kernel_rfl
theorem zo34 : zeroOf Tryd.prog 34 = some (.agg #[.int .i64 0, .int .i64 0, .int .i64 0, .int .i64 0]) := by kernel_rfl
theorem el34 : Elem Tryd.prog 34 4 (.agg #[.int .i64 0, .int .i64 0, .int .i64 0, .int .i64 0]) 32 := ⟨z34, zo34, by kernel_rfl, rfl⟩
theorem k35 : kindOf Tryd.prog 35 = some false := by kernel_rfl
theorem z35 : szOf Tryd.prog 35 = some 1 := by kernel_rfl
theorem zo35 : zeroOf Tryd.prog 35 = some (.slice none 0 0) := by kernel_rfl
theorem el35 : Elem Tryd.prog 35 1 (.slice none 0 0) 24 := ⟨z35, zo35, by kernel_rfl, rfl⟩
theorem k37 : kindOf Tryd.prog 37 = some true := by kernel_rfl
theorem z37 : szOf Tryd.prog 37 = some 5 := by kernel_rfl
theorem zo37 : zeroOf Tryd.prog 37 = some (.agg #[.int .i64 0, .int .i64 0, .int .i64 0, .int .i64 0, .slice none 0 0]) := by kernel_rfl
theorem el37 : Elem Tryd.prog 37 5 (.agg #[.int .i64 0, .int .i64 0, .int .i64 0, .int .i64 0, .slice none 0 0]) 56 := ⟨z37, zo37, by kernel_rfl, rfl⟩
theorem k40 : kindOf Tryd.prog 40 = some false := by kernel_rfl
theorem z40 : szOf Tryd.prog 40 = some 1 := by kernel_rfl
theorem zo40 : zeroOf Tryd.prog 40 = some (.int .i64 0) := by kernel_rfl
theorem el40 : Elem Tryd.prog 40 1 (.int .i64 0) 8 := ⟨z40, zo40, by kernel_rfl, rfl⟩
theorem k53 : kindOf Tryd.prog 53 = some true := by kernel_rfl
theorem z53 : szOf Tryd.prog 53 = some 3 := by kernel_rfl
theorem zo53 : zeroOf Tryd.prog 53 = some (.agg #[.int .i64 0, .int .i64 0, .string ⟨#[]⟩]) := by kernel_rfl
theorem el53 : Elem Tryd.prog 53 3 (.agg #[.int .i64 0, .int .i64 0, .string ⟨#[]⟩]) 32 := ⟨z53, zo53, by kernel_rfl, rfl⟩
theorem k60 : kindOf Tryd.prog 60 = some false := by kernel_rfl
theorem z60 : szOf Tryd.prog 60 = some 1 := by kernel_rfl
theorem zo60 : zeroOf Tryd.prog 60 = some (.slice none 0 0) := by kernel_rfl
theorem el60 : Elem Tryd.prog 60 1 (.slice none 0 0) 24 := ⟨z60, zo60, by kernel_rfl, rfl⟩
theorem k62 : kindOf Tryd.prog 62 = some false := by kernel_rfl
theorem z62 : szOf Tryd.prog 62 = some 1 := by kernel_rfl
theorem zo62 : zeroOf Tryd.prog 62 = some (.slice none 0 0) := by kernel_rfl
theorem el62 : Elem Tryd.prog 62 1 (.slice none 0 0) 24 := ⟨z62, zo62, by kernel_rfl, rfl⟩
theorem k64 : kindOf Tryd.prog 64 = some false := by kernel_rfl
theorem z64 : szOf Tryd.prog 64 = some 1 := by kernel_rfl
theorem zo64 : zeroOf Tryd.prog 64 = some (.slice none 0 0) := by kernel_rfl
theorem el64 : Elem Tryd.prog 64 1 (.slice none 0 0) 24 := ⟨z64, zo64, by kernel_rfl, rfl⟩
theorem k67 : kindOf Tryd.prog 67 = some false := by kernel_rfl
theorem z67 : szOf Tryd.prog 67 = some 1 := by kernel_rfl
theorem zo67 : zeroOf Tryd.prog 67 = some (.slice none 0 0) := by kernel_rfl
theorem el67 : Elem Tryd.prog 67 1 (.slice none 0 0) 24 := ⟨z67, zo67, by kernel_rfl, rfl⟩
theorem k75 : kindOf Tryd.prog 75 = some false := by kernel_rfl
theorem z75 : szOf Tryd.prog 75 = some 1 := by kernel_rfl
theorem zo75 : zeroOf Tryd.prog 75 = some (.slice none 0 0) := by kernel_rfl
theorem el75 : Elem Tryd.prog 75 1 (.slice none 0 0) 24 := ⟨z75, zo75, by kernel_rfl, rfl⟩
theorem k84 : kindOf Tryd.prog 84 = some true := by kernel_rfl
theorem z84 : szOf Tryd.prog 84 = some 4 := by kernel_rfl
theorem zo84 : zeroOf Tryd.prog 84 = some (.agg #[.int .i64 0, .int .i64 0, .string ⟨#[]⟩, .string ⟨#[]⟩]) := by kernel_rfl
theorem el84 : Elem Tryd.prog 84 4 (.agg #[.int .i64 0, .int .i64 0, .string ⟨#[]⟩, .string ⟨#[]⟩]) 48 := ⟨z84, zo84, by kernel_rfl, rfl⟩
theorem k88 : kindOf Tryd.prog 88 = some false := by kernel_rfl
theorem z88 : szOf Tryd.prog 88 = some 1 := by kernel_rfl
theorem zo88 : zeroOf Tryd.prog 88 = some (.nilFunc) := by kernel_rfl
theorem el88 : Elem Tryd.prog 88 1 (.nilFunc) 8 := ⟨z88, zo88, by kernel_rfl, rfl⟩
theorem k90 : kindOf Tryd.prog 90 = some false := by kernel_rfl
theorem z90 : szOf Tryd.prog 90 = some 1 := by kernel_rfl
theorem zo90 : zeroOf Tryd.prog 90 = some (.nilFunc) := by kernel_rfl
theorem el90 : Elem Tryd.prog 90 1 (.nilFunc) 8 := ⟨z90, zo90, by kernel_rfl, rfl⟩
theorem k93 : kindOf Tryd.prog 93 = some false := by kernel_rfl
theorem z93 : szOf Tryd.prog 93 = some 1 := by kernel_rfl
theorem zo93 : zeroOf Tryd.prog 93 = some (.nilFunc) := by kernel_rfl
theorem el93 : Elem Tryd.prog 93 1 (.nilFunc) 8 := ⟨z93, zo93, by kernel_rfl, rfl⟩
theorem k94 : kindOf Tryd.prog 94 = some false := by kernel_rfl
theorem z94 : szOf Tryd.prog 94 = some 1 := by kernel_rfl
theorem zo94 : zeroOf Tryd.prog 94 = some (.nilFunc) := by kernel_rfl
theorem el94 : Elem Tryd.prog 94 1 (.nilFunc) 8 := ⟨z94, zo94, by kernel_rfl, rfl⟩
theorem k98 : kindOf Tryd.prog 98 = some false := by kernel_rfl
theorem z98 : szOf Tryd.prog 98 = some 1 := by kernel_rfl
theorem zo98 : zeroOf Tryd.prog 98 = some (.slice none 0 0) := by kernel_rfl
theorem el98 : Elem Tryd.prog 98 1 (.slice none 0 0) 24 := ⟨z98, zo98, by kernel_rfl, rfl⟩
theorem k107 : kindOf Tryd.prog 107 = some false := by kernel_rfl
theorem z107 : szOf Tryd.prog 107 = some 1 := by kernel_rfl
theorem zo107 : zeroOf Tryd.prog 107 = some (.pointer none) := by kernel_rfl
theorem el107 : Elem Tryd.prog 107 1 (.pointer none) 8 := ⟨z107, zo107, by kernel_rfl, rfl⟩
theorem k109 : kindOf Tryd.prog 109 = some true := by kernel_rfl
theorem z109 : szOf Tryd.prog 109 = some 2 := by kernel_rfl
theorem zo109 : zeroOf Tryd.prog 109 = some (.agg #[.pointer none, .slice none 0 0]) := by kernel_rfl
theorem el109 : Elem Tryd.prog 109 2 (.agg #[.pointer none, .slice none 0 0]) 32 := ⟨z109, zo109, by kernel_rfl, rfl⟩
theorem k111 : kindOf Tryd.prog 111 = some true := by kernel_rfl
theorem z111 : szOf Tryd.prog 111 = some 2 := by kernel_rfl
theorem zo111 : zeroOf Tryd.prog 111 = some (.agg #[.pointer none, .slice none 0 0]) := by kernel_rfl
theorem el111 : Elem Tryd.prog 111 2 (.agg #[.pointer none, .slice none 0 0]) 32 := ⟨z111, zo111, by kernel_rfl, rfl⟩
theorem k120 : kindOf Tryd.prog 120 = some false := by kernel_rfl
theorem z120 : szOf Tryd.prog 120 = some 1 := by kernel_rfl
theorem zo120 : zeroOf Tryd.prog 120 = some (.int .u32 0) := by kernel_rfl
theorem el120 : Elem Tryd.prog 120 1 (.int .u32 0) 4 := ⟨z120, zo120, by kernel_rfl, rfl⟩
theorem k121 : kindOf Tryd.prog 121 = some false := by kernel_rfl
theorem z121 : szOf Tryd.prog 121 = some 1 := by kernel_rfl
theorem zo121 : zeroOf Tryd.prog 121 = some (.slice none 0 0) := by kernel_rfl
theorem el121 : Elem Tryd.prog 121 1 (.slice none 0 0) 24 := ⟨z121, zo121, by kernel_rfl, rfl⟩
theorem k124 : kindOf Tryd.prog 124 = some false := by kernel_rfl
theorem z124 : szOf Tryd.prog 124 = some 1 := by kernel_rfl
theorem zo124 : zeroOf Tryd.prog 124 = some (.int .u64 0) := by kernel_rfl
theorem el124 : Elem Tryd.prog 124 1 (.int .u64 0) 8 := ⟨z124, zo124, by kernel_rfl, rfl⟩
theorem k126 : kindOf Tryd.prog 126 = some false := by kernel_rfl
theorem z126 : szOf Tryd.prog 126 = some 1 := by kernel_rfl
theorem zo126 : zeroOf Tryd.prog 126 = some (.int .u64 0) := by kernel_rfl
theorem el126 : Elem Tryd.prog 126 1 (.int .u64 0) 8 := ⟨z126, zo126, by kernel_rfl, rfl⟩
theorem k129 : kindOf Tryd.prog 129 = some false := by kernel_rfl
theorem z129 : szOf Tryd.prog 129 = some 1 := by kernel_rfl
theorem zo129 : zeroOf Tryd.prog 129 = some (.pointer none) := by kernel_rfl
theorem el129 : Elem Tryd.prog 129 1 (.pointer none) 8 := ⟨z129, zo129, by kernel_rfl, rfl⟩
theorem k142 : kindOf Tryd.prog 142 = some false := by kernel_rfl
theorem z142 : szOf Tryd.prog 142 = some 1 := by kernel_rfl
theorem zo142 : zeroOf Tryd.prog 142 = some (.pointer none) := by kernel_rfl
theorem el142 : Elem Tryd.prog 142 1 (.pointer none) 8 := ⟨z142, zo142, by kernel_rfl, rfl⟩
theorem k151 : kindOf Tryd.prog 151 = some true := by kernel_rfl
theorem z151 : szOf Tryd.prog 151 = some 8 := by kernel_rfl
theorem zo151 : zeroOf Tryd.prog 151 = some (.agg #[.int .u32 0, .int .u32 0, .int .u32 0, .int .u32 0, .int .u32 0, .int .u32 0, .int .u32 0, .int .u32 0]) := by kernel_rfl
theorem el151 : Elem Tryd.prog 151 8 (.agg #[.int .u32 0, .int .u32 0, .int .u32 0, .int .u32 0, .int .u32 0, .int .u32 0, .int .u32 0, .int .u32 0]) 32 := ⟨z151, zo151, by kernel_rfl, rfl⟩
theorem k159 : kindOf Tryd.prog 159 = some true := by kernel_rfl
theorem z159 : szOf Tryd.prog 159 = some 64 := by kernel_rfl
theorem zo159 : zeroOf Tryd.prog 159 = some (.agg #[.int .u32 0, .int .u32 0, .int .u32 0, .int .u32 0, .int .u32 0, .int .u32 0, .int .u32 0, .int .u32 0, .int .u32 0, .int .u32 0, .int .u32 0, .int .u32 0, .int .u32 0, .int .u32 0, .int .u32 0, .int .u32 0, .int .u32 0, .int .u32 0, .int .u32 0, .int .u32 0, .int .u32 0, .int .u32 0, .int .u32 0, .int .u32 0, .int .u32 0, .int .u32 0, .int .u32 0, .int .u32 0, .int .u32 0, .int .u32 0, .int .u32 0, .int .u32 0, .int .u32 0, .int .u32 0, .int .u32 0, .int .u32 0, .int .u32 0, .int .u32 0, .int .u32 0, .int .u32 0, .int .u32 0, .int .u32 0, .int .u32 0, .int .u32 0, .int .u32 0, .int .u32 0, .int .u32 0, .int .u32 0, .int .u32 0, .int .u32 0, .int .u32 0, .int .u32 0, .int .u32 0, .int .u32 0, .int .u32 0, .int .u32 0, .int .u32 0, .int .u32 0, .int .u32 0, .int .u32 0, .int .u32 0, .int .u32 0, .int .u32 0, .int .u32 0]) := by kernel_rfl
theorem el159 : Elem Tryd.prog 159 64 (.agg #[.int .u32 0, .int .u32 0, .int .u32 0, .int .u32 0, .int .u32 0, .int .u32 0, .int .u32 0, .int .u32 0, .int .u32 0, .int .u32 0, .int .u32 0, .int .u32 0, .int .u32 0, .int .u32 0, .int .u32 0, .int .u32 0, .int .u32 0, .int .u32 0, .int .u32 0, .int .u32 0, .int .u32 0, .int .u32 0, .int .u32 0, .int .u32 0, .int .u32 0, .int .u32 0, .int .u32 0, .int .u32 0, .int .u32 0, .int .u32 0, .int .u32 0, .int .u32 0, .int .u32 0, .int .u32 0, .int .u32 0, .int .u32 0, .int .u32 0, .int .u32 0, .int .u32 0, .int .u32 0, .int .u32 0, .int .u32 0, .int .u32 0, .int .u32 0, .int .u32 0, .int .u32 0, .int .u32 0, .int .u32 0, .int .u32 0, .int .u32 0, .int .u32 0, .int .u32 0, .int .u32 0, .int .u32 0, .int .u32 0, .int .u32 0, .int .u32 0, .int .u32 0, .int .u32 0, .int .u32 0, .int .u32 0, .int .u32 0, .int .u32 0, .int .u32 0]) 256 := ⟨z159, zo159, by kernel_rfl, rfl⟩
theorem k162 : kindOf Tryd.prog 162 = some true := by kernel_rfl
theorem z162 : szOf Tryd.prog 162 = some 32 := by kernel_rfl
theorem zo162 : zeroOf Tryd.prog 162 = some (.agg #[.int .u8 0, .int .u8 0, .int .u8 0, .int .u8 0, .int .u8 0, .int .u8 0, .int .u8 0, .int .u8 0, .int .u8 0, .int .u8 0, .int .u8 0, .int .u8 0, .int .u8 0, .int .u8 0, .int .u8 0, .int .u8 0, .int .u8 0, .int .u8 0, .int .u8 0, .int .u8 0, .int .u8 0, .int .u8 0, .int .u8 0, .int .u8 0, .int .u8 0, .int .u8 0, .int .u8 0, .int .u8 0, .int .u8 0, .int .u8 0, .int .u8 0, .int .u8 0]) := by kernel_rfl
theorem el162 : Elem Tryd.prog 162 32 (.agg #[.int .u8 0, .int .u8 0, .int .u8 0, .int .u8 0, .int .u8 0, .int .u8 0, .int .u8 0, .int .u8 0, .int .u8 0, .int .u8 0, .int .u8 0, .int .u8 0, .int .u8 0, .int .u8 0, .int .u8 0, .int .u8 0, .int .u8 0, .int .u8 0, .int .u8 0, .int .u8 0, .int .u8 0, .int .u8 0, .int .u8 0, .int .u8 0, .int .u8 0, .int .u8 0, .int .u8 0, .int .u8 0, .int .u8 0, .int .u8 0, .int .u8 0, .int .u8 0]) 32 := ⟨z162, zo162, by kernel_rfl, rfl⟩
theorem fa26_0 {dst : Option Tmp} {ty : TypeId} {pos : String} {after : Array Edge} {guard : Option (Nat × Bool)} {E : Env} {I : Im} {L : Own} {x : Operand} {b o : Nat} (hx : ev E x = some (.pointer (some ⟨b, o, none⟩))) : Reads Tryd.prog ⟨dst, .fieldAddr 26 x 0, ty, pos, after, guard⟩ E I L (.pointer (some ⟨b, o, none⟩)) := Reads.field_at (off := 0) Tryd.underlying26 rfl z22 rfl hx
theorem fs26_0 {dst : Option Tmp} {ty : TypeId} {pos : String} {after : Array Edge} {guard : Option (Nat × Bool)} {E : Env} {I : Im} {L : Own} {x : Operand} {p : Option Addr} {q : Nat} (hx : ev E x = some (.pointer (slot p q))) (hp : ∃ b o, p = some ⟨b, o, none⟩) : Reads Tryd.prog ⟨dst, .fieldAddr 26 x 0, ty, pos, after, guard⟩ E I L (.pointer (slot p (q))) := Reads.field_slot (off := 0) Tryd.underlying26 rfl z22 rfl hx hp
theorem fa26_1 {dst : Option Tmp} {ty : TypeId} {pos : String} {after : Array Edge} {guard : Option (Nat × Bool)} {E : Env} {I : Im} {L : Own} {x : Operand} {b o : Nat} (hx : ev E x = some (.pointer (some ⟨b, o, none⟩))) : Reads Tryd.prog ⟨dst, .fieldAddr 26 x 1, ty, pos, after, guard⟩ E I L (.pointer (some ⟨b, o + 4, none⟩)) := Reads.field_at (off := 4) Tryd.underlying26 rfl z3 rfl hx
theorem fs26_1 {dst : Option Tmp} {ty : TypeId} {pos : String} {after : Array Edge} {guard : Option (Nat × Bool)} {E : Env} {I : Im} {L : Own} {x : Operand} {p : Option Addr} {q : Nat} (hx : ev E x = some (.pointer (slot p q))) (hp : ∃ b o, p = some ⟨b, o, none⟩) : Reads Tryd.prog ⟨dst, .fieldAddr 26 x 1, ty, pos, after, guard⟩ E I L (.pointer (slot p (q + 4))) := Reads.field_slot (off := 4) Tryd.underlying26 rfl z3 rfl hx hp
theorem fa26_2 {dst : Option Tmp} {ty : TypeId} {pos : String} {after : Array Edge} {guard : Option (Nat × Bool)} {E : Env} {I : Im} {L : Own} {x : Operand} {b o : Nat} (hx : ev E x = some (.pointer (some ⟨b, o, none⟩))) : Reads Tryd.prog ⟨dst, .fieldAddr 26 x 2, ty, pos, after, guard⟩ E I L (.pointer (some ⟨b, o + 5, none⟩)) := Reads.field_at (off := 5) Tryd.underlying26 rfl z23 rfl hx
theorem fs26_2 {dst : Option Tmp} {ty : TypeId} {pos : String} {after : Array Edge} {guard : Option (Nat × Bool)} {E : Env} {I : Im} {L : Own} {x : Operand} {p : Option Addr} {q : Nat} (hx : ev E x = some (.pointer (slot p q))) (hp : ∃ b o, p = some ⟨b, o, none⟩) : Reads Tryd.prog ⟨dst, .fieldAddr 26 x 2, ty, pos, after, guard⟩ E I L (.pointer (slot p (q + 5))) := Reads.field_slot (off := 5) Tryd.underlying26 rfl z23 rfl hx hp
theorem fa26_3 {dst : Option Tmp} {ty : TypeId} {pos : String} {after : Array Edge} {guard : Option (Nat × Bool)} {E : Env} {I : Im} {L : Own} {x : Operand} {b o : Nat} (hx : ev E x = some (.pointer (some ⟨b, o, none⟩))) : Reads Tryd.prog ⟨dst, .fieldAddr 26 x 3, ty, pos, after, guard⟩ E I L (.pointer (some ⟨b, o + 6, none⟩)) := Reads.field_at (off := 6) Tryd.underlying26 rfl z24 rfl hx
theorem fs26_3 {dst : Option Tmp} {ty : TypeId} {pos : String} {after : Array Edge} {guard : Option (Nat × Bool)} {E : Env} {I : Im} {L : Own} {x : Operand} {p : Option Addr} {q : Nat} (hx : ev E x = some (.pointer (slot p q))) (hp : ∃ b o, p = some ⟨b, o, none⟩) : Reads Tryd.prog ⟨dst, .fieldAddr 26 x 3, ty, pos, after, guard⟩ E I L (.pointer (slot p (q + 6))) := Reads.field_slot (off := 6) Tryd.underlying26 rfl z24 rfl hx hp
theorem fa34_0 {dst : Option Tmp} {ty : TypeId} {pos : String} {after : Array Edge} {guard : Option (Nat × Bool)} {E : Env} {I : Im} {L : Own} {x : Operand} {b o : Nat} (hx : ev E x = some (.pointer (some ⟨b, o, none⟩))) : Reads Tryd.prog ⟨dst, .fieldAddr 34 x 0, ty, pos, after, guard⟩ E I L (.pointer (some ⟨b, o, none⟩)) := Reads.field_at (off := 0) Tryd.underlying34 rfl z3 rfl hx
theorem fs34_0 {dst : Option Tmp} {ty : TypeId} {pos : String} {after : Array Edge} {guard : Option (Nat × Bool)} {E : Env} {I : Im} {L : Own} {x : Operand} {p : Option Addr} {q : Nat} (hx : ev E x = some (.pointer (slot p q))) (hp : ∃ b o, p = some ⟨b, o, none⟩) : Reads Tryd.prog ⟨dst, .fieldAddr 34 x 0, ty, pos, after, guard⟩ E I L (.pointer (slot p (q))) := Reads.field_slot (off := 0) Tryd.underlying34 rfl z3 rfl hx hp
theorem fa34_1 {dst : Option Tmp} {ty : TypeId} {pos : String} {after : Array Edge} {guard : Option (Nat × Bool)} {E : Env} {I : Im} {L : Own} {x : Operand} {b o : Nat} (hx : ev E x = some (.pointer (some ⟨b, o, none⟩))) : Reads Tryd.prog ⟨dst, .fieldAddr 34 x 1, ty, pos, after, guard⟩ E I L (.pointer (some ⟨b, o + 1, none⟩)) := Reads.field_at (off := 1) Tryd.underlying34 rfl z3 rfl hx
theorem fs34_1 {dst : Option Tmp} {ty : TypeId} {pos : String} {after : Array Edge} {guard : Option (Nat × Bool)} {E : Env} {I : Im} {L : Own} {x : Operand} {p : Option Addr} {q : Nat} (hx : ev E x = some (.pointer (slot p q))) (hp : ∃ b o, p = some ⟨b, o, none⟩) : Reads Tryd.prog ⟨dst, .fieldAddr 34 x 1, ty, pos, after, guard⟩ E I L (.pointer (slot p (q + 1))) := Reads.field_slot (off := 1) Tryd.underlying34 rfl z3 rfl hx hp
theorem fa34_2 {dst : Option Tmp} {ty : TypeId} {pos : String} {after : Array Edge} {guard : Option (Nat × Bool)} {E : Env} {I : Im} {L : Own} {x : Operand} {b o : Nat} (hx : ev E x = some (.pointer (some ⟨b, o, none⟩))) : Reads Tryd.prog ⟨dst, .fieldAddr 34 x 2, ty, pos, after, guard⟩ E I L (.pointer (some ⟨b, o + 2, none⟩)) := Reads.field_at (off := 2) Tryd.underlying34 rfl z3 rfl hx
theorem fs34_2 {dst : Option Tmp} {ty : TypeId} {pos : String} {after : Array Edge} {guard : Option (Nat × Bool)} {E : Env} {I : Im} {L : Own} {x : Operand} {p : Option Addr} {q : Nat} (hx : ev E x = some (.pointer (slot p q))) (hp : ∃ b o, p = some ⟨b, o, none⟩) : Reads Tryd.prog ⟨dst, .fieldAddr 34 x 2, ty, pos, after, guard⟩ E I L (.pointer (slot p (q + 2))) := Reads.field_slot (off := 2) Tryd.underlying34 rfl z3 rfl hx hp
theorem fa34_3 {dst : Option Tmp} {ty : TypeId} {pos : String} {after : Array Edge} {guard : Option (Nat × Bool)} {E : Env} {I : Im} {L : Own} {x : Operand} {b o : Nat} (hx : ev E x = some (.pointer (some ⟨b, o, none⟩))) : Reads Tryd.prog ⟨dst, .fieldAddr 34 x 3, ty, pos, after, guard⟩ E I L (.pointer (some ⟨b, o + 3, none⟩)) := Reads.field_at (off := 3) Tryd.underlying34 rfl z3 rfl hx
theorem fs34_3 {dst : Option Tmp} {ty : TypeId} {pos : String} {after : Array Edge} {guard : Option (Nat × Bool)} {E : Env} {I : Im} {L : Own} {x : Operand} {p : Option Addr} {q : Nat} (hx : ev E x = some (.pointer (slot p q))) (hp : ∃ b o, p = some ⟨b, o, none⟩) : Reads Tryd.prog ⟨dst, .fieldAddr 34 x 3, ty, pos, after, guard⟩ E I L (.pointer (slot p (q + 3))) := Reads.field_slot (off := 3) Tryd.underlying34 rfl z3 rfl hx hp
theorem fa37_0 {dst : Option Tmp} {ty : TypeId} {pos : String} {after : Array Edge} {guard : Option (Nat × Bool)} {E : Env} {I : Im} {L : Own} {x : Operand} {b o : Nat} (hx : ev E x = some (.pointer (some ⟨b, o, none⟩))) : Reads Tryd.prog ⟨dst, .fieldAddr 37 x 0, ty, pos, after, guard⟩ E I L (.pointer (some ⟨b, o, none⟩)) := Reads.field_at (off := 0) Tryd.underlying37 rfl z34 rfl hx
theorem fs37_0 {dst : Option Tmp} {ty : TypeId} {pos : String} {after : Array Edge} {guard : Option (Nat × Bool)} {E : Env} {I : Im} {L : Own} {x : Operand} {p : Option Addr} {q : Nat} (hx : ev E x = some (.pointer (slot p q))) (hp : ∃ b o, p = some ⟨b, o, none⟩) : Reads Tryd.prog ⟨dst, .fieldAddr 37 x 0, ty, pos, after, guard⟩ E I L (.pointer (slot p (q))) := Reads.field_slot (off := 0) Tryd.underlying37 rfl z34 rfl hx hp
theorem fa37_1 {dst : Option Tmp} {ty : TypeId} {pos : String} {after : Array Edge} {guard : Option (Nat × Bool)} {E : Env} {I : Im} {L : Own} {x : Operand} {b o : Nat} (hx : ev E x = some (.pointer (some ⟨b, o, none⟩))) : Reads Tryd.prog ⟨dst, .fieldAddr 37 x 1, ty, pos, after, guard⟩ E I L (.pointer (some ⟨b, o + 4, none⟩)) := Reads.field_at (off := 4) Tryd.underlying37 rfl z35 rfl hx
theorem fs37_1 {dst : Option Tmp} {ty : TypeId} {pos : String} {after : Array Edge} {guard : Option (Nat × Bool)} {E : Env} {I : Im} {L : Own} {x : Operand} {p : Option Addr} {q : Nat} (hx : ev E x = some (.pointer (slot p q))) (hp : ∃ b o, p = some ⟨b, o, none⟩) : Reads Tryd.prog ⟨dst, .fieldAddr 37 x 1, ty, pos, after, guard⟩ E I L (.pointer (slot p (q + 4))) := Reads.field_slot (off := 4) Tryd.underlying37 rfl z35 rfl hx hp
theorem fa53_0 {dst : Option Tmp} {ty : TypeId} {pos : String} {after : Array Edge} {guard : Option (Nat × Bool)} {E : Env} {I : Im} {L : Own} {x : Operand} {b o : Nat} (hx : ev E x = some (.pointer (some ⟨b, o, none⟩))) : Reads Tryd.prog ⟨dst, .fieldAddr 53 x 0, ty, pos, after, guard⟩ E I L (.pointer (some ⟨b, o, none⟩)) := Reads.field_at (off := 0) Tryd.underlying53 rfl z3 rfl hx
theorem fs53_0 {dst : Option Tmp} {ty : TypeId} {pos : String} {after : Array Edge} {guard : Option (Nat × Bool)} {E : Env} {I : Im} {L : Own} {x : Operand} {p : Option Addr} {q : Nat} (hx : ev E x = some (.pointer (slot p q))) (hp : ∃ b o, p = some ⟨b, o, none⟩) : Reads Tryd.prog ⟨dst, .fieldAddr 53 x 0, ty, pos, after, guard⟩ E I L (.pointer (slot p (q))) := Reads.field_slot (off := 0) Tryd.underlying53 rfl z3 rfl hx hp
theorem fa53_1 {dst : Option Tmp} {ty : TypeId} {pos : String} {after : Array Edge} {guard : Option (Nat × Bool)} {E : Env} {I : Im} {L : Own} {x : Operand} {b o : Nat} (hx : ev E x = some (.pointer (some ⟨b, o, none⟩))) : Reads Tryd.prog ⟨dst, .fieldAddr 53 x 1, ty, pos, after, guard⟩ E I L (.pointer (some ⟨b, o + 1, none⟩)) := Reads.field_at (off := 1) Tryd.underlying53 rfl z3 rfl hx
theorem fs53_1 {dst : Option Tmp} {ty : TypeId} {pos : String} {after : Array Edge} {guard : Option (Nat × Bool)} {E : Env} {I : Im} {L : Own} {x : Operand} {p : Option Addr} {q : Nat} (hx : ev E x = some (.pointer (slot p q))) (hp : ∃ b o, p = some ⟨b, o, none⟩) : Reads Tryd.prog ⟨dst, .fieldAddr 53 x 1, ty, pos, after, guard⟩ E I L (.pointer (slot p (q + 1))) := Reads.field_slot (off := 1) Tryd.underlying53 rfl z3 rfl hx hp
theorem fa53_2 {dst : Option Tmp} {ty : TypeId} {pos : String} {after : Array Edge} {guard : Option (Nat × Bool)} {E : Env} {I : Im} {L : Own} {x : Operand} {b o : Nat} (hx : ev E x = some (.pointer (some ⟨b, o, none⟩))) : Reads Tryd.prog ⟨dst, .fieldAddr 53 x 2, ty, pos, after, guard⟩ E I L (.pointer (some ⟨b, o + 2, none⟩)) := Reads.field_at (off := 2) Tryd.underlying53 rfl z9 rfl hx
theorem fs53_2 {dst : Option Tmp} {ty : TypeId} {pos : String} {after : Array Edge} {guard : Option (Nat × Bool)} {E : Env} {I : Im} {L : Own} {x : Operand} {p : Option Addr} {q : Nat} (hx : ev E x = some (.pointer (slot p q))) (hp : ∃ b o, p = some ⟨b, o, none⟩) : Reads Tryd.prog ⟨dst, .fieldAddr 53 x 2, ty, pos, after, guard⟩ E I L (.pointer (slot p (q + 2))) := Reads.field_slot (off := 2) Tryd.underlying53 rfl z9 rfl hx hp
theorem fa84_0 {dst : Option Tmp} {ty : TypeId} {pos : String} {after : Array Edge} {guard : Option (Nat × Bool)} {E : Env} {I : Im} {L : Own} {x : Operand} {b o : Nat} (hx : ev E x = some (.pointer (some ⟨b, o, none⟩))) : Reads Tryd.prog ⟨dst, .fieldAddr 84 x 0, ty, pos, after, guard⟩ E I L (.pointer (some ⟨b, o, none⟩)) := Reads.field_at (off := 0) Tryd.underlying84 rfl z53 rfl hx
theorem fs84_0 {dst : Option Tmp} {ty : TypeId} {pos : String} {after : Array Edge} {guard : Option (Nat × Bool)} {E : Env} {I : Im} {L : Own} {x : Operand} {p : Option Addr} {q : Nat} (hx : ev E x = some (.pointer (slot p q))) (hp : ∃ b o, p = some ⟨b, o, none⟩) : Reads Tryd.prog ⟨dst, .fieldAddr 84 x 0, ty, pos, after, guard⟩ E I L (.pointer (slot p (q))) := Reads.field_slot (off := 0) Tryd.underlying84 rfl z53 rfl hx hp
theorem fa84_1 {dst : Option Tmp} {ty : TypeId} {pos : String} {after : Array Edge} {guard : Option (Nat × Bool)} {E : Env} {I : Im} {L : Own} {x : Operand} {b o : Nat} (hx : ev E x = some (.pointer (some ⟨b, o, none⟩))) : Reads Tryd.prog ⟨dst, .fieldAddr 84 x 1, ty, pos, after, guard⟩ E I L (.pointer (some ⟨b, o + 3, none⟩)) := Reads.field_at (off := 3) Tryd.underlying84 rfl z9 rfl hx
theorem fs84_1 {dst : Option Tmp} {ty : TypeId} {pos : String} {after : Array Edge} {guard : Option (Nat × Bool)} {E : Env} {I : Im} {L : Own} {x : Operand} {p : Option Addr} {q : Nat} (hx : ev E x = some (.pointer (slot p q))) (hp : ∃ b o, p = some ⟨b, o, none⟩) : Reads Tryd.prog ⟨dst, .fieldAddr 84 x 1, ty, pos, after, guard⟩ E I L (.pointer (slot p (q + 3))) := Reads.field_slot (off := 3) Tryd.underlying84 rfl z9 rfl hx hp
theorem fa109_0 {dst : Option Tmp} {ty : TypeId} {pos : String} {after : Array Edge} {guard : Option (Nat × Bool)} {E : Env} {I : Im} {L : Own} {x : Operand} {b o : Nat} (hx : ev E x = some (.pointer (some ⟨b, o, none⟩))) : Reads Tryd.prog ⟨dst, .fieldAddr 109 x 0, ty, pos, after, guard⟩ E I L (.pointer (some ⟨b, o, none⟩)) := Reads.field_at (off := 0) Tryd.underlying109 rfl z107 rfl hx
theorem fs109_0 {dst : Option Tmp} {ty : TypeId} {pos : String} {after : Array Edge} {guard : Option (Nat × Bool)} {E : Env} {I : Im} {L : Own} {x : Operand} {p : Option Addr} {q : Nat} (hx : ev E x = some (.pointer (slot p q))) (hp : ∃ b o, p = some ⟨b, o, none⟩) : Reads Tryd.prog ⟨dst, .fieldAddr 109 x 0, ty, pos, after, guard⟩ E I L (.pointer (slot p (q))) := Reads.field_slot (off := 0) Tryd.underlying109 rfl z107 rfl hx hp
theorem fa109_1 {dst : Option Tmp} {ty : TypeId} {pos : String} {after : Array Edge} {guard : Option (Nat × Bool)} {E : Env} {I : Im} {L : Own} {x : Operand} {b o : Nat} (hx : ev E x = some (.pointer (some ⟨b, o, none⟩))) : Reads Tryd.prog ⟨dst, .fieldAddr 109 x 1, ty, pos, after, guard⟩ E I L (.pointer (some ⟨b, o + 1, none⟩)) := Reads.field_at (off := 1) Tryd.underlying109 rfl z98 rfl hx
theorem fs109_1 {dst : Option Tmp} {ty : TypeId} {pos : String} {after : Array Edge} {guard : Option (Nat × Bool)} {E : Env} {I : Im} {L : Own} {x : Operand} {p : Option Addr} {q : Nat} (hx : ev E x = some (.pointer (slot p q))) (hp : ∃ b o, p = some ⟨b, o, none⟩) : Reads Tryd.prog ⟨dst, .fieldAddr 109 x 1, ty, pos, after, guard⟩ E I L (.pointer (slot p (q + 1))) := Reads.field_slot (off := 1) Tryd.underlying109 rfl z98 rfl hx hp
theorem fa111_0 {dst : Option Tmp} {ty : TypeId} {pos : String} {after : Array Edge} {guard : Option (Nat × Bool)} {E : Env} {I : Im} {L : Own} {x : Operand} {b o : Nat} (hx : ev E x = some (.pointer (some ⟨b, o, none⟩))) : Reads Tryd.prog ⟨dst, .fieldAddr 111 x 0, ty, pos, after, guard⟩ E I L (.pointer (some ⟨b, o, none⟩)) := Reads.field_at (off := 0) Tryd.underlying111 rfl z109 rfl hx
theorem fs111_0 {dst : Option Tmp} {ty : TypeId} {pos : String} {after : Array Edge} {guard : Option (Nat × Bool)} {E : Env} {I : Im} {L : Own} {x : Operand} {p : Option Addr} {q : Nat} (hx : ev E x = some (.pointer (slot p q))) (hp : ∃ b o, p = some ⟨b, o, none⟩) : Reads Tryd.prog ⟨dst, .fieldAddr 111 x 0, ty, pos, after, guard⟩ E I L (.pointer (slot p (q))) := Reads.field_slot (off := 0) Tryd.underlying111 rfl z109 rfl hx hp
theorem bd34 {dst : Option Tmp} {ty : TypeId} {pos : String} {after : Array Edge} {guard : Option (Nat × Bool)} {E : Env} {I : Im} {L : Own} {pa : List (Nat × Operand)} {vs : List (Nat × Value)} (cells : Array Value) (hp : partsEv E pa vs) (hf : Instr.fill (fun i => #[(0, 1), (1, 1), (2, 1), (3, 1)][i]?) (Value.cells (.agg #[.int .i64 0, .int .i64 0, .int .i64 0, .int .i64 0])) vs = some cells) : Reads Tryd.prog ⟨dst, .build 34 pa.toArray, ty, pos, after, guard⟩ E I L (.agg cells) := Reads.build (ps := [(0, 1), (1, 1), (2, 1), (3, 1)]) cells zo34 Tryd.underlying34 (by simp [placesOf, z3]) hp hf
theorem bd37 {dst : Option Tmp} {ty : TypeId} {pos : String} {after : Array Edge} {guard : Option (Nat × Bool)} {E : Env} {I : Im} {L : Own} {pa : List (Nat × Operand)} {vs : List (Nat × Value)} (cells : Array Value) (hp : partsEv E pa vs) (hf : Instr.fill (fun i => #[(0, 4), (4, 1)][i]?) (Value.cells (.agg #[.int .i64 0, .int .i64 0, .int .i64 0, .int .i64 0, .slice none 0 0])) vs = some cells) : Reads Tryd.prog ⟨dst, .build 37 pa.toArray, ty, pos, after, guard⟩ E I L (.agg cells) := Reads.build (ps := [(0, 4), (4, 1)]) cells zo37 Tryd.underlying37 (by simp [placesOf, z34, z35]) hp hf
theorem bd53 {dst : Option Tmp} {ty : TypeId} {pos : String} {after : Array Edge} {guard : Option (Nat × Bool)} {E : Env} {I : Im} {L : Own} {pa : List (Nat × Operand)} {vs : List (Nat × Value)} (cells : Array Value) (hp : partsEv E pa vs) (hf : Instr.fill (fun i => #[(0, 1), (1, 1), (2, 1)][i]?) (Value.cells (.agg #[.int .i64 0, .int .i64 0, .string ⟨#[]⟩])) vs = some cells) : Reads Tryd.prog ⟨dst, .build 53 pa.toArray, ty, pos, after, guard⟩ E I L (.agg cells) := Reads.build (ps := [(0, 1), (1, 1), (2, 1)]) cells zo53 Tryd.underlying53 (by simp [placesOf, z3, z9]) hp hf
theorem bd84 {dst : Option Tmp} {ty : TypeId} {pos : String} {after : Array Edge} {guard : Option (Nat × Bool)} {E : Env} {I : Im} {L : Own} {pa : List (Nat × Operand)} {vs : List (Nat × Value)} (cells : Array Value) (hp : partsEv E pa vs) (hf : Instr.fill (fun i => #[(0, 3), (3, 1)][i]?) (Value.cells (.agg #[.int .i64 0, .int .i64 0, .string ⟨#[]⟩, .string ⟨#[]⟩])) vs = some cells) : Reads Tryd.prog ⟨dst, .build 84 pa.toArray, ty, pos, after, guard⟩ E I L (.agg cells) := Reads.build (ps := [(0, 3), (3, 1)]) cells zo84 Tryd.underlying84 (by simp [placesOf, z9, z53]) hp hf
theorem en3 : Enters Tryd.prog 3 := enters_of (by kernel_rfl)
theorem en4 : Enters Tryd.prog 4 := enters_of (by kernel_rfl)
theorem en5 : Enters Tryd.prog 5 := enters_of (by kernel_rfl)
theorem en6 : Enters Tryd.prog 6 := enters_of (by kernel_rfl)
theorem en7 : Enters Tryd.prog 7 := enters_of (by kernel_rfl)
theorem en8 : Enters Tryd.prog 8 := enters_of (by kernel_rfl)
theorem en9 : Enters Tryd.prog 9 := enters_of (by kernel_rfl)
theorem en10 : Enters Tryd.prog 10 := enters_of (by kernel_rfl)
theorem en11 : Enters Tryd.prog 11 := enters_of (by kernel_rfl)
theorem en12 : Enters Tryd.prog 12 := enters_of (by kernel_rfl)
theorem en13 : Enters Tryd.prog 13 := enters_of (by kernel_rfl)
theorem en14 : Enters Tryd.prog 14 := enters_of (by kernel_rfl)
theorem en15 : Enters Tryd.prog 15 := enters_of (by kernel_rfl)
theorem en16 : Enters Tryd.prog 16 := enters_of (by kernel_rfl)
theorem en17 : Enters Tryd.prog 17 := enters_of (by kernel_rfl)
theorem en18 : Enters Tryd.prog 18 := enters_of (by kernel_rfl)
theorem en19 : Enters Tryd.prog 19 := enters_of (by kernel_rfl)
theorem en20 : Enters Tryd.prog 20 := enters_of (by kernel_rfl)
theorem en21 : Enters Tryd.prog 21 := enters_of (by kernel_rfl)
theorem en22 : Enters Tryd.prog 22 := enters_of (by kernel_rfl)
theorem en23 : Enters Tryd.prog 23 := enters_of (by kernel_rfl)
theorem en24 : Enters Tryd.prog 24 := enters_of (by kernel_rfl)
theorem en25 : Enters Tryd.prog 25 := enters_of (by kernel_rfl)
theorem en26 : Enters Tryd.prog 26 := enters_of (by kernel_rfl)
theorem en27 : Enters Tryd.prog 27 := enters_of (by kernel_rfl)
theorem en28 : Enters Tryd.prog 28 := enters_of (by kernel_rfl)
theorem en29 : Enters Tryd.prog 29 := enters_of (by kernel_rfl)
theorem en30 : Enters Tryd.prog 30 := enters_of (by kernel_rfl)
theorem en31 : Enters Tryd.prog 31 := enters_of (by kernel_rfl)
theorem en32 : Enters Tryd.prog 32 := enters_of (by kernel_rfl)
theorem en33 : Enters Tryd.prog 33 := enters_of (by kernel_rfl)
theorem en34 : Enters Tryd.prog 34 := enters_of (by kernel_rfl)
theorem en35 : Enters Tryd.prog 35 := enters_of (by kernel_rfl)
theorem en36 : Enters Tryd.prog 36 := enters_of (by kernel_rfl)
theorem en37 : Enters Tryd.prog 37 := enters_of (by kernel_rfl)
theorem en38 : Enters Tryd.prog 38 := enters_of (by kernel_rfl)
theorem en39 : Enters Tryd.prog 39 := enters_of (by kernel_rfl)
theorem en40 : Enters Tryd.prog 40 := enters_of (by kernel_rfl)
theorem en41 : Enters Tryd.prog 41 := enters_of (by kernel_rfl)
theorem en42 : Enters Tryd.prog 42 := enters_of (by kernel_rfl)
theorem en43 : Enters Tryd.prog 43 := enters_of (by kernel_rfl)
theorem en44 : Enters Tryd.prog 44 := enters_of (by kernel_rfl)
theorem en45 : Enters Tryd.prog 45 := enters_of (by kernel_rfl)
theorem en46 : Enters Tryd.prog 46 := enters_of (by kernel_rfl)
theorem en47 : Enters Tryd.prog 47 := enters_of (by kernel_rfl)
theorem en48 : Enters Tryd.prog 48 := enters_of (by kernel_rfl)
theorem en49 : Enters Tryd.prog 49 := enters_of (by kernel_rfl)
theorem en50 : Enters Tryd.prog 50 := enters_of (by kernel_rfl)
theorem en51 : Enters Tryd.prog 51 := enters_of (by kernel_rfl)
theorem en52 : Enters Tryd.prog 52 := enters_of (by kernel_rfl)
theorem en53 : Enters Tryd.prog 53 := enters_of (by kernel_rfl)
theorem en54 : Enters Tryd.prog 54 := enters_of (by kernel_rfl)
theorem en55 : Enters Tryd.prog 55 := enters_of (by kernel_rfl)
theorem en56 : Enters Tryd.prog 56 := enters_of (by kernel_rfl)
theorem en57 : Enters Tryd.prog 57 := enters_of (by kernel_rfl)
theorem en58 : Enters Tryd.prog 58 := enters_of (by kernel_rfl)
theorem en59 : Enters Tryd.prog 59 := enters_of (by kernel_rfl)
theorem en60 : Enters Tryd.prog 60 := enters_of (by kernel_rfl)
theorem en61 : Enters Tryd.prog 61 := enters_of (by kernel_rfl)
theorem en62 : Enters Tryd.prog 62 := enters_of (by kernel_rfl)
theorem en63 : Enters Tryd.prog 63 := enters_of (by kernel_rfl)
theorem en64 : Enters Tryd.prog 64 := enters_of (by kernel_rfl)
theorem en65 : Enters Tryd.prog 65 := enters_of (by kernel_rfl)
theorem en66 : Enters Tryd.prog 66 := enters_of (by kernel_rfl)
theorem en67 : Enters Tryd.prog 67 := enters_of (by kernel_rfl)
theorem en68 : Enters Tryd.prog 68 := enters_of (by kernel_rfl)
theorem en69 : Enters Tryd.prog 69 := enters_of (by kernel_rfl)
theorem en70 : Enters Tryd.prog 70 := enters_of (by kernel_rfl)
theorem en71 : Enters Tryd.prog 71 := enters_of (by kernel_rfl)
theorem en72 : Enters Tryd.prog 72 := enters_of (by kernel_rfl)
theorem en73 : Enters Tryd.prog 73 := enters_of (by kernel_rfl)
theorem en74 : Enters Tryd.prog 74 := enters_of (by kernel_rfl)
theorem en75 : Enters Tryd.prog 75 := enters_of (by kernel_rfl)
theorem en76 : Enters Tryd.prog 76 := enters_of (by kernel_rfl)
theorem en77 : Enters Tryd.prog 77 := enters_of (by kernel_rfl)
theorem en78 : Enters Tryd.prog 78 := enters_of (by kernel_rfl)
theorem en79 : Enters Tryd.prog 79 := enters_of (by kernel_rfl)
theorem en80 : Enters Tryd.prog 80 := enters_of (by kernel_rfl)
theorem en81 : Enters Tryd.prog 81 := enters_of (by kernel_rfl)
theorem en82 : Enters Tryd.prog 82 := enters_of (by kernel_rfl)
theorem en83 : Enters Tryd.prog 83 := enters_of (by kernel_rfl)
theorem en84 : Enters Tryd.prog 84 := enters_of (by kernel_rfl)
theorem en85 : Enters Tryd.prog 85 := enters_of (by kernel_rfl)
theorem en86 : Enters Tryd.prog 86 := enters_of (by kernel_rfl)
theorem en87 : Enters Tryd.prog 87 := enters_of (by kernel_rfl)
theorem en88 : Enters Tryd.prog 88 := enters_of (by kernel_rfl)
theorem en89 : Enters Tryd.prog 89 := enters_of (by kernel_rfl)
theorem en90 : Enters Tryd.prog 90 := enters_of (by kernel_rfl)
theorem en91 : Enters Tryd.prog 91 := enters_of (by kernel_rfl)
theorem en92 : Enters Tryd.prog 92 := enters_of (by kernel_rfl)
theorem en93 : Enters Tryd.prog 93 := enters_of (by kernel_rfl)
theorem en94 : Enters Tryd.prog 94 := enters_of (by kernel_rfl)
theorem en95 : Enters Tryd.prog 95 := enters_of (by kernel_rfl)
theorem en97 : Enters Tryd.prog 97 := enters_of (by kernel_rfl)
theorem en98 : Enters Tryd.prog 98 := enters_of (by kernel_rfl)
theorem en99 : Enters Tryd.prog 99 := enters_of (by kernel_rfl)
theorem en100 : Enters Tryd.prog 100 := enters_of (by kernel_rfl)
theorem en101 : Enters Tryd.prog 101 := enters_of (by kernel_rfl)
theorem en102 : Enters Tryd.prog 102 := enters_of (by kernel_rfl)
theorem en103 : Enters Tryd.prog 103 := enters_of (by kernel_rfl)
theorem en104 : Enters Tryd.prog 104 := enters_of (by kernel_rfl)
theorem en105 : Enters Tryd.prog 105 := enters_of (by kernel_rfl)
theorem en106 : Enters Tryd.prog 106 := enters_of (by kernel_rfl)
theorem en107 : Enters Tryd.prog 107 := enters_of (by kernel_rfl)
theorem en109 : Enters Tryd.prog 109 := enters_of (by kernel_rfl)
theorem en110 : Enters Tryd.prog 110 := enters_of (by kernel_rfl)
theorem en111 : Enters Tryd.prog 111 := enters_of (by kernel_rfl)
theorem en112 : Enters Tryd.prog 112 := enters_of (by kernel_rfl)

end Go.Proofs.YtmlliafhpbfdbaaDoor
