/- What the program's tables say of the types and functions that the walks meet. -/
import Derived.Test.YtlgfpieokaegiaaRows
import Derived.Test.YtlgfpieokaegiaaXm
import Derived.KernelRfl
namespace Go.Proofs.Ytlgfpieokaegiaa
open Go.Xe

theorem m_mixed : Try.prog.follows .mixedOrders = true := by kernel_rfl
theorem k3 : kindOf Try.prog 3 = some false := by kernel_rfl
theorem z3 : szOf Try.prog 3 = some 1 := by kernel_rfl
theorem zo3 : zeroOf Try.prog 3 = some (.int .i64 0) := by kernel_rfl
theorem el3 : Elem Try.prog 3 1 (.int .i64 0) 8 := ⟨z3, zo3, by kernel_rfl, rfl⟩
theorem k4 : kindOf Try.prog 4 = some false := by kernel_rfl
theorem z4 : szOf Try.prog 4 = some 1 := by kernel_rfl
theorem zo4 : zeroOf Try.prog 4 = some (.bool false) := by kernel_rfl
theorem el4 : Elem Try.prog 4 1 (.bool false) 1 := ⟨z4, zo4, by kernel_rfl, rfl⟩
theorem k22 : kindOf Try.prog 22 = some false := by kernel_rfl
theorem z22 : szOf Try.prog 22 = some 1 := by kernel_rfl
theorem zo22 : zeroOf Try.prog 22 = some (.slice none 0 0) := by kernel_rfl
theorem el22 : Elem Try.prog 22 1 (.slice none 0 0) 24 := ⟨z22, zo22, by kernel_rfl, rfl⟩
theorem k23 : kindOf Try.prog 23 = some false := by kernel_rfl
theorem z23 : szOf Try.prog 23 = some 1 := by kernel_rfl
theorem zo23 : zeroOf Try.prog 23 = some (.slice none 0 0) := by kernel_rfl
theorem el23 : Elem Try.prog 23 1 (.slice none 0 0) 24 := ⟨z23, zo23, by kernel_rfl, rfl⟩
theorem k25 : kindOf Try.prog 25 = some true := by kernel_rfl
theorem z25 : szOf Try.prog 25 = some 4 := by kernel_rfl
theorem zo25 : zeroOf Try.prog 25 = some (.agg #[.int .i64 0, .slice none 0 0, .slice none 0 0, .int .i64 0]) := by kernel_rfl
theorem el25 : Elem Try.prog 25 4 (.agg #[.int .i64 0, .slice none 0 0, .slice none 0 0, .int .i64 0]) 64 := ⟨z25, zo25, by kernel_rfl, rfl⟩
theorem k26 : kindOf Try.prog 26 = some false := by kernel_rfl
theorem z26 : szOf Try.prog 26 = some 1 := by kernel_rfl
theorem zo26 : zeroOf Try.prog 26 = some (.slice none 0 0) := by kernel_rfl
theorem el26 : Elem Try.prog 26 1 (.slice none 0 0) 24 := ⟨z26, zo26, by kernel_rfl, rfl⟩
theorem k28 : kindOf Try.prog 28 = some true := by kernel_rfl
theorem z28 : szOf Try.prog 28 = some 2 := by kernel_rfl
theorem zo28 : zeroOf Try.prog 28 = some (.agg #[.int .i64 0, .slice none 0 0]) := by kernel_rfl
theorem el28 : Elem Try.prog 28 2 (.agg #[.int .i64 0, .slice none 0 0]) 32 := ⟨z28, zo28, by kernel_rfl, rfl⟩
theorem k30 : kindOf Try.prog 30 = some true := by kernel_rfl
theorem z30 : szOf Try.prog 30 = some 3 := by kernel_rfl
theorem zo30 : zeroOf Try.prog 30 = some (.agg #[.int .i64 0, .int .i64 0, .int .i64 0]) := by kernel_rfl
theorem el30 : Elem Try.prog 30 3 (.agg #[.int .i64 0, .int .i64 0, .int .i64 0]) 24 := ⟨z30, zo30, by kernel_rfl, rfl⟩
theorem k34 : kindOf Try.prog 34 = some false := by kernel_rfl
theorem z34 : szOf Try.prog 34 = some 1 := by kernel_rfl
theorem zo34 : zeroOf Try.prog 34 = some (.nilFunc) := by kernel_rfl
theorem el34 : Elem Try.prog 34 1 (.nilFunc) 8 := ⟨z34, zo34, by kernel_rfl, rfl⟩
theorem k37 : kindOf Try.prog 37 = some false := by kernel_rfl
theorem z37 : szOf Try.prog 37 = some 1 := by kernel_rfl
theorem zo37 : zeroOf Try.prog 37 = some (.slice none 0 0) := by kernel_rfl
theorem el37 : Elem Try.prog 37 1 (.slice none 0 0) 24 := ⟨z37, zo37, by kernel_rfl, rfl⟩
theorem k38 : kindOf Try.prog 38 = some false := by kernel_rfl
theorem z38 : szOf Try.prog 38 = some 1 := by kernel_rfl
theorem zo38 : zeroOf Try.prog 38 = some (.slice none 0 0) := by kernel_rfl
theorem el38 : Elem Try.prog 38 1 (.slice none 0 0) 24 := ⟨z38, zo38, by kernel_rfl, rfl⟩
theorem k39 : kindOf Try.prog 39 = some false := by kernel_rfl
theorem z39 : szOf Try.prog 39 = some 1 := by kernel_rfl
theorem zo39 : zeroOf Try.prog 39 = some (.int .i64 0) := by kernel_rfl
theorem el39 : Elem Try.prog 39 1 (.int .i64 0) 8 := ⟨z39, zo39, by kernel_rfl, rfl⟩
theorem k57 : kindOf Try.prog 57 = some true := by kernel_rfl
theorem z57 : szOf Try.prog 57 = some 3 := by kernel_rfl
theorem zo57 : zeroOf Try.prog 57 = some (.agg #[.int .i64 0, .int .i64 0, .int .i64 0]) := by kernel_rfl
theorem el57 : Elem Try.prog 57 3 (.agg #[.int .i64 0, .int .i64 0, .int .i64 0]) 24 := ⟨z57, zo57, by kernel_rfl, rfl⟩
theorem k65 : kindOf Try.prog 65 = some false := by kernel_rfl
theorem z65 : szOf Try.prog 65 = some 1 := by kernel_rfl
theorem zo65 : zeroOf Try.prog 65 = some (.slice none 0 0) := by kernel_rfl
theorem el65 : Elem Try.prog 65 1 (.slice none 0 0) 24 := ⟨z65, zo65, by kernel_rfl, rfl⟩
theorem k75 : kindOf Try.prog 75 = some false := by kernel_rfl
theorem z75 : szOf Try.prog 75 = some 1 := by kernel_rfl
theorem zo75 : zeroOf Try.prog 75 = some (.nilFunc) := by kernel_rfl
theorem el75 : Elem Try.prog 75 1 (.nilFunc) 8 := ⟨z75, zo75, by kernel_rfl, rfl⟩
theorem k76 : kindOf Try.prog 76 = some false := by kernel_rfl
theorem z76 : szOf Try.prog 76 = some 1 := by kernel_rfl
theorem zo76 : zeroOf Try.prog 76 = some (.nilFunc) := by kernel_rfl
theorem el76 : Elem Try.prog 76 1 (.nilFunc) 8 := ⟨z76, zo76, by kernel_rfl, rfl⟩
theorem fa25_0 {dst : Option Tmp} {ty : TypeId} {pos : String} {after : Array Edge} {guard : Option (Nat × Bool)} {E : Env} {I : Im} {L : Own} {x : Operand} {b o : Nat} (hx : ev E x = some (.pointer (some ⟨b, o, none⟩))) : Reads Try.prog ⟨dst, .fieldAddr 25 x 0, ty, pos, after, guard⟩ E I L (.pointer (some ⟨b, o, none⟩)) := Reads.field_at (off := 0) Try.underlying25 rfl z3 rfl hx
theorem fs25_0 {dst : Option Tmp} {ty : TypeId} {pos : String} {after : Array Edge} {guard : Option (Nat × Bool)} {E : Env} {I : Im} {L : Own} {x : Operand} {p : Option Addr} {q : Nat} (hx : ev E x = some (.pointer (slot p q))) (hp : ∃ b o, p = some ⟨b, o, none⟩) : Reads Try.prog ⟨dst, .fieldAddr 25 x 0, ty, pos, after, guard⟩ E I L (.pointer (slot p (q))) := Reads.field_slot (off := 0) Try.underlying25 rfl z3 rfl hx hp
theorem fa25_1 {dst : Option Tmp} {ty : TypeId} {pos : String} {after : Array Edge} {guard : Option (Nat × Bool)} {E : Env} {I : Im} {L : Own} {x : Operand} {b o : Nat} (hx : ev E x = some (.pointer (some ⟨b, o, none⟩))) : Reads Try.prog ⟨dst, .fieldAddr 25 x 1, ty, pos, after, guard⟩ E I L (.pointer (some ⟨b, o + 1, none⟩)) := Reads.field_at (off := 1) Try.underlying25 rfl z22 rfl hx
theorem fs25_1 {dst : Option Tmp} {ty : TypeId} {pos : String} {after : Array Edge} {guard : Option (Nat × Bool)} {E : Env} {I : Im} {L : Own} {x : Operand} {p : Option Addr} {q : Nat} (hx : ev E x = some (.pointer (slot p q))) (hp : ∃ b o, p = some ⟨b, o, none⟩) : Reads Try.prog ⟨dst, .fieldAddr 25 x 1, ty, pos, after, guard⟩ E I L (.pointer (slot p (q + 1))) := Reads.field_slot (off := 1) Try.underlying25 rfl z22 rfl hx hp
theorem fa25_2 {dst : Option Tmp} {ty : TypeId} {pos : String} {after : Array Edge} {guard : Option (Nat × Bool)} {E : Env} {I : Im} {L : Own} {x : Operand} {b o : Nat} (hx : ev E x = some (.pointer (some ⟨b, o, none⟩))) : Reads Try.prog ⟨dst, .fieldAddr 25 x 2, ty, pos, after, guard⟩ E I L (.pointer (some ⟨b, o + 2, none⟩)) := Reads.field_at (off := 2) Try.underlying25 rfl z23 rfl hx
theorem fs25_2 {dst : Option Tmp} {ty : TypeId} {pos : String} {after : Array Edge} {guard : Option (Nat × Bool)} {E : Env} {I : Im} {L : Own} {x : Operand} {p : Option Addr} {q : Nat} (hx : ev E x = some (.pointer (slot p q))) (hp : ∃ b o, p = some ⟨b, o, none⟩) : Reads Try.prog ⟨dst, .fieldAddr 25 x 2, ty, pos, after, guard⟩ E I L (.pointer (slot p (q + 2))) := Reads.field_slot (off := 2) Try.underlying25 rfl z23 rfl hx hp
theorem fa25_3 {dst : Option Tmp} {ty : TypeId} {pos : String} {after : Array Edge} {guard : Option (Nat × Bool)} {E : Env} {I : Im} {L : Own} {x : Operand} {b o : Nat} (hx : ev E x = some (.pointer (some ⟨b, o, none⟩))) : Reads Try.prog ⟨dst, .fieldAddr 25 x 3, ty, pos, after, guard⟩ E I L (.pointer (some ⟨b, o + 3, none⟩)) := Reads.field_at (off := 3) Try.underlying25 rfl z3 rfl hx
theorem fs25_3 {dst : Option Tmp} {ty : TypeId} {pos : String} {after : Array Edge} {guard : Option (Nat × Bool)} {E : Env} {I : Im} {L : Own} {x : Operand} {p : Option Addr} {q : Nat} (hx : ev E x = some (.pointer (slot p q))) (hp : ∃ b o, p = some ⟨b, o, none⟩) : Reads Try.prog ⟨dst, .fieldAddr 25 x 3, ty, pos, after, guard⟩ E I L (.pointer (slot p (q + 3))) := Reads.field_slot (off := 3) Try.underlying25 rfl z3 rfl hx hp
theorem fa28_0 {dst : Option Tmp} {ty : TypeId} {pos : String} {after : Array Edge} {guard : Option (Nat × Bool)} {E : Env} {I : Im} {L : Own} {x : Operand} {b o : Nat} (hx : ev E x = some (.pointer (some ⟨b, o, none⟩))) : Reads Try.prog ⟨dst, .fieldAddr 28 x 0, ty, pos, after, guard⟩ E I L (.pointer (some ⟨b, o, none⟩)) := Reads.field_at (off := 0) Try.underlying28 rfl z3 rfl hx
theorem fs28_0 {dst : Option Tmp} {ty : TypeId} {pos : String} {after : Array Edge} {guard : Option (Nat × Bool)} {E : Env} {I : Im} {L : Own} {x : Operand} {p : Option Addr} {q : Nat} (hx : ev E x = some (.pointer (slot p q))) (hp : ∃ b o, p = some ⟨b, o, none⟩) : Reads Try.prog ⟨dst, .fieldAddr 28 x 0, ty, pos, after, guard⟩ E I L (.pointer (slot p (q))) := Reads.field_slot (off := 0) Try.underlying28 rfl z3 rfl hx hp
theorem fa28_1 {dst : Option Tmp} {ty : TypeId} {pos : String} {after : Array Edge} {guard : Option (Nat × Bool)} {E : Env} {I : Im} {L : Own} {x : Operand} {b o : Nat} (hx : ev E x = some (.pointer (some ⟨b, o, none⟩))) : Reads Try.prog ⟨dst, .fieldAddr 28 x 1, ty, pos, after, guard⟩ E I L (.pointer (some ⟨b, o + 1, none⟩)) := Reads.field_at (off := 1) Try.underlying28 rfl z26 rfl hx
theorem fs28_1 {dst : Option Tmp} {ty : TypeId} {pos : String} {after : Array Edge} {guard : Option (Nat × Bool)} {E : Env} {I : Im} {L : Own} {x : Operand} {p : Option Addr} {q : Nat} (hx : ev E x = some (.pointer (slot p q))) (hp : ∃ b o, p = some ⟨b, o, none⟩) : Reads Try.prog ⟨dst, .fieldAddr 28 x 1, ty, pos, after, guard⟩ E I L (.pointer (slot p (q + 1))) := Reads.field_slot (off := 1) Try.underlying28 rfl z26 rfl hx hp
theorem fa30_0 {dst : Option Tmp} {ty : TypeId} {pos : String} {after : Array Edge} {guard : Option (Nat × Bool)} {E : Env} {I : Im} {L : Own} {x : Operand} {b o : Nat} (hx : ev E x = some (.pointer (some ⟨b, o, none⟩))) : Reads Try.prog ⟨dst, .fieldAddr 30 x 0, ty, pos, after, guard⟩ E I L (.pointer (some ⟨b, o, none⟩)) := Reads.field_at (off := 0) Try.underlying30 rfl z3 rfl hx
theorem fs30_0 {dst : Option Tmp} {ty : TypeId} {pos : String} {after : Array Edge} {guard : Option (Nat × Bool)} {E : Env} {I : Im} {L : Own} {x : Operand} {p : Option Addr} {q : Nat} (hx : ev E x = some (.pointer (slot p q))) (hp : ∃ b o, p = some ⟨b, o, none⟩) : Reads Try.prog ⟨dst, .fieldAddr 30 x 0, ty, pos, after, guard⟩ E I L (.pointer (slot p (q))) := Reads.field_slot (off := 0) Try.underlying30 rfl z3 rfl hx hp
theorem fa30_1 {dst : Option Tmp} {ty : TypeId} {pos : String} {after : Array Edge} {guard : Option (Nat × Bool)} {E : Env} {I : Im} {L : Own} {x : Operand} {b o : Nat} (hx : ev E x = some (.pointer (some ⟨b, o, none⟩))) : Reads Try.prog ⟨dst, .fieldAddr 30 x 1, ty, pos, after, guard⟩ E I L (.pointer (some ⟨b, o + 1, none⟩)) := Reads.field_at (off := 1) Try.underlying30 rfl z3 rfl hx
theorem fs30_1 {dst : Option Tmp} {ty : TypeId} {pos : String} {after : Array Edge} {guard : Option (Nat × Bool)} {E : Env} {I : Im} {L : Own} {x : Operand} {p : Option Addr} {q : Nat} (hx : ev E x = some (.pointer (slot p q))) (hp : ∃ b o, p = some ⟨b, o, none⟩) : Reads Try.prog ⟨dst, .fieldAddr 30 x 1, ty, pos, after, guard⟩ E I L (.pointer (slot p (q + 1))) := Reads.field_slot (off := 1) Try.underlying30 rfl z3 rfl hx hp
theorem fa30_2 {dst : Option Tmp} {ty : TypeId} {pos : String} {after : Array Edge} {guard : Option (Nat × Bool)} {E : Env} {I : Im} {L : Own} {x : Operand} {b o : Nat} (hx : ev E x = some (.pointer (some ⟨b, o, none⟩))) : Reads Try.prog ⟨dst, .fieldAddr 30 x 2, ty, pos, after, guard⟩ E I L (.pointer (some ⟨b, o + 2, none⟩)) := Reads.field_at (off := 2) Try.underlying30 rfl z3 rfl hx
theorem fs30_2 {dst : Option Tmp} {ty : TypeId} {pos : String} {after : Array Edge} {guard : Option (Nat × Bool)} {E : Env} {I : Im} {L : Own} {x : Operand} {p : Option Addr} {q : Nat} (hx : ev E x = some (.pointer (slot p q))) (hp : ∃ b o, p = some ⟨b, o, none⟩) : Reads Try.prog ⟨dst, .fieldAddr 30 x 2, ty, pos, after, guard⟩ E I L (.pointer (slot p (q + 2))) := Reads.field_slot (off := 2) Try.underlying30 rfl z3 rfl hx hp
theorem bd28 {dst : Option Tmp} {ty : TypeId} {pos : String} {after : Array Edge} {guard : Option (Nat × Bool)} {E : Env} {I : Im} {L : Own} {pa : List (Nat × Operand)} {vs : List (Nat × Value)} (cells : Array Value) (hp : partsEv E pa vs) (hf : Instr.fill (fun i => #[(0, 1), (1, 1)][i]?) (Value.cells (.agg #[.int .i64 0, .slice none 0 0])) vs = some cells) : Reads Try.prog ⟨dst, .build 28 pa.toArray, ty, pos, after, guard⟩ E I L (.agg cells) := Reads.build (ps := [(0, 1), (1, 1)]) cells zo28 Try.underlying28 (by simp [placesOf, z3, z26]) hp hf
theorem bd30 {dst : Option Tmp} {ty : TypeId} {pos : String} {after : Array Edge} {guard : Option (Nat × Bool)} {E : Env} {I : Im} {L : Own} {pa : List (Nat × Operand)} {vs : List (Nat × Value)} (cells : Array Value) (hp : partsEv E pa vs) (hf : Instr.fill (fun i => #[(0, 1), (1, 1), (2, 1)][i]?) (Value.cells (.agg #[.int .i64 0, .int .i64 0, .int .i64 0])) vs = some cells) : Reads Try.prog ⟨dst, .build 30 pa.toArray, ty, pos, after, guard⟩ E I L (.agg cells) := Reads.build (ps := [(0, 1), (1, 1), (2, 1)]) cells zo30 Try.underlying30 (by simp [placesOf, z3]) hp hf
theorem en3 : Enters Try.prog 3 := enters_of (by kernel_rfl)
theorem en4 : Enters Try.prog 4 := enters_of (by kernel_rfl)
theorem en5 : Enters Try.prog 5 := enters_of (by kernel_rfl)
theorem en6 : Enters Try.prog 6 := enters_of (by kernel_rfl)
theorem en7 : Enters Try.prog 7 := enters_of (by kernel_rfl)
theorem en8 : Enters Try.prog 8 := enters_of (by kernel_rfl)
theorem en9 : Enters Try.prog 9 := enters_of (by kernel_rfl)
theorem en10 : Enters Try.prog 10 := enters_of (by kernel_rfl)
theorem en11 : Enters Try.prog 11 := enters_of (by kernel_rfl)
theorem en12 : Enters Try.prog 12 := enters_of (by kernel_rfl)
theorem en13 : Enters Try.prog 13 := enters_of (by kernel_rfl)
theorem en14 : Enters Try.prog 14 := enters_of (by kernel_rfl)
theorem en15 : Enters Try.prog 15 := enters_of (by kernel_rfl)
theorem en16 : Enters Try.prog 16 := enters_of (by kernel_rfl)
theorem en17 : Enters Try.prog 17 := enters_of (by kernel_rfl)
theorem en18 : Enters Try.prog 18 := enters_of (by kernel_rfl)
theorem en19 : Enters Try.prog 19 := enters_of (by kernel_rfl)
theorem en20 : Enters Try.prog 20 := enters_of (by kernel_rfl)
theorem en21 : Enters Try.prog 21 := enters_of (by kernel_rfl)
theorem en22 : Enters Try.prog 22 := enters_of (by kernel_rfl)
theorem en23 : Enters Try.prog 23 := enters_of (by kernel_rfl)
theorem en24 : Enters Try.prog 24 := enters_of (by kernel_rfl)
theorem en25 : Enters Try.prog 25 := enters_of (by kernel_rfl)
theorem en26 : Enters Try.prog 26 := enters_of (by kernel_rfl)
theorem en27 : Enters Try.prog 27 := enters_of (by kernel_rfl)
theorem en28 : Enters Try.prog 28 := enters_of (by kernel_rfl)
theorem en29 : Enters Try.prog 29 := enters_of (by kernel_rfl)
theorem en30 : Enters Try.prog 30 := enters_of (by kernel_rfl)
theorem en31 : Enters Try.prog 31 := enters_of (by kernel_rfl)
theorem en32 : Enters Try.prog 32 := enters_of (by kernel_rfl)
theorem en33 : Enters Try.prog 33 := enters_of (by kernel_rfl)
theorem en34 : Enters Try.prog 34 := enters_of (by kernel_rfl)
theorem en35 : Enters Try.prog 35 := enters_of (by kernel_rfl)
theorem en36 : Enters Try.prog 36 := enters_of (by kernel_rfl)
theorem en37 : Enters Try.prog 37 := enters_of (by kernel_rfl)
theorem en38 : Enters Try.prog 38 := enters_of (by kernel_rfl)
theorem en39 : Enters Try.prog 39 := enters_of (by kernel_rfl)
theorem en40 : Enters Try.prog 40 := enters_of (by kernel_rfl)
theorem en41 : Enters Try.prog 41 := enters_of (by kernel_rfl)
theorem en42 : Enters Try.prog 42 := enters_of (by kernel_rfl)
theorem en43 : Enters Try.prog 43 := enters_of (by kernel_rfl)
theorem en44 : Enters Try.prog 44 := enters_of (by kernel_rfl)
theorem en45 : Enters Try.prog 45 := enters_of (by kernel_rfl)
theorem en46 : Enters Try.prog 46 := enters_of (by kernel_rfl)
theorem en47 : Enters Try.prog 47 := enters_of (by kernel_rfl)
theorem en48 : Enters Try.prog 48 := enters_of (by kernel_rfl)
theorem en49 : Enters Try.prog 49 := enters_of (by kernel_rfl)
theorem en50 : Enters Try.prog 50 := enters_of (by kernel_rfl)
theorem en51 : Enters Try.prog 51 := enters_of (by kernel_rfl)
theorem en52 : Enters Try.prog 52 := enters_of (by kernel_rfl)
theorem en53 : Enters Try.prog 53 := enters_of (by kernel_rfl)
theorem en54 : Enters Try.prog 54 := enters_of (by kernel_rfl)
theorem en55 : Enters Try.prog 55 := enters_of (by kernel_rfl)
theorem en56 : Enters Try.prog 56 := enters_of (by kernel_rfl)
theorem en57 : Enters Try.prog 57 := enters_of (by kernel_rfl)
theorem en58 : Enters Try.prog 58 := enters_of (by kernel_rfl)
theorem en59 : Enters Try.prog 59 := enters_of (by kernel_rfl)
theorem en60 : Enters Try.prog 60 := enters_of (by kernel_rfl)
theorem en61 : Enters Try.prog 61 := enters_of (by kernel_rfl)
theorem en62 : Enters Try.prog 62 := enters_of (by kernel_rfl)
theorem en63 : Enters Try.prog 63 := enters_of (by kernel_rfl)
theorem en64 : Enters Try.prog 64 := enters_of (by kernel_rfl)
theorem en65 : Enters Try.prog 65 := enters_of (by kernel_rfl)

end Go.Proofs.Ytlgfpieokaegiaa
