/- strings.Join, without a separator. -/
import Derived.Test.YtkjhhifhgcihpaaDoorT
import Derived.Test.YtkjhhifhgcihpaaDoorXw
import Derived.KernelRfl
import Derived.Shelf.Strings.OnBuilder
namespace Go.Proofs.YtkjhhifhgcihpaaDoor
open Go.Xe Go Go.Proofs Go.RowKit

def ren : Go.Shelf.Ren := ⟨fun x => bif Nat.beq x 156 then 72 else bif Nat.beq x 165 then 77 else bif Nat.beq x 166 then 78 else bif Nat.beq x 169 then 79 else bif Nat.beq x 240 then 83 else bif Nat.beq x 241 then 84 else bif Nat.beq x 276 then 86 else bif Nat.beq x 277 then 87 else 0, fun x => bif Nat.beq x 0 then 0 else bif Nat.beq x 1 then 1 else bif Nat.beq x 3 then 3 else bif Nat.beq x 4 then 4 else bif Nat.beq x 5 then 5 else bif Nat.beq x 9 then 9 else bif Nat.beq x 20 then 20 else bif Nat.beq x 31 then 44 else bif Nat.beq x 37 then 70 else bif Nat.beq x 67 then 102 else bif Nat.beq x 69 then 65 else bif Nat.beq x 70 then 111 else bif Nat.beq x 71 then 112 else bif Nat.beq x 72 then 113 else bif Nat.beq x 73 then 114 else bif Nat.beq x 74 then 115 else bif Nat.beq x 75 then 116 else bif Nat.beq x 76 then 117 else bif Nat.beq x 77 then 118 else bif Nat.beq x 80 then 110 else bif Nat.beq x 127 then 125 else bif Nat.beq x 164 then 126 else bif Nat.beq x 165 then 127 else bif Nat.beq x 166 then 128 else 0, fun x => x⟩
theorem join_lays : Lays.n156 Tryd.prog ren := { mixed := by kernel_rfl, f156 := by kernel_rfl, f165 := by kernel_rfl, f166 := by kernel_rfl, f169 := by kernel_rfl, f240 := by kernel_rfl, f241 := by kernel_rfl, f276 := by kernel_rfl, f277 := by kernel_rfl, t0 := by kernel_rfl, a0 := fun w => Go.Xe.run_isAgg (by kernel_rfl), z0 := fun w => Go.Xe.run_sizeOf (by kernel_rfl), v0 := fun w => Go.Xe.run_zeroValue (by kernel_rfl), t3 := by kernel_rfl, a3 := fun w => Go.Xe.run_isAgg (by kernel_rfl), z3 := fun w => Go.Xe.run_sizeOf (by kernel_rfl), v3 := fun w => Go.Xe.run_zeroValue (by kernel_rfl), t4 := by kernel_rfl, a4 := fun w => Go.Xe.run_isAgg (by kernel_rfl), z4 := fun w => Go.Xe.run_sizeOf (by kernel_rfl), v4 := fun w => Go.Xe.run_zeroValue (by kernel_rfl), t9 := by kernel_rfl, a9 := fun w => Go.Xe.run_isAgg (by kernel_rfl), z9 := fun w => Go.Xe.run_sizeOf (by kernel_rfl), v9 := fun w => Go.Xe.run_zeroValue (by kernel_rfl), t20 := by kernel_rfl, a20 := fun w => Go.Xe.run_isAgg (by kernel_rfl), z20 := fun w => Go.Xe.run_sizeOf (by kernel_rfl), v20 := fun w => Go.Xe.run_zeroValue (by kernel_rfl), t31 := by kernel_rfl, a31 := fun w => Go.Xe.run_isAgg (by kernel_rfl), z31 := fun w => Go.Xe.run_sizeOf (by kernel_rfl), v31 := fun w => Go.Xe.run_zeroValue (by kernel_rfl), t37 := by kernel_rfl, a37 := fun w => Go.Xe.run_isAgg (by kernel_rfl), z37 := fun w => Go.Xe.run_sizeOf (by kernel_rfl), v37 := fun w => Go.Xe.run_zeroValue (by kernel_rfl), t70 := by kernel_rfl, a70 := fun w => Go.Xe.run_isAgg (by kernel_rfl), z70 := fun w => Go.Xe.run_sizeOf (by kernel_rfl), v70 := fun w => Go.Xe.run_zeroValue (by kernel_rfl), t72 := by kernel_rfl, a72 := fun w => Go.Xe.run_isAgg (by kernel_rfl), z72 := fun w => Go.Xe.run_sizeOf (by kernel_rfl), v72 := fun w => Go.Xe.run_zeroValue (by kernel_rfl), t75 := by kernel_rfl, a75 := fun w => Go.Xe.run_isAgg (by kernel_rfl), z75 := fun w => Go.Xe.run_sizeOf (by kernel_rfl), v75 := fun w => Go.Xe.run_zeroValue (by kernel_rfl), t76 := by kernel_rfl, a76 := fun w => Go.Xe.run_isAgg (by kernel_rfl), z76 := fun w => Go.Xe.run_sizeOf (by kernel_rfl), v76 := fun w => Go.Xe.run_zeroValue (by kernel_rfl), t127 := by kernel_rfl, a127 := fun w => Go.Xe.run_isAgg (by kernel_rfl), z127 := fun w => Go.Xe.run_sizeOf (by kernel_rfl), v127 := fun w => Go.Xe.run_zeroValue (by kernel_rfl), t164 := by kernel_rfl, a164 := fun w => Go.Xe.run_isAgg (by kernel_rfl), z164 := fun w => Go.Xe.run_sizeOf (by kernel_rfl), v164 := fun w => Go.Xe.run_zeroValue (by kernel_rfl) }
theorem join_extra : Builder.Extra Tryd.prog ren := ⟨⟨by kernel_rfl, by kernel_rfl⟩, by kernel_rfl, fun w => Go.Xe.run_isAgg (by kernel_rfl), fun w => Go.Xe.run_sizeOf (by kernel_rfl), fun w => Go.Xe.run_zeroValue (by kernel_rfl), by kernel_rfl, by kernel_rfl, by kernel_rfl, (by decide)⟩
/-- strings, one behind the other -/
def catS (xs : List ByteArray) : ByteArray := ⟨(xs.flatMap (·.data.toList)).toArray⟩
theorem join_empty : ∀ (l : List (List UInt8)), Lib.join l [] = l.flatten
  | [] => rfl
  | [x] => by simp [Lib.join, List.intercalate]
  | x :: y :: l => by
    have ih := join_empty (y :: l)
    simp only [Lib.join, List.intercalate, List.intersperse_cons_cons, List.flatten_cons, List.nil_append] at ih ⊢
    rw [ih]
theorem catS_one (s : ByteArray) : catS [s] = s := by apply ByteArray.ext; simp [catS]
theorem catS_two (a b : ByteArray) : catS [a, b] = a ++ b := by apply ByteArray.ext; simp [catS, ByteArray.data_append]
theorem catS_size (xs : List ByteArray) : (catS xs).size = (xs.flatMap (·.data.toList)).length := rfl
theorem bytes_assoc (a b c : ByteArray) : a ++ b ++ c = a ++ (b ++ c) := by apply ByteArray.ext; simp [ByteArray.data_append, Array.append_assoc]
theorem join_any (a : Option Addr) (cap : Nat) (xs : List ByteArray) (I : Im) (hA : Arr I a xs) (hcap : xs.length ≤ cap) (hN : xs.length ≤ 1000000) (hlen : (xs.flatMap (·.data.toList)).length ≤ 100000000000) :
    FC Tryd.prog 72 [.slice a xs.length cap, .string ⟨#[]⟩] I (fun u I' => u = .string (catS xs) ∧ I' = I) := by
  refine FC.of_below (fun K w L hS => ?_)
  have hj : Lib.join (xs.map (·.data.toList)) (⟨#[]⟩ : ByteArray).data.toList = xs.flatMap (·.data.toList) := by rw [show (⟨#[]⟩ : ByteArray).data.toList = [] from rfl, join_empty]; rfl
  rcases Nat.eq_zero_or_pos xs.length with h0 | h0
  · have := List.length_eq_zero_iff.1 h0
    subst this
    exact (Any.strings_Join_none join_lays join_extra a cap ⟨#[]⟩ w).mono fun e w' ⟨he, hw⟩ => ⟨by rw [he]; rfl, hw ▸ Below.refl _ _⟩
  · obtain ⟨b, o, rfl⟩ := hA.addr (by decide) h0
    have hcells : ∀ (j : Nat) x, xs[j]? = some x → w.cell? ⟨b, o + j, none⟩ = some (.string x) := fun j x hj => by
      obtain ⟨hl, rfl⟩ := List.getElem?_eq_some_iff.1 hj
      simpa using hS.cellAt (hA.str hl)
    have hb : b < w.heap.size := by
      have h1 := hcells 0 xs[0] (by simp [h0])
      unfold World.cell? at h1
      cases hh : w.heap[b]? with
      | none => simp [hh] at h1
      | some ob => exact lt_of_heap hh
    have := Any.strings_Join join_lays join_extra b o cap xs ⟨#[]⟩ w hcells hb (by omega) hcap (by rw [hj]; omega)
    rw [hj] at this
    exact this

end Go.Proofs.YtkjhhifhgcihpaaDoor
