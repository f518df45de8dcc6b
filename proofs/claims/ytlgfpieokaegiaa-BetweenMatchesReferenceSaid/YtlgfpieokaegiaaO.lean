/- The arguments of the laws of layer 6. -/
import Derived.Test.YtlgfpieokaegiaaT
import Derived.Test.YtlgfpieokaegiaaXD
import Derived.Test.YtlgfpieokaegiaaXo
import Derived.KernelRfl
namespace Go.Proofs.Ytlgfpieokaegiaa
open Go.Xe Go.ChangeShapes Go.WideShapes Go.ChangeAt Go.RowKit Go.Joins

theorem ownA : ownKnob Try.prog.godebug = none := by kernel_rfl
theorem laidA : laidOutB Try.prog = true := by kernel_rfl
theorem cells25 : Try.prog.cellsOf 25 = 4 := by kernel_rfl
theorem cells28 : Try.prog.cellsOf 28 = 2 := by kernel_rfl
theorem cells30 : Try.prog.cellsOf 30 = 3 := by kernel_rfl
theorem rd22 (W : World) : Rd Try.prog W 22 (α := List Int) (fun ys => (∀ y ∈ ys, In64' y) ∧ ys.length ≤ 9223372036854775807) := Rd.slice Try.underlying22 (by kernel_rfl) (by decide) (Rd.int Try.underlying3)
theorem rd57 (W : World) : Rd Try.prog W 57 (α := Int × Int × Int) (fun y => In64' y.1 ∧ In64' y.2.1 ∧ In64' y.2.2) := fun H enc base spare held fuel cs x h => by
  obtain ⟨xs, m, rfl, rfl, hl, hn, hx⟩ := DataW.trod_array Try.underlying57 h
  have hc : Try.prog.cellsOf 57 = 3 := by kernel_rfl
  have hc3 : Try.prog.cellsOf 3 = 1 := by kernel_rfl
  rw [hc] at hl
  rw [hc3] at hx
  match cs, hl with
  | [c0, c1, c2], _ =>
    match xs, hn with
    | [y0, y1, y2], _ =>
      have g0 := hx 0 (by decide); have g1 := hx 1 (by decide); have g2 := hx 2 (by decide)
      simp at g0 g1 g2
      obtain ⟨a0, rfl, b0⟩ := Rd.cell_int (W := W) Try.underlying3 g0
      obtain ⟨a1, rfl, b1⟩ := Rd.cell_int (W := W) Try.underlying3 g1
      obtain ⟨a2, rfl, b2⟩ := Rd.cell_int (W := W) Try.underlying3 g2
      exact ⟨(a0, a1, a2), rfl, b0, b1, b2⟩
theorem rd23 (W : World) : Rd Try.prog W 23 (α := List (Int × Int × Int)) (fun ys => (∀ y ∈ ys, In64' y.1 ∧ In64' y.2.1 ∧ In64' y.2.2) ∧ ys.length ≤ 9223372036854775807) := Rd.slice Try.underlying23 (by kernel_rfl) (by decide) (rd57 W)
/-- numbers, by value -/
theorem open25 {W : World} {base : Nat} {H : Type} {enc : TypeId × Value → H} {sp : Nat → Bool} {b0 : Nat} {held : Bool} {r : Reach} {v : Value} {d : DataW H} {p : List MemPlace} (hv : Value.okWide Try.prog W r base 25 v) (h : DataW.Trod enc Try.prog W b0 sp held 25 v d p) :
    ∃ (x : Nums) (ah ab : Option Addr) (ch cb : Nat), v = .agg #[.int .i64 x.n, .slice ah x.hidden.length ch, .slice ab x.bnds.length cb, .int .i64 x.miss] ∧ x.Ok ∧ Arr (heapIm W) ah x.hidden ∧ Arr (heapIm W) ab x.bnds := by
  obtain ⟨c0, c1, c2, c3, y0, y1, y2, y3, m, rfl, _, _, g0, g1, g2, g3⟩ := open_agg4 Try.underlying25 (by kernel_rfl) cells25 hv h
  obtain ⟨n, rfl, w0⟩ := Rd.cell_int (W := W) Try.underlying3 g0
  obtain ⟨ah, ch, xh, rfl, _, hH, oh⟩ := Rd.cell_slice (rd22 W) g1
  obtain ⟨ab, cb, xb, rfl, _, hB, ob⟩ := Rd.cell_slice (rd23 W) g2
  obtain ⟨ms, rfl, w3⟩ := Rd.cell_int (W := W) Try.underlying3 g3
  exact ⟨⟨n, xh, xb, ms⟩, ah, ab, ch, cb, rfl, ⟨w0, oh.1, ob.1, w3⟩, hH, hB⟩
/-- a list of integers -/
theorem open22 {W : World} {base : Nat} {H : Type} {enc : TypeId × Value → H} {sp : Nat → Bool} {b0 : Nat} {held : Bool} {r : Reach} {v : Value} {d : DataW H} {p : List MemPlace} (hv : Value.okWide Try.prog W r base 22 v) (h : DataW.Trod enc Try.prog W b0 sp held 22 v d p) :
    ∃ (a : Option Addr) (c : Nat) (y : List Int), v = .slice a y.length c ∧ y.length ≤ c ∧ Arr (heapIm W) a y ∧ (∀ x ∈ y, Xe.In64 x) ∧ y.length ≤ 9223372036854775807 := by
  obtain ⟨a, l, c, rfl⟩ := okWide_slice Try.underlying22 hv
  obtain ⟨f, hf⟩ := h
  obtain ⟨a', c', y, he, hle, hA, ok⟩ := Rd.cell_slice (rd22 W) (c := .slice a l c) (by simpa [Value.cells] using hf)
  exact ⟨a', c', y, he, hle, hA, ok.1, ok.2⟩
/-- three integers -/
theorem open57 {W : World} {base : Nat} {H : Type} {enc : TypeId × Value → H} {sp : Nat → Bool} {b0 : Nat} {held : Bool} {r : Reach} {v : Value} {d : DataW H} {p : List MemPlace} (hv : Value.okWide Try.prog W r base 57 v) (h : DataW.Trod enc Try.prog W b0 sp held 57 v d p) :
    ∃ (a b c : Int), v = .agg #[.int .i64 a, .int .i64 b, .int .i64 c] ∧ Xe.In64 a ∧ Xe.In64 b ∧ Xe.In64 c := by
  simp only [Value.okWide, Try.underlying57] at hv
  obtain ⟨cs, rfl, _⟩ := hv
  obtain ⟨f, hf⟩ := h
  obtain ⟨y, he, ok⟩ := rd57 W _ _ _ _ _ _ _ _ hf
  refine ⟨y.1, y.2.1, y.2.2, ?_, ok⟩
  have h1 : (Value.agg cs).cells.toList = [.int .i64 y.1, .int .i64 y.2.1, .int .i64 y.2.2] := he
  simp only [Value.cells] at h1
  rw [← Array.toArray_toList (xs := cs), h1]

end Go.Proofs.Ytlgfpieokaegiaa
