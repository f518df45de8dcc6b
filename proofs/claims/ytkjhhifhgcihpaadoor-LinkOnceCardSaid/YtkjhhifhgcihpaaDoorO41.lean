/- The laws' outer frame, layer 41: the table that is laid; arguments. -/
import Derived.Test.YtkjhhifhgcihpaaDoorRows
import Derived.Test.YtkjhhifhgcihpaaDoorD6
import Derived.Test.YtkjhhifhgcihpaaDoorXo
import Derived.KernelRfl
import Derived.LaidMore
import Derived.Lib.LaidTab
import Derived.Stop.Joined
namespace Go.Proofs.YtkjhhifhgcihpaaDoor
open Go Go.Lk Go.Xe Go.Sh Go.ChangeShapes Go.WideShapes Go.ChangeAt Go.RowKit Go.Joins
theorem ownA : ownKnob Tryd.prog.godebug = none := by kernel_rfl
theorem laidA : laidOutB Tryd.prog = true := by kernel_rfl
theorem gR : Tryd.prog.globalNamed "dialtone/digest.round" = some 0 := by kernel_rfl
theorem tR : (Tryd.prog.globals[0]?).map (·.type) = some 121 := by kernel_rfl
theorem cR : Tryd.prog.cellsOf 121 = 64 := by kernel_rfl
theorem cU : Tryd.prog.cellsOf 83 = 1 := by kernel_rfl
abbrev laidR : List (String × DataW Unit) := [("dialtone/digest.round", Rows.laid_dialtone_digest_round)]
theorem dataR : (Rows.laid_dialtone_digest_round : DataW Unit) = Lib.tabData .u32 (KR.map Int.ofNat) := rfl
set_option maxRecDepth 100000 in
theorem door_met (os : Os) (args : Array Value) : laidMetH Tryd.prog laidR ((World.doorLaid Tryd.prog 14 os).forCall (fun _ _ => 0) ⟨#[], args, []⟩).memory :=
  laidMetH_of_parts3 (fuel := 8) (laidMet_of_run' 8 (by kernel_rfl) (by kernel_rfl)) (by kernel_rfl) (by kernel_rfl)
theorem glob_of_laid {W : World} (h : laidMetH Tryd.prog laidR W) : Glob (heapIm W) := by
  rw [MakeChecks.laidMetH_plain _ _ _ (by kernel_rfl)] at h
  unfold laidR at h
  rw [dataR] at h
  have hT := Lib.tabIs_of_head gR tR Tryd.underlying121 Tryd.underlying83 cU cR h
  unfold Lib.TabIs World.var? at hT
  rw [gR] at hT
  simp only [Option.bind_some] at hT
  cases hb : W.heap[0]? with
  | none => rw [hb] at hT; cases hT
  | some o =>
    rw [hb] at hT
    cases o with
    | cells c e fr =>
      simp only [Option.some.injEq] at hT
      subst hT
      exact ⟨e, fr, by show W.heap[0]? = _; rw [hb]; simp [wC]⟩
    | _ => cases hT
theorem rd9 (W : World) : Rd Tryd.prog W 9 (α := ByteArray) (fun s => s.size ≤ 9223372036854775807) := fun H enc base spare held fuel cs x h => by
  obtain ⟨s, rfl, _, hz⟩ := DataW.trod_string Tryd.underlying9 h
  have h9 : maxLen = 9223372036854775807 := by decide
  exact ⟨s, rfl, Nat.le_trans hz (Nat.le_of_eq h9)⟩
theorem rd39 (W : World) : Rd Tryd.prog W 39 (α := Q4) Q4.In := fun H enc base spare held fuel cs x h => by
  obtain ⟨xs, m, rfl, rfl, hl, hn, hx⟩ := DataW.trod_array Tryd.underlying39 h
  have hc : Tryd.prog.cellsOf 39 = 4 := by kernel_rfl
  have hc3 : Tryd.prog.cellsOf 3 = 1 := by kernel_rfl
  rw [hc] at hl
  rw [hc3] at hx
  have hl4 : cs.length = 4 := by rw [hl]
  obtain ⟨c0, c1, c2, c3, rfl⟩ : ∃ c0 c1 c2 c3, cs = [c0, c1, c2, c3] := by
    clear hx h hl
    match cs, hl4 with
    | [a, b, c, d], _ => exact ⟨a, b, c, d, rfl⟩
  have hg : ∀ (i : Nat) (c : Value), i < 4 → [c0, c1, c2, c3][i]? = some c → ∃ n, c = .int .i64 n ∧ In64' n := by
    intro i c hi hc4
    have g := hx i hi
    rw [List.getElem?_eq_getElem (by omega : i < xs.length)] at g
    have e : List.take 1 (List.drop (i * 1) [c0, c1, c2, c3]) = [c] := by
      rw [Nat.mul_one, List.drop_eq_getElem_cons (by simpa using hi)]
      obtain ⟨_, hc5⟩ := List.getElem?_eq_some_iff.1 hc4
      simp [hc5]
    rw [e] at g
    exact Rd.cell_int (W := W) Tryd.underlying3 g
  obtain ⟨n0, rfl, h0⟩ := hg 0 c0 (by decide) rfl
  obtain ⟨n1, rfl, h1⟩ := hg 1 c1 (by decide) rfl
  obtain ⟨n2, rfl, h2⟩ := hg 2 c2 (by decide) rfl
  obtain ⟨n3, rfl, h3⟩ := hg 3 c3 (by decide) rfl
  exact ⟨⟨n0, n1, n2, n3⟩, rfl, h0, h1, h2, h3⟩
theorem rd22 (W : World) : Rd Tryd.prog W 22 (α := List Q4) (fun ys => (∀ y ∈ ys, y.In) ∧ ys.length ≤ 9223372036854775807) := Rd.slice Tryd.underlying22 (by kernel_rfl) (by decide) (rd39 W)
theorem rd52 (W : World) : Rd Tryd.prog W 52 (α := List Int) (fun ys => (∀ y ∈ ys, In64' y) ∧ ys.length ≤ 9223372036854775807) := Rd.slice Tryd.underlying52 (by kernel_rfl) (by decide) (Rd.int Tryd.underlying3)

theorem cells24 : Tryd.prog.cellsOf 24 = 4 := by kernel_rfl
section
variable {W : World} {base : Nat} {H : Type} {enc : TypeId × Value → H} {sp : Nat → Bool} {b0 : Nat} {held : Bool} {r : Reach} {v : Value} {d : DataW H} {p : List MemPlace}
set_option maxRecDepth 20000 in
theorem open24 (hv : Value.okWide Tryd.prog W r base 24 v) (h : DataW.Trod enc Tryd.prog W b0 sp held 24 v d p) : ∃ x : Pkt, v = x.val ∧ In64' x.ser ∧ In64' x.ack := by
  obtain ⟨c0, c1, c2, c3, y0, y1, y2, y3, m, rfl, _, _, g0, g1, g2, g3⟩ := open_agg4 Tryd.underlying24 (by kernel_rfl) cells24 hv h
  obtain ⟨n, rfl, w0⟩ := Rd.cell_int (W := W) Tryd.underlying3 g0
  obtain ⟨k, rfl, w1⟩ := Rd.cell_int (W := W) Tryd.underlying3 g1
  obtain ⟨s, e2, _⟩ := rd9 W _ _ _ _ _ _ _ _ g2
  obtain ⟨t, e3, _⟩ := rd9 W _ _ _ _ _ _ _ _ g3
  obtain rfl : c2 = .string s := by have e : [c2] = [Value.string s] := e2; simpa using e
  obtain rfl : c3 = .string t := by have e : [c3] = [Value.string t] := e3; simpa using e
  exact ⟨⟨n, k, s, t⟩, rfl, w0, w1⟩
set_option maxRecDepth 20000 in
theorem open9 (hv : Value.okWide Tryd.prog W r base 9 v) (h : DataW.Trod enc Tryd.prog W b0 sp held 9 v d p) : ∃ s : ByteArray, v = .string s := by
  obtain ⟨s, h1, _⟩ := Go.ChangeMaps.open_string Tryd.underlying9 hv h
  exact ⟨s, h1⟩
set_option maxRecDepth 20000 in
theorem open22 (hv : Value.okWide Tryd.prog W r base 22 v) (h : DataW.Trod enc Tryd.prog W b0 sp held 22 v d p) :
    ∃ (a : Option Addr) (c : Nat) (y : List Q4), v = .slice a y.length c ∧ y.length ≤ c ∧ Arr (heapIm W) a y ∧ (∀ x ∈ y, x.In) ∧ y.length ≤ 9223372036854775807 := by
  obtain ⟨a, l, c, rfl⟩ := okWide_slice Tryd.underlying22 hv
  obtain ⟨f, hf⟩ := h
  obtain ⟨a', c', y, he, hle, hA, ok⟩ := Rd.cell_slice (rd22 W) (c := .slice a l c) (by simpa [Value.cells] using hf)
  exact ⟨a', c', y, he, hle, hA, ok.1, ok.2⟩
set_option maxRecDepth 20000 in
theorem open52 (hv : Value.okWide Tryd.prog W r base 52 v) (h : DataW.Trod enc Tryd.prog W b0 sp held 52 v d p) :
    ∃ (a : Option Addr) (c : Nat) (y : List Int), v = .slice a y.length c ∧ y.length ≤ c ∧ Arr (heapIm W) a y ∧ (∀ x ∈ y, In64' x) ∧ y.length ≤ 9223372036854775807 := by
  obtain ⟨a, l, c, rfl⟩ := okWide_slice Tryd.underlying52 hv
  obtain ⟨f, hf⟩ := h
  obtain ⟨a', c', y, he, hle, hA, ok⟩ := Rd.cell_slice (rd52 W) (c := .slice a l c) (by simpa [Value.cells] using hf)
  exact ⟨a', c', y, he, hle, hA, ok.1, ok.2⟩
end
end Go.Proofs.YtkjhhifhgcihpaaDoor
