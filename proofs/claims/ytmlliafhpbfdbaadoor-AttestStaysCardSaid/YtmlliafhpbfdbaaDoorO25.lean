/- The laws' outer frame, layer 25: the table that is laid; arguments. -/
import Derived.Test.YtmlliafhpbfdbaaDoorRows
import Derived.Test.YtmlliafhpbfdbaaDoorMB
import Derived.Test.YtmlliafhpbfdbaaDoorMK
import Derived.Test.YtmlliafhpbfdbaaDoorXo
import Derived.KernelRfl
import Derived.LaidMore
import Derived.Lib.LaidTab
import Derived.Stop.Joined
namespace Go.Proofs.YtmlliafhpbfdbaaDoor
open Go Go.At Go.Xe Go.Sh Go.ChangeShapes Go.WideShapes Go.ChangeAt Go.RowKit Go.Joins Go.Deep
theorem ownA : ownKnob Tryd.prog.godebug = none := by kernel_rfl
theorem laidA : laidOutB Tryd.prog = true := by kernel_rfl
theorem gR : Tryd.prog.globalNamed "dialtone/digest.round" = some 0 := by kernel_rfl
theorem tR : (Tryd.prog.globals[0]?).map (·.type) = some 159 := by kernel_rfl
theorem cR : Tryd.prog.cellsOf 159 = 64 := by kernel_rfl
theorem cU : Tryd.prog.cellsOf 120 = 1 := by kernel_rfl
abbrev laidR : List (String × DataW Unit) := [("dialtone/digest.round", Rows.laid_dialtone_digest_round)]
theorem dataR : (Rows.laid_dialtone_digest_round : DataW Unit) = Lib.tabData .u32 (KR.map Int.ofNat) := rfl
set_option maxRecDepth 100000 in
theorem door_met (os : Os) (args : Array Value) : laidMetH Tryd.prog laidR ((World.doorLaid Tryd.prog 14 os).forCall (fun _ _ => 0) ⟨#[], args, []⟩).memory :=
  laidMetH_of_parts3 (fuel := 8) (laidMet_of_run' 8 (by kernel_rfl) (by kernel_rfl)) (by kernel_rfl) (by kernel_rfl)
theorem glob_of_laid {W : World} (h : laidMetH Tryd.prog laidR W) : Glob (heapIm W) := by
  rw [MakeChecks.laidMetH_plain _ _ _ (by kernel_rfl)] at h
  unfold laidR at h
  rw [dataR] at h
  have hT := Lib.tabIs_of_head gR tR Tryd.underlying159 Tryd.underlying120 cU cR h
  unfold Lib.TabIs World.var? at hT
  rw [gR] at hT
  simp only [Option.bind_some] at hT
  cases hb : W.heap[0]? with
  | none => rw [hb] at hT; cases hT
  | some o =>
    rw [hb] at hT
    cases o with
    | cells c e fr =>
      simp only [Option.some.injEq] at hT
      subst hT
      exact ⟨e, fr, by show W.heap[0]? = _; rw [hb]; simp [wC]⟩
    | _ => cases hT
theorem c3 : Tryd.prog.cellsOf 3 = 1 := by kernel_rfl
theorem rd9 (W : World) : Rd Tryd.prog W 9 (α := ByteArray) (fun s => s.size ≤ 9223372036854775807) := fun H enc base spare held fuel cs x h => by
  obtain ⟨s, rfl, _, hz⟩ := DataW.trod_string Tryd.underlying9 h
  have h9 : maxLen = 9223372036854775807 := by decide
  exact ⟨s, rfl, Nat.le_trans hz (Nat.le_of_eq h9)⟩
section
variable {H : Type} {enc : TypeId × Value → H} {W : World} {base : Nat} {spare : Nat → Bool} {held : Bool} {fuel : Nat}
theorem ints_arr {t : TypeId} {n : Nat} (ht : Tryd.prog.underlying t = some (.array n 3)) (hc : Tryd.prog.cellsOf t = n) {cs : List Value} {x : DataW H × List MemPlace} (h : DataW.trod enc Tryd.prog W base spare held fuel t cs = some x) : ∃ ns : List Int, cs = intZ ns ∧ ns.length = n ∧ ∀ z ∈ ns, Go.At.In64 z := by
  obtain ⟨xs, m, rfl, rfl, hl, hn, hx⟩ := DataW.trod_array ht h
  rw [hc] at hl
  rw [c3] at hx
  have hg : ∀ (i : Nat) (hi : i < cs.length), ∃ k, cs[i] = .int .i64 k ∧ Go.At.In64 k := by
    intro i hi
    have g := hx i (by omega)
    rw [List.getElem?_eq_getElem (by omega : i < xs.length)] at g
    have e : List.take 1 (List.drop (i * 1) cs) = [cs[i]] := by
      rw [Nat.mul_one, List.drop_eq_getElem_cons hi]; rfl
    rw [e] at g
    obtain ⟨k, h1, h2⟩ := Rd.cell_int (W := W) Tryd.underlying3 g
    exact ⟨k, h1, h2⟩
  refine ⟨cs.map fun v => match v with | .int _ k => k | _ => 0, ?_, by simpa using hl, fun z hz => ?_⟩
  · refine List.ext_getElem (by simp [intZ]) fun i h1 h2 => ?_
    obtain ⟨k, e, _⟩ := hg i h1
    simp only [intZ, List.getElem_map]
    rw [e]
  · obtain ⟨v, hv, rfl⟩ := List.mem_map.1 hz
    obtain ⟨i, hi, rfl⟩ := List.mem_iff_getElem.1 hv
    obtain ⟨k, e, hk⟩ := hg i hi
    rw [e]; exact hk
end
theorem rd27 (W : World) : Rd Tryd.prog W 27 (α := Q3) Q3.In := fun H enc base spare held fuel cs x h => by
  obtain ⟨ns, rfl, hl, hi⟩ := ints_arr Tryd.underlying27 (by kernel_rfl) h
  match ns, hl with
  | [a, b, c], _ => exact ⟨⟨a, b, c⟩, rfl, hi a (by simp), hi b (by simp), hi c (by simp)⟩
theorem rd23 (W : World) : Rd Tryd.prog W 23 (α := List Int) (fun ys => (∀ y ∈ ys, In64' y) ∧ ys.length ≤ 9223372036854775807) := Rd.slice Tryd.underlying23 (by kernel_rfl) (by decide) (Rd.int Tryd.underlying3)
theorem rd29 (W : World) : Rd Tryd.prog W 29 (α := List ByteArray) (fun ys => (∀ y ∈ ys, y.size ≤ 9223372036854775807) ∧ ys.length ≤ 9223372036854775807) := Rd.slice Tryd.underlying29 (by kernel_rfl) (by decide) (rd9 W)
theorem rd75 (W : World) : Rd Tryd.prog W 75 (α := List Q3) (fun ys => (∀ y ∈ ys, y.In) ∧ ys.length ≤ 9223372036854775807) := Rd.slice Tryd.underlying75 (by kernel_rfl) (by decide) (rd27 W)
set_option maxRecDepth 20000 in
theorem rd53 (W : World) : Rd Tryd.prog W 53 (α := Hand) (fun h => h.s.size ≤ 9223372036854775807) := fun H enc base spare held fuel cs x h => by
  obtain ⟨y0, y1, y2, n, rfl, hl, g0, g1, g2⟩ := trod_struct3 Tryd.underlying53 h
  have hc : Tryd.prog.cellsOf 53 = 3 := by kernel_rfl
  have h9 : Tryd.prog.cellsOf 9 = 1 := by kernel_rfl
  rw [hc] at hl
  match cs, hl with
  | [c0, c1, c2], _ =>
    simp only [c3, h9, List.drop_zero, List.drop_succ_cons, List.take_succ_cons, List.take_zero] at g0 g1 g2
    obtain ⟨a, rfl, _⟩ := Rd.cell_int (W := W) Tryd.underlying3 g0
    obtain ⟨b, rfl, _⟩ := Rd.cell_int (W := W) Tryd.underlying3 g1
    obtain ⟨s, e2, hs⟩ := rd9 W _ _ _ _ _ _ _ _ g2
    obtain rfl : c2 = .string s := by have e : [c2] = [Value.string s] := e2; simpa using e
    exact ⟨⟨a, b, s⟩, rfl, hs⟩
theorem rd35 (W : World) : Rd Tryd.prog W 35 (α := List Hand) (fun ys => (∀ y ∈ ys, y.s.size ≤ 9223372036854775807) ∧ ys.length ≤ 9223372036854775807) := Rd.slice Tryd.underlying35 (by kernel_rfl) (by decide) (rd53 W)
theorem okWide_arrayV {P : Program} {w : World} {r : Reach} {base : Nat} {v : Value} {t e : TypeId} {n : Nat} (ht : P.underlying t = some (.array n e)) (h : Value.okWide P w r base t v) : ∃ cs, v = .agg cs ∧ cs.size = P.cellsOf t := by
  simp only [Value.okWide, ht] at h
  obtain ⟨cs, h1, h2, _⟩ := h
  exact ⟨cs, h1, h2⟩
theorem list14 {α : Type} {cs : Array α} (h : cs.size = 14) : ∃ a b c d e f g h i j k l m n, cs = #[a, b, c, d, e, f, g, h, i, j, k, l, m, n] := by
  obtain ⟨l⟩ := cs
  match l, h with
  | [a, b, c, d, e, f, g, h, i, j, k, l, m, n], _ => exact ⟨a, b, c, d, e, f, g, h, i, j, k, l, m, n, rfl⟩
theorem list5 {α : Type} {cs : Array α} (h : cs.size = 5) : ∃ a b c d e, cs = #[a, b, c, d, e] := by
  obtain ⟨l⟩ := cs
  match l, h with
  | [a, b, c, d, e], _ => exact ⟨a, b, c, d, e, rfl⟩
section
variable {W : World} {base : Nat} {H : Type} {enc : TypeId × Value → H} {sp : Nat → Bool} {b0 : Nat} {held : Bool} {r : Reach} {v : Value} {d : DataW H} {p : List MemPlace}
set_option maxRecDepth 20000 in
theorem open26 (hv : Value.okWide Tryd.prog W r base 26 v) (h : DataW.Trod enc Tryd.prog W b0 sp held 26 v d p) :
    ∃ (n : Num) (a : Option Addr) (c : Nat), v = .agg (n.cs a c).toArray ∧ n.cars.length ≤ c ∧ Arr (heapIm W) a n.cars ∧ n.In ∧ n.cars.length ≤ 9223372036854775807 := by
  obtain ⟨cs, rfl, hsz⟩ := okWide_struct Tryd.underlying26 hv
  obtain ⟨a0, a1, a2, a3, a4, a5, b0, b1, b2, b3, b4, b5, b6, b7, rfl⟩ := list14 (hsz.trans (show Tryd.prog.cellsOf 26 = 14 by kernel_rfl))
  obtain ⟨fuel, hf⟩ := h
  obtain ⟨y0, y1, y2, y3, n, _, _, g0, g1, g2, g3⟩ := trod_struct4 Tryd.underlying26 hf
  have h22 : Tryd.prog.cellsOf 22 = 4 := by kernel_rfl
  have h23 : Tryd.prog.cellsOf 23 = 1 := by kernel_rfl
  have h24 : Tryd.prog.cellsOf 24 = 8 := by kernel_rfl
  simp only [c3, h22, h23, h24, Value.cells, List.drop_zero, List.drop_succ_cons, List.take_succ_cons, List.take_zero] at g0 g1 g2 g3
  obtain ⟨ns, e0, l0, i0⟩ := ints_arr Tryd.underlying22 h22 g0
  obtain ⟨lv, rfl, i1⟩ := Rd.cell_int (W := W) Tryd.underlying3 g1
  obtain ⟨a, c, cars, rfl, hle, hA, hk⟩ := Rd.cell_slice (rd23 W) g2
  obtain ⟨ks, e3, l3, i3⟩ := ints_arr Tryd.underlying24 h24 g3
  match ns, l0 with
  | [n0, n1, n2, n3], _ =>
    match ks, l3 with
    | [k0, k1, k2, k3, k4, k5, k6, k7], _ =>
      simp only [intZ, List.map_cons, List.map_nil, List.cons.injEq, and_true] at e0 e3
      obtain ⟨rfl, rfl, rfl, rfl⟩ := e0
      obtain ⟨rfl, rfl, rfl, rfl, rfl, rfl, rfl, rfl⟩ := e3
      exact ⟨⟨n0, n1, n2, n3, lv, cars, k0, k1, k2, k3, k4, k5, k6, k7⟩, a, c, rfl, hle, hA, ⟨i0 _ (by simp), i0 _ (by simp), i0 _ (by simp), i0 _ (by simp), i1, hk.1, i3⟩, hk.2⟩
set_option maxRecDepth 20000 in
theorem open27 (hv : Value.okWide Tryd.prog W r base 27 v) (h : DataW.Trod enc Tryd.prog W b0 sp held 27 v d p) : ∃ q : Q3, v = .agg q.cells.toArray ∧ q.In := by
  obtain ⟨cs, rfl, hsz⟩ := okWide_arrayV Tryd.underlying27 hv
  obtain ⟨fuel, hf⟩ := h
  obtain ⟨q, e, hq⟩ := rd27 W _ _ _ _ _ _ _ _ hf
  exact ⟨q, congrArg Value.agg (Array.ext' e), hq⟩
set_option maxRecDepth 20000 in
theorem open22 (hv : Value.okWide Tryd.prog W r base 22 v) (h : DataW.Trod enc Tryd.prog W b0 sp held 22 v d p) : ∃ a b c e : Int, v = .agg #[.int .i64 a, .int .i64 b, .int .i64 c, .int .i64 e] ∧ Go.At.In64 a ∧ Go.At.In64 b ∧ Go.At.In64 c ∧ Go.At.In64 e := by
  obtain ⟨cs, rfl, hsz⟩ := okWide_arrayV Tryd.underlying22 hv
  obtain ⟨fuel, hf⟩ := h
  obtain ⟨ns, e, l0, i0⟩ := ints_arr Tryd.underlying22 (by kernel_rfl) hf
  match ns, l0 with
  | [n0, n1, n2, n3], _ => exact ⟨n0, n1, n2, n3, congrArg Value.agg (Array.ext' e), i0 _ (by simp), i0 _ (by simp), i0 _ (by simp), i0 _ (by simp)⟩
set_option maxRecDepth 20000 in
theorem open34 (hv : Value.okWide Tryd.prog W r base 34 v) (h : DataW.Trod enc Tryd.prog W b0 sp held 34 v d p) : ∃ x : Dial, v = .agg x.cs.toArray := by
  obtain ⟨c0, c1, c2, c4, y0, y1, y2, y3, m, rfl, _, _, g0, g1, g2, g3⟩ := open_agg4 Tryd.underlying34 (by kernel_rfl) (by kernel_rfl) hv h
  obtain ⟨n0, rfl, _⟩ := Rd.cell_int (W := W) Tryd.underlying3 g0
  obtain ⟨n1, rfl, _⟩ := Rd.cell_int (W := W) Tryd.underlying3 g1
  obtain ⟨n2, rfl, _⟩ := Rd.cell_int (W := W) Tryd.underlying3 g2
  obtain ⟨n3, rfl, _⟩ := Rd.cell_int (W := W) Tryd.underlying3 g3
  exact ⟨⟨n0, n1, n2, n3⟩, rfl⟩
set_option maxRecDepth 20000 in
theorem open37 (hv : Value.okWide Tryd.prog W r base 37 v) (h : DataW.Trod enc Tryd.prog W b0 sp held 37 v d p) :
    ∃ (x : Att) (a : Option Addr) (c : Nat), v = .agg (x.cs a c).toArray ∧ x.hs.length ≤ c ∧ Arr (heapIm W) a x.hs ∧ x.hs.length ≤ 9223372036854775807 := by
  obtain ⟨cs, rfl, hsz⟩ := okWide_struct Tryd.underlying37 hv
  obtain ⟨a0, a1, a2, a3, a4, rfl⟩ := list5 (hsz.trans (show Tryd.prog.cellsOf 37 = 5 by kernel_rfl))
  obtain ⟨fuel, hf⟩ := h
  obtain ⟨y0, y1, n, _, _, g0, g1⟩ := trod_struct2 Tryd.underlying37 hf
  have h34 : Tryd.prog.cellsOf 34 = 4 := by kernel_rfl
  have h35 : Tryd.prog.cellsOf 35 = 1 := by kernel_rfl
  simp only [h34, h35, Value.cells, List.drop_zero, List.drop_succ_cons, List.take_succ_cons, List.take_zero] at g0 g1
  obtain ⟨z0, z1, z2, z3, m, _, hl, k0, k1, k2, k3⟩ := trod_struct4 Tryd.underlying34 g0
  simp only [c3, List.drop_zero, List.drop_succ_cons, List.take_succ_cons, List.take_zero] at k0 k1 k2 k3
  obtain ⟨n0, rfl, _⟩ := Rd.cell_int (W := W) Tryd.underlying3 k0
  obtain ⟨n1, rfl, _⟩ := Rd.cell_int (W := W) Tryd.underlying3 k1
  obtain ⟨n2, rfl, _⟩ := Rd.cell_int (W := W) Tryd.underlying3 k2
  obtain ⟨n3, rfl, _⟩ := Rd.cell_int (W := W) Tryd.underlying3 k3
  obtain ⟨a, c, hs, rfl, hle, hA, hk⟩ := Rd.cell_slice (rd35 W) g1
  exact ⟨⟨⟨n0, n1, n2, n3⟩, hs⟩, a, c, rfl, hle, hA, hk.2⟩
set_option maxRecDepth 20000 in
theorem openS {t e : TypeId} {α : Type} [Enc α] {ok : List α → Prop} (ht : Tryd.prog.underlying t = some (.slice e)) (hr : Rd Tryd.prog W t ok) (hv : Value.okWide Tryd.prog W r base t v) (h : DataW.Trod enc Tryd.prog W b0 sp held t v d p) :
    ∃ (a : Option Addr) (c : Nat) (y : List α), v = .slice a y.length c ∧ y.length ≤ c ∧ Arr (heapIm W) a y ∧ ok y := by
  obtain ⟨a, l, c, rfl⟩ := okWide_slice ht hv
  obtain ⟨f, hf⟩ := h
  exact Rd.cell_slice hr (c := .slice a l c) (by simpa [Value.cells] using hf)
end
end Go.Proofs.YtmlliafhpbfdbaaDoor
