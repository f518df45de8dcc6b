/- BetweenMatchesReference: whatever the input, the law returns true; the arguments read as they did. -/
import Derived.Test.YtlgfpieokaegiaaQ6
import Derived.Test.YtlgfpieokaegiaaO
namespace Go.Proofs.Ytlgfpieokaegiaa
open Go.Xe Go.ChangeShapes Go.WideShapes Go.ChangeAt Go.RowKit Go.Joins

theorem rd30 (W : World) : Rd Try.prog W 30 (α := Bnd) (fun y => In64' y.fr ∧ In64' y.to ∧ In64' y.mo) := fun H enc base spare held fuel cs x h => by
  obtain ⟨y0, y1, y2, n, _, hl, g0, g1, g2⟩ := Go.Deep.trod_struct3 Try.underlying30 h
  have hc : Try.prog.cellsOf 30 = 3 := cells30
  have hc3 : Try.prog.cellsOf 3 = 1 := by kernel_rfl
  rw [hc] at hl
  match cs, hl with
  | [c0, c1, c2], _ =>
    simp [hc3] at g0 g1 g2
    obtain ⟨a0, rfl, b0⟩ := Rd.cell_int (W := W) Try.underlying3 g0
    obtain ⟨a1, rfl, b1⟩ := Rd.cell_int (W := W) Try.underlying3 g1
    obtain ⟨a2, rfl, b2⟩ := Rd.cell_int (W := W) Try.underlying3 g2
    exact ⟨⟨a0, a1, a2⟩, rfl, b0, b1, b2⟩
theorem rd26 (W : World) : Rd Try.prog W 26 (α := List Bnd) (fun ys => (∀ y ∈ ys, In64' y.fr ∧ In64' y.to ∧ In64' y.mo) ∧ ys.length ≤ 9223372036854775807) := Rd.slice Try.underlying26 (by kernel_rfl) (by decide) (rd30 W)
/-- a set of bounds, by value -/
theorem open28 {W : World} {base : Nat} {H : Type} {enc : TypeId × Value → H} {sp : Nat → Bool} {b0 : Nat} {held : Bool} {r : Reach} {v : Value} {d : DataW H} {p : List MemPlace} (hv : Value.okWide Try.prog W r base 28 v) (h : DataW.Trod enc Try.prog W b0 sp held 28 v d p) :
    ∃ (e : Btw) (a : Option Addr) (c : Nat), v = .agg #[.int .i64 e.n, .slice a e.bs.length c] ∧ e.bs.length ≤ c ∧ e.bs.length ≤ 9223372036854775807 ∧ Arr (heapIm W) a e.bs := by
  obtain ⟨c0, c1, y0, y1, m, rfl, _, _, g0, g1⟩ := open_agg2 Try.underlying28 (by kernel_rfl) cells28 hv h
  obtain ⟨n, rfl, w0⟩ := Rd.cell_int (W := W) Try.underlying3 g0
  obtain ⟨a, c, xs, rfl, hc, hA, ok⟩ := Rd.cell_slice (rd26 W) g1
  exact ⟨⟨n, xs⟩, a, c, rfl, hc, ok.2, hA⟩
/-- a bound, by value -/
theorem open30 {W : World} {base : Nat} {H : Type} {enc : TypeId × Value → H} {sp : Nat → Bool} {b0 : Nat} {held : Bool} {r : Reach} {v : Value} {d : DataW H} {p : List MemPlace} (hv : Value.okWide Try.prog W r base 30 v) (h : DataW.Trod enc Try.prog W b0 sp held 30 v d p) :
    ∃ (z : Bnd), v = .agg z.cs.toArray ∧ Xe.In64 z.fr ∧ Xe.In64 z.to ∧ Xe.In64 z.mo := by
  obtain ⟨c0, c1, c2, y0, y1, y2, m, rfl, _, _, g0, g1, g2⟩ := open_agg3 Try.underlying30 (by kernel_rfl) cells30 hv h
  obtain ⟨n0, rfl, w0⟩ := Rd.cell_int (W := W) Try.underlying3 g0
  obtain ⟨n1, rfl, w1⟩ := Rd.cell_int (W := W) Try.underlying3 g1
  obtain ⟨n2, rfl, w2⟩ := Rd.cell_int (W := W) Try.underlying3 g2
  exact ⟨⟨n0, n1, n2⟩, rfl, w0, w1, w2⟩

theorem betweenMatchesReference_lifted (os : Os) (started : os.Started) (H : Type) (enc : TypeId × Value → H) :
    ReturnsInHanded {} Try.checked os 3 .any (Rows.betweenMatchesReferenceSpec.pre6 enc Try.prog Try.f3 Rows.betweenMatchesReferenceRow.domain false) (Rows.betweenMatchesReferenceSpec.post enc Try.prog Try.f3 false true false false) := by
  refine returnsInHanded_of_change (C := Try.checked) ownA started (by kernel_rfl) Try.func3
    (ChangeSpec.witness6 (enc := enc) (C := Try.checked) false ⟨#[], #[.agg #[.int .i64 0, .slice none 0 0, .slice none 0 0, .int .i64 0], .agg #[.int .i64 0, .slice none 0 0], .int .i64 0, .int .i64 0, .int .i64 0, .agg #[.int .i64 0, .int .i64 0, .int .i64 0], .slice none 0 0], []⟩ 8 (by kernel_rfl) (by kernel_rfl) (by kernel_rfl) (by kernel_rfl)) ?_
  intro W base args ds gs before hval0 hW hcnd _
  have hval : ∀ (j : Nat) t v, Try.f3.params[j]? = some t → args[j]? = some v → Value.okWide Try.prog W .any base t v := hval0
  have hW' := hW
  obtain ⟨p, q, hA0, hV, rfl, hfz, hnd⟩ := hW
  have hA : DataW.TrodAll enc Try.prog W 0 (fun _ => true) true Try.f3.params.toList args.toList ds p := hA0
  rw [Try.params3] at hA hval
  obtain ⟨v0, vs0, d0, ds0, p0, q0, hargs, rfl, rfl, h0, r0⟩ := trodAll_cons hA
  obtain ⟨v1, vs1, d1, ds1, p1, q1, rfl, rfl, rfl, h1, r1⟩ := trodAll_cons r0
  obtain ⟨v2, vs2, d2, ds2, p2, q2, rfl, rfl, rfl, h2, r2⟩ := trodAll_cons r1
  obtain ⟨v3, vs3, d3, ds3, p3, q3, rfl, rfl, rfl, h3, r3⟩ := trodAll_cons r2
  obtain ⟨v4, vs4, d4, ds4, p4, q4, rfl, rfl, rfl, h4, r4⟩ := trodAll_cons r3
  obtain ⟨v5, vs5, d5, ds5, p5, q5, rfl, rfl, rfl, h5, r5⟩ := trodAll_cons r4
  obtain ⟨v6, vs6, d6, ds6, p6, q6, rfl, rfl, rfl, h6, r6⟩ := trodAll_cons r5
  obtain ⟨rfl, rfl, rfl⟩ := trodAll_nil r6
  obtain rfl : args = #[v0, v1, v2, v3, v4, v5, v6] := by cases args; simp_all
  obtain ⟨rfl, rfl⟩ := trodVars_none hV
  have k0 := h0
  have lt0 : ∀ x ∈ p0, x.block < W.heap.size := by obtain ⟨m, hm⟩ := k0; exact DataW.trod_lt m _ _ _ hm
  obtain ⟨x0, ah0, ab0, ch0, cb0, rfl, hx0, hH0, hB0⟩ := open25 (hval 0 25 v0 rfl rfl) h0
  have k1 := h1
  have lt1 : ∀ x ∈ p1, x.block < W.heap.size := by obtain ⟨m, hm⟩ := k1; exact DataW.trod_lt m _ _ _ hm
  obtain ⟨e1, ea1, ec1, rfl, hcap1, h631, hE1⟩ := open28 (hval 1 28 v1 rfl rfl) h1
  have k2 := h2
  have lt2 : ∀ x ∈ p2, x.block < W.heap.size := by obtain ⟨m, hm⟩ := k2; exact DataW.trod_lt m _ _ _ hm
  obtain ⟨n2, rfl, _, _, w2⟩ := open_int Try.underlying3 (hval 2 3 v2 rfl rfl) h2
  have hn2 := bounds_i64 w2
  have k3 := h3
  have lt3 : ∀ x ∈ p3, x.block < W.heap.size := by obtain ⟨m, hm⟩ := k3; exact DataW.trod_lt m _ _ _ hm
  obtain ⟨n3, rfl, _, _, w3⟩ := open_int Try.underlying3 (hval 3 3 v3 rfl rfl) h3
  have hn3 := bounds_i64 w3
  have k4 := h4
  have lt4 : ∀ x ∈ p4, x.block < W.heap.size := by obtain ⟨m, hm⟩ := k4; exact DataW.trod_lt m _ _ _ hm
  obtain ⟨n4, rfl, _, _, w4⟩ := open_int Try.underlying3 (hval 4 3 v4 rfl rfl) h4
  have hn4 := bounds_i64 w4
  have k5 := h5
  have lt5 : ∀ x ∈ p5, x.block < W.heap.size := by obtain ⟨m, hm⟩ := k5; exact DataW.trod_lt m _ _ _ hm
  obtain ⟨z5, rfl, hz5a, hz5b, hz5c⟩ := open30 (hval 5 30 v5 rfl rfl) h5
  have k6 := h6
  have lt6 : ∀ x ∈ p6, x.block < W.heap.size := by obtain ⟨m, hm⟩ := k6; exact DataW.trod_lt m _ _ _ hm
  obtain ⟨a6, c6, y6, rfl, hcp6, hY6, hyk6, hyl6⟩ := open22 (hval 6 22 v6 rfl rfl) h6
  clear hA0 hval0
  refine (law_calls (matches_any x0 e1 z5 ah0 ab0 ea1 a6 ch0 cb0 ec1 c6 n2 n3 n4 y6 (heapIm W) hx0 hH0 hB0 hE1 hcap1 h631 hn2 hn4 hz5a hz5b hz5c hY6 hcp6)).mono fun e W' ⟨he, bel⟩ => ?_
  subst he
  exact ⟨_, rfl, _, _, _, [], _, [], hW', trodAll_mk1 (shut_bool Try.underlying4 _), (trodAll_cons_mk (Below.trod laidA (by kernel_rfl) (of_decide_eq_true (by kernel_rfl)) k0 bel lt0) (trodAll_cons_mk (Below.trod laidA (by kernel_rfl) (of_decide_eq_true (by kernel_rfl)) k1 bel lt1) (trodAll_cons_mk (Below.trod laidA (by kernel_rfl) (of_decide_eq_true (by kernel_rfl)) k2 bel lt2) (trodAll_cons_mk (Below.trod laidA (by kernel_rfl) (of_decide_eq_true (by kernel_rfl)) k3 bel lt3) (trodAll_cons_mk (Below.trod laidA (by kernel_rfl) (of_decide_eq_true (by kernel_rfl)) k4 bel lt4) (trodAll_cons_mk (Below.trod laidA (by kernel_rfl) (of_decide_eq_true (by kernel_rfl)) k5 bel lt5) (trodAll_cons_mk (Below.trod laidA (by kernel_rfl) (of_decide_eq_true (by kernel_rfl)) k6 bel lt6) trodAll_mk0))))))), rfl, bel.frame _, fun h => by cases h⟩

theorem betweenMatchesReference_proved : Rows.BetweenMatchesReferenceSaid :=
  OpenClaim.holds_of_wide 3 Try.f3 rfl rfl rfl rfl rfl rfl rfl ⟨rfl, rfl, rfl, rfl, rfl⟩ rfl rfl rfl rfl rfl (by kernel_rfl) Try.func3 (by kernel_rfl)
    (of_decide_eq_true (by kernel_rfl)) (by unfold Func.isWrapper; first | (rw [if_pos (by decide +kernel)]; kernel_rfl) | (rw [if_neg (by decide +kernel)]; exact ⟨rfl, rfl⟩))
    (fun os started H enc _ => betweenMatchesReference_lifted os started H enc)

end Go.Proofs.Ytlgfpieokaegiaa
