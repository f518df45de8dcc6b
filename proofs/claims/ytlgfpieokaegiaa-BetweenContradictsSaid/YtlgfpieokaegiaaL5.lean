/- BetweenContradicts: whatever the input, the law returns true; the arguments read as they did. -/
import Derived.Test.YtlgfpieokaegiaaB14
import Derived.Test.YtlgfpieokaegiaaO
namespace Go.Proofs.Ytlgfpieokaegiaa
open Go.Xe Go.ChangeShapes Go.WideShapes Go.ChangeAt Go.RowKit Go.Joins

theorem contradicts_any (x : Nums) (ah ab : Option Addr) (ch cb : Nat) (z : Int) (al : Option Addr) (cl : Nat) (l : List Int) (ay : Option Addr) (cy : Nat) (y : List Int) (I : Im) (hx : x.Ok) (hH : Arr I ah x.hidden) (hB : Arr I ab x.bnds) (hz : Xe.In64 z) (hL : Arr I al l) (hlc : l.length ≤ cl) (hY : Arr I ay y) (hyc : y.length ≤ cy) :
    FC Try.prog 5 [.agg #[.int .i64 x.n, .slice ah x.hidden.length ch, .slice ab x.bnds.length cb, .int .i64 x.miss], .int .i64 z, .slice al l.length cl, .slice ay y.length cy] I (fun u I' => u = .bool true) := by
  cases hf : x.made.dist.fine x.hidN with
  | true => exact contradicts_no x ah ab al ay ch cb cl cy z l y I hx hH hB hz hL hlc hY hyc hf
  | false => exact contradicts_yes x ah ab al ay ch cb cl cy z l y I hx hH hB hz hL hlc hY hyc hf

theorem betweenContradicts_lifted (os : Os) (started : os.Started) (H : Type) (enc : TypeId × Value → H) :
    ReturnsInHanded {} Try.checked os 5 .any (Rows.betweenContradictsSpec.pre6 enc Try.prog Try.f5 Rows.betweenContradictsRow.domain false) (Rows.betweenContradictsSpec.post enc Try.prog Try.f5 false true false false) := by
  refine returnsInHanded_of_change (C := Try.checked) ownA started (by kernel_rfl) Try.func5
    (ChangeSpec.witness6 (enc := enc) (C := Try.checked) false ⟨#[], #[.agg #[.int .i64 0, .slice none 0 0, .slice none 0 0, .int .i64 0], .int .i64 0, .slice none 0 0, .slice none 0 0], []⟩ 8 (by kernel_rfl) (by kernel_rfl) (by kernel_rfl) (by kernel_rfl)) ?_
  intro W base args ds gs before hval0 hW hcnd _
  have hval : ∀ (j : Nat) t v, Try.f5.params[j]? = some t → args[j]? = some v → Value.okWide Try.prog W .any base t v := hval0
  have hW' := hW
  obtain ⟨p, q, hA0, hV, rfl, hfz, hnd⟩ := hW
  have hA : DataW.TrodAll enc Try.prog W 0 (fun _ => true) true Try.f5.params.toList args.toList ds p := hA0
  rw [Try.params5] at hA hval
  obtain ⟨v0, vs0, d0, ds0, p0, q0, hargs, rfl, rfl, h0, r0⟩ := trodAll_cons hA
  obtain ⟨v1, vs1, d1, ds1, p1, q1, rfl, rfl, rfl, h1, r1⟩ := trodAll_cons r0
  obtain ⟨v2, vs2, d2, ds2, p2, q2, rfl, rfl, rfl, h2, r2⟩ := trodAll_cons r1
  obtain ⟨v3, vs3, d3, ds3, p3, q3, rfl, rfl, rfl, h3, r3⟩ := trodAll_cons r2
  obtain ⟨rfl, rfl, rfl⟩ := trodAll_nil r3
  obtain rfl : args = #[v0, v1, v2, v3] := by cases args; simp_all
  obtain ⟨rfl, rfl⟩ := trodVars_none hV
  have k0 := h0
  have lt0 : ∀ x ∈ p0, x.block < W.heap.size := by obtain ⟨m, hm⟩ := k0; exact DataW.trod_lt m _ _ _ hm
  obtain ⟨x0, ah0, ab0, ch0, cb0, rfl, hx0, hH0, hB0⟩ := open25 (hval 0 25 v0 rfl rfl) h0
  have k1 := h1
  have lt1 : ∀ x ∈ p1, x.block < W.heap.size := by obtain ⟨m, hm⟩ := k1; exact DataW.trod_lt m _ _ _ hm
  obtain ⟨n1, rfl, _, _, w1⟩ := open_int Try.underlying3 (hval 1 3 v1 rfl rfl) h1
  have hn1 := bounds_i64 w1
  have k2 := h2
  have lt2 : ∀ x ∈ p2, x.block < W.heap.size := by obtain ⟨m, hm⟩ := k2; exact DataW.trod_lt m _ _ _ hm
  obtain ⟨a2, c2, y2, rfl, hcp2, hY2, hyk2, hyl2⟩ := open22 (hval 2 22 v2 rfl rfl) h2
  have k3 := h3
  have lt3 : ∀ x ∈ p3, x.block < W.heap.size := by obtain ⟨m, hm⟩ := k3; exact DataW.trod_lt m _ _ _ hm
  obtain ⟨a3, c3, y3, rfl, hcp3, hY3, hyk3, hyl3⟩ := open22 (hval 3 22 v3 rfl rfl) h3
  clear hA0 hval0
  refine (law_calls (contradicts_any x0 ah0 ab0 ch0 cb0 n1 a2 c2 y2 a3 c3 y3 (heapIm W) hx0 hH0 hB0 hn1 hY2 hcp2 hY3 hcp3)).mono fun e W' ⟨he, bel⟩ => ?_
  subst he
  exact ⟨_, rfl, _, _, _, [], _, [], hW', trodAll_mk1 (shut_bool Try.underlying4 _), (trodAll_cons_mk (Below.trod laidA (by kernel_rfl) (of_decide_eq_true (by kernel_rfl)) k0 bel lt0) (trodAll_cons_mk (Below.trod laidA (by kernel_rfl) (of_decide_eq_true (by kernel_rfl)) k1 bel lt1) (trodAll_cons_mk (Below.trod laidA (by kernel_rfl) (of_decide_eq_true (by kernel_rfl)) k2 bel lt2) (trodAll_cons_mk (Below.trod laidA (by kernel_rfl) (of_decide_eq_true (by kernel_rfl)) k3 bel lt3) trodAll_mk0)))), rfl, bel.frame _, fun h => by cases h⟩

theorem betweenContradicts_proved : Rows.BetweenContradictsSaid :=
  OpenClaim.holds_of_wide 5 Try.f5 rfl rfl rfl rfl rfl rfl rfl ⟨rfl, rfl, rfl, rfl, rfl⟩ rfl rfl rfl rfl rfl (by kernel_rfl) Try.func5 (by kernel_rfl)
    (of_decide_eq_true (by kernel_rfl)) (by unfold Func.isWrapper; first | (rw [if_pos (by decide +kernel)]; kernel_rfl) | (rw [if_neg (by decide +kernel)]; exact ⟨rfl, rfl⟩))
    (fun os started H enc _ => betweenContradicts_lifted os started H enc)

end Go.Proofs.Ytlgfpieokaegiaa
