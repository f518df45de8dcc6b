/- BetweenImplies: whatever the input, the law returns true; the arguments read as they did. -/
import Derived.Test.YtlgfpieokaegiaaB13
import Derived.Test.YtlgfpieokaegiaaO
namespace Go.Proofs.Ytlgfpieokaegiaa
open Go.Xe Go.ChangeShapes Go.WideShapes Go.ChangeAt Go.RowKit Go.Joins

theorem implies_any (x : Nums) (ah ab : Option Addr) (ch cb : Nat) (y0 y1 y2 : Int) (ay : Option Addr) (cy : Nat) (y : List Int) (I : Im) (hx : x.Ok) (hH : Arr I ah x.hidden) (hB : Arr I ab x.bnds) (hy0 : Xe.In64 y0) (hy1 : Xe.In64 y1) (hy2 : Xe.In64 y2) (hY : Arr I ay y) (hyc : y.length ≤ cy) :
    FC Try.prog 6 [.agg #[.int .i64 x.n, .slice ah x.hidden.length ch, .slice ab x.bnds.length cb, .int .i64 x.miss], .agg #[.int .i64 y0, .int .i64 y1, .int .i64 y2], .slice ay y.length cy] I (fun u I' => u = .bool true) := by
  cases hK : x.hit.made.keeps (x.hit.vb y0 y1 (pickI y2 60 - 20)) with
  | true => exact implies_yes x ah ab ay ch cb cy y0 y1 y2 y I hx hH hB hy0 hy1 hy2 hY hyc hK
  | false => exact implies_no x ah ab ay ch cb cy y0 y1 y2 y I hx hH hB hy0 hy1 hy2 hY hyc hK

theorem betweenImplies_lifted (os : Os) (started : os.Started) (H : Type) (enc : TypeId × Value → H) :
    ReturnsInHanded {} Try.checked os 6 .any (Rows.betweenImpliesSpec.pre6 enc Try.prog Try.f6 Rows.betweenImpliesRow.domain false) (Rows.betweenImpliesSpec.post enc Try.prog Try.f6 false true false false) := by
  refine returnsInHanded_of_change (C := Try.checked) ownA started (by kernel_rfl) Try.func6
    (ChangeSpec.witness6 (enc := enc) (C := Try.checked) false ⟨#[], #[.agg #[.int .i64 0, .slice none 0 0, .slice none 0 0, .int .i64 0], .agg #[.int .i64 0, .int .i64 0, .int .i64 0], .slice none 0 0], []⟩ 8 (by kernel_rfl) (by kernel_rfl) (by kernel_rfl) (by kernel_rfl)) ?_
  intro W base args ds gs before hval0 hW hcnd _
  have hval : ∀ (j : Nat) t v, Try.f6.params[j]? = some t → args[j]? = some v → Value.okWide Try.prog W .any base t v := hval0
  have hW' := hW
  obtain ⟨p, q, hA0, hV, rfl, hfz, hnd⟩ := hW
  have hA : DataW.TrodAll enc Try.prog W 0 (fun _ => true) true Try.f6.params.toList args.toList ds p := hA0
  rw [Try.params6] at hA hval
  obtain ⟨v0, vs0, d0, ds0, p0, q0, hargs, rfl, rfl, h0, r0⟩ := trodAll_cons hA
  obtain ⟨v1, vs1, d1, ds1, p1, q1, rfl, rfl, rfl, h1, r1⟩ := trodAll_cons r0
  obtain ⟨v2, vs2, d2, ds2, p2, q2, rfl, rfl, rfl, h2, r2⟩ := trodAll_cons r1
  obtain ⟨rfl, rfl, rfl⟩ := trodAll_nil r2
  obtain rfl : args = #[v0, v1, v2] := by cases args; simp_all
  obtain ⟨rfl, rfl⟩ := trodVars_none hV
  have k0 := h0
  have lt0 : ∀ x ∈ p0, x.block < W.heap.size := by obtain ⟨m, hm⟩ := k0; exact DataW.trod_lt m _ _ _ hm
  obtain ⟨x0, ah0, ab0, ch0, cb0, rfl, hx0, hH0, hB0⟩ := open25 (hval 0 25 v0 rfl rfl) h0
  have k1 := h1
  have lt1 : ∀ x ∈ p1, x.block < W.heap.size := by obtain ⟨m, hm⟩ := k1; exact DataW.trod_lt m _ _ _ hm
  obtain ⟨n1a, n1b, n1c, rfl, hn1a, hn1b, hn1c⟩ := open57 (hval 1 57 v1 rfl rfl) h1
  have k2 := h2
  have lt2 : ∀ x ∈ p2, x.block < W.heap.size := by obtain ⟨m, hm⟩ := k2; exact DataW.trod_lt m _ _ _ hm
  obtain ⟨a2, c2, y2, rfl, hcp2, hY2, hyk2, hyl2⟩ := open22 (hval 2 22 v2 rfl rfl) h2
  clear hA0 hval0
  refine (law_calls (implies_any x0 ah0 ab0 ch0 cb0 n1a n1b n1c a2 c2 y2 (heapIm W) hx0 hH0 hB0 hn1a hn1b hn1c hY2 hcp2)).mono fun e W' ⟨he, bel⟩ => ?_
  subst he
  exact ⟨_, rfl, _, _, _, [], _, [], hW', trodAll_mk1 (shut_bool Try.underlying4 _), (trodAll_cons_mk (Below.trod laidA (by kernel_rfl) (of_decide_eq_true (by kernel_rfl)) k0 bel lt0) (trodAll_cons_mk (Below.trod laidA (by kernel_rfl) (of_decide_eq_true (by kernel_rfl)) k1 bel lt1) (trodAll_cons_mk (Below.trod laidA (by kernel_rfl) (of_decide_eq_true (by kernel_rfl)) k2 bel lt2) trodAll_mk0))), rfl, bel.frame _, fun h => by cases h⟩

theorem betweenImplies_proved : Rows.BetweenImpliesSaid :=
  OpenClaim.holds_of_wide 6 Try.f6 rfl rfl rfl rfl rfl rfl rfl ⟨rfl, rfl, rfl, rfl, rfl⟩ rfl rfl rfl rfl rfl (by kernel_rfl) Try.func6 (by kernel_rfl)
    (of_decide_eq_true (by kernel_rfl)) (by unfold Func.isWrapper; first | (rw [if_pos (by decide +kernel)]; kernel_rfl) | (rw [if_neg (by decide +kernel)]; exact ⟨rfl, rfl⟩))
    (fun os started H enc _ => betweenImplies_lifted os started H enc)

end Go.Proofs.Ytlgfpieokaegiaa
