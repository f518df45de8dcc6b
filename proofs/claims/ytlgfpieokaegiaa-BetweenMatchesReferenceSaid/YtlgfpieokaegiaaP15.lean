/- Lists of bounds' sets in memory; how long the results are; a list that is built and never written again, where the order is drawn. -/
import Derived.Test.YtlgfpieokaegiaaP14
import Derived.Test.YtlgfpieokaegiaaP9
namespace Go.Xe
open Go Go.RowKit
instance : Enc Btw where
  sz := 2
  rep := fun I cs b => ∃ a cap, cs = [.int .i64 b.n, .slice a b.bs.length cap] ∧ b.bs.length ≤ cap ∧ Arr I a b.bs
  len := fun h => by obtain ⟨a, c, rfl, _⟩ := h; rfl
  mono := fun hle h => by obtain ⟨a, c, h1, h2, h3⟩ := h; exact ⟨a, c, h1, h2, h3.mono hle⟩
  one := fun h v hv => by obtain ⟨a, c, rfl, _⟩ := h; simp at hv; rcases hv with rfl | rfl <;> rfl
theorem Arr.btw {I : Im} {p : Option Addr} {xs : List Btw} (h : Arr I p xs) {j : Nat} (hj : j < xs.length) : ∃ a cap, xs[j].bs.length ≤ cap ∧ Arr I a xs[j].bs ∧ ∀ i v, [Value.int .i64 xs[j].n, .slice a xs[j].bs.length cap][i]? = some v → At I p (j * 2 + i) v := by
  obtain ⟨cs, ⟨a, cap, rfl, h2, h3⟩, h4⟩ := h j hj
  exact ⟨a, cap, h2, h3, h4⟩
theorem flat_btw {I : Im} {b : Btw} {a : Option Addr} {cap : Nat} (h1 : b.bs.length ≤ cap) (h2 : Arr I a b.bs) : Enc.rep I [.int .i64 b.n, .slice a b.bs.length cap] b := ⟨a, cap, rfl, h1, h2⟩
theorem BOut.anyc {α : Type} [Enc α] {I : Im} {u : Value} {o : Option (List α)} (h : BOut I u o) : ∃ a c, u = .tuple #[.slice a (o.getD []).length c, .bool o.isSome] ∧ (o.getD []).length ≤ c ∧ Arr I a (o.getD []) := by
  obtain ⟨v, rfl, h1, h2⟩ := h
  cases o with
  | none => rw [h2 rfl]; exact ⟨none, 0, rfl, Nat.le_refl _, Arr.nil⟩
  | some r =>
    obtain ⟨a, c, rfl, h4, h3⟩ := (h1 r rfl).ex
    exact ⟨a, c, rfl, h4, h3⟩
theorem close_len (b : Btw) : (b.close.getD []).length ≤ 16 ∧ ∀ r ∈ b.close.getD [], r.length ≤ 16 := by
  unfold Btw.close
  split
  · rename_i h
    simp only [Bool.and_eq_true] at h
    have := Btw.ok_n h.1
    refine ⟨by simp [Mat.rows]; omega, fun r hr => ?_⟩
    simp only [Option.getD_some, Mat.rows, List.mem_map, List.mem_range] at hr
    obtain ⟨i, _, rfl⟩ := hr
    simp; omega
  · simp
theorem solve_len (b : Btw) : (b.solve.getD []).length ≤ 16 := by
  unfold Btw.solve
  split
  · rename_i h
    simp only [Bool.and_eq_true] at h
    have := Btw.ok_n h.1
    simp; omega
  · simp
theorem cycle_len (b : Btw) : (b.cycle.getD []).length ≤ 18 := by
  cases hk : b.cycle with
  | none => simp
  | some l =>
    by_cases hok : b.ok = true
    · obtain ⟨n, hs⟩ := Small.of_ok hok
      rcases ref_cycle hs hok with ⟨g, _⟩ | ⟨M, l', g1, g2, g3, g4, _⟩
      · rw [g] at hk; cases hk
      · rw [g3] at hk; cases hk
        obtain ⟨m, rfl⟩ : ∃ m, M = m + 1 := ⟨M - 1, by omega⟩
        have := hs.le
        rcases bestF_is hs (m := m) (by omega) n (Nat.le_refl _) with ⟨g, _⟩ | ⟨k, l2, g⟩
        · rw [g] at g4; cases g4
        · have h1 := g.best
          rw [h1] at g4; cases g4
          have := chainI_len g.rest
          simp; omega
    · simp [Btw.cycle, hok] at hk
theorem implied_len (b : Btw) (x : Bnd) : ((b.implied x).getD []).length ≤ 17 := by
  cases hk : b.implied x with
  | none => simp
  | some l =>
    unfold Btw.implied at hk
    split at hk
    · rename_i h
      have h1 := chainI_len hk
      have hok : b.ok = true := by simp only [Btw.keeps, Bool.and_eq_true] at h; exact h.1.1.1
      obtain ⟨n, hs⟩ := Small.of_ok hok
      obtain ⟨M, l', s, g1, g2, g3, g4, _⟩ := hs.implied h
      have h5 := Btw.implied_some h (by have := hs.le; omega) g2 g3 g4
      have h6 : b.implied x = some l := by unfold Btw.implied; rw [if_pos h]; exact hk
      rw [h6] at h5; cases h5
      have := chainI_len g4
      have := hs.le
      simp; omega
    · cases hk
section
variable {P : Program} {r : Option Nat} {K : World} {n : Nat} {ds : List Deferred} {ops : Array Oper} {Q : Exit → Act → World → Prop} {last : Option Nat} {σ : Sched} {E : Env} {I : Im} {L Ls : Own}
variable {d : Tmp} {ty : TypeId} {pos : String} {after : Array Edge} {g : Option (Nat × Bool)}
theorem XR.lit {α : Type} [Enc α] {i : Nat} {t e : TypeId} {len by_ : Nat} {z : Value} {ps : List (Nat × Operand)} (xs : List α) (vs : List Value) (cs : List Value) (ho : ops[i]? = some ⟨some d, .buildSlice t len ps.toArray, ty, pos, after, g⟩)
    (hw : Wants ops ⟨some d, .buildSlice t len ps.toArray, ty, pos, after, g⟩ E true) (hd : Nat.ble (d + 1) n = true)
    (hu : P.underlying t = some (.slice e)) (he : Elem P e (Enc.sz α) z by_) (hlen : len = vs.length) (hl : vs.length * Enc.sz α ≤ 16777216)
    (hp : partsEv E ps ((vs.zipIdx 0).map fun p => (p.2, p.1))) (hv : vs.all (fun v => v.cells.size == Enc.sz α) = true) (hcs : vs.flatMap (fun v => v.cells.toList) = cs) (hz : 0 < Enc.sz α) (hf : Flat I cs xs) (hx : xs.length = vs.length) (hsub : Ls.Sublist L)
    (hk : ∀ I' b c, I.le I' → xs.length ≤ c → Arr I' b xs → XR P r K n ds ops Q last σ ((d, .slice b xs.length c) :: E) I' L Ls) : XR P r K n ds ops Q last (.eff i σ) E I L Ls := by
  subst hlen
  have hrun := Runs.give (L := L) (e := e) hz hf (fun K k ds a w hH hS => by
    obtain ⟨v, w', I', L', h1, h2, b, g1, g2, g3⟩ := Runs.buildL (dst := some d) (ty := ty) (pos := pos) (after := after) (guard := g) vs cs hu he hl hp hv hcs K k ds a w hH hS
    refine ⟨v, w', I', L', h1, h2, ⟨some (b, cs.toArray), vs.length, vs.length⟩, g1, g2, g3, ?_⟩
    have h9 := hf.len
    rw [hx] at h9
    refine ⟨h9, Nat.le_refl _, (fun h => by cases h), fun b' c h => ?_⟩
    simp only [Option.some.injEq, Prod.mk.injEq] at h
    obtain ⟨-, rfl⟩ := h
    exact ⟨by simpa using h9, List.take_of_length_le (by simp [h9])⟩)
  refine XR.e ho hw hd (Runs.step rfl hrun) ?_
  rintro v I' L' ⟨rfl, hle, b, c, rfl, hqc, hq⟩
  exact ⟨hle, .inr hsub, hk I' b c hle hqc hq⟩
end
end Go.Xe
