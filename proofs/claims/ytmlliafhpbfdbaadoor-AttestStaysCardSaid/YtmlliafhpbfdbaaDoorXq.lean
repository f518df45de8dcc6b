/- Appends to slices of which nobody may write the rest: over the small logic of XXe. No program is named here. -/
import Derived.Test.YtmlliafhpbfdbaaDoorXp
namespace Go.Xe
open Go Go.RowKit
section
variable {P : Program} {dst : Option Tmp} {ty : TypeId} {pos : String} {after : Array Edge} {guard : Option (Nat × Bool)} {E : Env} {I : Im} {L : Own} {x y : Operand}
theorem cutA_zero {a : Option Addr} (h : ∃ b o, a = some ⟨b, o, none⟩) (m s : Nat) : cutA a m 0 s = a := by
  obtain ⟨b, o, rfl⟩ := h
  unfold cutA; split
  · rfl
  · simp [add_plain]
theorem Runs.append_full {t tx e : TypeId} {p : Option Addr} {n c : Nat} {u : Value} {m s by_ : Nat} {z : Value} {cs news : List Value} (hu : P.underlying t = some (.slice e)) (he : Elem P e s z by_)
    (hx : ev E x = some (.slice p n c)) (hy : ev E y = some u) (hr : Readable I L p cs) (hl : cs.length = n * s) (hn : News P I L s tx u m news) (hc : c < n + m) (hb : (n + m) * by_ ≤ 140737488355328) (_hcn : c ≤ n) (h63 : n + m ≤ 9223372036854775807) :
    Runs P { dst, op := .call { callee := .builtin .append, args := #[x, y], argTypes := #[t, tx] }, type := ty, pos, after, guard } E I L
      (fun r I' L' => ∃ V' : Vec, r = V'.val ∧ I' = I ∧ L' = V'.ent e :: L ∧ V'.Is s (cs ++ news) ∧ V'.len = n + m) := by
  intro K k ds a w hH hS
  obtain ⟨i, hi, rfl, hz, rfl⟩ := he.info
  have hsrc := hn.src hS
  have hrun : (execOp a.eval { dst, op := .call { callee := .builtin .append, args := #[x, y], argTypes := #[t, tx] }, type := ty, pos, after, guard }).run P w
      = ((Builtin.append_ #[t, tx] ty #[.slice p n c, u]).run P w).andThen fun v w' => .ok (.value v) w' := by
    simp [execOp, hH.ev hx, hH.ev hy, resolve, invoke, builtin]
  have hold := hr.first (P := P) hS.drew i.size n n c hl
  have hgr := run_append_grow_src w t tx ty e i z hu hi hz p n c cs hold u m news hsrc (by omega) (by omega) (growslice_fits (by omega) hb)
  have hcap := grownCap_le w (n + m) c e
  generalize grownCap w (n + m) c e = cap' at hgr hcap
  refine ⟨_, _, I, _, .inl (by rw [hrun, hgr]; rfl), hS.drew.alloc _, ⟨some (w.heap.size, (cs ++ news).toArray ++ Builtin.zeroCells z.cells (cap' - (n + m))), n + m, cap'⟩, rfl, rfl, rfl, ?_, rfl⟩
  have hcl : (cs ++ news).length = (n + m) * i.size := by rw [List.length_append, hl, hsrc.newsLen, Nat.add_mul]
  refine ⟨hcl, hcap, fun h => by simp at h, fun b c h => ?_⟩
  simp only [Option.some.injEq, Prod.mk.injEq] at h
  obtain ⟨-, rfl⟩ := h
  constructor
  · simp only [Array.size_append, List.size_toArray, hcl, Builtin.zeroCells, Array.size_map, Array.size_range, he.cells]
    rw [← Nat.add_mul]; congr 1; omega
  · show List.take ((n + m) * i.size) _ = _
    rw [Array.toList_append, List.take_append_of_le_length (by show _ ≤ (cs ++ news).length; omega), ← hcl]
    exact List.take_of_length_le (Nat.le_refl _)
theorem Runs.append_zero {t tx e : TypeId} {b o n c s by_ : Nat} {z u : Value} (hu : P.underlying t = some (.slice e)) (he : Elem P e s z by_)
    (hx : ev E x = some (.slice (some ⟨b, o, none⟩) n c)) (hc : n ≤ c) (hy : ev E y = some u) (hn : News P I L s tx u 0 []) :
    Runs P { dst, op := .call { callee := .builtin .append, args := #[x, y], argTypes := #[t, tx] }, type := ty, pos, after, guard } E I L
      (fun r I' L' => r = .slice (some ⟨b, o, none⟩) n c ∧ I' = I ∧ L' = L) := by
  intro K k ds a w hH hS
  obtain ⟨i, hi, rfl, hz, rfl⟩ := he.info
  have hsrc := hn.src hS
  have hl := hsrc.len w
  have hcz := hsrc.cells
  refine ⟨_, w, I, L, .inl ?_, hS, rfl, rfl, rfl⟩
  rcases hsrc.kind with ⟨e', hk⟩ | hk <;> simp [execOp, hH.ev hx, hH.ev hy, resolve, invoke, builtin, Builtin.append_, run_underlying hu, run_underlying hk, run_sizeOf he.size, hl, hc, hcz, storeCells]
theorem Runs.give {α : Type} [Enc α] {o : Oper} {e : TypeId} {cs : List Value} {xs : List α} (hz : 0 < Enc.sz α) (hf : Flat I cs xs)
    (h : Runs P o E I L (fun r I' L' => ∃ V' : Vec, r = V'.val ∧ I' = I ∧ L' = V'.ent e :: L ∧ V'.Is (Enc.sz α) cs)) :
    Runs P o E I L (fun r I' L' => L' = L ∧ I.le I' ∧ ∃ b c, r = .slice b xs.length c ∧ xs.length ≤ c ∧ Arr I' b xs) := by
  intro K k ds a w hH hS
  obtain ⟨v, w', I', L', h1, h2, V', rfl, rfl, rfl, hV⟩ := h K k ds a w hH hS
  obtain ⟨hS', hb'⟩ := h2.give_vec
  obtain ⟨_, hsl⟩ := Vec.sl (e := e) hz hV hf hb'
  obtain ⟨q, cq, hv, hqc, hq⟩ := hsl.ex
  exact ⟨_, w', _, L, h1, hS', rfl, Vec.le_give hb', q, cq, hv, hqc, hq⟩
end
section
variable {P : Program} {r : Option Nat} {K : World} {n : Nat} {ds : List Deferred} {ops : Array Oper} {Q : Exit → Act → World → Prop} {last : Option Nat} {σ : Sched} {E : Env} {I : Im} {L Ls : Own}
variable {d : Tmp} {ty : TypeId} {pos : String} {after : Array Edge} {g : Option (Nat × Bool)}
theorem XR.append_done {α : Type} [Enc α] {i : Nat} {t tx e : TypeId} {x y : Operand} {p p' : Option Addr} {c' by_ : Nat} {z : Value} (xs ys : List α)
    (ho : ops[i]? = some ⟨some d, .call { callee := .builtin .append, args := #[x, y], argTypes := #[t, tx] }, ty, pos, after, g⟩)
    (hw : Wants ops ⟨some d, .call { callee := .builtin .append, args := #[x, y], argTypes := #[t, tx] }, ty, pos, after, g⟩ E true) (hd : Nat.ble (d + 1) n = true)
    (hu : P.underlying t = some (.slice e)) (hu' : P.underlying tx = some (.slice e)) (he : Elem P e (Enc.sz α) z by_) (hz : 0 < Enc.sz α) (hp : ∃ b o, p = some ⟨b, o, none⟩)
    (hx : ev E x = some (.slice p xs.length xs.length)) (hy : ev E y = some (.slice p' ys.length c')) (hA : Arr I p xs) (hB : Arr I p' ys) (hb : (xs.length + ys.length) * by_ ≤ 140737488355328) (h63 : xs.length + ys.length ≤ 9223372036854775807) (hsub : Ls.Sublist L)
    (hk : ∀ I' b c, I.le I' → (xs ++ ys).length ≤ c → Arr I' b (xs ++ ys) → XR P r K n ds ops Q last σ ((d, .slice b (xs ++ ys).length c) :: E) I' L Ls) : XR P r K n ds ops Q last (.eff i σ) E I L Ls := by
  obtain ⟨cs, hcs, hca⟩ := hA.flat
  obtain ⟨ds', hds, hda⟩ := hB.flat
  have hnews : News P I L (Enc.sz α) tx (.slice p' ys.length c') ys.length ds' := .slice hu' (.inr (.inl hda)) hds.len hds.one
  by_cases hm : ys.length = 0
  · have hy0 : ys = [] := List.length_eq_zero_iff.1 hm
    subst hy0
    have hd0 : ds' = [] := List.length_eq_zero_iff.1 (by rw [hds.len]; simp)
    subst hd0
    obtain ⟨b, o, rfl⟩ := hp
    refine XR.e ho hw hd (Runs.step rfl (Runs.append_zero hu he hx (Nat.le_refl _) hy hnews)) ?_
    rintro v I' L' ⟨rfl, rfl, rfl⟩
    refine ⟨Im.le_refl _, .inr hsub, ?_⟩
    have := hk I' (some ⟨b, o, none⟩) xs.length (Im.le_refl _) (by rw [List.append_nil]; exact Nat.le_refl _) (by rw [List.append_nil]; exact hA)
    rw [List.append_nil] at this
    exact this
  · have hrun := Runs.give (e := e) hz (hcs.append hds) (fun K k ds a w hH hS => by
      obtain ⟨v, w', I', L', h1, h2, V', g1, g2, g3, g4, _⟩ := Runs.append_full (dst := some d) (ty := ty) (pos := pos) (after := after) (guard := g) hu he hx hy (.inr (.inl hca)) hcs.len hnews (by omega) hb (Nat.le_refl _) h63 K k ds a w hH hS
      exact ⟨v, w', I', L', h1, h2, V', g1, g2, g3, g4⟩)
    refine XR.e ho hw hd (Runs.step rfl hrun) ?_
    rintro v I' L' ⟨rfl, hle, b, c, rfl, hqc, hq⟩
    exact ⟨hle, .inr hsub, hk I' b c hle hqc hq⟩
end
end Go.Xe
