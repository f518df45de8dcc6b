/- The plain law of layer 6: bounds that numbers determine. No program in sight. -/
import Derived.Test.YtlgfpieokaegiaaP1
namespace Go.Xe
theorem Nums.bnds1_mem (x : Nums) {y : Bnd} (h : y ∈ x.bnds1) : y ∈ x.bnd0 ∨ ∃ z ∈ x.bnd0, y = x.low z := by
  unfold Nums.bnds1 at h
  split at h
  · obtain ⟨i, hi, rfl⟩ := List.mem_iff_getElem.1 h
    rw [List.getElem_modify]
    simp only [List.length_modify] at hi
    split
    · exact .inr ⟨_, List.getElem_mem hi, rfl⟩
    · exact .inl (List.getElem_mem hi)
  · exact .inl h
theorem Nums.bnds1_len (x : Nums) : x.bnds1.length = x.bnd0.length := by unfold Nums.bnds1; split <;> simp
theorem Nums.made_small (x : Nums) : Small x.made x.hidN 300 := by
  have hN := x.hidN_range
  have key : ∀ y ∈ x.bnds1, ((0 ≤ y.fr ∧ y.fr < x.hidN) ∧ (0 ≤ y.to ∧ y.to < x.hidN)) ∧ -300 ≤ y.mo ∧ y.mo ≤ 300 := fun y hy => by
    rcases x.bnds1_mem hy with h | ⟨z, hz, rfl⟩
    · have := x.bnd0_range h; omega
    · have h1 := x.bnd0_range hz
      have h2 := pickI_range (c := x.miss.tdiv 60) (n := 60) (by omega)
      simp only [Nums.low]; omega
  exact ⟨rfl, by omega, by decide, by decide, fun y hy => (key y hy).1, fun y hy => (key y hy).2⟩
theorem Small.ok {b : Btw} {n : Nat} {B : Int} (h : Small b n B) (hl : b.bs.length ≤ 60) : b.ok = true := by
  have h1 := h.num; have h2 := h.le
  have h3 : b.bs.any (fun x => !bndOk b.n x) = false := by
    rw [Bool.eq_false_iff]; intro hh
    obtain ⟨x, hx, hxx⟩ := List.any_eq_true.1 hh
    have := h.ix x hx; have := h.mo x hx; have := h.top
    have : bndOk b.n x = true := bndOk_iff.2 (by omega)
    simp [this] at hxx
  have h4 : inB b.n 0 16 = true := by simp [inB]; omega
  simp [Btw.ok, h3, h4, hl]
theorem Nums.made_ok (x : Nums) : x.made.ok = true := x.made_small.ok (by have := x.bnds1_len; have := x.bnd0_len; show x.bnds1.length ≤ 60; omega)
theorem Nums.made_len (x : Nums) : x.made.bs.length ≤ 16 := by have := x.bnds1_len; have := x.bnd0_len; show x.bnds1.length ≤ 16; omega
theorem Nums.bnds1_no {x : Nums} (h : x.misses = false) : x.bnds1 = x.bnd0 := by simp [Nums.bnds1, h]
theorem Nums.hid_sit {x : Nums} (h : x.misses = false) : Sit x.made x.hidF := fun y hy => by
  have hy : y ∈ x.bnds1 := hy
  rw [Nums.bnds1_no h] at hy
  obtain ⟨z, _, rfl⟩ := List.mem_map.1 hy
  have h3 := pickI_range (c := z.2.2) (n := 30) (by omega)
  simp only [Nums.bnd1]; omega
theorem map_getD {n : Nat} {p : Nat → Int} {i : Int} (h : 0 ≤ i ∧ i < n) : ((List.range n).map p).getD i.toNat 0 = p i.toNat := by
  have : i.toNat < n := by omega
  simp [this]
theorem Small.allowed {b : Btw} {n : Nat} {B : Int} {p : Nat → Int} (h : Small b n B) (hok : b.ok = true) (hb : ∀ i, i < n → -1000000000000 ≤ p i ∧ p i ≤ 1000000000000) : b.allowed ((List.range n).map p) = true ↔ Sit b p := by
  have h1 : (((List.range n).map p).any fun v => !inB v (-1000000000000) 1000000000000) = false := by
    rw [Bool.eq_false_iff]; intro hh
    obtain ⟨v, hv, hvv⟩ := List.any_eq_true.1 hh
    obtain ⟨i, hi, rfl⟩ := List.mem_map.1 hv
    have := hb i (List.mem_range.1 hi)
    simp [inB] at hvv; omega
  have h2 : (((List.range n).map p).length : Int) = b.n := by rw [h.num]; simp
  simp only [Btw.allowed, hok, h1, h2, decide_true, Bool.true_and, Bool.not_false, Bool.not_eq_true', Bool.eq_false_iff, ne_eq, List.any_eq_true, decide_eq_true_eq, not_exists, not_and]
  constructor
  · intro hh x hx
    have := hh x hx
    obtain ⟨a1, a2⟩ := h.ix x hx
    rw [map_getD a1, map_getD a2] at this
    omega
  · intro hh x hx
    have := hh x hx
    obtain ⟨a1, a2⟩ := h.ix x hx
    rw [map_getD a1, map_getD a2]
    omega
theorem Small.solve_some {b : Btw} {n : Nat} {B : Int} (h : Small b n B) (hok : b.ok = true) (hf : b.dist.fine n = true) : b.solve = some ((List.range n).map (solveP b.dist n)) := by
  have e : b.n.toNat = n := by rw [h.num]; rfl
  simp only [Btw.solve, e, hok, hf, Bool.and_self, if_true]; rfl
theorem Small.close_some {b : Btw} {n : Nat} {B : Int} (h : Small b n B) (hok : b.ok = true) (hf : b.dist.fine n = true) : b.close = some (b.dist.rows n) := by
  have e : b.n.toNat = n := by rw [h.num]; rfl
  simp only [Btw.close, e, hok, hf, Bool.and_self, if_true]
theorem Small.solve_none {b : Btw} {n : Nat} {B : Int} (h : Small b n B) (hf : b.dist.fine n = false) : b.solve = none ∧ b.close = none := by
  have e : b.n.toNat = n := by rw [h.num]; rfl
  simp [Btw.solve, Btw.close, e, hf]
theorem Nums.hid_bd (x : Nums) : ∀ i, i < x.hidN → -100000000000000000 ≤ x.hidF i ∧ x.hidF i ≤ 100000000000000000 := fun i _ => by have := x.hidF_range i; omega
/-- numbers without a miss -/
def Nums.hit (x : Nums) : Nums := { x with miss := 0 }
theorem Nums.hit_ok {x : Nums} (h : x.Ok) : x.hit.Ok := ⟨h.n, h.hidden, h.bnds, by show In64 0; unfold In64; decide⟩
theorem Nums.hit_no (x : Nums) : x.hit.misses = false := by
  show (pickI 0 3 == 2) = false
  decide
theorem Nums.pow300 (x : Nums) : (2 : Int) ^ x.hidN * 300 ≤ 76800 := by
  have h1 := pow_le x.hidN_range.2
  have h2 : (2 : Int) ^ x.hidN * 300 ≤ 2 ^ 8 * 300 := Int.mul_le_mul_of_nonneg_right h1 (by decide)
  have h3 : (2 : Int) ^ 8 = 256 := by decide
  rw [h3] at h2; omega
end Go.Xe
