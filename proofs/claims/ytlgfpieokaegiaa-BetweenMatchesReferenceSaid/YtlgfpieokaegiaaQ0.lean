/- What the walks of the reference of layer 6 use: rows that are given away; tables so far. -/
import Derived.Test.YtlgfpieokaegiaaP13
import Derived.Test.YtlgfpieokaegiaaXq
namespace Go.Xe
open Go Go.RowKit
section
variable {P : Program} {r : Option Nat} {K : World} {n : Nat} {ds : List Deferred} {ops : Array Oper} {Q : Exit → Act → World → Prop} {l : List Oper} {E : Env} {I : Im} {X : Own} {t : TypeId} {b m : Nat} {f : Nat → Int}
theorem XO.row (h : ∀ I', I.le I' → Sl I' (.slice (some ⟨b, 0, none⟩) m m) ((List.range m).map f) → XO P r K n ds ops Q l E I' X) : XO P r K n ds ops Q l E I (some (b, .cells (rowC m f).toArray t (0, 0)) :: X) := fun a w hH hS => by
  obtain ⟨I', h1, h2, h3⟩ := hS.give_row
  exact h I' h1 h3 a w hH h2
end
/-- the rows so far -/
def rowsP (D : Mat) (n i : Nat) : List (List Int) := (List.range i).map fun a => (List.range n).map (D a)
theorem rowsP_all (D : Mat) (n : Nat) : rowsP D n n = D.rows n := rfl
theorem rowsP_succ (D : Mat) (n i : Nat) : rowsP D n (i + 1) = rowsP D n i ++ [(List.range n).map (D i)] := by simp [rowsP, List.range_succ]
theorem rowsP_len (D : Mat) (n i : Nat) : (rowsP D n i).length = i := by simp [rowsP]
theorem rowsP_flat {I : Im} {D : Mat} {n i : Nat} {cs : List Value} {v : Value} (h : Flat I cs (rowsP D n i)) (hv : Sl I v ((List.range n).map (D i))) : Flat I (cs ++ [v]) (rowsP D n (i + 1)) := by
  rw [rowsP_succ]; exact h.append (Flat.single ⟨v, rfl, hv⟩)
theorem flat_len1 {α : Type} [Enc α] {I : Im} {cs : List Value} {xs : List (List α)} (h : Flat I cs xs) : cs.length = xs.length := by have := h.len; rw [this]; exact Nat.mul_one _
/-- a row of sums at its begin -/
def ini (m i j : Nat) : Int := if m = 0 ∧ i = j then 0 else far
theorem ini0 {m i k j : Nat} (h : m = 0) (h2 : i = k) : (if j = k then (0 : Int) else if j = k then far else if j < k then ini m i j else 0) = if j < k + 1 then ini m i j else 0 := by
  by_cases e : j = k
  · subst e; rw [if_pos rfl, if_pos (by omega)]; unfold ini; rw [if_pos ⟨h, h2⟩]
  · rw [if_neg e, if_neg e]
    by_cases e2 : j < k
    · rw [if_pos e2, if_pos (by omega)]
    · rw [if_neg e2, if_neg (by omega)]
theorem ini1 {m i k j : Nat} (h : ¬ (m = 0 ∧ i = k)) : (if j = k then far else if j < k then ini m i j else 0) = if j < k + 1 then ini m i j else 0 := by
  by_cases e : j = k
  · subst e; rw [if_pos rfl, if_pos (by omega)]; unfold ini; rw [if_neg h]
  · rw [if_neg e]
    by_cases e2 : j < k
    · rw [if_pos e2, if_pos (by omega)]
    · rw [if_neg e2, if_neg (by omega)]
/-- a row of sums after so many bounds -/
def sumR (b : Btw) (m i k : Nat) : Nat → Int := if m = 0 then ini 0 i else refRow (b.walk (m - 1) i) b.bs k
theorem sumR_zero (b : Btw) (m i : Nat) (j : Nat) : sumR b m i 0 j = ini m i j := by
  unfold sumR
  by_cases h : m = 0
  · rw [if_pos h, h]
  · rw [if_neg h]; unfold ini refRow; rw [if_neg (fun hh => h hh.1)]; simp
theorem sumR_far {b : Btw} {m i k : Nat} (hm : 0 < m) (hk : k < b.bs.length) (hf : b.walk (m - 1) i b.bs[k].fr.toNat = far) (j : Nat) : sumR b m i k j = sumR b m i (k + 1) j := by
  unfold sumR; rw [if_neg (by omega), if_neg (by omega), refRow_succ _ _ hk, if_pos hf]
theorem sumR_step {b : Btw} {m i k : Nat} (hm : 0 < m) (hk : k < b.bs.length) (hf : ¬ b.walk (m - 1) i b.bs[k].fr.toNat = far) (j : Nat) :
    (if j = b.bs[k].to.toNat then min (sumR b m i k b.bs[k].to.toNat) (b.walk (m - 1) i b.bs[k].fr.toNat + b.bs[k].mo) else sumR b m i k j) = sumR b m i (k + 1) j := by
  have h0 : ¬ m = 0 := by omega
  have e1 : sumR b m i k = refRow (b.walk (m - 1) i) b.bs k := if_neg h0
  have e2 : sumR b m i (k + 1) = refRow (b.walk (m - 1) i) b.bs (k + 1) := if_neg h0
  rw [e1, e2, refRow_succ _ _ hk, if_neg hf]
  by_cases e : j = b.bs[k].to.toNat
  · rw [if_pos e, if_pos e, e]
  · rw [if_neg e, if_neg e]
theorem sumR_all {b : Btw} {n : Nat} {B : Int} (h : Small b n B) {m i k : Nat} (hm : m ≤ 100) (hi : i < n) (hk : m = 0 ∨ b.bs.length ≤ k) (hk2 : k ≤ b.bs.length) (j : Nat) : sumR b m i k j = b.walk m i j := by
  unfold sumR
  by_cases h0 : m = 0
  · rw [if_pos h0, h0]; show ini 0 i j = mat0 i j; unfold ini mat0; simp
  · have : k = b.bs.length := by omega
    rw [if_neg h0, this, refRow_walk h (by omega) hi, show m - 1 + 1 = m by omega]
end Go.Xe
namespace Go.Xe
theorem idx_spec {α : Type} {p : α → Bool} {l : List α} {k : Nat} (h : idx p l = (k : Int)) : ∃ (hk : k < l.length), p l[k] = true ∧ ∀ (j : Nat) (hj : j < l.length), j < k → p l[j] = false := by
  unfold idx at h
  cases hf : l.findIdx? p with
  | none => rw [hf] at h; simp only at h; omega
  | some i =>
    rw [hf] at h
    simp only at h
    have e : i = k := by omega
    subst e
    obtain ⟨h1, h2, h3⟩ := List.findIdx?_eq_some_iff_getElem.1 hf
    exact ⟨h1, h2, fun j hj hjk => by simpa using h3 j hjk⟩
theorem cl0 {b : Btw} {D : Mat} {i k j : Nat} : (if j = k then far else if j < k then D i j else 0) = (if j < k then D i j else if j = k then minW b i k 0 else 0) := by
  by_cases e : j = k
  · subst e; rw [if_pos rfl, if_neg (by omega), if_pos rfl]; rfl
  · rw [if_neg e, if_neg e]
theorem cl1 {b : Btw} {D : Mat} {i k q j : Nat} : (if j = k then min (minW b i k q) (b.walk q i k) else if j < k then D i j else if j = k then minW b i k q else 0) = (if j < k then D i j else if j = k then minW b i k (q + 1) else 0) := by
  by_cases e : j = k
  · subst e; rw [if_pos rfl, if_neg (by omega), if_pos rfl, minW_succ]
  · rw [if_neg e, if_neg e, if_neg e]
theorem cl2 {b : Btw} {D : Mat} {i k q j : Nat} (h : minW b i k q = D i k) : (if j < k then D i j else if j = k then minW b i k q else 0) = (if j < k + 1 then D i j else 0) := by
  by_cases e : j = k
  · subst e; rw [if_neg (by omega), if_pos rfl, if_pos (by omega), h]
  · by_cases e2 : j < k
    · rw [if_pos e2, if_pos (by omega)]
    · rw [if_neg e2, if_neg e, if_neg (by omega)]
end Go.Xe
