/- The plain law of layer 6: chains of bounds, and their least sums. No program in sight. -/
import Derived.Test.YtlgfpieokaegiaaP4
namespace Go.Xe
/-- a chain: how many bounds, from where, to where, its sum -/
inductive Chain (bs : List Bnd) : Nat → Int → Int → Int → Prop where
  | nil (f : Int) : Chain bs 0 f f 0
  | cons {m : Nat} {t s : Int} (x : Bnd) (hx : x ∈ bs) (h : Chain bs m x.to t s) : Chain bs (m + 1) x.fr t (x.mo + s)
theorem Chain.uncons {bs : List Bnd} {m : Nat} {f t s : Int} (h : Chain bs (m + 1) f t s) : ∃ x ∈ bs, x.fr = f ∧ Chain bs m x.to t (s - x.mo) := by
  cases h with
  | cons x hx h => exact ⟨x, hx, rfl, by rw [show ∀ a c : Int, a + c - a = c by intros; omega]; exact h⟩
theorem Chain.zero {bs : List Bnd} {f t s : Int} (h : Chain bs 0 f t s) : f = t ∧ s = 0 := by cases h; exact ⟨rfl, rfl⟩
theorem Chain.append {bs : List Bnd} {m q : Nat} {f t u s r : Int} (h : Chain bs m f t s) (k : Chain bs q t u r) : Chain bs (m + q) f u (s + r) := by
  induction h with
  | nil f => simpa using k
  | cons x hx _ ih =>
    have := Chain.cons x hx (ih k)
    rw [show ∀ a c d : Int, a + c + d = a + (c + d) by intros; omega]
    rw [show ∀ a c : Nat, a + 1 + c = a + c + 1 by intros; omega]
    exact this
theorem Chain.one {bs : List Bnd} {x : Bnd} (hx : x ∈ bs) : Chain bs 1 x.fr x.to x.mo := by
  have := Chain.cons x hx (Chain.nil x.to); simpa using this
theorem Chain.mono {bs cs : List Bnd} (hs : ∀ x ∈ bs, x ∈ cs) {m : Nat} {f t s : Int} (h : Chain bs m f t s) : Chain cs m f t s := by
  induction h with
  | nil f => exact .nil f
  | cons x hx _ ih => exact .cons x (hs x hx) ih
theorem Chain.bd {bs : List Bnd} {B : Int} (hb : ∀ x ∈ bs, -B ≤ x.mo ∧ x.mo ≤ B) {m : Nat} {f t s : Int} (h : Chain bs m f t s) : -(m * B) ≤ s ∧ s ≤ m * B := by
  induction h with
  | nil f => simp
  | @cons m t s x hx _ ih =>
    have := hb x hx
    rw [show ((m + 1 : Nat) : Int) * B = m * B + B by rw [Int.natCast_add, Int.add_mul]; simp]
    omega
theorem Chain.to_range {bs : List Bnd} {n : Nat} (hx : ∀ x ∈ bs, (0 ≤ x.fr ∧ x.fr < n) ∧ (0 ≤ x.to ∧ x.to < n)) {m : Nat} {f t s : Int} (h : Chain bs m f t s) (hf : 0 ≤ f ∧ f < n) : 0 ≤ t ∧ t < n := by
  induction h with
  | nil f => exact hf
  | cons x hx' _ ih => exact ih (hx x hx').2

/-! the places of a chain -/
/-- a chain laid out: its places, and the sums up to each -/
theorem Chain.lay {bs : List Bnd} {m : Nat} {f t s : Int} (h : Chain bs m f t s) : ∃ (v S : Nat → Int), v 0 = f ∧ v m = t ∧ S 0 = 0 ∧ S m = s ∧ ∀ a b, a ≤ b → b ≤ m → Chain bs (b - a) (v a) (v b) (S b - S a) := by
  induction h with
  | nil f => exact ⟨fun _ => f, fun _ => 0, rfl, rfl, rfl, rfl, fun a b h1 h2 => by rw [show b - a = 0 by omega]; simpa using Chain.nil f⟩
  | @cons m t s x hx h ih =>
    obtain ⟨v, S, h1, h2, h3, h4, h5⟩ := ih
    refine ⟨fun i => match i with | 0 => x.fr | i + 1 => v i, fun i => match i with | 0 => 0 | i + 1 => x.mo + S i, rfl, h2, rfl, by simp [h4], fun a b hab hb => ?_⟩
    match a, b, hab, hb with
    | 0, 0, _, _ => simpa using Chain.nil x.fr
    | 0, b + 1, _, hb =>
      have := h5 0 b (by omega) (by omega)
      rw [h1, h3] at this
      have := Chain.cons x hx this
      simpa using this
    | a + 1, b + 1, hab, hb =>
      have := h5 a b (by omega) (by omega)
      rw [show b + 1 - (a + 1) = b - a by omega]
      simp only
      rw [show x.mo + S b - (x.mo + S a) = S b - S a by omega]
      exact this
theorem pigeon : ∀ (n : Nat) (f : Nat → Nat), (∀ i, i ≤ n → f i < n) → ∃ a b, a < b ∧ b ≤ n ∧ f a = f b
  | 0, f, h => absurd (h 0 (Nat.le_refl _)) (Nat.not_lt_zero _)
  | n + 1, f, h => by
    by_cases hc : ∃ a, a ≤ n ∧ f a = f (n + 1)
    · obtain ⟨a, ha, he⟩ := hc; exact ⟨a, n + 1, by omega, Nat.le_refl _, he⟩
    · have hne : ∀ a, a ≤ n → f a ≠ f (n + 1) := fun a ha he => hc ⟨a, ha, he⟩
      obtain ⟨a, b, h1, h2, h3⟩ := pigeon n (fun i => if f i = n then f (n + 1) else f i) (fun i hi => by
        have h4 := h i (by omega)
        have h5 := h (n + 1) (Nat.le_refl _)
        have h6 := hne i hi
        split <;> omega)
      refine ⟨a, b, h1, by omega, ?_⟩
      have h6 := hne a (by omega); have h7 := hne b h2
      split at h3 <;> split at h3 <;> omega
/-- a chain that is longer than there are places comes back to one of them -/
theorem Chain.cut {bs : List Bnd} {n : Nat} (hx : ∀ x ∈ bs, (0 ≤ x.fr ∧ x.fr < n) ∧ (0 ≤ x.to ∧ x.to < n)) {m : Nat} {f t s : Int} (h : Chain bs m f t s) (hf : 0 ≤ f ∧ f < n) (hm : n ≤ m) :
    ∃ (q p : Nat) (v c : Int), 0 < q ∧ q ≤ n ∧ q + p = m ∧ (0 ≤ v ∧ v < n) ∧ Chain bs q v v c ∧ Chain bs p f t (s - c) := by
  obtain ⟨v, S, h1, h2, h3, h4, h5⟩ := h.lay
  have hv : ∀ i, i ≤ m → 0 ≤ v i ∧ v i < n := fun i hi => by
    have := (h5 0 i (by omega) hi).to_range hx (by rw [h1]; exact hf); exact this
  obtain ⟨a, b, ha, hb, he⟩ := pigeon n (fun i => (v i).toNat) (fun i hi => by have := hv i (by omega); omega)
  have hva := hv a (by omega); have hvb := hv b (by omega)
  have he' : v a = v b := by omega
  have c1 := h5 a b (by omega) (by omega)
  rw [← he'] at c1
  have c2 := h5 0 a (by omega) (by omega)
  have c3 := h5 b m (by omega) (by omega)
  rw [← he'] at c3
  have c4 := c2.append c3
  rw [h1, h2, h3, h4] at c4
  refine ⟨b - a, a - 0 + (m - b), v a, S b - S a, by omega, by omega, by omega, hva, c1, ?_⟩
  rw [show s - (S b - S a) = S a - 0 + (s - S b) by omega]
  exact c4
/-- without negative rounds: a chain as good, and short -/
theorem Chain.short {bs : List Bnd} {n : Nat} (hx : ∀ x ∈ bs, (0 ≤ x.fr ∧ x.fr < n) ∧ (0 ≤ x.to ∧ x.to < n)) (hr : ∀ (m : Nat) (v c : Int), (0 ≤ v ∧ v < n) → Chain bs m v v c → 0 ≤ c) :
    ∀ (m : Nat) {f t s : Int}, Chain bs m f t s → (0 ≤ f ∧ f < n) → ∃ (q : Nat) (r : Int), q < n ∧ r ≤ s ∧ Chain bs q f t r := by
  intro m
  induction m using Nat.strongRecOn with
  | _ m ih =>
    intro f t s h hf
    by_cases hm : m < n
    · exact ⟨m, s, hm, Int.le_refl _, h⟩
    · obtain ⟨q, p, v, c, h1, h2, h3, h4, h5, h6⟩ := h.cut hx hf (by omega)
      have h7 := hr q v c h4 h5
      obtain ⟨q', r, h8, h9, h10⟩ := ih p (by omega) h6 hf
      exact ⟨q', r, h8, by omega, h10⟩
/-- a negative round: one that is no longer than there are places -/
theorem Chain.round {bs : List Bnd} {n : Nat} (hx : ∀ x ∈ bs, (0 ≤ x.fr ∧ x.fr < n) ∧ (0 ≤ x.to ∧ x.to < n)) :
    ∀ (m : Nat) {f s : Int}, Chain bs m f f s → (0 ≤ f ∧ f < n) → s < 0 → ∃ (q : Nat) (v c : Int), 0 < q ∧ q ≤ n ∧ q ≤ m ∧ (0 ≤ v ∧ v < n) ∧ c < 0 ∧ Chain bs q v v c := by
  intro m
  induction m using Nat.strongRecOn with
  | _ m ih =>
    intro f s h hf hs
    by_cases hm : m ≤ n
    · refine ⟨m, f, s, ?_, hm, Nat.le_refl _, hf, hs, h⟩
      cases m with
      | zero => have := h.zero; omega
      | succ m => omega
    · obtain ⟨q, p, v, c, h1, h2, h3, h4, h5, h6⟩ := h.cut hx hf (by omega)
      by_cases hc : c < 0
      · exact ⟨q, v, c, h1, h2, by omega, h4, hc, h5⟩
      · obtain ⟨q', v', c', g1, g2, g3, g4, g5, g6⟩ := ih p (by omega) h6 hf (by omega)
        exact ⟨q', v', c', g1, g2, by omega, g4, g5, g6⟩
end Go.Xe
