/- The plain law of layer 6: a further bound. No program in sight. -/
import Derived.Test.YtlgfpieokaegiaaP8
namespace Go.Xe
/-- a bound for the variables, by how much it is more than the hidden situation needs -/
def Nums.vb (x : Nums) (p q m : Int) : Bnd := ⟨pickI p x.hidN, pickI q x.hidN, x.hidF (pickI q x.hidN).toNat - x.hidF (pickI p x.hidN).toNat + m⟩
theorem Nums.vb_range (x : Nums) (p q : Int) {m : Int} (hm : -20 ≤ m ∧ m ≤ 59) : (0 ≤ (x.vb p q m).fr ∧ (x.vb p q m).fr < x.hidN) ∧ (0 ≤ (x.vb p q m).to ∧ (x.vb p q m).to < x.hidN) ∧ -300 ≤ (x.vb p q m).mo ∧ (x.vb p q m).mo ≤ 300 := by
  have hN := x.hidN_range
  have h1 := pickI_range (c := p) (n := x.hidN) (by omega)
  have h2 := pickI_range (c := q) (n := x.hidN) (by omega)
  have h4 := x.hidF_range (pickI p x.hidN).toNat
  have h5 := x.hidF_range (pickI q x.hidN).toNat
  simp only [Nums.vb]; omega
theorem Small.more {b : Btw} {n : Nat} {B : Int} (h : Small b n B) {x : Bnd} (hx : (0 ≤ x.fr ∧ x.fr < n) ∧ (0 ≤ x.to ∧ x.to < n) ∧ -B ≤ x.mo ∧ x.mo ≤ B) : Small (b.more x) n B :=
  ⟨h.num, h.le, h.pos, h.top, fun y hy => by
    rcases List.mem_append.1 hy with hy | hy
    · exact h.ix y hy
    · rw [List.mem_singleton.1 hy]; exact ⟨hx.1, hx.2.1⟩, fun y hy => by
    rcases List.mem_append.1 hy with hy | hy
    · exact h.mo y hy
    · rw [List.mem_singleton.1 hy]; exact hx.2.2⟩
theorem Sit.more {b : Btw} {x : Bnd} {p : Nat → Int} : Sit (b.more x) p ↔ Sit b p ∧ p x.to.toNat - p x.fr.toNat ≤ x.mo :=
  ⟨fun h => ⟨fun y hy => h y (List.mem_append_left _ hy), h x (List.mem_append_right _ (List.mem_singleton.2 rfl))⟩, fun h y hy => by
    rcases List.mem_append.1 hy with hy | hy
    · exact h.1 y hy
    · rw [List.mem_singleton.1 hy]; exact h.2⟩
theorem Keeps.more {b : Btw} {n : Nat} {E : Mat} {x : Bnd} : Keeps (b.more x) n E ↔ Keeps b n E ∧ E x.fr.toNat x.to.toNat ≤ x.mo :=
  ⟨fun h => ⟨⟨h.zero, h.tri, fun y hy => h.mo y (List.mem_append_left _ hy)⟩, h.mo x (List.mem_append_right _ (List.mem_singleton.2 rfl))⟩, fun h => ⟨h.1.zero, h.1.tri, fun y hy => by
    rcases List.mem_append.1 hy with hy | hy
    · exact h.1.mo y hy
    · rw [List.mem_singleton.1 hy]; exact h.2⟩⟩
theorem Small.more_le {b : Btw} {n : Nat} {B : Int} (h : Small b n B) {x : Bnd} (hm : Small (b.more x) n B) (hf : (b.more x).dist.fine n = true) : ∀ i k, i < n → k < n → (b.more x).dist i k ≤ b.dist i k := by
  obtain ⟨hk, hb⟩ := hm.keeps hf
  have hp := two_pow_le h.le h.pos h.top
  exact (h.least (C := 2 ^ n * B) (by omega) hb (Keeps.more.1 hk).1).2
theorem Small.more_ge {b : Btw} {n : Nat} {B : Int} (h : Small b n B) {x : Bnd} (hm : Small (b.more x) n B) (hf : b.dist.fine n = true) (hx : b.dist x.fr.toNat x.to.toNat ≤ x.mo) : ∀ i k, i < n → k < n → b.dist i k ≤ (b.more x).dist i k := by
  obtain ⟨hk, hb⟩ := h.keeps hf
  have hp := two_pow_le h.le h.pos h.top
  exact (hm.least (C := 2 ^ n * B) (by omega) hb (Keeps.more.2 ⟨hk, hx⟩)).2
theorem rows_eq {D E : Mat} {n : Nat} : D.rows n = E.rows n ↔ ∀ i k, i < n → k < n → D i k = E i k := by
  constructor
  · intro h i k hi hk
    have h1 : (D.rows n)[i]'(by rw [rows_len]; exact hi) = (E.rows n)[i]'(by rw [rows_len]; exact hi) := by simp only [h]
    rw [rows_get hi, rows_get hi] at h1
    have h2 : ((List.range n).map (D i))[k]'(by simpa using hk) = ((List.range n).map (E i))[k]'(by simpa using hk) := by simp only [h1]
    simpa using h2
  · intro h
    unfold Mat.rows
    apply List.map_congr_left; intro i hi
    apply List.map_congr_left; intro k hk
    exact h i k (List.mem_range.1 hi) (List.mem_range.1 hk)
theorem Small.keeps_is {b : Btw} {n : Nat} {B : Int} (h : Small b n B) (hok : b.ok = true) (hf : b.dist.fine n = true) {x : Bnd} (hx : (0 ≤ x.fr ∧ x.fr < n) ∧ (0 ≤ x.to ∧ x.to < n) ∧ -B ≤ x.mo ∧ x.mo ≤ B) : b.keeps x = decide (b.dist x.fr.toNat x.to.toNat ≤ x.mo) := by
  have hn : b.n.toNat = n := by rw [h.num]; rfl
  have htop := h.top
  have hbx : bndOk b.n x = true := bndOk_iff.2 (by rw [h.num]; omega)
  simp [Btw.keeps, hok, hn, hf, hbx]
theorem Small.more_is {b : Btw} {n : Nat} {B : Int} (h : Small b n B) (hok : b.ok = true) {x : Bnd} (hx : (0 ≤ x.fr ∧ x.fr < n) ∧ (0 ≤ x.to ∧ x.to < n) ∧ -B ≤ x.mo ∧ x.mo ≤ B) (hm : Small (b.more x) n B) (hf : b.dist.fine n = true) (hfm : (b.more x).dist.fine n = true) :
    (b.keeps x == decide ((b.more x).dist.rows n = b.dist.rows n)) = true := by
  rw [h.keeps_is hok hf hx]
  rw [beq_iff_eq, decide_eq_decide, rows_eq]
  constructor
  · intro hle i k hi hk
    have h1 := h.more_le hm hfm i k hi hk
    have h2 := h.more_ge hm hf hle i k hi hk
    omega
  · intro he
    have h1 := (hm.keeps hfm).1.mo x (List.mem_append_right _ (List.mem_singleton.2 rfl))
    rw [he x.fr.toNat x.to.toNat (by omega) (by omega)] at h1
    exact h1
end Go.Xe
