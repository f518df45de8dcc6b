/- What is changed is refused, or there is a collision: what the walk of LinkForged uses. -/
import Derived.Test.YtkjhhifhgcihpaaDoorD12
namespace Go.Lk
open Go Go.Xe Go.Sh
theorem bent_in {p : Pkt} {how n : Int} (hf : Form p) (hn : -9223372036854775808 ≤ n ∧ n ≤ 9223372036854775807) : (bentF p how n).In := by
  have h1 := hf.s0; have h2 := hf.s1; have h3 := hf.a0; have h4 := hf.a1; have h5 := hf.body
  have h6 := bodyB_size n
  unfold bentF
  split; · exact ⟨hn, by simp only; omega, by simp only; omega⟩
  split; · exact ⟨by simp only; omega, hn, by simp only; omega⟩
  split; · exact ⟨by simp only; omega, by simp only; omega, by show (p.body ++ _).size ≤ _; rw [ByteArray.size_append]; show p.body.size + 1 ≤ _; omega⟩
  split; · exact ⟨by simp only; omega, by simp only; omega, by simp only; omega⟩
  exact ⟨by simp only; omega, by simp only; omega, by simp only; omega⟩
theorem forged_coll {k : ByteArray} {p : Pkt} {how n : Int} (hp : genF k p = true) (hq : genF k (bentF p (pickI how 4) n) = true) (hne : ¬ p = bentF p (pickI how 4) n) : collF (hashF k p) (hashF k (bentF p (pickI how 4) n)) = true := by
  cases h : collF (hashF k p) (hashF k (bentF p (pickI how 4) n)) with
  | true => rfl
  | false =>
    have h4 := pickI_range (c := how) (n := 4) (by decide)
    exact absurd (forged hp hq (bent_sl (by rw [pick_small h4.1 (by omega)]; omega)).symm h) hne
theorem hashF_sizes {k : ByteArray} {p : Pkt} (hk : k.size = 32) (hp : p.In) : ∀ x ∈ hashF k p, x.size ≤ 10000000 := by
  have h1 := content_size p; have h2 := hp.body
  intro x hx
  simp only [hashF, List.mem_cons, List.not_mem_nil, or_false] at hx
  rcases hx with rfl | rfl
  · rw [ByteArray.size_append]; show 1 + _ ≤ _; omega
  · rw [ByteArray.size_append, ByteArray.size_append, leaf, sha_size, hk]; show 1 + 32 + 32 ≤ _; omega
end Go.Lk
