/- The plain law of layer 6: chains that are followed as the reference follows them. No program in sight. -/
import Derived.Test.YtlgfpieokaegiaaP12
namespace Go.Xe
/-- what the reference's follow returns -/
def followR (bs : List Bnd) (f : Int) (l : List Int) : Int × Int × Bool :=
  if l.length = 0 then (f, 0, true) else if 60 < l.length then (0, 0, false) else match followI bs f l 0 with | some (g, s) => (g, s, true) | none => (0, 0, false)
theorem followR_T (bs : List Bnd) (f : Int) (l : List Int) : (followR bs f l).2.2 = (followT bs f l).2.2 ∧ ((followT bs f l).2.2 = true → (followR bs f l) = followT bs f l) := by
  unfold followR followT
  by_cases h0 : l.length = 0
  · rw [if_pos h0]
    have : l = [] := List.length_eq_zero_iff.1 h0
    subst this
    simp [followI]
  · rw [if_neg h0]
    by_cases h6 : 60 < l.length
    · rw [if_pos h6]
      cases h : followI bs f l 0 with
      | none => simp
      | some p => obtain ⟨g, s⟩ := p; simp; omega
    · rw [if_neg h6]
      cases h : followI bs f l 0 with
      | none => simp
      | some p => obtain ⟨g, s⟩ := p; simp; omega
theorem checkChain_ref (b : Btw) (x : Bnd) (l : List Int) : b.checkChain x l = (b.ok && bndOk b.n x && (let r := followR b.bs x.fr l; r.2.2 && r.1 == x.to && decide (r.2.1 ≤ x.mo))) := by
  obtain ⟨h1, h2⟩ := followR_T b.bs x.fr l
  unfold Btw.checkChain
  simp only
  rw [h1]
  cases hT : (followT b.bs x.fr l).2.2 with
  | false => simp
  | true => rw [h2 hT]
/-- whether the variable i shows a round -/
def roundR (b : Btw) (l : List Int) (i : Nat) : Bool := let r := followR b.bs i l; r.2.2 && decide (r.1 = i) && decide (r.2.1 < 0)
theorem follow_first {bs : List Bnd} {f k : Int} {l : List Int} {s : Int} {g r : Int} (h : followI bs f (k :: l) s = some (g, r)) : (0 ≤ k ∧ k < bs.length) ∧ (bs.getD k.toNat default).fr = f := by
  by_cases hk : 0 ≤ k ∧ k < bs.length
  · refine ⟨hk, ?_⟩
    have h1 : k.toNat < bs.length := by omega
    by_cases hf : bs[k.toNat].fr = f
    · simpa [h1] using hf
    · rw [followI_off hk.1 h1 hf] at h; cases h
  · rw [followI_out hk] at h; cases h
theorem checkCycle_ref {b : Btw} {n : Nat} {B : Int} (h : Small b n B) (hok : b.ok = true) {l : List Int} (hl : 0 < l.length) : b.checkCycle l = (List.range n).any (roundR b l) := by
  obtain ⟨k, l', rfl⟩ : ∃ k l', l = k :: l' := by
    cases l with
    | nil => simp at hl
    | cons k l' => exact ⟨k, l', rfl⟩
  rw [Bool.eq_iff_iff]
  simp only [Btw.checkCycle, hok, hl, List.getD_cons_zero, Bool.true_and, decide_true, Bool.and_eq_true, beq_iff_eq, decide_eq_true_eq, List.any_eq_true, List.mem_range, roundR]
  constructor
  · rintro ⟨hin, ⟨h1, h2⟩, h3⟩
    have hin' : 0 ≤ k ∧ k < b.bs.length := by simp [inB] at hin; omega
    have hx : (b.bs.getD k.toNat default) ∈ b.bs := by
      have h9 : k.toNat < b.bs.length := by omega
      simp [h9]
    have hr := (h.ix _ hx).1
    refine ⟨(b.bs.getD k.toNat default).fr.toNat, by omega, ?_⟩
    rw [show (((b.bs.getD k.toNat default).fr.toNat : Nat) : Int) = (b.bs.getD k.toNat default).fr by omega]
    obtain ⟨g1, g2⟩ := followR_T b.bs (b.bs.getD k.toNat default).fr (k :: l')
    rw [g2 h1]
    exact ⟨⟨h1, h2⟩, h3⟩
  · rintro ⟨i, hi, ⟨h1, h2⟩, h3⟩
    obtain ⟨g1, g2⟩ := followR_T b.bs i (k :: l')
    rw [g1] at h1
    rw [g2 h1] at h2 h3
    have hfo : ∃ g s, followI b.bs i (k :: l') 0 = some (g, s) := by
      unfold followT at h1
      cases hf : followI b.bs i (k :: l') 0 with
      | none => rw [hf] at h1; cases h1
      | some p => exact ⟨p.1, p.2, rfl⟩
    obtain ⟨g, s, hf⟩ := hfo
    obtain ⟨f1, f2⟩ := follow_first hf
    refine ⟨by simp [inB]; omega, ?_⟩
    rw [f2]
    exact ⟨⟨h1, h2⟩, h3⟩
end Go.Xe
