/- The plain law of layer 6: distances are sums of chains; a chain that shows a bound, and a least contradiction, are found. No program in sight. -/
import Derived.Test.YtlgfpieokaegiaaP6
namespace Go.Xe
def Real (bs : List Bnd) (n : Nat) (D : Mat) : Prop := ∀ i k : Nat, i < n → k < n → D i k ≠ far → ∃ q, Chain bs q i k (D i k)
theorem real_mat0 (bs : List Bnd) (n : Nat) : Real bs n mat0 := fun i k _ _ h => by
  unfold mat0 at h ⊢
  split at h
  · rename_i e; subst e; rw [if_pos rfl]; exact ⟨0, Chain.nil _⟩
  · exact absurd rfl h
theorem real_matB {bs : List Bnd} {n : Nat} (hx : ∀ x ∈ bs, (0 ≤ x.fr ∧ x.fr < n) ∧ (0 ≤ x.to ∧ x.to < n)) : ∀ (cs : List Bnd) (D : Mat), (∀ x ∈ cs, x ∈ bs) → Real bs n D → Real bs n (matB D cs)
  | [], D, _, h => h
  | x :: cs, D, hc, h => by
    rw [matB_cons]
    refine real_matB hx cs _ (fun y hy => hc y (List.mem_cons_of_mem _ hy)) (fun i k hi hk hne => ?_)
    simp only [Mat.upd] at hne ⊢
    split
    · rename_i e; obtain ⟨rfl, rfl⟩ := e
      rw [if_pos ⟨rfl, rfl⟩] at hne
      have hxm := hc x (List.mem_cons_self ..)
      obtain ⟨⟨a1, _⟩, a3, _⟩ := hx x hxm
      rcases Int.le_total (D x.fr.toNat x.to.toNat) x.mo with e | e
      · rw [Int.min_eq_left e] at hne ⊢; exact h _ _ hi hk hne
      · rw [Int.min_eq_right e] at hne ⊢
        refine ⟨1, ?_⟩
        rw [show ((x.fr.toNat : Nat) : Int) = x.fr by omega, show ((x.to.toNat : Nat) : Int) = x.to by omega]
        exact Chain.one hxm
    · rename_i e; rw [if_neg e] at hne; exact h i k hi hk hne
theorem pow_B {m : Nat} {B : Int} (hm : m ≤ 16) (hB0 : 0 ≤ B) (hB : B ≤ 1000000000) : (2 : Int) ^ m * B ≤ 250000000000000000 := by have := two_pow_le hm hB0 hB; omega
theorem Small.real {b : Btw} {n : Nat} {B : Int} (h : Small b n B) : ∀ m, m ≤ n → (∀ j, j < m → 0 ≤ stage n (matB mat0 b.bs) j j j) → Real b.bs n (stage n (matB mat0 b.bs) m)
  | 0, _, _ => by
    show Real b.bs n (stage n (matB mat0 b.bs) 0)
    exact real_matB h.ix b.bs mat0 (fun x hx => hx) (real_mat0 _ _)
  | m + 1, hm, hj => by
    have ih := h.real m (by omega) (fun j hlt => hj j (by omega))
    have hs := stages h.le h.pos h.top h.first m (by omega) (fun j hlt => hj j (by omega))
    have h0 := hj m (by omega)
    have hp := pow_B (m := m) (by have := h.le; omega) h.pos h.top
    intro i k hi hk hne
    rw [stage_succ] at hne ⊢
    rw [fwM_form (by omega) (by omega) hs.bd h0 hi hk] at hne ⊢
    obtain ⟨_, _, h3⟩ := min_plus hp (hs.bd i k hi hk) (hs.bd i m hi (by omega)) (hs.bd m k (by omega) hk)
    rcases h3 with e | ⟨e1, e2, e⟩
    · rw [e] at hne ⊢; exact ih i k hi hk hne
    · rw [e]
      obtain ⟨q1, c1⟩ := ih i m hi (by omega) e1
      obtain ⟨q2, c2⟩ := ih m k (by omega) hk e2
      exact ⟨_, c1.append c2⟩
/-- no chain is shorter than the distance -/
theorem Small.chain_ge {b : Btw} {n : Nat} {B : Int} (h : Small b n B) (hf : b.dist.fine n = true) {m : Nat} {f t s : Int} (hc : Chain b.bs m f t s) (hr : 0 ≤ f ∧ f < n) : b.dist f.toNat t.toNat ≠ far ∧ b.dist f.toNat t.toNat ≤ s := by
  obtain ⟨hk, hb⟩ := h.keeps hf
  have hp := two_pow_le h.le h.pos h.top
  induction hc with
  | nil f => have := hk.zero f.toNat (by omega); unfold far; omega
  | @cons m t s x hx hc ih =>
    obtain ⟨⟨a1, a2⟩, a3, a4⟩ := h.ix x hx
    obtain ⟨i1, i2⟩ := ih ⟨a3, a4⟩
    have ht := hc.to_range h.ix ⟨a3, a4⟩
    have h1 := hk.tri x.fr.toNat t.toNat x.to.toNat (by omega) (by omega) (by omega)
    have h2 := hk.mo x hx
    have h3 := h.mo x hx
    have h4 := h.top
    have h5 := hb x.to.toNat t.toNat (by omega) (by omega)
    have h6 := hb x.fr.toNat x.to.toNat (by omega) (by omega)
    unfold LeP Bd far at *
    omega
theorem Small.no_round {b : Btw} {n : Nat} {B : Int} (h : Small b n B) (hf : b.dist.fine n = true) (m : Nat) (v c : Int) (hv : 0 ≤ v ∧ v < n) (hc : Chain b.bs m v v c) : 0 ≤ c := by
  have h1 := h.chain_ge hf hc hv
  have h2 := ((h.keeps hf).1.zero v.toNat (by omega)).1
  omega
/-- a contradiction is a negative round -/
theorem Small.has_round {b : Btw} {n : Nat} {B : Int} (h : Small b n B) (hf : b.dist.fine n = false) : ∃ (q : Nat) (v c : Int), 0 < q ∧ q ≤ n ∧ (0 ≤ v ∧ v < n) ∧ c < 0 ∧ Chain b.bs q v v c := by
  have key : ∃ (m i : Nat), m ≤ n ∧ i < n ∧ stage n (matB mat0 b.bs) m i i < 0 ∧ ∀ j, j < m → 0 ≤ stage n (matB mat0 b.bs) j j j := by
    by_cases hall : ∃ j, j < n ∧ stage n (matB mat0 b.bs) j j j < 0
    · obtain ⟨⟨h1, h2⟩, h3⟩ := least_spec hall
      refine ⟨_, _, Nat.le_of_lt h1, h1, h2, fun j hj => ?_⟩
      rcases Int.lt_or_le (stage n (matB mat0 b.bs) j j j) 0 with hlt | hle
      · have := h3 j ⟨by omega, hlt⟩; omega
      · exact hle
    · rw [dist_stage h.num] at hf
      have : ∃ i, i < n ∧ stage n (matB mat0 b.bs) n i i < 0 := by
        apply Classical.byContradiction; intro hno
        have : (stage n (matB mat0 b.bs) n).fine n = true := fine_iff.2 fun i hi => by
          rcases Int.lt_or_le (stage n (matB mat0 b.bs) n i i) 0 with hlt | hle
          · exact absurd ⟨i, hi, hlt⟩ hno
          · exact hle
        rw [this] at hf; cases hf
      obtain ⟨i, hi, hlt⟩ := this
      refine ⟨n, i, Nat.le_refl _, hi, hlt, fun j hj => ?_⟩
      rcases Int.lt_or_le (stage n (matB mat0 b.bs) j j j) 0 with hlt | hle
      · exact absurd ⟨j, hj, hlt⟩ hall
      · exact hle
  obtain ⟨m, i, hm, hi, hlt, hj⟩ := key
  obtain ⟨q, hc⟩ := h.real m hm hj i i hi hi (by unfold far; omega)
  obtain ⟨q', v, c, h1, h2, _, h4, h5, h6⟩ := hc.round h.ix q (by omega) hlt
  exact ⟨q', v, c, h1, h2, h4, h5, h6⟩
theorem Small.fine_of {b : Btw} {n : Nat} {B : Int} (h : Small b n B) (hno : ∀ (q : Nat) (v c : Int), q ≤ n → (0 ≤ v ∧ v < n) → Chain b.bs q v v c → 0 ≤ c) : b.dist.fine n = true := by
  cases hf : b.dist.fine n with
  | true => rfl
  | false =>
    obtain ⟨q, v, c, _, h2, h3, h4, h5⟩ := h.has_round hf
    have := hno q v c h2 h3 h5
    omega

/-! chains, found -/
theorem Small.plus_walk {b : Btw} {n : Nat} {B : Int} (h : Small b n B) {x : Bnd} (hx : x ∈ b.bs) {m i k : Nat} (hm : m ≤ 100) (hi : i < n) (hk : k < n) :
    (b.walk m i k = far ∧ plusW x.mo (b.walk m i k) = far) ∨ (b.walk m i k ≠ far ∧ plusW x.mo (b.walk m i k) = x.mo + b.walk m i k) := by
  have he := h.exact m hm
  have h1 := he.bd i k hi hk
  have h2 := h.mo x hx
  have h3 := h.top
  have hjB : (m : Int) * B ≤ 100 * 1000000000 := by
    have h1 : (m : Int) * B ≤ 100 * B := Int.mul_le_mul_of_nonneg_right (by omega) h.pos
    omega
  have hj0 : 0 ≤ (m : Int) * B := Int.mul_nonneg (by omega) h.pos
  have h4 : plusW x.mo (b.walk m i k) = plusI x.mo (b.walk m i k) := plusW_eq (B := m * B + B) (by omega) (.inr (by omega)) (h1.mono (by have := h.pos; omega))
  rw [h4]
  unfold plusI far at *
  by_cases hf : b.walk m i k = 1152921504606846976
  · exact .inl ⟨hf, by rw [if_pos (.inr hf)]⟩
  · exact .inr ⟨hf, by rw [if_neg (by omega)]⟩
theorem Small.found {b : Btw} {n : Nat} {B : Int} (h : Small b n B) {to : Int} (ht : 0 ≤ to ∧ to < n) : ∀ (m : Nat) (f most : Int), m ≤ 100 → (0 ≤ f ∧ f < n) → b.walk m f.toNat to.toNat ≤ most → most ≤ 100000000000000000 - m * B →
    ∃ l s, chainI b.bs b.walk to m f most = some l ∧ (∀ s0, followI b.bs f l s0 = some (to, s0 + s)) ∧ s ≤ most ∧ Chain b.bs m f to s
  | 0, f, most, _, hf, hw, hmo => by
    refine ⟨[], 0, rfl, fun s0 => ?_, ?_, ?_⟩
    · have : f = to := by
        simp only [Btw.walk, mat0] at hw
        split at hw
        · omega
        · unfold far at hw; simp at hmo; omega
      simp [followI, this]
    · simp only [Btw.walk, mat0] at hw
      split at hw
      · exact hw
      · unfold far at hw; simp at hmo; omega
    · have : f = to := by
        simp only [Btw.walk, mat0] at hw
        split at hw
        · omega
        · unfold far at hw; simp at hmo; omega
      subst this; exact .nil f
  | m + 1, f, most, hm, hf, hw, hmo => by
    have e1 : ((m + 1 : Nat) : Int) * B = m * B + B := by rw [Int.natCast_add, Int.add_mul]; simp
    rw [e1] at hmo
    have hB := h.pos
    have hmB : 0 ≤ (m : Int) * B := Int.mul_nonneg (by omega) h.pos
    have he := h.exact (m + 1) hm
    have he' := h.exact m (by omega)
    have hne : b.walk (m + 1) f.toNat to.toNat ≠ far := by unfold far; omega
    have hc := he.real f.toNat to.toNat (by omega) (by omega) hne
    rw [show ((f.toNat : Nat) : Int) = f by omega, show ((to.toNat : Nat) : Int) = to by omega] at hc
    obtain ⟨x, hx, hxf, hc'⟩ := hc.uncons
    have hxr := h.ix x hx
    rw [show x.to = ((x.to.toNat : Nat) : Int) by omega, show to = ((to.toNat : Nat) : Int) by omega] at hc'
    obtain ⟨l1, l2⟩ := he'.least x.to.toNat to.toNat _ (by omega) (by omega) hc'
    simp only [Int.toNat_natCast] at l2
    have hstep : stepB b.walk to m f most x = true := by
      simp only [stepB, hxf, decide_true, Bool.true_and, decide_eq_true_eq]
      rcases h.plus_walk hx (m := m) (by omega) (show x.to.toNat < n by omega) (show to.toNat < n by omega) with ⟨p, _⟩ | ⟨_, p⟩
      · exact absurd p l1
      · rw [p]; omega
    cases hfi : b.bs.findIdx? (stepB b.walk to m f most) with
    | none =>
      have := List.findIdx?_eq_none_iff.1 hfi x hx
      rw [hstep] at this; cases this
    | some k =>
      obtain ⟨hk, hk1, hk2⟩ := List.findIdx?_eq_some_iff_getElem.1 hfi
      have hkm := List.getElem_mem hk
      have hkr := h.ix _ hkm
      have hkb := h.mo _ hkm
      simp only [stepB, Bool.and_eq_true, decide_eq_true_eq] at hk1
      obtain ⟨g1, g2⟩ := hk1
      have hnx : b.walk m b.bs[k].to.toNat to.toNat ≤ most - b.bs[k].mo := by
        rcases h.plus_walk hkm (m := m) (by omega) (show b.bs[k].to.toNat < n by omega) (show to.toNat < n by omega) with ⟨_, p⟩ | ⟨_, p⟩
        · rw [p] at g2; unfold far at g2; omega
        · rw [p] at g2; omega
      obtain ⟨l, s, q1, q2, q3, q4⟩ := h.found ht m b.bs[k].to (most - b.bs[k].mo) (by omega) hkr.2 hnx (by omega)
      have e : b.bs.getD k default = b.bs[k] := by simp [hk]
      refine ⟨(k : Int) :: l, b.bs[k].mo + s, ?_, fun s0 => ?_, by omega, ?_⟩
      · rw [chainI, hfi]; simp only [e, q1]; rfl
      · rw [followI_step (k := (k : Int)) (by omega) (by simpa using hk) (by simpa using g1)]
        simp only [Int.toNat_natCast]
        rw [q2]; congr 2; omega
      · rw [← g1]; exact Chain.cons _ hkm q4
end Go.Xe
