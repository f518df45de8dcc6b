/- The plain law of layer 6: what Implied and Cycle return. No program in sight. -/
import Derived.Test.YtlgfpieokaegiaaP7
namespace Go.Xe
theorem natB {b : Btw} {n : Nat} {B : Int} (h : Small b n B) {m : Nat} (hm : m ≤ 100) : (m : Int) * B ≤ 100000000000 := by
  have h1 : (m : Int) * B ≤ 100 * B := Int.mul_le_mul_of_nonneg_right (by omega) h.pos
  have := h.top; omega
/-- what Implied finds -/
theorem Small.implied {b : Btw} {n : Nat} {B : Int} (h : Small b n B) {x : Bnd} (hk : b.keeps x = true) : ∃ (M : Nat) (l : List Int) (s : Int), M < n ∧ b.hits x M = true ∧ (∀ j, j < M → b.hits x j = false) ∧ chainI b.bs b.walk x.to M x.fr x.mo = some l ∧
    (∀ s0, followI b.bs x.fr l s0 = some (x.to, s0 + s)) ∧ s ≤ x.mo ∧ Chain b.bs M x.fr x.to s := by
  simp only [Btw.keeps, Bool.and_eq_true, decide_eq_true_eq] at hk
  obtain ⟨⟨⟨hok, hbx⟩, hf⟩, hd⟩ := hk
  have hn : b.n.toNat = n := by rw [h.num]; rfl
  rw [hn] at hf
  have hxb := bndOk_iff.1 hbx
  rw [h.num] at hxb
  have hreal : Real b.bs n b.dist := by
    rw [dist_stage h.num]
    have h0 := fine_iff.1 (show (stage n (matB mat0 b.bs) n).fine n = true by rw [← dist_stage h.num]; exact hf)
    exact h.real n (Nat.le_refl _) (fun j hj => by
      have h1 := stage_le n (matB mat0 b.bs) j j j (n - j)
      rw [show j + (n - j) = n by omega] at h1
      exact Int.le_trans (h0 j hj) h1)
  obtain ⟨q, hc⟩ := hreal x.fr.toNat x.to.toNat (by omega) (by omega) (by unfold far; omega)
  rw [show ((x.fr.toNat : Nat) : Int) = x.fr by omega, show ((x.to.toNat : Nat) : Int) = x.to by omega] at hc
  obtain ⟨q', r, h1, h2, h3⟩ := hc.short h.ix (fun m v c hv hcc => h.no_round hf m v c hv hcc) q (by omega)
  have hle := h.le
  have hit : ∃ j, b.hits x j = true := by
    rw [show x.fr = ((x.fr.toNat : Nat) : Int) by omega, show x.to = ((x.to.toNat : Nat) : Int) by omega] at h3
    have := (h.exact q' (by omega)).least x.fr.toNat x.to.toNat r (by omega) (by omega) h3
    exact ⟨q', by simp only [Btw.hits, decide_eq_true_eq]; omega⟩
  have hq : b.hits x q' = true := by
    rw [show x.fr = ((x.fr.toNat : Nat) : Int) by omega, show x.to = ((x.to.toNat : Nat) : Int) by omega] at h3
    have := (h.exact q' (by omega)).least x.fr.toNat x.to.toNat r (by omega) (by omega) h3
    simp only [Btw.hits, decide_eq_true_eq]; omega
  have hM := least_spec hit
  generalize Xe.least (fun j => b.hits x j = true) = M at hM
  have hMn : M < n := by have := hM.2 q' hq; omega
  have hw : b.walk M x.fr.toNat x.to.toNat ≤ x.mo := by have := hM.1; simpa [Btw.hits] using this
  have hmB := natB h (m := M) (by omega)
  obtain ⟨l, s, g1, g2, g3, g4⟩ := h.found (to := x.to) (by omega) M x.fr x.mo (by omega) (by omega) hw (by omega)
  refine ⟨M, l, s, hMn, hM.1, fun j hj => ?_, g1, g2, g3, g4⟩
  rw [Bool.eq_false_iff]; intro hh
  have := hM.2 j hh; omega
theorem Btw.steps {b : Btw} (x : Bnd) : b.Steps x := fun hk => by
  have hok : b.ok = true := by simp only [Btw.keeps, Bool.and_eq_true] at hk; exact hk.1.1.1
  obtain ⟨n, h⟩ := Small.of_ok hok
  obtain ⟨M, l, s, h1, h2, h3, h4, _⟩ := h.implied hk
  have := h.le
  exact ⟨M, by omega, h2, h3, l, h4⟩
theorem Small.implied_eq {b : Btw} {n : Nat} {B : Int} (h : Small b n B) {x : Bnd} : b.implied x = if b.keeps x then b.implied x else none := by
  split
  · rfl
  · rename_i hk; simp [Btw.implied, hk]
theorem Small.implied_is {b : Btw} {n : Nat} {B : Int} (h : Small b n B) {x : Bnd} : (b.implied x).isSome = b.keeps x := by
  cases hk : b.keeps x with
  | false => simp [Btw.implied, hk]
  | true =>
    obtain ⟨M, l, s, h1, h2, h3, h4, _⟩ := h.implied hk
    have := h.le
    rw [Btw.implied_some hk (by omega) h2 h3 h4]; rfl
/-- what Cycle finds: a round that no shorter one undercuts -/
theorem Small.cycle {b : Btw} {n : Nat} {B : Int} (h : Small b n B) (hf : b.dist.fine n = false) : ∃ (M k : Nat) (hk : k < b.bs.length) (l : List Int) (s : Int), 0 < M ∧ M ≤ n ∧ (∀ j, j < M → ∀ (i : Nat) (h : i < b.bs.length), b.cycB j b.bs[i] = false) ∧
    b.cycB M b.bs[k] = true ∧ (∀ (i : Nat) (h : i < b.bs.length), i < k → b.cycB M b.bs[i] = false) ∧ chainI b.bs b.walk b.bs[k].fr (M - 1) b.bs[k].to (-1 - b.bs[k].mo) = some l ∧
    (∀ s0, followI b.bs b.bs[k].to l s0 = some (b.bs[k].fr, s0 + s)) ∧ b.bs[k].mo + s < 0 ∧ Chain b.bs (M - 1) b.bs[k].to b.bs[k].fr s ∧ (∀ (q : Nat) (v c : Int), q < M → (0 ≤ v ∧ v < n) → Chain b.bs q v v c → 0 ≤ c) := by
  have hle := h.le
  -- a round of so many bounds shows at a bound
  have shows : ∀ (q : Nat) (v c : Int), 0 < q → q ≤ n → (0 ≤ v ∧ v < n) → c < 0 → Chain b.bs q v v c → b.bs.any (b.cycB q) = true := fun q v c h1 h2 h3 h4 hc => by
    obtain ⟨q, rfl⟩ : ∃ p, q = p + 1 := ⟨q - 1, by omega⟩
    obtain ⟨x, hx, hxf, hc'⟩ := hc.uncons
    have hxr := h.ix x hx
    refine List.any_eq_true.2 ⟨x, hx, ?_⟩
    rw [← hxf] at hc'
    rw [show x.to = ((x.to.toNat : Nat) : Int) by omega, show x.fr = ((x.fr.toNat : Nat) : Int) by omega] at hc'
    obtain ⟨l1, l2⟩ := (h.exact q (by omega)).least _ _ _ (by omega) (by omega) hc'
    simp only [Btw.cycB, Nat.add_sub_cancel, Bool.and_eq_true, decide_eq_true_eq]
    refine ⟨by omega, ?_⟩
    rcases h.plus_walk hx (m := q) (by omega) (show x.to.toNat < n by omega) (show x.fr.toNat < n by omega) with ⟨p, _⟩ | ⟨_, p⟩
    · exact absurd p l1
    · rw [p]; omega
  obtain ⟨q, v, c, h1, h2, h3, h4, h5⟩ := h.has_round hf
  have hex : ∃ j, b.bs.any (b.cycB j) = true := ⟨q, shows q v c h1 h2 h3 h4 h5⟩
  have hM := least_spec hex
  generalize Xe.least (fun j => b.bs.any (b.cycB j) = true) = M at hM
  have hMn : M ≤ n := by have := hM.2 q (shows q v c h1 h2 h3 h4 h5); omega
  have hbef : ∀ j, j < M → ∀ (i : Nat) (h : i < b.bs.length), b.cycB j b.bs[i] = false := fun j hj i hi => by
    rw [Bool.eq_false_iff]; intro hh
    have := hM.2 j (List.any_eq_true.2 ⟨_, List.getElem_mem hi, hh⟩); omega
  cases hfi : b.bs.findIdx? (b.cycB M) with
  | none =>
    obtain ⟨x, hx, hxc⟩ := List.any_eq_true.1 hM.1
    have := List.findIdx?_eq_none_iff.1 hfi x hx
    rw [hxc] at this; cases this
  | some k =>
    obtain ⟨hk, hk1, hk2⟩ := List.findIdx?_eq_some_iff_getElem.1 hfi
    have hkm := List.getElem_mem hk
    have hkr := h.ix _ hkm
    have hkb := h.mo _ hkm
    have hc := hk1
    simp only [Btw.cycB, Bool.and_eq_true, decide_eq_true_eq] at hc
    obtain ⟨hM0, hc⟩ := hc
    have hw : b.walk (M - 1) b.bs[k].to.toNat b.bs[k].fr.toNat ≤ -1 - b.bs[k].mo := by
      rcases h.plus_walk hkm (m := M - 1) (by omega) (show b.bs[k].to.toNat < n by omega) (show b.bs[k].fr.toNat < n by omega) with ⟨_, p⟩ | ⟨_, p⟩
      · rw [p] at hc; unfold far at hc; omega
      · rw [p] at hc; omega
    have hmB := natB h (m := M - 1) (by omega)
    have htop := h.top
    obtain ⟨l, s, g1, g2, g3, g4⟩ := h.found (to := b.bs[k].fr) hkr.1 (M - 1) b.bs[k].to (-1 - b.bs[k].mo) (by omega) hkr.2 hw (by omega)
    refine ⟨M, k, hk, l, s, hM0, hMn, hbef, hk1, fun i hi hik => by simpa using hk2 i hik, g1, g2, by omega, g4, fun q v c hq hv hcc => ?_⟩
    rcases Int.lt_or_le c 0 with hlt | hge
    · rcases Nat.eq_zero_or_pos q with h0 | h0
      · subst h0; have := hcc.zero; omega
      · have := hM.2 q (shows q v c h0 (by omega) hv hlt hcc); omega
    · exact hge
theorem Btw.csteps {b : Btw} : b.CSteps := fun hok hf => by
  obtain ⟨n, h⟩ := Small.of_ok hok
  have hn : b.n.toNat = n := by rw [h.num]; rfl
  rw [hn] at hf
  obtain ⟨M, k, hk, l, s, h1, h2, h3, h4, h5, h6, _⟩ := h.cycle hf
  have := h.le
  exact ⟨M, k, hk, l, h1, by omega, h3, h4, h5, h6⟩
/-- whatever chain is followed is one -/
theorem follow_chain {bs : List Bnd} : ∀ {l : List Int} {f s g r : Int}, followI bs f l s = some (g, r) → Chain bs l.length f g (r - s)
  | [], f, s, g, r, h => by
    simp only [followI, Option.some.injEq, Prod.mk.injEq] at h
    obtain ⟨rfl, rfl⟩ := h
    simpa using Chain.nil f
  | k :: l, f, s, g, r, h => by
    rw [followI] at h
    split at h
    · rename_i hk
      split at h
      · rename_i hfr
        have := follow_chain h
        have := Chain.cons _ (List.getElem_mem hk.2) this
        rw [hfr] at this
        simp only [List.length_cons]
        rw [show r - s = bs[k.toNat].mo + (r - (s + bs[k.toNat].mo)) by omega]
        exact this
      · cases h
    · cases h
end Go.Xe
