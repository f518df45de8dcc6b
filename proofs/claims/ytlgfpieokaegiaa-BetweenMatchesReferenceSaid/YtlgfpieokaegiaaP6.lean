/- The plain law of layer 6: the tables of least sums are exact; chains are found. No program in sight. -/
import Derived.Test.YtlgfpieokaegiaaP5
namespace Go.Xe
/-! one row, one bound; all bounds -/
theorem walkRow_at (n : Nat) (D : Mat) (x : Bnd) (E : Mat) (a b : Nat) : walkRow n D x E a b = if a < n ∧ b = x.to.toNat then min (E a b) (plusW (D a x.fr.toNat) x.mo) else E a b := by
  unfold walkRow
  suffices h : ∀ q, q ≤ n → (List.range q).foldl (fun E i => E.upd i x.to.toNat (min (E i x.to.toNat) (plusW (D i x.fr.toNat) x.mo))) E a b = if a < q ∧ b = x.to.toNat then min (E a b) (plusW (D a x.fr.toNat) x.mo) else E a b from h n (Nat.le_refl _)
  intro q
  induction q with
  | zero => intro _; simp
  | succ q ih =>
    intro hq
    have ih := ih (by omega)
    rw [foldl_range_succ]
    simp only [Mat.upd]
    by_cases ha : a = q
    · subst ha
      by_cases hb : b = x.to.toNat
      · subst hb
        rw [if_pos ⟨rfl, rfl⟩, if_pos ⟨by omega, rfl⟩]
        rw [if_neg (by omega)] at ih
        rw [ih]
      · rw [if_neg (by simp [hb]), ih, if_neg (by simp [hb]), if_neg (by simp [hb])]
    · rw [if_neg (by simp [ha]), ih]
      by_cases haq : a < q ∧ b = x.to.toNat
      · rw [if_pos haq, if_pos ⟨by omega, haq.2⟩]
      · rw [if_neg haq, if_neg (by omega)]
theorem walkFold (n : Nat) (D : Mat) (a b : Nat) (ha : a < n) : ∀ (bs : List Bnd) (E : Mat),
    let G := bs.foldl (fun E x => walkRow n D x E) E a b
    G ≤ E a b ∧ (∀ x ∈ bs, x.to.toNat = b → G ≤ plusW (D a x.fr.toNat) x.mo) ∧ (G = E a b ∨ ∃ x ∈ bs, x.to.toNat = b ∧ G = plusW (D a x.fr.toNat) x.mo)
  | [], E => ⟨Int.le_refl _, fun x hx => (by cases hx), .inl rfl⟩
  | x :: bs, E => by
    obtain ⟨h1, h2, h3⟩ := walkFold n D a b ha bs (walkRow n D x E)
    have hr := walkRow_at n D x E a b
    simp only [List.foldl_cons]
    generalize bs.foldl (fun E x => walkRow n D x E) (walkRow n D x E) a b = G at h1 h2 h3
    by_cases hb : b = x.to.toNat
    · rw [if_pos ⟨ha, hb⟩] at hr
      have hm1 : G ≤ E a b := by rw [hr] at h1; exact Int.le_trans h1 (Int.min_le_left ..)
      have hm2 : G ≤ plusW (D a x.fr.toNat) x.mo := by rw [hr] at h1; exact Int.le_trans h1 (Int.min_le_right ..)
      refine ⟨hm1, fun y hy hyb => ?_, ?_⟩
      · rcases List.mem_cons.1 hy with rfl | hy
        · exact hm2
        · exact h2 y hy hyb
      · rcases h3 with h3 | ⟨y, hy, hyb, h3⟩
        · rcases Int.le_total (E a b) (plusW (D a x.fr.toNat) x.mo) with h | h
          · exact .inl (by omega)
          · exact .inr ⟨x, List.mem_cons_self .., hb.symm, by omega⟩
        · exact .inr ⟨y, List.mem_cons_of_mem _ hy, hyb, h3⟩
    · rw [if_neg (by simp [hb])] at hr
      refine ⟨by rw [hr] at h1; exact h1, fun y hy hyb => ?_, ?_⟩
      · rcases List.mem_cons.1 hy with rfl | hy
        · exact absurd hyb.symm hb
        · exact h2 y hy hyb
      · rcases h3 with h3 | ⟨y, hy, hyb, h3⟩
        · exact .inl (by omega)
        · exact .inr ⟨y, List.mem_cons_of_mem _ hy, hyb, h3⟩

/-- the table of least sums of chains of just so many bounds -/
structure Exact (b : Btw) (n : Nat) (B : Int) (j : Nat) (D : Mat) : Prop where
  bd : ∀ i k : Nat, i < n → k < n → Bd (j * B) (D i k)
  real : ∀ i k : Nat, i < n → k < n → D i k ≠ far → Chain b.bs j i k (D i k)
  least : ∀ (i k : Nat) (s : Int), i < n → k < n → Chain b.bs j i k s → D i k ≠ far ∧ D i k ≤ s
theorem Chain.unsnoc {bs : List Bnd} : ∀ {m : Nat} {f t s : Int}, Chain bs (m + 1) f t s → ∃ x ∈ bs, x.to = t ∧ Chain bs m f x.fr (s - x.mo)
  | 0, f, t, s, h => by
    obtain ⟨x, hx, h1, h2⟩ := h.uncons
    obtain ⟨h3, h4⟩ := h2.zero
    exact ⟨x, hx, h3, by rw [← h1, h4]; exact .nil _⟩
  | m + 1, f, t, s, h => by
    obtain ⟨x, hx, h1, h2⟩ := h.uncons
    obtain ⟨y, hy, h3, h4⟩ := h2.unsnoc
    refine ⟨y, hy, h3, ?_⟩
    have := Chain.cons x hx h4
    rw [h1, show x.mo + (s - x.mo - y.mo) = s - y.mo by omega] at this
    exact this
theorem Small.exact {b : Btw} {n : Nat} {B : Int} (h : Small b n B) : ∀ j, j ≤ 100 → Exact b n B j (b.walk j)
  | 0, _ => by
    refine ⟨fun i k _ _ => ?_, fun i k _ _ hne => ?_, fun i k s _ _ hc => ?_⟩
    · simp only [Btw.walk, mat0, Bd]; split <;> simp
    · simp only [Btw.walk, mat0] at hne ⊢
      split at hne
      · rename_i e; subst e; simpa using Chain.nil (bs := b.bs) (i : Int)
      · exact absurd rfl hne
    · obtain ⟨h1, h2⟩ := hc.zero
      have : i = k := by omega
      subst this
      simp [Btw.walk, mat0, h2, far]
  | j + 1, hj => by
    have ih := h.exact j (by omega)
    have hjB : (j : Int) * B ≤ 100 * 1000000000 := by
      have h1 : (j : Int) * B ≤ 100 * B := Int.mul_le_mul_of_nonneg_right (by omega) h.pos
      have := h.top; omega
    have hj0 : 0 ≤ (j : Int) * B := Int.mul_nonneg (by omega) h.pos
    have e1 : ((j + 1 : Nat) : Int) * B = j * B + B := by rw [Int.natCast_add, Int.add_mul]; simp
    have hn : b.n.toNat = n := by rw [h.num]; rfl
    have hw : b.walk (j + 1) = walkStep n b.bs (b.walk j) := by show walkStep b.n.toNat b.bs (b.walk j) = _; rw [hn]
    rw [hw]
    have fold := fun i k (hi : i < n) => walkFold n (b.walk j) i k hi b.bs matFar
    -- a sum by one more bound
    have plus : ∀ (i : Nat) (x : Bnd), i < n → x ∈ b.bs → (b.walk j i x.fr.toNat = far ∧ plusW (b.walk j i x.fr.toNat) x.mo = far) ∨ (b.walk j i x.fr.toNat ≠ far ∧ plusW (b.walk j i x.fr.toNat) x.mo = b.walk j i x.fr.toNat + x.mo ∧ -(j * B + B) ≤ plusW (b.walk j i x.fr.toNat) x.mo ∧ plusW (b.walk j i x.fr.toNat) x.mo ≤ j * B + B) := fun i x hi hx => by
      have h1 := ih.bd i x.fr.toNat hi (by have := (h.ix x hx).1; omega)
      have h2 := h.mo x hx
      have h3 := h.top
      have h4 : plusW (b.walk j i x.fr.toNat) x.mo = plusI (b.walk j i x.fr.toNat) x.mo := plusW_eq (B := j * B + B) (by omega) (h1.mono (by have := h.pos; omega)) (.inr (by omega))
      rw [h4]
      unfold plusI Bd far at *
      by_cases hf : b.walk j i x.fr.toNat = 1152921504606846976
      · exact .inl ⟨hf, by rw [if_pos (.inl hf)]⟩
      · refine .inr ⟨hf, ?_⟩
        rw [if_neg (by omega)]; omega
    refine ⟨fun i k hi hk => ?_, fun i k hi hk hne => ?_, fun i k s hi hk hc => ?_⟩
    · obtain ⟨_, _, h3⟩ := fold i k hi
      rw [e1]
      rcases h3 with h3 | ⟨x, hx, hxb, h3⟩
      · exact .inl h3
      · rcases plus i x hi hx with ⟨_, p⟩ | ⟨_, _, p, q⟩
        · exact .inl (h3.trans p)
        · refine .inr ?_
          rw [show walkStep n b.bs (b.walk j) i k = _ from h3]; exact ⟨p, q⟩
    · obtain ⟨_, _, h3⟩ := fold i k hi
      rcases h3 with h3 | ⟨x, hx, hxb, h3⟩
      · exact absurd h3 hne
      · have h3 : walkStep n b.bs (b.walk j) i k = plusW (b.walk j i x.fr.toNat) x.mo := h3
        rcases plus i x hi hx with ⟨_, p⟩ | ⟨p, q, _, _⟩
        · exact absurd (h3.trans p) hne
        · obtain ⟨⟨a1, a2⟩, a3, a4⟩ := h.ix x hx
          have c1 := ih.real i x.fr.toNat hi (by omega) p
          rw [show ((x.fr.toNat : Nat) : Int) = x.fr by omega] at c1
          have c2 := c1.append (Chain.one hx)
          rw [h3, q, show ((k : Nat) : Int) = x.to by omega]
          exact c2
    · obtain ⟨h1, h2, _⟩ := fold i k hi
      obtain ⟨x, hx, e, hc'⟩ := hc.unsnoc
      obtain ⟨⟨a1, a2⟩, a3, a4⟩ := h.ix x hx
      rw [show x.fr = ((x.fr.toNat : Nat) : Int) by omega] at hc'
      obtain ⟨l1, l2⟩ := ih.least i x.fr.toNat _ hi (by omega) hc'
      have l3 := h2 x hx (by omega)
      have l3 : walkStep n b.bs (b.walk j) i k ≤ _ := l3
      have h5 := h.top
      rcases plus i x hi hx with ⟨p, _⟩ | ⟨_, q, r1, r2⟩
      · exact absurd p l1
      · unfold far; omega
end Go.Xe
