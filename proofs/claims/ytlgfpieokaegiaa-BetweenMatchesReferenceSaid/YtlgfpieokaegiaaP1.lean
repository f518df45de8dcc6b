/- The plain law of layer 6: what the distances are. No program in sight. -/
import Derived.Test.YtlgfpieokaegiaaXD
namespace Go.Xe
/-! sums with far -/
def Bd (B : Int) (x : Int) : Prop := x = far ∨ (-B ≤ x ∧ x ≤ B)
theorem plusW_eq {B a b : Int} (hB : B ≤ 500000000000000000) (ha : Bd B a) (hb : Bd B b) : plusW a b = plusI a b := by
  unfold plusW plusI Bd far at *
  split
  · rfl
  · rw [wrap_in]; omega
theorem plusI_bd {B a b : Int} (hB : B ≤ 500000000000000000) (ha : Bd B a) (hb : Bd B b) : Bd (2 * B) (plusI a b) := by
  unfold plusI Bd far at *
  split <;> omega
theorem Bd.mono {B C x : Int} (h : Bd B x) (hC : B ≤ C) : Bd C x := by unfold Bd at *; omega
theorem Bd.min {B a b : Int} (hB : B ≤ 1000000000000000000) (ha : Bd B a) (hb : Bd B b) : Bd B (Min.min a b) := by
  unfold Bd far at *
  rw [Int.min_def]; split <;> omega
theorem Bd.le_far {B x : Int} (hB : B ≤ 1000000000000000000) (h : Bd B x) : x ≤ far := by unfold Bd far at *; omega

section
variable {n : Nat} {B : Int}
def BdM (n : Nat) (B : Int) (D : Mat) : Prop := ∀ i k, i < n → k < n → Bd B (D i k)
/-- one row, where the way round by m does not get shorter -/
theorem fwRow_exact {m i : Nat} {thr : Nat → Int} {D : Mat} (hm : m < n) (hi : i < n) (hB : B ≤ 500000000000000000) (hD : BdM n B D) (ht : ∀ k, k < n → Bd B (thr k)) (h0 : 0 ≤ thr m) :
    ∀ q, q ≤ n → ∀ a b, (List.range q).foldl (fun D k => D.upd i k (min (D i k) (plusW (D i m) (thr k)))) D a b = if a = i ∧ b < q then min (D i b) (plusI (D i m) (thr b)) else D a b := by
  intro q
  induction q with
  | zero => intro _ a b; simp
  | succ q ih =>
    intro hq a b
    have ih := ih (by omega)
    rw [foldl_range_succ]
    generalize (List.range q).foldl (fun D k => D.upd i k (min (D i k) (plusW (D i m) (thr k)))) D = E at ih
    have e1 : E i q = D i q := by rw [ih]; rw [if_neg (by omega)]
    have e2 : E i m = D i m := by
      rw [ih]
      by_cases hmq : m < q
      · rw [if_pos ⟨rfl, hmq⟩]
        have h1 := hD i m hi hm
        have h2 := ht m hm
        unfold plusI Bd far at *
        rw [Int.min_def]; split <;> (try split at *) <;> omega
      · rw [if_neg (by omega)]
    simp only [Mat.upd, e1, e2]
    rw [plusW_eq hB (hD i m hi hm) (ht q (by omega))]
    by_cases ha : a = i
    · subst ha
      by_cases hb : b = q
      · subst hb; simp
      · rw [if_neg (by simp [hb]), ih]
        by_cases hbq : b < q
        · rw [if_pos ⟨rfl, hbq⟩, if_pos ⟨rfl, by omega⟩]
        · rw [if_neg (by omega), if_neg (by omega)]
    · rw [if_neg (by simp [ha]), ih, if_neg (by simp [ha]), if_neg (by simp [ha])]
/-- one stage -/
theorem fwM_exact {m : Nat} {D : Mat} (hm : m < n) (hB : B ≤ 500000000000000000) (hD : BdM n B D) (h0 : 0 ≤ D m m) :
    ∀ q, q ≤ n → ∀ a b, (List.range q).foldl (fun E i => fwRow m (D m) i n E) D a b = if a < q ∧ b < n then min (D a b) (plusI (D a m) (D m b)) else D a b := by
  intro q
  induction q with
  | zero => intro _ a b; simp
  | succ q ih =>
    intro hq a b
    have ih := ih (by omega)
    rw [foldl_range_succ]
    generalize (List.range q).foldl (fun E i => fwRow m (D m) i n E) D = E at ih
    have eq : ∀ b, E q b = D q b := fun b => by rw [ih, if_neg (by omega)]
    -- the row q of E is still that of D
    have key : ∀ a b, fwRow m (D m) q n E a b = if a = q ∧ b < n then min (D q b) (plusI (D q m) (D m b)) else E a b := by
      intro a b
      have hrow := fwRow_exact (n := n) (B := B) (m := m) (i := q) (thr := D m) (D := fun a' b' => if a' = q then D q b' else D a' b') hm (by omega) hB (fun i k hi hk => by simp only; split; exact hD q k (by omega) hk; exact hD i k hi hk) (fun k hk => hD m k hm hk) h0 n (Nat.le_refl _)
      -- only row q matters
      have gen : ∀ r, r ≤ n → ∀ (E1 E2 : Mat), (∀ b, E1 q b = E2 q b) → (∀ b, (List.range r).foldl (fun D' k => Mat.upd D' q k (min (D' q k) (plusW (D' q m) (D m k)))) E1 q b = (List.range r).foldl (fun D' k => Mat.upd D' q k (min (D' q k) (plusW (D' q m) (D m k)))) E2 q b) ∧
          (∀ a b, a ≠ q → (List.range r).foldl (fun D' k => Mat.upd D' q k (min (D' q k) (plusW (D' q m) (D m k)))) E1 a b = E1 a b) := by
        intro r
        induction r with
        | zero => intro _ E1 E2 h; exact ⟨h, fun _ _ _ => rfl⟩
        | succ r ihr =>
          intro hr E1 E2 h
          obtain ⟨h1, h2⟩ := ihr (by omega) E1 E2 h
          rw [foldl_range_succ, foldl_range_succ]
          generalize (List.range r).foldl _ E1 = F1 at h1 h2
          generalize (List.range r).foldl _ E2 = F2 at h1
          refine ⟨fun b => ?_, fun a b ha => ?_⟩
          · simp only [Mat.upd, h1]
          · simp only [Mat.upd]; rw [if_neg (by simp [ha])]; exact h2 a b ha
      obtain ⟨g1, g2⟩ := gen n (Nat.le_refl _) E (fun a' b' => if a' = q then D q b' else D a' b') (fun b => by simp [eq])
      by_cases ha : a = q
      · subst ha
        show (List.range n).foldl (fun D' k => Mat.upd D' a k (min (D' a k) (plusW (D' a m) (D m k)))) E a b = _
        rw [g1 b, hrow a b]
        simp [eq]
      · rw [if_neg (by simp [ha])]; exact g2 a b ha
    rw [key]
    by_cases ha : a = q
    · subst ha
      by_cases hb : b < n
      · rw [if_pos ⟨rfl, hb⟩, if_pos ⟨by omega, hb⟩]
      · rw [if_neg (by omega), if_neg (by omega)]; exact eq b
    · rw [if_neg (by simp [ha]), ih]
      by_cases haq : a < q ∧ b < n
      · rw [if_pos haq, if_pos ⟨by omega, haq.2⟩]
      · rw [if_neg haq, if_neg (by omega)]
end
end Go.Xe
namespace Go.Xe
/-- a value is no greater than a sum with far -/
def LeP (x a b : Int) : Prop := a = far ∨ b = far ∨ x ≤ a + b
theorem tri_step {B ik im mk ij jk mj jm mm ik' ij' jk' : Int} (hB : B ≤ 250000000000000000) (b2 : Bd B im) (b3 : Bd B mk) (b4 : Bd B ij) (b5 : Bd B jk) (b6 : Bd B mj) (b7 : Bd B jm)
    (h1 : LeP ik ij jk) (h2 : LeP im ij jm) (h3 : LeP mk mj jk) (h4 : LeP mm mj jm) (h0 : 0 ≤ mm) (i1 : ik' ≤ ik) (i2 : LeP ik' im mk)
    (j1 : ij' = ij ∨ (im ≠ far ∧ mj ≠ far ∧ ij' = im + mj)) (k1 : jk' = jk ∨ (jm ≠ far ∧ mk ≠ far ∧ jk' = jm + mk)) : LeP ik' ij' jk' := by
  unfold LeP Bd far at *
  rcases j1 with rfl | ⟨j1, j2, rfl⟩ <;> rcases k1 with rfl | ⟨k1, k2, rfl⟩ <;> omega
def Tri (n m : Nat) (D : Mat) : Prop := ∀ i k j, i < n → k < n → j < m → LeP (D i k) (D i j) (D j k)
/-- the entry behind a stage -/
theorem min_plus {B x a b : Int} (hB : B ≤ 250000000000000000) (hx : Bd B x) (ha : Bd B a) (hb : Bd B b) :
    min x (plusI a b) ≤ x ∧ LeP (min x (plusI a b)) a b ∧ (min x (plusI a b) = x ∨ (a ≠ far ∧ b ≠ far ∧ min x (plusI a b) = a + b)) := by
  unfold LeP plusI Bd far at *
  rw [Int.min_def]
  split <;> split at * <;> omega
theorem fwM_form {n m : Nat} {B : Int} {D : Mat} (hm : m < n) (hB : B ≤ 500000000000000000) (hD : BdM n B D) (h0 : 0 ≤ D m m) {a b : Nat} (ha : a < n) (hb : b < n) : fwM n D m a b = min (D a b) (plusI (D a m) (D m b)) := by
  unfold fwM
  rw [fwM_exact hm hB hD h0 n (Nat.le_refl _), if_pos ⟨ha, hb⟩]
theorem fwM_bd {n m : Nat} {B : Int} {D : Mat} (hm : m < n) (hB : B ≤ 250000000000000000) (hD : BdM n B D) (h0 : 0 ≤ D m m) (hB0 : 0 ≤ B) : BdM n (2 * B) (fwM n D m) := fun a b ha hb => by
  rw [fwM_form hm (by omega) hD h0 ha hb]
  exact Bd.min (by omega) ((hD a b ha hb).mono (by omega)) (plusI_bd (by omega) (hD a m ha hm) (hD m b hm hb))
theorem fwM_tri {n m : Nat} {B : Int} {D : Mat} (hm : m < n) (hB : B ≤ 250000000000000000) (hD : BdM n B D) (h0 : 0 ≤ D m m) (hT : Tri n m D) : Tri n (m + 1) (fwM n D m) := fun i k j hi hk hj => by
  have f := fun {a b : Nat} (ha : a < n) (hb : b < n) => fwM_form hm (show B ≤ 500000000000000000 by omega) hD h0 ha hb
  have g := fun {a b : Nat} (ha : a < n) (hb : b < n) => min_plus hB (hD a b ha hb) (hD a m ha hm) (hD m b hm hb)
  have hjn : j < n := by omega
  rw [f hi hk, f hi hjn, f hjn hk]
  obtain ⟨a1, a2, a3⟩ := g hi hk
  obtain ⟨b1, b2, b3⟩ := g hi hjn
  obtain ⟨c1, c2, c3⟩ := g hjn hk
  rcases Nat.lt_or_ge j m with hjm | hjm
  · exact tri_step hB (hD i m hi hm) (hD m k hm hk) (hD i j hi hjn) (hD j k hjn hk) (hD m j hm hjn) (hD j m hjn hm) (hT i k j hi hk hjm) (hT i m j hi hm hjm) (hT m k j hm hk hjm) (hT m m j hm hm hjm) h0 a1 a2 b3 c3
  · have : j = m := by omega
    subst this
    -- the way by j itself
    have d1 := hD i j hi hm
    have d2 := hD j k hm hk
    have d3 := hD j j hm hm
    generalize min (D i k) (plusI (D i j) (D j k)) = x at *
    generalize min (D i j) (plusI (D i j) (D j j)) = y at *
    generalize min (D j k) (plusI (D j j) (D j k)) = z at *
    unfold LeP Bd far at *
    rcases b3 with rfl | ⟨_, _, rfl⟩ <;> rcases c3 with rfl | ⟨_, _, rfl⟩ <;> omega
/-- no stage makes an entry greater -/
theorem fwRow_le (m : Nat) (thr : Nat → Int) (i n : Nat) (D : Mat) (a b : Nat) : fwRow m thr i n D a b ≤ D a b := by
  unfold fwRow
  induction n with
  | zero => exact Int.le_refl _
  | succ n ih =>
    rw [foldl_range_succ]
    refine Int.le_trans ?_ ih
    generalize (List.range n).foldl _ D = E
    simp only [Mat.upd]; split
    · rename_i h; obtain ⟨rfl, rfl⟩ := h; exact Int.min_le_left ..
    · exact Int.le_refl _
theorem fwM_le (n : Nat) (D : Mat) (m a b : Nat) : fwM n D m a b ≤ D a b := by
  unfold fwM
  suffices ∀ q, (List.range q).foldl (fun E i => fwRow m (D m) i n E) D a b ≤ D a b from this n
  intro q
  induction q with
  | zero => exact Int.le_refl _
  | succ q ih => rw [foldl_range_succ]; exact Int.le_trans (fwRow_le ..) ih
/-- the table behind so many stages -/
def stage (n : Nat) (D : Mat) (m : Nat) : Mat := (List.range m).foldl (fwM n) D
theorem stage_succ (n : Nat) (D : Mat) (m : Nat) : stage n D (m + 1) = fwM n (stage n D m) m := foldl_range_succ ..
theorem stage_le (n : Nat) (D : Mat) (a b m : Nat) : ∀ q, stage n D (m + q) a b ≤ stage n D m a b
  | 0 => Int.le_refl _
  | q + 1 => by rw [← Nat.add_assoc, stage_succ]; exact Int.le_trans (fwM_le ..) (stage_le n D a b m q)
structure Stage (n m : Nat) (B : Int) (D0 D : Mat) : Prop where
  bd : BdM n (2 ^ m * B) D
  tri : Tri n m D
  le : ∀ a b, D a b ≤ D0 a b
theorem pow_le {n m : Nat} (h : m ≤ n) : (2 : Int) ^ m ≤ 2 ^ n := by
  have := Nat.pow_le_pow_right (n := 2) (by decide) h
  exact_mod_cast this
/-- all stages, where no diagonal element gets below 0 -/
theorem stages {n : Nat} {B : Int} {D0 : Mat} (hn : n ≤ 16) (hB0 : 0 ≤ B) (hB : B ≤ 1000000000) (hD : BdM n B D0) : ∀ m, m ≤ n → (∀ j, j < m → 0 ≤ stage n D0 j j j) → Stage n m B D0 (stage n D0 m)
  | 0, _, _ => ⟨by simpa [stage] using hD, fun _ _ j _ _ h => absurd h (Nat.not_lt_zero j), fun _ _ => Int.le_refl _⟩
  | m + 1, hm, h => by
    have ih := stages hn hB0 hB hD m (by omega) (fun j hj => h j (by omega))
    have h0 := h m (by omega)
    have hp : (2 : Int) ^ m * B ≤ 250000000000000000 := by
      have h1 := pow_le (show m ≤ 16 by omega)
      have h2 : (2 : Int) ^ m * B ≤ 2 ^ 16 * B := Int.mul_le_mul_of_nonneg_right h1 hB0
      have h3 : (2 : Int) ^ 16 = 65536 := by decide
      rw [h3] at h2; omega
    have hp0 : 0 ≤ (2 : Int) ^ m * B := Int.mul_nonneg (Int.le_of_lt (Int.pow_pos (by decide))) hB0
    rw [stage_succ]
    refine ⟨?_, fwM_tri (by omega) hp ih.bd h0 ih.tri, fun a b => Int.le_trans (fwM_le ..) (ih.le a b)⟩
    have := fwM_bd (by omega) hp ih.bd h0 hp0
    rw [Int.pow_succ, Int.mul_comm (2 ^ m) 2, Int.mul_assoc]; exact this
end Go.Xe
namespace Go.Xe
theorem lower {n : Nat} {B C : Int} {D0 E : Mat} (hn : n ≤ 16) (hB0 : 0 ≤ B) (hB : B ≤ 1000000000) (hD : BdM n B D0) (hC : C ≤ 250000000000000000) (hEb : BdM n C E) (hE0 : ∀ j, j < n → 0 ≤ E j j) (hEt : Tri n n E) (hED : ∀ i k, i < n → k < n → E i k ≤ D0 i k) :
    ∀ m, m ≤ n → (∀ j, j < m → 0 ≤ stage n D0 j j j) ∧ ∀ i k, i < n → k < n → E i k ≤ stage n D0 m i k
  | 0, _ => ⟨fun j h => absurd h (Nat.not_lt_zero j), hED⟩
  | m + 1, hm => by
    obtain ⟨h1, h2⟩ := lower hn hB0 hB hD hC hEb hE0 hEt hED m (by omega)
    have h0 : 0 ≤ stage n D0 m m m := Int.le_trans (hE0 m (by omega)) (h2 m m (by omega) (by omega))
    have hs := stages hn hB0 hB hD m (by omega) h1
    have hp : (2 : Int) ^ m * B ≤ 250000000000000000 := by
      have h1 := pow_le (show m ≤ 16 by omega)
      have h2 : (2 : Int) ^ m * B ≤ 2 ^ 16 * B := Int.mul_le_mul_of_nonneg_right h1 hB0
      have h3 : (2 : Int) ^ 16 = 65536 := by decide
      rw [h3] at h2; omega
    refine ⟨fun j hj => ?_, fun i k hi hk => ?_⟩
    · rcases Nat.lt_succ_iff_lt_or_eq.1 hj with h | rfl
      · exact h1 j h
      · exact h0
    · rw [stage_succ, fwM_form (by omega) (by omega) hs.bd h0 hi hk]
      have a1 := h2 i k hi hk
      have a2 := h2 i m hi (by omega)
      have a3 := h2 m k (by omega) hk
      have a4 := hEt i k m hi hk (by omega)
      have a5 := hEb i k hi hk
      have a6 := hEb i m hi (by omega)
      have a7 := hEb m k (by omega) hk
      have a8 := hs.bd i m hi (by omega)
      have a9 := hs.bd m k (by omega) hk
      unfold LeP plusI Bd far at *
      rw [Int.min_def]
      split <;> (try split) <;> omega

/-! the first table -/
theorem mat0_bd (n : Nat) {B : Int} (hB0 : 0 ≤ B) : BdM n B mat0 := fun i k _ _ => by unfold mat0 Bd; split <;> simp; omega
theorem matB_cons (D : Mat) (x : Bnd) (bs : List Bnd) : matB D (x :: bs) = matB (D.upd x.fr.toNat x.to.toNat (min (D x.fr.toNat x.to.toNat) x.mo)) bs := rfl
theorem matB_bd {n : Nat} {B : Int} (hB : B ≤ 1000000000000000000) : ∀ (bs : List Bnd) (D : Mat), (∀ i k, Bd B (D i k)) → (∀ x ∈ bs, -B ≤ x.mo ∧ x.mo ≤ B) → ∀ i k, Bd B (matB D bs i k)
  | [], D, hD, _ => hD
  | x :: bs, D, hD, hx => by
    rw [matB_cons]
    refine matB_bd (n := n) hB bs _ (fun i k => ?_) (fun y hy => hx y (List.mem_cons_of_mem _ hy))
    simp only [Mat.upd]; split
    · exact Bd.min hB (hD _ _) (.inr (hx x (List.mem_cons_self ..)))
    · exact hD i k
theorem matB_le : ∀ (bs : List Bnd) (D : Mat) (i k : Nat), matB D bs i k ≤ D i k
  | [], D, i, k => Int.le_refl _
  | x :: bs, D, i, k => by
    rw [matB_cons]
    refine Int.le_trans (matB_le bs _ i k) ?_
    simp only [Mat.upd]; split
    · rename_i h; obtain ⟨rfl, rfl⟩ := h; exact Int.min_le_left ..
    · exact Int.le_refl _
theorem matB_mo : ∀ (bs : List Bnd) (D : Mat), ∀ x ∈ bs, matB D bs x.fr.toNat x.to.toNat ≤ x.mo
  | y :: bs, D, x, hx => by
    rw [matB_cons]
    rcases List.mem_cons.1 hx with rfl | hx
    · refine Int.le_trans (matB_le bs _ _ _) ?_
      simp only [Mat.upd, and_self, if_true]; exact Int.min_le_right ..
    · exact matB_mo bs _ x hx
theorem matB_ge {E : Mat} : ∀ (bs : List Bnd) (D : Mat) (i k : Nat), E i k ≤ D i k → (∀ x ∈ bs, x.fr.toNat = i → x.to.toNat = k → E i k ≤ x.mo) → E i k ≤ matB D bs i k
  | [], D, i, k, h, _ => h
  | x :: bs, D, i, k, h, hx => by
    rw [matB_cons]
    refine matB_ge bs _ i k ?_ (fun y hy => hx y (List.mem_cons_of_mem _ hy))
    simp only [Mat.upd]; split
    · rename_i e; obtain ⟨rfl, rfl⟩ := e
      have := hx x (List.mem_cons_self ..) rfl rfl
      omega
    · exact h

/-! distances -/
structure Small (b : Btw) (n : Nat) (B : Int) : Prop where
  num : b.n = n
  le : n ≤ 16
  pos : 0 ≤ B
  top : B ≤ 1000000000
  ix : ∀ x ∈ b.bs, (0 ≤ x.fr ∧ x.fr < n) ∧ (0 ≤ x.to ∧ x.to < n)
  mo : ∀ x ∈ b.bs, -B ≤ x.mo ∧ x.mo ≤ B
theorem Small.of_ok {b : Btw} (h : b.ok = true) : ∃ n : Nat, Small b n 1000000000 := by
  obtain ⟨n, hn⟩ := Int.eq_ofNat_of_zero_le (Btw.ok_n h).1
  have := (Btw.ok_n h).2
  refine ⟨n, hn, by omega, by decide, Int.le_refl _, fun x hx => ?_, fun x hx => (bndOk_iff.1 (Btw.ok_bnd h hx)).2.2⟩
  have := bndOk_iff.1 (Btw.ok_bnd h hx)
  omega
/-- a table that keeps all bounds and the triangle -/
structure Keeps (b : Btw) (n : Nat) (E : Mat) : Prop where
  zero : ∀ j, j < n → 0 ≤ E j j ∧ E j j ≤ 0
  tri : Tri n n E
  mo : ∀ x ∈ b.bs, E x.fr.toNat x.to.toNat ≤ x.mo
theorem dist_stage {b : Btw} {n : Nat} (hn : b.n = n) : b.dist = stage n (matB mat0 b.bs) n := by unfold Btw.dist fw stage; rw [hn]; rfl
theorem fine_iff {D : Mat} {n : Nat} : D.fine n = true ↔ ∀ i, i < n → 0 ≤ D i i := by simp [Mat.fine]
theorem Small.first {b : Btw} {n : Nat} {B : Int} (h : Small b n B) : BdM n B (matB mat0 b.bs) := fun i k hi hk =>
  matB_bd (n := n) (by have := h.top; omega) b.bs mat0 (fun i k => by unfold mat0 Bd; have := h.pos; split <;> simp; omega) h.mo i k
/-- what keeps all bounds is no greater than the distances, and there is no contradiction -/
theorem Small.least {b : Btw} {n : Nat} {B C : Int} {E : Mat} (h : Small b n B) (hC : C ≤ 250000000000000000) (hEb : BdM n C E) (hE : Keeps b n E) : b.dist.fine n = true ∧ ∀ i k, i < n → k < n → E i k ≤ b.dist i k := by
  have hl := lower h.le h.pos h.top h.first hC hEb (fun j hj => (hE.zero j hj).1) hE.tri (fun i k hi hk => matB_ge b.bs mat0 i k (by
    unfold mat0; split
    · rename_i e; subst e; exact (hE.zero i hi).2
    · exact (hEb i k hi hk).le_far (by omega)) (fun x hx e1 e2 => by rw [← e1, ← e2]; exact hE.mo x hx)) n (Nat.le_refl _)
  rw [dist_stage h.num]
  exact ⟨fine_iff.2 fun i hi => Int.le_trans (hE.zero i hi).1 (hl.2 i i hi hi), hl.2⟩
/-- without a contradiction the distances keep all bounds -/
theorem Small.keeps {b : Btw} {n : Nat} {B : Int} (h : Small b n B) (hf : b.dist.fine n = true) : Keeps b n b.dist ∧ BdM n (2 ^ n * B) b.dist := by
  rw [dist_stage h.num] at hf ⊢
  have h0 := fine_iff.1 hf
  have hs := stages h.le h.pos h.top h.first n (Nat.le_refl _) (fun j hj => by
    have h1 := stage_le n (matB mat0 b.bs) j j j (n - j)
    rw [show j + (n - j) = n by omega] at h1
    exact Int.le_trans (h0 j hj) h1)
  refine ⟨⟨fun j hj => ⟨h0 j hj, ?_⟩, hs.tri, fun x hx => Int.le_trans (hs.le _ _) (matB_mo b.bs mat0 x hx)⟩, hs.bd⟩
  refine Int.le_trans (hs.le j j) (Int.le_trans (matB_le b.bs mat0 j j) ?_)
  simp [mat0]
/-- a situation that keeps all bounds -/
def Sit (b : Btw) (p : Nat → Int) : Prop := ∀ x ∈ b.bs, p x.to.toNat - p x.fr.toNat ≤ x.mo
theorem Sit.keeps {b : Btw} {n : Nat} {p : Nat → Int} (h : Sit b p) : Keeps b n (fun i k => p k - p i) :=
  ⟨fun j _ => by constructor <;> omega, fun i k j _ _ _ => .inr (.inr (by omega)), fun x hx => h x hx⟩
theorem Small.sit {b : Btw} {n : Nat} {B : Int} {p : Nat → Int} (h : Small b n B) (hp : Sit b p) (hb : ∀ i, i < n → -100000000000000000 ≤ p i ∧ p i ≤ 100000000000000000) : b.dist.fine n = true ∧ ∀ i k, i < n → k < n → p k - p i ≤ b.dist i k :=
  h.least (C := 200000000000000000) (by decide) (fun i k hi hk => .inr (by have := hb i hi; have := hb k hk; omega)) hp.keeps
end Go.Xe
namespace Go.Xe
theorem solveP_le {D : Mat} : ∀ (q k : Nat), solveP D q k ≤ 0 ∧ ∀ i, i < q → solveP D q k ≤ D i k
  | 0, k => ⟨by simp [solveP], fun i h => absurd h (Nat.not_lt_zero i)⟩
  | q + 1, k => by
    obtain ⟨h1, h2⟩ := solveP_le (D := D) q k
    rw [solveP_succ]
    refine ⟨by omega, fun i hi => ?_⟩
    rcases Nat.lt_succ_iff_lt_or_eq.1 hi with h | rfl
    · have := h2 i h; omega
    · omega
theorem solveP_at {D : Mat} : ∀ (q k : Nat), solveP D q k = 0 ∨ ∃ i, i < q ∧ solveP D q k = D i k
  | 0, k => .inl (by simp [solveP])
  | q + 1, k => by
    rw [solveP_succ]
    rcases Int.le_total (solveP D q k) (D q k) with h | h
    · rw [Int.min_eq_left h]
      rcases solveP_at (D := D) q k with e | ⟨i, hi, e⟩
      · exact .inl e
      · exact .inr ⟨i, by omega, e⟩
    · rw [Int.min_eq_right h]; exact .inr ⟨q, by omega, rfl⟩
structure Solved (b : Btw) (n : Nat) (C : Int) (s : Nat → Int) : Prop where
  sit : Sit b s
  neg : ∀ k, k < n → -C ≤ s k ∧ s k ≤ 0
  way : ∀ i k, i < n → k < n → b.dist i k = far ∨ s k ≤ s i + b.dist i k
  zero : 0 < n → ∃ k, k < n ∧ s k = 0
  most : ∀ (p : Nat → Int), (∀ i k, i < n → k < n → p k - p i ≤ b.dist i k) → (∀ i, i < n → p i ≤ 0) → ∀ k, k < n → p k ≤ s k
theorem max_at (n : Nat) (s : Nat → Int) (hn : 0 < n) : ∃ k, k < n ∧ ∀ i, i < n → s i ≤ s k := by
  induction n with
  | zero => omega
  | succ n ih =>
    by_cases h0 : n = 0
    · subst h0; exact ⟨0, by omega, fun i hi => by rw [show i = 0 by omega]; exact Int.le_refl _⟩
    · obtain ⟨k, hk, h⟩ := ih (by omega)
      by_cases hc : s n ≤ s k
      · exact ⟨k, by omega, fun i hi => (Nat.lt_succ_iff_lt_or_eq.1 hi).elim (fun h1 => h i h1) (fun e => e ▸ hc)⟩
      · exact ⟨n, by omega, fun i hi => (Nat.lt_succ_iff_lt_or_eq.1 hi).elim (fun h1 => by have := h i h1; omega) (fun e => e ▸ Int.le_refl _)⟩
theorem two_pow_le {n : Nat} {B : Int} (hn : n ≤ 16) (hB0 : 0 ≤ B) (hB : B ≤ 1000000000) : (2 : Int) ^ n * B ≤ 65536000000000 := by
  have h1 := pow_le hn
  have h2 : (2 : Int) ^ n * B ≤ 2 ^ 16 * B := Int.mul_le_mul_of_nonneg_right h1 hB0
  have h3 : (2 : Int) ^ 16 = 65536 := by decide
  rw [h3] at h2; omega
theorem Small.solved {b : Btw} {n : Nat} {B : Int} (h : Small b n B) (hf : b.dist.fine n = true) : Solved b n (2 ^ n * B) (solveP b.dist n) := by
  obtain ⟨hk, hb⟩ := h.keeps hf
  have hp := two_pow_le h.le h.pos h.top
  have hp0 : 0 ≤ (2 : Int) ^ n * B := Int.mul_nonneg (Int.le_of_lt (Int.pow_pos (by decide))) h.pos
  have hle := fun k => solveP_le (D := b.dist) n k
  have hat : ∀ k, k < n → ∃ i, i < n ∧ solveP b.dist n k = b.dist i k := fun k hkn => by
    rcases solveP_at (D := b.dist) n k with e | e
    · have := hk.zero k hkn; exact ⟨k, hkn, by omega⟩
    · exact e
  have hway : ∀ i k, i < n → k < n → b.dist i k = far ∨ solveP b.dist n k ≤ solveP b.dist n i + b.dist i k := fun i k hi hkn => by
    obtain ⟨j, hj, e⟩ := hat i hi
    have h1 := hk.tri j k i hj hkn hi
    have h2 := (hle k).2 j hj
    have h3 := (hle i).1
    unfold LeP far at *
    rcases h1 with h1 | h1 | h1
    · omega
    · exact .inl h1
    · exact .inr (by omega)
  have hneg : ∀ k, k < n → -(2 ^ n * B) ≤ solveP b.dist n k ∧ solveP b.dist n k ≤ 0 := fun k hkn => by
    obtain ⟨i, hi, e⟩ := hat k hkn
    have h1 := hb i k hi hkn
    have h2 := (hle k).1
    unfold Bd far at *
    omega
  refine ⟨fun x hx => ?_, hneg, hway, fun hn => ?_, fun p hp1 hp2 k hkn => ?_⟩
  · obtain ⟨⟨h1, h2⟩, h3, h4⟩ := h.ix x hx
    have h5 := hway x.fr.toNat x.to.toNat (by omega) (by omega)
    have h6 := hk.mo x hx
    have h7 := h.mo x hx
    have h8 := h.top
    unfold far at *
    omega
  · obtain ⟨k, hkn, hmax⟩ := max_at n (solveP b.dist n) hn
    refine ⟨k, hkn, ?_⟩
    obtain ⟨i, hi, e⟩ := hat k hkn
    have h1 := hway i k hi hkn
    have h2 := hmax i hi
    have h3 := (hle k).1
    have h4 := (hle i).1
    have h5 := hneg k hkn
    -- the one from which k's value comes is not below 0
    rcases h1 with h1 | h1
    · unfold far at *; omega
    · omega
  · obtain ⟨i, hi, e⟩ := hat k hkn
    have := hp1 i k hi hkn
    have := hp2 i hi
    omega
end Go.Xe
