/- The plain law of layer 6: the reference's tables, chains and rounds are the program's. No program in sight. -/
import Derived.Test.YtlgfpieokaegiaaP8
namespace Go.Xe
theorem plusW_comm (a b : Int) : plusW a b = plusW b a := by unfold plusW; rw [Int.add_comm]; simp only [or_comm]
/-- a row of the reference's table of sums, after so many bounds -/
def refRow (D : Nat → Int) (bs : List Bnd) (k : Nat) : Nat → Int := (bs.take k).foldl (fun r x => if D x.fr.toNat = far then r else fun c => if c = x.to.toNat then min (r c) (D x.fr.toNat + x.mo) else r c) (fun _ => far)
theorem refRow_succ (D : Nat → Int) (bs : List Bnd) {k : Nat} (h : k < bs.length) : refRow D bs (k + 1) = if D bs[k].fr.toNat = far then refRow D bs k else fun c => if c = bs[k].to.toNat then min (refRow D bs k c) (D bs[k].fr.toNat + bs[k].mo) else refRow D bs k c := by
  unfold refRow; rw [List.take_succ_eq_append_getElem h, List.foldl_append]; rfl
theorem refRow_le (D : Nat → Int) (bs : List Bnd) : ∀ k, k ≤ bs.length → ∀ c, refRow D bs k c ≤ far
  | 0, _, c => by simp [refRow]
  | k + 1, hk, c => by
    have ih := refRow_le D bs k (by omega) c
    rw [refRow_succ D bs (by omega)]
    split
    · exact ih
    · simp only; split <;> omega
theorem refRow_walkP {b : Btw} {n : Nat} {B : Int} (h : Small b n B) {m i : Nat} (hm : m ≤ 100) (hi : i < n) : ∀ k, k ≤ b.bs.length → ∀ c, refRow (b.walk m i) b.bs k c = walkP n (b.walk m) b.bs k i c
  | 0, _, c => by simp [refRow, walkP, matFar]
  | k + 1, hk, c => by
    have ih := refRow_walkP h hm hi k (by omega)
    have hle := refRow_le (b.walk m i) b.bs k (by omega) c
    have hx := List.getElem_mem (l := b.bs) (show k < b.bs.length by omega)
    have hr := h.ix _ hx
    rw [refRow_succ _ _ (by omega), walkP_succ _ _ _ (by omega), walkRow_at, ← ih c, plusW_comm]
    rcases h.plus_walk hx hm hi (show b.bs[k].fr.toNat < n by omega) with ⟨h1, h2⟩ | ⟨h1, h2⟩
    · rw [if_pos h1, h2]; split <;> omega
    · rw [if_neg h1, h2]
      by_cases e : c = b.bs[k].to.toNat
      · rw [if_pos e, if_pos ⟨hi, e⟩]; omega
      · rw [if_neg e, if_neg (fun hh => e hh.2)]
theorem refRow_walk {b : Btw} {n : Nat} {B : Int} (h : Small b n B) {m i : Nat} (hm : m ≤ 100) (hi : i < n) (c : Nat) : refRow (b.walk m i) b.bs b.bs.length c = b.walk (m + 1) i c := by
  rw [refRow_walkP h hm hi _ (Nat.le_refl _), walkP_all _ _ _ (Nat.le_refl _)]
  have hn : b.n.toNat = n := by rw [h.num]; rfl
  show _ = walkStep b.n.toNat b.bs (b.walk m) i c
  rw [hn]
theorem walk_bd {b : Btw} {n : Nat} {B : Int} (h : Small b n B) {m i k : Nat} (hm : m ≤ 100) (hi : i < n) (hk : k < n) : b.walk m i k = far ∨ (-100000000000 ≤ b.walk m i k ∧ b.walk m i k ≤ 100000000000) := by
  have h1 := (h.exact m hm).bd i k hi hk
  have h2 := natB h hm
  unfold Bd at h1; omega
/-- there is a contradiction exactly if a table shows one -/
theorem contra_iff {b : Btw} {n : Nat} {B : Int} (h : Small b n B) : b.dist.fine n = false ↔ ∃ m i, 1 ≤ m ∧ m ≤ n ∧ i < n ∧ b.walk m i i < 0 := by
  have hle := h.le
  constructor
  · intro hf
    obtain ⟨q, v, c, h1, h2, h3, h4, h5⟩ := h.has_round hf
    rw [show v = ((v.toNat : Nat) : Int) by omega] at h5
    have := (h.exact q (by omega)).least v.toNat v.toNat c (by omega) (by omega) h5
    exact ⟨q, v.toNat, by omega, h2, by omega, by omega⟩
  · rintro ⟨m, i, h1, h2, h3, h4⟩
    cases hf : b.dist.fine n with
    | false => rfl
    | true =>
      have hc := (h.exact m (by omega)).real i i h3 h3 (by unfold far; omega)
      have := h.no_round hf m i _ (by omega) hc
      omega
/-- the least of the tables so far -/
def minW (b : Btw) (i k q : Nat) : Int := (List.range q).foldl (fun a m => min a (b.walk m i k)) far
theorem minW_succ (b : Btw) (i k q : Nat) : minW b i k (q + 1) = min (minW b i k q) (b.walk q i k) := by simp [minW, List.range_succ]
theorem minW_le (b : Btw) (i k : Nat) : ∀ q, minW b i k q ≤ far ∧ ∀ m, m < q → minW b i k q ≤ b.walk m i k
  | 0 => ⟨by simp [minW], fun m h => absurd h (Nat.not_lt_zero m)⟩
  | q + 1 => by
    obtain ⟨h1, h2⟩ := minW_le b i k q
    rw [minW_succ]
    refine ⟨by omega, fun m hm => ?_⟩
    by_cases e : m = q
    · subst e; omega
    · have := h2 m (by omega); omega
theorem minW_at (b : Btw) (i k : Nat) : ∀ q, minW b i k q = far ∨ ∃ m, m < q ∧ minW b i k q = b.walk m i k
  | 0 => .inl (by simp [minW])
  | q + 1 => by
    rw [minW_succ]
    rcases Int.le_total (minW b i k q) (b.walk q i k) with h | h
    · rw [Int.min_eq_left h]
      rcases minW_at b i k q with h1 | ⟨m, h1, h2⟩
      · exact .inl h1
      · exact .inr ⟨m, by omega, h2⟩
    · rw [Int.min_eq_right h]; exact .inr ⟨q, by omega, rfl⟩
theorem dist_min {b : Btw} {n : Nat} {B : Int} (h : Small b n B) (hf : b.dist.fine n = true) {i k : Nat} (hi : i < n) (hk : k < n) : minW b i k (n + 1) = b.dist i k := by
  have hle := h.le
  obtain ⟨_, hb⟩ := h.keeps hf
  have hp := two_pow_le h.le h.pos h.top
  have hbd := hb i k hi hk
  obtain ⟨m1, m2⟩ := minW_le b i k (n + 1)
  have hreal : Real b.bs n b.dist := by
    rw [dist_stage h.num]
    have h0 := fine_iff.1 (show (stage n (matB mat0 b.bs) n).fine n = true by rw [← dist_stage h.num]; exact hf)
    exact h.real n (Nat.le_refl _) (fun j hj => by
      have h1 := stage_le n (matB mat0 b.bs) j j j (n - j)
      rw [show j + (n - j) = n by omega] at h1
      exact Int.le_trans (h0 j hj) h1)
  apply Int.le_antisymm
  · by_cases hfar : b.dist i k = far
    · omega
    · obtain ⟨q, hc⟩ := hreal i k hi hk hfar
      obtain ⟨q', r, h1, h2, h3⟩ := hc.short h.ix (fun m v c hv hcc => h.no_round hf m v c hv hcc) q (by omega)
      have h4 := (h.exact q' (by omega)).least i k r hi hk h3
      have h5 := m2 q' (by omega)
      omega
  · rcases minW_at b i k (n + 1) with h1 | ⟨m, h1, h2⟩
    · rw [h1]; unfold Bd far at *; omega
    · rw [h2]
      by_cases hfar : b.walk m i k = far
      · rw [hfar]; unfold Bd far at *; omega
      · have hc := (h.exact m (by omega)).real i k hi hk hfar
        have := h.chain_ge hf hc (by omega)
        simpa using this.2
/-- a step of the reference's first chain is one of the program's -/
theorem step_iff {b : Btw} {n : Nat} {B : Int} (h : Small b n B) {x : Bnd} (hx : x ∈ b.bs) {m : Nat} (hm : m ≤ 100) {to f most : Int} (ht : 0 ≤ to ∧ to < n) (hmo : most < far) :
    stepB b.walk to m f most x = true ↔ x.fr = f ∧ ¬ b.walk m x.to.toNat to.toNat = far ∧ x.mo + b.walk m x.to.toNat to.toNat ≤ most := by
  have hr := h.ix x hx
  simp only [stepB, Bool.and_eq_true, decide_eq_true_eq]
  rcases h.plus_walk hx hm (show x.to.toNat < n by omega) (show to.toNat < n by omega) with ⟨h1, h2⟩ | ⟨h1, h2⟩
  · rw [h2]
    constructor
    · rintro ⟨_, g⟩; omega
    · rintro ⟨_, g, _⟩; exact absurd h1 g
  · rw [h2]
    exact ⟨fun ⟨g1, g2⟩ => ⟨g1, h1, g2⟩, fun ⟨g1, _, g2⟩ => ⟨g1, g2⟩⟩
/-- the reference's first chain -/
def firstF (b : Btw) (f t : Int) (m : Nat) (most : Int) : Option (List Int) := if b.walk m f.toNat t.toNat ≤ most then chainI b.bs b.walk t m f most else none
theorem firstF_some {b : Btw} {n : Nat} {B : Int} (h : Small b n B) {f t : Int} (hf : 0 ≤ f ∧ f < n) (ht : 0 ≤ t ∧ t < n) {m : Nat} (hm : m ≤ 100) {most : Int} (hmo : most ≤ 1000000000000) (hw : b.walk m f.toNat t.toNat ≤ most) : ∃ l, chainI b.bs b.walk t m f most = some l := by
  have := natB h hm
  obtain ⟨l, s, h1, _⟩ := h.found ht m f most hm hf hw (by omega)
  exact ⟨l, h1⟩
/-- lists in lexicographic order -/
def beforeF : List Int → List Int → Bool
  | a :: l, c :: r => if a = c then beforeF l r else decide (a < c)
  | _, _ => false
/-- the best round of so many bounds, of the first variables -/
def bestF (b : Btw) (M : Nat) : Nat → Option (List Int)
  | 0 => none
  | q + 1 => match firstF b q q M (-1), bestF b M q with
    | none, r => r
    | some l, none => some l
    | some l, some r => if beforeF l r then some l else some r
theorem firstF_round {b : Btw} {n : Nat} {B : Int} (h : Small b n B) {i m : Nat} (hi : i < n) (hm : m < 100) :
    (firstF b i i (m + 1) (-1) = none ∧ ∀ (j : Nat) (hj : j < b.bs.length), b.bs[j].fr = i → b.cycB (m + 1) b.bs[j] = false) ∨
    ∃ (k : Nat) (hk : k < b.bs.length) (l : List Int), firstF b i i (m + 1) (-1) = some ((k : Int) :: l) ∧ b.bs[k].fr = i ∧ b.cycB (m + 1) b.bs[k] = true ∧ (∀ (j : Nat) (hj : j < b.bs.length), j < k → b.bs[j].fr = i → b.cycB (m + 1) b.bs[j] = false) ∧ chainI b.bs b.walk b.bs[k].fr m b.bs[k].to (-1 - b.bs[k].mo) = some l := by
  have cyc : ∀ x ∈ b.bs, x.fr = i → (b.cycB (m + 1) x = true ↔ stepB b.walk i m i (-1) x = true) := fun x _ hxf => by
    simp only [Btw.cycB, stepB, Nat.add_sub_cancel, Bool.and_eq_true, decide_eq_true_eq, hxf]
    constructor
    · rintro ⟨_, g⟩; exact ⟨trivial, by omega⟩
    · rintro ⟨_, g⟩; exact ⟨by omega, by omega⟩
  unfold firstF
  by_cases hw : b.walk (m + 1) ((i : Nat) : Int).toNat ((i : Nat) : Int).toNat ≤ -1
  · rw [if_pos hw]
    obtain ⟨l, hl⟩ := firstF_some h (f := i) (t := i) (by omega) (by omega) (m := m + 1) (by omega) (by omega) hw
    refine .inr ?_
    rw [hl]
    unfold chainI at hl
    cases hf : b.bs.findIdx? (stepB b.walk i m i (-1)) with
    | none => rw [hf] at hl; cases hl
    | some k =>
      rw [hf] at hl
      obtain ⟨hk, h1, h2⟩ := List.findIdx?_eq_some_iff_getElem.1 hf
      have e : b.bs.getD k default = b.bs[k] := by simp [hk]
      simp only [e] at hl
      obtain ⟨l', h3, rfl⟩ := Option.map_eq_some_iff.1 hl
      have hfr : b.bs[k].fr = i := by have := h1; simp only [stepB, Bool.and_eq_true, decide_eq_true_eq] at this; exact this.1
      refine ⟨k, hk, l', rfl, hfr, (cyc _ (List.getElem_mem hk) hfr).2 h1, fun j hj hjk hjf => ?_, by rw [hfr]; exact h3⟩
      rw [Bool.eq_false_iff]; intro hc
      have := (cyc _ (List.getElem_mem hj) hjf).1 hc
      exact absurd this (by simpa using h2 j hjk)
  · rw [if_neg hw]
    refine .inl ⟨rfl, fun j hj hjf => ?_⟩
    rw [Bool.eq_false_iff]; intro hc
    have hx := List.getElem_mem hj
    have hr := h.ix _ hx
    have hs := (cyc _ hx hjf).1 hc
    rw [step_iff h hx (by omega) (by omega) (by unfold far; omega)] at hs
    obtain ⟨_, h2, h3⟩ := hs
    have hre := (h.exact m (by omega)).real b.bs[j].to.toNat ((i : Nat) : Int).toNat (by omega) (by omega) h2
    have hch := Chain.cons b.bs[j] hx (by rw [show b.bs[j].to = ((b.bs[j].to.toNat : Nat) : Int) by omega]; exact hre)
    rw [hjf, show ((((i : Nat) : Int).toNat : Nat) : Int) = ((i : Nat) : Int) by omega] at hch
    have hl := (h.exact (m + 1) (by omega)).least i i _ hi hi hch
    simp only [Int.toNat_natCast] at hw hl h3
    omega
structure BestIs (b : Btw) (m q k : Nat) (l : List Int) : Prop where
  hk : k < b.bs.length
  best : bestF b (m + 1) q = some ((k : Int) :: l)
  lt : b.bs[k].fr < q
  cyc : b.cycB (m + 1) b.bs[k] = true
  first : ∀ (j : Nat) (hj : j < b.bs.length), j < k → b.bs[j].fr < q → b.cycB (m + 1) b.bs[j] = false
  rest : chainI b.bs b.walk b.bs[k].fr m b.bs[k].to (-1 - b.bs[k].mo) = some l
theorem bestF_is {b : Btw} {n : Nat} {B : Int} (h : Small b n B) {m : Nat} (hm : m < 100) : ∀ q, q ≤ n → (bestF b (m + 1) q = none ∧ ∀ (j : Nat) (hj : j < b.bs.length), b.bs[j].fr < q → b.cycB (m + 1) b.bs[j] = false) ∨ ∃ k l, BestIs b m q k l
  | 0, _ => .inl ⟨rfl, fun j hj hlt => by have := (h.ix _ (List.getElem_mem hj)).1; omega⟩
  | q + 1, hq => by
    have ih := bestF_is h hm q (by omega)
    have hf := firstF_round h (i := q) (m := m) (by omega) hm
    have lt_or : ∀ (j : Nat) (hj : j < b.bs.length), b.bs[j].fr < ((q + 1 : Nat) : Int) → b.bs[j].fr < q ∨ b.bs[j].fr = q := fun j hj hlt => by omega
    rcases hf with ⟨f1, f2⟩ | ⟨k, hk, l, f1, f2, f3, f4, f5⟩
    · have e : bestF b (m + 1) (q + 1) = bestF b (m + 1) q := by simp only [bestF, f1]
      rcases ih with ⟨i1, i2⟩ | ⟨k, l, i⟩
      · exact .inl ⟨by rw [e]; exact i1, fun j hj hlt => (lt_or j hj hlt).elim (i2 j hj) (f2 j hj)⟩
      · exact .inr ⟨k, l, i.hk, by rw [e]; exact i.best, by have := i.lt; omega, i.cyc, fun j hj hjk hlt => (lt_or j hj hlt).elim (i.first j hj hjk) (f2 j hj), i.rest⟩
    · rcases ih with ⟨i1, i2⟩ | ⟨k', l', i⟩
      · refine .inr ⟨k, l, hk, by simp only [bestF, f1, i1], by omega, f3, fun j hj hjk hlt => (lt_or j hj hlt).elim (i2 j hj) (f4 j hj hjk), f5⟩
      · have hne : ((k : Nat) : Int) ≠ k' := fun e => by
          have e' : k = k' := by omega
          subst e'
          have := i.lt; omega
        by_cases hlt : k < k'
        · refine .inr ⟨k, l, hk, by simp only [bestF, f1, i.best, beforeF, if_neg hne]; rw [if_pos (by simpa using hlt)], by omega, f3, fun j hj hjk hl => (lt_or j hj hl).elim (i.first j hj (by omega)) (f4 j hj hjk), f5⟩
        · refine .inr ⟨k', l', i.hk, by simp only [bestF, f1, i.best, beforeF, if_neg hne]; rw [if_neg (by simpa using hlt)], by have := i.lt; omega, i.cyc, fun j hj hjk hl => (lt_or j hj hl).elim (i.first j hj hjk) (f4 j hj (by omega)), i.rest⟩
theorem beforeF_nil (l : List Int) : beforeF l [] = false := by cases l <;> rfl
/-- what the reference's Cycle returns -/
theorem ref_cycle {b : Btw} {n : Nat} {B : Int} (h : Small b n B) (hok : b.ok = true) :
    (b.cycle = none ∧ ∀ M, 1 ≤ M → M ≤ n → bestF b M n = none) ∨ ∃ M l, 1 ≤ M ∧ M ≤ n ∧ b.cycle = some l ∧ bestF b M n = some l ∧ ∀ j, 1 ≤ j → j < M → bestF b j n = none := by
  have hle := h.le
  have hn : b.n.toNat = n := by rw [h.num]; rfl
  cases hf : b.dist.fine n with
  | true =>
    refine .inl ⟨by simp [Btw.cycle, hn, hf], fun M h1 h2 => ?_⟩
    obtain ⟨m, rfl⟩ : ∃ m, M = m + 1 := ⟨M - 1, by omega⟩
    rcases bestF_is h (m := m) (by omega) n (Nat.le_refl _) with ⟨g, _⟩ | ⟨k, l, g⟩
    · exact g
    · exfalso
      have hk := g.hk
      have hx := List.getElem_mem g.hk
      have hr := h.ix _ hx
      have hc := g.cyc
      simp only [Btw.cycB, Nat.add_sub_cancel, Bool.and_eq_true, decide_eq_true_eq] at hc
      rcases h.plus_walk hx (m := m) (by omega) (show b.bs[k].to.toNat < n by omega) (show b.bs[k].fr.toNat < n by omega) with ⟨_, p⟩ | ⟨p1, p⟩
      · rw [p] at hc; unfold far at hc; omega
      · rw [p] at hc
        have hre := (h.exact m (by omega)).real b.bs[k].to.toNat b.bs[k].fr.toNat (by omega) (by omega) p1
        have hch := Chain.cons b.bs[k] hx (by rw [show b.bs[k].to = ((b.bs[k].to.toNat : Nat) : Int) by omega]; exact hre)
        rw [show (((b.bs[k].fr.toNat : Nat)) : Int) = b.bs[k].fr by omega] at hch
        have := h.no_round hf _ _ _ hr.1 hch
        omega
  | false =>
    obtain ⟨M, k, hk, l, s, h1, h2, h3, h4, h5, h6, _⟩ := h.cycle hf
    obtain ⟨m, rfl⟩ : ∃ m, M = m + 1 := ⟨M - 1, by omega⟩
    have hcy := Btw.cycle_some (b := b) (hk := hk) hok (by rw [hn]; exact hf) (by omega) h3 h4 h5 h6
    refine .inr ⟨m + 1, (k : Int) :: l, by omega, h2, hcy, ?_, fun j hj1 hjm => ?_⟩
    · rcases bestF_is h (m := m) (by omega) n (Nat.le_refl _) with ⟨g, g2⟩ | ⟨k', l', g⟩
      · have hr := h.ix _ (List.getElem_mem hk)
        have := g2 k hk hr.1.2
        rw [h4] at this; cases this
      · have e : k' = k := by
          rcases Nat.lt_trichotomy k' k with hh | hh | hh
          · have := h5 k' g.hk hh; rw [g.cyc] at this; cases this
          · exact hh
          · have hr := h.ix _ (List.getElem_mem hk)
            have := g.first k hk hh hr.1.2
            rw [h4] at this; cases this
        subst e
        have := g.rest
        simp only [Nat.add_sub_cancel] at h6
        rw [h6] at this
        rw [g.best]
        simp only [Option.some.injEq] at this
        rw [this]
    · obtain ⟨j', rfl⟩ : ∃ j', j = j' + 1 := ⟨j - 1, by omega⟩
      rcases bestF_is h (m := j') (by omega) n (Nat.le_refl _) with ⟨g, _⟩ | ⟨k', l', g⟩
      · exact g
      · have := h3 (j' + 1) hjm k' g.hk; rw [g.cyc] at this; cases this
end Go.Xe
