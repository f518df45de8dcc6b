/- The plain law of layer 6: a least contradiction, and what is left of it without one of its bounds. No program in sight. -/
import Derived.Test.YtlgfpieokaegiaaP10
namespace Go.Xe
theorem getD_get {α : Type} (l : List α) (d : α) {i : Nat} (h : i < l.length) : l.getD i d = l[i] := by simp [h]
def Btw.nth (b : Btw) (i : Int) : Bnd := b.bs.getD i.toNat default
def Btw.part (b : Btw) (c : List Int) : Btw := ⟨b.n, c.map b.nth⟩
theorem follow_in {bs cs : List Bnd} : ∀ {l : List Int} {f s g r : Int}, followI bs f l s = some (g, r) → (∀ i ∈ l, bs.getD i.toNat default ∈ cs) → Chain cs l.length f g (r - s)
  | [], f, s, g, r, h, _ => by
    simp only [followI, Option.some.injEq, Prod.mk.injEq] at h
    obtain ⟨rfl, rfl⟩ := h
    simpa using Chain.nil f
  | k :: l, f, s, g, r, h, hc => by
    rw [followI] at h
    split at h
    · rename_i hk
      split at h
      · rename_i hfr
        have h1 := follow_in h (fun i hi => hc i (List.mem_cons_of_mem _ hi))
        have h2 := hc k (List.mem_cons_self ..)
        rw [getD_get _ _ hk.2] at h2
        have := Chain.cons _ h2 h1
        rw [hfr] at this
        simp only [List.length_cons]
        rw [show r - s = bs[k.toNat].mo + (r - (s + bs[k.toNat].mo)) by omega]
        exact this
      · cases h
    · cases h
/-- a chain that is followed, laid out -/
theorem follow_lay {bs : List Bnd} : ∀ {l : List Int} {f s g r : Int}, followI bs f l s = some (g, r) → ∃ (v S : Nat → Int), v 0 = f ∧ v l.length = g ∧ S 0 = s ∧ S l.length = r ∧
    (∀ (i : Nat) (h : i < l.length), (0 ≤ l[i] ∧ l[i].toNat < bs.length) ∧ (bs.getD l[i].toNat default).fr = v i ∧ (bs.getD l[i].toNat default).to = v (i + 1)) ∧ ∀ a b, a ≤ b → b ≤ l.length → Chain bs (b - a) (v a) (v b) (S b - S a)
  | [], f, s, g, r, h => by
    simp only [followI, Option.some.injEq, Prod.mk.injEq] at h
    obtain ⟨rfl, rfl⟩ := h
    exact ⟨fun _ => f, fun _ => s, rfl, rfl, rfl, rfl, fun i h => absurd h (Nat.not_lt_zero i), fun a b h1 h2 => by rw [show b - a = 0 by simp at h2; omega]; simpa using Chain.nil f⟩
  | k :: l, f, s, g, r, h => by
    rw [followI] at h
    split at h
    · rename_i hk
      split at h
      · rename_i hfr
        obtain ⟨v, S, h1, h2, h3, h4, h5, h6⟩ := follow_lay h
        have hg := getD_get bs default hk.2
        refine ⟨fun i => match i with | 0 => f | i + 1 => v i, fun i => match i with | 0 => s | i + 1 => S i, rfl, h2, rfl, h4, fun i hi => ?_, fun a b hab hb => ?_⟩
        · cases i with
          | zero => exact ⟨hk, by simp only [List.getElem_cons_zero, hg]; exact hfr, by simp only [List.getElem_cons_zero, hg]; exact h1.symm⟩
          | succ i => exact h5 i (by simpa using hi)
        · match a, b, hab, hb with
          | 0, 0, _, _ => simpa using Chain.nil f
          | 0, b + 1, _, hb =>
            have h7 := h6 0 b (by omega) (by simpa using hb)
            rw [h1, h3] at h7
            have := Chain.cons _ (List.getElem_mem hk.2) h7
            simp only
            rw [show S b - s = bs[k.toNat].mo + (S b - (s + bs[k.toNat].mo)) by omega, ← hfr]
            exact this
          | a + 1, b + 1, hab, hb =>
            have := h6 a b (by omega) (by simpa using hb)
            rw [show b + 1 - (a + 1) = b - a by omega]
            exact this
      · cases h
    · cases h
/-- along a chain of bounds that lead up, one goes up -/
theorem Chain.rise {bs : List Bnd} {ρ : Int → Nat} (hr : ∀ x ∈ bs, ρ x.to = ρ x.fr + 1) {m : Nat} {f t s : Int} (h : Chain bs m f t s) : ρ t = ρ f + m := by
  induction h with
  | nil f => simp
  | cons x hx _ ih => rw [ih, hr x hx]; omega
theorem Small.part {b : Btw} {n : Nat} {B : Int} (h : Small b n B) {c : List Int} (hc : ∀ i ∈ c, i.toNat < b.bs.length) : Small (b.part c) n B := by
  have key : ∀ x ∈ (b.part c).bs, x ∈ b.bs := fun x hx => by
    obtain ⟨i, hi, rfl⟩ := List.mem_map.1 hx
    rw [Btw.nth, getD_get _ _ (hc i hi)]; exact List.getElem_mem _
  exact ⟨h.num, h.le, h.pos, h.top, fun x hx => h.ix x (key x hx), fun x hx => h.mo x (key x hx)⟩
/-- the rank of a place of a round, counted from behind the k-th bound on -/
def rkI (M k i : Nat) : Nat := if k < i then i - k - 1 else i + M - k - 1
/-- all that BetweenContradicts asks of what Cycle returns -/
theorem Small.cyc {b : Btw} {n : Nat} {B : Int} (h : Small b n B) (hok : b.ok = true) (hf : b.dist.fine n = false) :
    ∃ c, b.cycle = some c ∧ 0 < c.length ∧ c.length ≤ 16 ∧ b.checkCycle c = true ∧ (∀ i ∈ c, 0 ≤ i ∧ i.toNat < b.bs.length) ∧ (b.part c).dist.fine n = false ∧ ∀ k, k < c.length → (b.part (c.eraseIdx k)).dist.fine n = true := by
  obtain ⟨M, k0, hk0, l, s, hM0, hMn, h1, h2, h3, h4, h5, h6, h7, hmin⟩ := h.cycle hf
  have hle := h.le
  have hn : b.n.toNat = n := by rw [h.num]; rfl
  have hcy := Btw.cycle_some (hk := hk0) hok (by rw [hn]; exact hf) (by omega) h1 h2 h3 h4
  have hl : l.length = M - 1 := chainI_len h4
  have hfo : followI b.bs b.bs[k0].fr ((k0 : Int) :: l) 0 = some (b.bs[k0].fr, b.bs[k0].mo + s) := by
    rw [followI_step (by omega) (by simpa using hk0) (by simp)]
    have := h5 (0 + b.bs[k0].mo)
    simpa using this
  have hlen : ((k0 : Int) :: l).length = M := by simp; omega
  have hk0r := h.ix _ (List.getElem_mem hk0)
  generalize hc : ((k0 : Int) :: l) = c at *
  have hc0 : c.getD 0 0 = k0 := by rw [← hc]; rfl
  obtain ⟨v, S, g1, g2, g3, g4, g5, g6⟩ := follow_lay hfo
  rw [hlen] at g2 g4
  have hin : ∀ i ∈ c, 0 ≤ i ∧ i.toNat < b.bs.length := fun i hi => by
    obtain ⟨j, hj, rfl⟩ := List.mem_iff_getElem.1 hi
    exact (g5 j hj).1
  -- the places of the round
  have hvr : ∀ i, i ≤ M → 0 ≤ v i ∧ v i < n := fun i hi => (g6 0 i (Nat.zero_le _) (by omega)).to_range h.ix (by rw [g1]; exact hk0r.1)
  have hdis : ∀ i j, i < j → j < M → v i ≠ v j := fun i j hij hj he => by
    have c1 := g6 i j (by omega) (by omega)
    rw [← he] at c1
    have n1 := hmin _ _ _ (by omega) (hvr i (by omega)) c1
    have c2 := g6 0 i (Nat.zero_le _) (by omega)
    have c3 := g6 j M (by omega) (by omega)
    rw [← he] at c3
    have c4 := c2.append c3
    rw [g1, g2] at c4
    have n2 := hmin _ _ _ (by omega) hk0r.1 c4
    omega
  have hinj : ∀ i j, i < M → j < M → v i = v j → i = j := fun i j hi hj he => by
    rcases Nat.lt_trichotomy i j with hlt | rfl | hgt
    · exact absurd he (hdis i j hlt hj)
    · rfl
    · exact absurd he.symm (hdis j i hgt hi)
  refine ⟨c, hcy, by omega, by omega, ?_, hin, ?_, fun k hk => ?_⟩
  · simp only [Btw.checkCycle, hok, hc0, Int.toNat_natCast, getD_get b.bs default hk0, followT, hfo, Bool.true_and, Bool.and_eq_true, decide_eq_true_eq, beq_iff_eq, inB]
    exact ⟨⟨by omega, by omega, by omega⟩, ⟨by omega, trivial⟩, by omega⟩
  · rw [Bool.eq_false_iff]; intro hfi
    have hch := follow_in (cs := (b.part c).bs) hfo (fun i hi => List.mem_map.2 ⟨i, hi, rfl⟩)
    have := (h.part (c := c) (fun i hi => (hin i hi).2)).no_round hfi _ _ _ hk0r.1 hch
    omega
  · have hsm := h.part (c := c.eraseIdx k) (fun i hi => (hin i (List.mem_of_mem_eraseIdx hi)).2)
    refine hsm.fine_of (fun q u w _ _ hch => ?_)
    let ρ : Int → Nat := fun u => rkI M k (Xe.least (fun i => v i = u))
    have hρ : ∀ i, i < M → ρ (v i) = rkI M k i := fun i hi => by
      have hs := least_spec (p := fun j => v j = v i) ⟨i, rfl⟩
      have : Xe.least (fun j => v j = v i) = i := hinj _ _ (by have := hs.2 i rfl; omega) hi hs.1
      simp only [ρ, this]
    have hrise : ∀ x ∈ (b.part (c.eraseIdx k)).bs, ρ x.to = ρ x.fr + 1 := fun x hx => by
      obtain ⟨i, hi, rfl⟩ := List.mem_map.1 hx
      obtain ⟨j, hj, hjk, he⟩ : ∃ j, ∃ (hj : j < c.length), j ≠ k ∧ c[j] = i := by
        obtain ⟨j, hj, he⟩ := List.mem_iff_getElem.1 hi
        rw [List.getElem_eraseIdx] at he
        split at he
        · rename_i hlt; exact ⟨j, by omega, by omega, he⟩
        · rename_i hge
          have hl2 := List.length_eraseIdx_of_lt hk
          exact ⟨j + 1, by omega, by omega, he⟩
      subst he
      obtain ⟨_, e1, e2⟩ := g5 j hj
      show ρ (b.nth c[j]).to = ρ (b.nth c[j]).fr + 1
      rw [Btw.nth, e1, e2, hρ j (by omega)]
      by_cases hjM : j + 1 = M
      · rw [hjM, g2, ← g1, hρ 0 hM0]
        unfold rkI; split <;> split <;> omega
      · rw [hρ (j + 1) (by omega)]
        unfold rkI; split <;> split <;> omega
    have := hch.rise hrise
    have hq : q = 0 := by omega
    subst hq
    have := hch.zero; omega
/-- a list that CheckCycle accepts: nothing is allowed -/
theorem Small.check_cycle {b : Btw} {n : Nat} {B : Int} (h : Small b n B) {l : List Int} (hc : b.checkCycle l = true) : b.dist.fine n = false := by
  rw [Bool.eq_false_iff]; intro hf
  simp only [Btw.checkCycle, Bool.and_eq_true, decide_eq_true_eq, inB, beq_iff_eq] at hc
  obtain ⟨⟨⟨_, _⟩, h1, h2⟩, ⟨h3, h4⟩, h5⟩ := hc
  have hlt : (l.getD 0 0).toNat < b.bs.length := by omega
  rw [getD_get b.bs default hlt] at h3 h4 h5
  unfold followT at h3 h4 h5
  cases hfo : followI b.bs (b.bs[(l.getD 0 0).toNat]).fr l 0 with
  | none => rw [hfo] at h3; simp at h3
  | some r =>
    obtain ⟨g, s⟩ := r
    rw [hfo] at h4 h5
    simp only at h4 h5
    subst h4
    have := h.no_round hf _ _ _ (h.ix _ (List.getElem_mem hlt)).1 (follow_chain hfo)
    omega
theorem Small.allowed_fine {b : Btw} {n : Nat} {B : Int} (h : Small b n B) {y : List Int} (ha : b.allowed y = true) : b.dist.fine n = true := by
  simp only [Btw.allowed, Bool.and_eq_true, decide_eq_true_eq, Bool.not_eq_true', List.any_eq_false, inB, Bool.and_eq_false_imp] at ha
  obtain ⟨⟨⟨_, h1⟩, h2⟩, h3⟩ := ha
  rw [h.num] at h1
  refine (h.sit (p := fun i => y.getD i 0) (fun x hx => ?_) (fun i hi => ?_)).1
  · have := h3 x hx; simp at this; simp; omega
  · have hi' : i < y.length := by omega
    have := h2 _ (List.getElem_mem hi')
    simp only [getD_get _ _ hi']
    simp at this; omega
theorem eraseIdx_take_succ {α : Type} {l : List α} {i : Nat} (h : i < l.length) (k : Nat) : (l.take (i + 1)).eraseIdx k = if i = k then (l.take i).eraseIdx k else (l.take i).eraseIdx k ++ [l[i]] := by
  have hl : (l.take i).length = i := by rw [List.length_take]; omega
  rw [List.take_succ_eq_append_getElem h]
  split
  · rename_i he; subst he
    have e1 : (l.take i ++ [l[i]]).eraseIdx i = l.take i ++ [l[i]].eraseIdx (i - (l.take i).length) := List.eraseIdx_append_of_length_le (by omega) _
    have e2 : (l.take i).eraseIdx i = l.take i := List.eraseIdx_of_length_le (by omega)
    rw [e1, e2, hl]; simp
  · rename_i hne
    by_cases hlt : k < i
    · exact List.eraseIdx_append_of_lt_length (by omega) _
    · rw [List.eraseIdx_of_length_le (by rw [List.length_append, hl]; simp; omega), List.eraseIdx_of_length_le (by omega)]
end Go.Xe
