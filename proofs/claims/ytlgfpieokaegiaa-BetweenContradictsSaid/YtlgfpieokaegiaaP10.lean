/- The plain law of layer 6: chains that are accepted, and the opposite of a bound. No program in sight. -/
import Derived.Test.YtlgfpieokaegiaaP9
namespace Go.Xe
theorem Btw.checkChain_iff {b : Btw} {x : Bnd} {l : List Int} : b.checkChain x l = true ↔ b.ok = true ∧ bndOk b.n x = true ∧ ∃ s, followI b.bs x.fr l 0 = some (x.to, s) ∧ l.length ≤ 60 ∧ s ≤ x.mo := by
  unfold Btw.checkChain followT
  cases hf : followI b.bs x.fr l 0 with
  | none => simp
  | some r =>
    obtain ⟨g, s⟩ := r
    simp only [Bool.and_eq_true, beq_iff_eq, decide_eq_true_eq, Option.some.injEq, Prod.mk.injEq]
    constructor
    · rintro ⟨⟨h1, h2⟩, ⟨h3, h4⟩, h5⟩
      exact ⟨h1, h2, s, ⟨h4, rfl⟩, h3, h5⟩
    · rintro ⟨h1, h2, s', ⟨h4, rfl⟩, h3, h5⟩
      exact ⟨⟨h1, h2⟩, ⟨h3, h4⟩, h5⟩
/-- an accepted chain: the distance is no greater -/
theorem Small.check_le {b : Btw} {n : Nat} {B : Int} (h : Small b n B) (hf : b.dist.fine n = true) {x : Bnd} (hx : 0 ≤ x.fr ∧ x.fr < n) {l : List Int} (hc : b.checkChain x l = true) : b.dist x.fr.toNat x.to.toNat ≤ x.mo := by
  obtain ⟨_, _, s, h1, _, h3⟩ := Btw.checkChain_iff.1 hc
  have := (h.chain_ge hf (follow_chain h1) hx).2
  omega
/-- what Implied returns is accepted -/
theorem Small.implied_ok {b : Btw} {n : Nat} {B : Int} (h : Small b n B) {x : Bnd} (hk : b.keeps x = true) : ∃ l, b.implied x = some l ∧ b.checkChain x l = true ∧ l.length ≤ 16 := by
  obtain ⟨M, l, s, h1, h2, h3, h4, h5, h6, _⟩ := h.implied hk
  have hle := h.le
  have hl := chainI_len h4
  simp only [Btw.keeps, Bool.and_eq_true] at hk
  refine ⟨l, Btw.implied_some (by simp [Btw.keeps, hk]) (by omega) h2 h3 h4, Btw.checkChain_iff.2 ⟨hk.1.1.1, hk.1.1.2, s, by simpa using h5 0, by omega, h6⟩, by omega⟩
theorem Small.widen {b : Btw} {n : Nat} {B C : Int} (h : Small b n B) (hC : B ≤ C) (hT : C ≤ 1000000000) : Small b n C :=
  ⟨h.num, h.le, by have := h.pos; omega, hT, h.ix, fun x hx => by have := h.mo x hx; omega⟩
/-- the opposite of a bound that does not follow -/
def Bnd.opp (x : Bnd) : Bnd := ⟨x.to, x.fr, -x.mo - 1⟩
theorem Small.opposite {b : Btw} {n : Nat} (h : Small b n 300) (hp : (2 : Int) ^ n * 300 ≤ 76800) (hf : b.dist.fine n = true) {x : Bnd} (hx : (0 ≤ x.fr ∧ x.fr < n) ∧ (0 ≤ x.to ∧ x.to < n) ∧ -300 ≤ x.mo ∧ x.mo ≤ 300) (hk : ¬ b.dist x.fr.toNat x.to.toNat ≤ x.mo) :
    Small (b.more x.opp) n 301 ∧ (b.more x.opp).dist.fine n = true := by
  have hsm : Small (b.more x.opp) n 301 := (h.widen (by decide) (by decide)).more ⟨hx.2.1, hx.1, by simp only [Bnd.opp]; omega⟩
  refine ⟨hsm, ?_⟩
  obtain ⟨h1, h2, h3⟩ := h.there hp hf (k := x.fr.toNat) (by omega)
  have hs := h.solved hf
  have h4 := hs.neg x.to.toNat (by omega)
  refine (hsm.sit (p := thereP b.dist (solveP b.dist n) x.fr.toNat) (Sit.more.2 ⟨h1, ?_⟩) (fun i hi => by have := h2 i hi; omega)).1
  simp only [Bnd.opp]
  rw [h3]
  unfold thereP far
  split <;> omega
end Go.Xe
namespace Go.Xe
/-- all that BetweenImplies asks, of one bound -/
theorem Small.implied_get {b : Btw} {n : Nat} {B : Int} (h : Small b n B) (x : Bnd) : ((b.implied x).getD []).length ≤ 16 ∧ (b.keeps x = true → b.checkChain x ((b.implied x).getD []) = true) ∧ (b.keeps x = false → ((b.implied x).getD []).length = 0) := by
  cases hk : b.keeps x with
  | true =>
    obtain ⟨l, h1, h2, h3⟩ := h.implied_ok hk
    rw [h1]; exact ⟨h3, fun _ => h2, (fun hh => by cases hh)⟩
  | false => rw [show b.implied x = none by simp [Btw.implied, hk]]; exact ⟨by simp, (fun hh => by cases hh), fun _ => rfl⟩
end Go.Xe
