/- The plain law of layer 6: a situation in which everything is away from one variable by its distance. No program in sight. -/
import Derived.Test.YtlgfpieokaegiaaP3
namespace Go.Xe
def thereP (D : Mat) (s : Nat → Int) (k i : Nat) : Int := if D k i = far then 1000000000 + s i else D k i
theorem Small.there {b : Btw} {n : Nat} {k : Nat} (h : Small b n 300) (hp : (2 : Int) ^ n * 300 ≤ 76800) (hf : b.dist.fine n = true) (hk : k < n) :
    Sit b (thereP b.dist (solveP b.dist n) k) ∧ (∀ i, i < n → -76800 ≤ thereP b.dist (solveP b.dist n) k i ∧ thereP b.dist (solveP b.dist n) k i ≤ 1000000000) ∧ thereP b.dist (solveP b.dist n) k k = 0 := by
  obtain ⟨hk1, hb⟩ := h.keeps hf
  have hs := h.solved hf
  refine ⟨fun x hx => ?_, fun i hi => ?_, ?_⟩
  · obtain ⟨⟨h1, h2⟩, h3, h4⟩ := h.ix x hx
    have h5 := hk1.tri k x.to.toNat x.fr.toNat hk (by omega) (by omega)
    have h6 := hk1.mo x hx
    have h7 := h.mo x hx
    have h8 := hs.sit x hx
    have h9 := hs.neg x.fr.toNat (by omega)
    have h10 := hs.neg x.to.toNat (by omega)
    have h11 := hb k x.to.toNat hk (by omega)
    have h12 := hb k x.fr.toNat hk (by omega)
    unfold thereP LeP Bd far at *
    split <;> split <;> omega
  · have h1 := hb k i hk hi
    have h2 := hs.neg i hi
    unfold thereP Bd far at *
    split <;> omega
  · have := hk1.zero k hk
    unfold thereP far
    rw [if_neg (by omega)]; omega
def Btw.solveD (b : Btw) (n : Nat) : List Int := if b.dist.fine n then (List.range n).map (solveP b.dist n) else []
theorem Small.solve_eq {b : Btw} {n : Nat} {B : Int} (h : Small b n B) (hok : b.ok = true) : b.solve.getD [] = b.solveD n ∧ b.solve.isSome = b.dist.fine n := by
  cases hf : b.dist.fine n with
  | true => rw [h.solve_some hok hf]; simp [Btw.solveD, hf]
  | false => rw [(h.solve_none hf).1]; simp [Btw.solveD, hf]
theorem solveD_len (b : Btw) (n : Nat) : (b.solveD n).length = if b.dist.fine n then n else 0 := by unfold Btw.solveD; split <;> simp
theorem ROut.anyc {α : Type} [Enc α] {I : Im} {u : Value} {o : Option (List α)} (h : ROut I u o) : ∃ a c, u = .tuple #[.slice a (o.getD []).length c, .int .i64 (if o.isSome then 0 else 60)] ∧ (o.getD []).length ≤ c ∧ Arr I a (o.getD []) := by
  obtain ⟨v, e, rfl, h1, h2⟩ := h
  cases o with
  | none => obtain ⟨rfl, rfl⟩ := h2 rfl; exact ⟨none, 0, rfl, Nat.le_refl _, Arr.nil⟩
  | some r =>
    obtain ⟨rfl, hs⟩ := h1 r rfl
    obtain ⟨a, c, rfl, h4, h3⟩ := hs.ex
    exact ⟨a, c, rfl, h4, h3⟩
theorem three_rows {I : Im} {a : Option Addr} {n q : Nat} {p0 p1 p2 : Nat → Int} (h : Arr I a [(List.range n).map p0, (List.range n).map p1, (List.range n).map p2]) (hq : q < 3) :
    ∃ (p : Nat → Int) (ap : Option Addr) (cp : Nat), (p = p0 ∨ p = p1 ∨ p = p2) ∧ At I a (q * 1) (.slice ap n cp) ∧ Arr I ap ((List.range n).map p) := by
  obtain ⟨v, w1, w2⟩ := h.sl (j := q) hq
  obtain ⟨ap, cp, rfl, _, w3⟩ := w2.ex
  match q, hq with
  | 0, _ => exact ⟨p0, ap, cp, .inl rfl, by simpa using w1, w3⟩
  | 1, _ => exact ⟨p1, ap, cp, .inr (.inl rfl), by simpa using w1, w3⟩
  | 2, _ => exact ⟨p2, ap, cp, .inr (.inr rfl), by simpa using w1, w3⟩
theorem Nums.not_fine {x : Nums} (h : x.made.dist.fine x.hidN = false) : x.misses = true := by
  cases hm : x.misses with
  | true => rfl
  | false =>
    have := (x.made_small.sit (Nums.hid_sit hm) x.hid_bd).1
    rw [h] at this; cases this
end Go.Xe
