/- The plain law of layer 6: what the reference's Cycle and Implied return; results that are nil or hold something. -/
import Derived.Test.YtlgfpieokaegiaaQ0
namespace Go.Xe
open Go Go.RowKit
theorem firstF_ne {b : Btw} {n : Nat} {B : Int} (h : Small b n B) {i M : Nat} (hi : i < n) (h1 : 1 ≤ M) (hM : M ≤ 100) : ∀ r, firstF b i i M (-1) = some r → r ≠ [] := by
  obtain ⟨m, rfl⟩ : ∃ m, M = m + 1 := ⟨M - 1, by omega⟩
  intro r hr
  rcases firstF_round h hi (m := m) (by omega) with ⟨g, _⟩ | ⟨k, hk, l, g, _⟩
  · rw [g] at hr; cases hr
  · rw [g] at hr; cases hr; simp
theorem firstF_len {b : Btw} {n : Nat} {B : Int} (_ : Small b n B) {i M : Nat} (_ : i < n) (_ : 1 ≤ M) (hM : M ≤ 100) : ((firstF b i i M (-1)).getD []).length ≤ 100 := by
  unfold firstF
  split
  · cases hc : chainI b.bs b.walk i M i (-1) with
    | none => simp
    | some l => have := chainI_len hc; simp only [Option.getD_some]; omega
  · simp
theorem cycle_at {b : Btw} {n : Nat} {B : Int} (h : Small b n B) (hok : b.ok = true) {M : Nat} (h1 : 1 ≤ M) (h2 : M ≤ n) (hp : ∀ j, 1 ≤ j → j < M → bestF b j n = none) {r : List Int} (hr : bestF b M n = some r) : b.cycle = some r := by
  rcases ref_cycle h hok with ⟨_, g⟩ | ⟨M', l, g1, g2, g3, g4, g5⟩
  · rw [g M h1 h2] at hr; cases hr
  · rcases Nat.lt_trichotomy M M' with hh | hh | hh
    · rw [g5 M h1 hh] at hr; cases hr
    · subst hh; rw [hr] at g4; cases g4; exact g3
    · rw [hp M' g1 hh] at g4; cases g4
theorem cycle_no {b : Btw} {n : Nat} {B : Int} (h : Small b n B) (hok : b.ok = true) (hp : ∀ j, 1 ≤ j → j ≤ n → bestF b j n = none) : b.cycle = none := by
  rcases ref_cycle h hok with ⟨g, _⟩ | ⟨M', l, g1, g2, g3, g4, g5⟩
  · exact g
  · rw [hp M' g1 g2] at g4; cases g4
theorem cycle_bad {b : Btw} (hok : b.ok = false) : b.cycle = none := by simp [Btw.cycle, hok]
theorem bestF_none {b : Btw} {M q : Nat} (h : firstF b q q M (-1) = none) : bestF b M (q + 1) = bestF b M q := by simp only [bestF, h]
theorem bestF_new {b : Btw} {M q : Nat} {l : List Int} (h : firstF b q q M (-1) = some l) (h2 : bestF b M q = none) : bestF b M (q + 1) = some l := by simp only [bestF, h, h2]
theorem bestF_better {b : Btw} {M q : Nat} {l r : List Int} (h : firstF b q q M (-1) = some l) (h2 : bestF b M q = some r) : bestF b M (q + 1) = if beforeF l r then some l else some r := by simp only [bestF, h, h2]
theorem implied_at {b : Btw} {n : Nat} {B : Int} (h : Small b n B) (hok : b.ok = true) {x : Bnd} (hbx : bndOk b.n x = true) (hf : b.dist.fine n = true) {m : Nat} (hm : m ≤ n) (hp : ∀ j, j < m → firstF b x.fr x.to j x.mo = none) {r : List Int} (hr : firstF b x.fr x.to m x.mo = some r) : b.implied x = some r := by
  have hn : b.n.toNat = n := by rw [h.num]; rfl
  have hle := h.le
  have hxb := bndOk_iff.1 hbx
  rw [h.num] at hxb
  unfold firstF at hr
  by_cases hw : b.walk m x.fr.toNat x.to.toNat ≤ x.mo
  · rw [if_pos hw] at hr
    have hd : b.dist x.fr.toNat x.to.toNat ≤ x.mo := by
      rw [← dist_min h hf (show x.fr.toNat < n by omega) (show x.to.toNat < n by omega)]
      have := (minW_le b x.fr.toNat x.to.toNat (n + 1)).2 m (by omega); omega
    refine Btw.implied_some (M := m) ?_ (by omega) (by simp [Btw.hits, hw]) (fun j hj => ?_) hr
    · simp [Btw.keeps, hok, hbx, hn, hf, hd]
    · simp only [Btw.hits, decide_eq_false_iff_not]
      intro hwj
      obtain ⟨l, hl⟩ := firstF_some h (f := x.fr) (t := x.to) (by omega) (by omega) (m := j) (by omega) (by omega) hwj
      have h9 := hp j hj
      unfold firstF at h9; rw [if_pos hwj, hl] at h9; cases h9
  · rw [if_neg hw] at hr; cases hr
theorem implied_no {b : Btw} {n : Nat} {B : Int} (h : Small b n B) {x : Bnd} (hbx : bndOk b.n x = true) (hp : ∀ j, j ≤ n → firstF b x.fr x.to j x.mo = none) : b.implied x = none := by
  have hle := h.le
  have hxb := bndOk_iff.1 hbx
  rw [h.num] at hxb
  cases hk : b.keeps x with
  | false => simp [Btw.implied, hk]
  | true =>
    obtain ⟨M, l, s, h1, h2, _⟩ := h.implied hk
    have hw : b.walk M x.fr.toNat x.to.toNat ≤ x.mo := by simpa [Btw.hits] using h2
    obtain ⟨l', hl'⟩ := firstF_some h (f := x.fr) (t := x.to) (by omega) (by omega) (m := M) (by omega) (by omega) hw
    have h9 := hp M (by omega)
    unfold firstF at h9; rw [if_pos hw, hl'] at h9; cases h9
theorem implied_off {b : Btw} {x : Bnd} (h : b.keeps x = false) : b.implied x = none := by simp [Btw.implied, h]
/-- a slice that is nil exactly if there is nothing -/
structure Held (I : Im) (a : Option Addr) (c : Nat) (o : Option (List Int)) : Prop where
  nil : a.isNone = o.isNone
  none : o = none → c = 0
  sl : Sl I (.slice a (o.getD []).length c) (o.getD [])
theorem Held.mono {I I' : Im} {a : Option Addr} {c : Nat} {o : Option (List Int)} (h : Held I a c o) (hle : I.le I') : Held I' a c o := ⟨h.nil, h.none, h.sl.mono hle⟩
theorem Held.arr {I : Im} {a : Option Addr} {c : Nat} {o : Option (List Int)} (h : Held I a c o) : Arr I a (o.getD []) := h.sl.arr.1
theorem Held.empty {I : Im} : Held I Option.none 0 Option.none := ⟨rfl, fun _ => rfl, Sl.nil⟩
theorem BOut.held {I : Im} {u : Value} {o : Option (List Int)} (h : BOut I u o) (hne : ∀ r, o = some r → r ≠ []) : ∃ a c, u = .tuple #[.slice a (o.getD []).length c, .bool o.isSome] ∧ Held I a c o := by
  obtain ⟨v, rfl, h1, h2⟩ := h
  cases o with
  | none => rw [h2 rfl]; exact ⟨none, 0, rfl, Held.empty⟩
  | some r =>
    obtain ⟨a, c, rfl, hc, hA⟩ := (h1 r rfl).ex
    have hr := hne r rfl
    have hs := hA.isSome (by decide) (List.length_pos_iff.2 hr)
    refine ⟨a, c, rfl, ?_, (fun hh => by cases hh), ⟨a, c, rfl, hc, hA⟩⟩
    cases a with
    | none => cases hs
    | some x => rfl
section
variable {P : Program} {dst : Option Tmp} {ty : TypeId} {pos : String} {after : Array Edge} {guard : Option (Nat × Bool)} {E : Env} {I : Im} {L : Own} {x y : Operand}
theorem run_slice_eq {w : World} {t e : TypeId} {a : Option Addr} {n c : Nat} (hu : P.underlying t = some (.slice e)) : (Op.equal t (.slice a n c) (.slice none 0 0)).run P w = .ok a.isNone w := by
  unfold Op.equal
  rw [show Op.maxDepth = (Op.maxDepth - 1) + 1 from rfl]
  unfold Op.equalIn
  cases a <;> simp [run_under hu]
theorem Reads.slice_eqn {t yt e : TypeId} {a : Option Addr} {n c : Nat} (hu : P.underlying t = some (.slice e)) (hx : ev E x = some (.slice a n c)) (hy : ev E y = some (.slice none 0 0)) :
    Reads P ⟨dst, .binOp .eql t x y yt, ty, pos, after, guard⟩ E I L (.bool a.isNone) :=
  fun _ _ _ a' w hH _ => by simp [execOp, hH.ev hx, hH.ev hy, binOp, eqGuard, run_slice_eq hu]
theorem Reads.slice_nen {t yt e : TypeId} {a : Option Addr} {n c : Nat} (hu : P.underlying t = some (.slice e)) (hx : ev E x = some (.slice a n c)) (hy : ev E y = some (.slice none 0 0)) :
    Reads P ⟨dst, .binOp .neq t x y yt, ty, pos, after, guard⟩ E I L (.bool (!a.isNone)) :=
  fun _ _ _ a' w hH _ => by simp [execOp, hH.ev hx, hH.ev hy, binOp, eqGuard, run_slice_eq hu]
end
end Go.Xe
