/- The plain law of layer 6: bounds mirrored, and a further bound. No program in sight. -/
import Derived.Test.YtlgfpieokaegiaaP2
namespace Go.Xe
def Bnd.mir (x : Bnd) : Bnd := ⟨x.to, x.fr, x.mo⟩
def Btw.mir (b : Btw) : Btw := ⟨b.n, b.bs.map Bnd.mir⟩
theorem Small.mir {b : Btw} {n : Nat} {B : Int} (h : Small b n B) : Small b.mir n B :=
  ⟨h.num, h.le, h.pos, h.top, fun x hx => by
    obtain ⟨y, hy, rfl⟩ := List.mem_map.1 hx
    have := h.ix y hy; exact ⟨this.2, this.1⟩, fun x hx => by
    obtain ⟨y, hy, rfl⟩ := List.mem_map.1 hx
    exact h.mo y hy⟩
theorem keeps_mir {b : Btw} {n : Nat} {E : Mat} (h : Keeps b n E) : Keeps b.mir n (fun i k => E k i) :=
  ⟨h.zero, fun i k j hi hk hj => by
    have := h.tri k i j hk hi hj
    unfold LeP at *; omega, fun x hx => by
    obtain ⟨y, hy, rfl⟩ := List.mem_map.1 hx
    exact h.mo y hy⟩
theorem mir_mir (b : Btw) : b.mir.mir = b := by
  obtain ⟨n, bs⟩ := b
  simp only [Btw.mir, List.map_map]
  congr 1
  rw [show Bnd.mir ∘ Bnd.mir = id by funext x; rfl]
  simp
theorem Small.mir_le {b : Btw} {n : Nat} {B : Int} (h : Small b n B) (hf : b.dist.fine n = true) : b.mir.dist.fine n = true ∧ ∀ i k, i < n → k < n → b.dist k i ≤ b.mir.dist i k := by
  obtain ⟨hk, hb⟩ := h.keeps hf
  have hp := two_pow_le h.le h.pos h.top
  exact h.mir.least (C := 2 ^ n * B) (by omega) (fun i k hi hkn => hb k i hkn hi) (keeps_mir hk)
theorem Small.mir_fine {b : Btw} {n : Nat} {B : Int} (h : Small b n B) : b.mir.dist.fine n = b.dist.fine n := by
  rw [Bool.eq_iff_iff]
  exact ⟨fun hf => by have := (h.mir.mir_le hf).1; rwa [mir_mir] at this, fun hf => (h.mir_le hf).1⟩
theorem Small.mir_dist {b : Btw} {n : Nat} {B : Int} (h : Small b n B) (hf : b.dist.fine n = true) {i k : Nat} (hi : i < n) (hk : k < n) : b.dist i k = b.mir.dist k i := by
  have h1 := (h.mir_le hf).2 k i hk hi
  have h2 := (h.mir.mir_le (h.mir_fine.trans hf)).2 i k hi hk
  rw [mir_mir] at h2
  omega
/-- closing, in one -/
theorem ROut.any {α : Type} [Enc α] {I : Im} {u : Value} {o : Option (List α)} (h : ROut I u o) : ∃ a c, u = .tuple #[.slice a (o.getD []).length c, .int .i64 (if o.isSome then 0 else 60)] ∧ Arr I a (o.getD []) := by
  obtain ⟨v, e, rfl, h1, h2⟩ := h
  cases o with
  | none => obtain ⟨rfl, rfl⟩ := h2 rfl; exact ⟨none, 0, rfl, Arr.nil⟩
  | some r =>
    obtain ⟨rfl, hs⟩ := h1 r rfl
    obtain ⟨a, c, rfl, _, h3⟩ := hs.ex
    exact ⟨a, c, rfl, h3⟩
theorem BOut.any {α : Type} [Enc α] {I : Im} {u : Value} {o : Option (List α)} (h : BOut I u o) : ∃ a c, u = .tuple #[.slice a (o.getD []).length c, .bool o.isSome] ∧ Arr I a (o.getD []) := by
  obtain ⟨v, rfl, h1, h2⟩ := h
  cases o with
  | none => rw [h2 rfl]; exact ⟨none, 0, rfl, Arr.nil⟩
  | some r =>
    obtain ⟨a, c, rfl, _, h3⟩ := (h1 r rfl).ex
    exact ⟨a, c, rfl, h3⟩
/-- all distances, or none -/
def Btw.rowsD (b : Btw) (n : Nat) : List (List Int) := if b.dist.fine n then b.dist.rows n else []
theorem Small.close_eq {b : Btw} {n : Nat} {B : Int} (h : Small b n B) (hok : b.ok = true) : b.close.getD [] = b.rowsD n ∧ b.close.isSome = b.dist.fine n := by
  cases hf : b.dist.fine n with
  | true => rw [h.close_some hok hf]; simp [Btw.rowsD, hf]
  | false => rw [(h.solve_none hf).2]; simp [Btw.rowsD, hf]
def moveP (p : Nat → Int) (c : Int) (i : Nat) : Int := p i + c
theorem Sit.move {b : Btw} {p : Nat → Int} (c : Int) : Sit b (moveP p c) ↔ Sit b p := by
  unfold Sit moveP
  constructor <;> (intro h x hx; have := h x hx; omega)
theorem Sit.turn {b : Btw} {p : Nat → Int} : Sit b.mir (fun i => -p i) ↔ Sit b p := by
  constructor
  · intro h x hx
    have := h x.mir (List.mem_map_of_mem hx)
    simp only [Bnd.mir] at this; omega
  · intro h x hx
    obtain ⟨y, hy, rfl⟩ := List.mem_map.1 hx
    have := h y hy
    simp only [Bnd.mir]; omega
end Go.Xe
namespace Go.Xe
theorem bndC_map_succ (f : Bnd → Bnd) (bs : List Bnd) {k : Nat} (hk : k < bs.length) : bndC ((bs.take (k + 1)).map f) = bndC ((bs.take k).map f) ++ (f bs[k]).cs := by
  rw [List.take_succ_eq_append_getElem hk, List.map_append, bndC_append]; simp [bndC]
def mixP (f : Nat → Int) (y : List Int) (i : Nat) : Int := match y[i]? with | some v => f i + pickI v 21 - 10 | none => f i
theorem mixP_range (x : Nums) (y : List Int) (i : Nat) : -110 ≤ mixP x.hidF y i ∧ mixP x.hidF y i ≤ 109 := by
  have := x.hidF_range i
  unfold mixP
  split
  · rename_i v _; have := pickI_range (c := v) (n := 21) (by omega); omega
  · omega
theorem rowsD_len (b : Btw) (n : Nat) : (b.rowsD n).length = if b.dist.fine n then n else 0 := by unfold Btw.rowsD; split <;> simp [rows_len]
end Go.Xe
