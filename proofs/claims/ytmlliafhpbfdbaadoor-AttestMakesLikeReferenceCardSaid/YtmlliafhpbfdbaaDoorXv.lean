/- How plain data lies in memory that does not change: over the small logic of XXe. No program is named here. -/
import Derived.Test.YtmlliafhpbfdbaaDoorMX
namespace Go.Xe
open Go Go.RowKit

class Enc (α : Type) where
  sz : Nat
  rep : Im → List Value → α → Prop
  len : ∀ {I : Im} {cs : List Value} {x : α}, rep I cs x → cs.length = sz
  mono : ∀ {I I' : Im} {cs : List Value} {x : α}, I.le I' → rep I cs x → rep I' cs x
  one : ∀ {I : Im} {cs : List Value} {x : α}, rep I cs x → ∀ v ∈ cs, v.oneCell' = true

/-- the elements of a slice that begins at a -/
def Arr {α : Type} [Enc α] (I : Im) (a : Option Addr) (xs : List α) : Prop :=
  ∀ (j : Nat) (h : j < xs.length), ∃ cs, Enc.rep I cs xs[j] ∧ ∀ i v, cs[i]? = some v → At I a (j * Enc.sz α + i) v
/-- a slice's value -/
structure Sl {α : Type} [Enc α] (I : Im) (v : Value) (xs : List α) : Prop where
  ex : ∃ a cap, v = .slice a xs.length cap ∧ xs.length ≤ cap ∧ Arr I a xs

theorem Arr.mono {α : Type} [Enc α] {I I' : Im} {a : Option Addr} {xs : List α} (h : Arr I a xs) (hle : I.le I') : Arr I' a xs :=
  fun j hj => let ⟨cs, h1, h2⟩ := h j hj; ⟨cs, Enc.mono hle h1, fun i v hv => (h2 i v hv).mono hle⟩
theorem Sl.mono {α : Type} [Enc α] {I I' : Im} {v : Value} {xs : List α} (h : Sl I v xs) (hle : I.le I') : Sl I' v xs :=
  let ⟨a, cap, h1, h2, h3⟩ := h.ex; ⟨a, cap, h1, h2, h3.mono hle⟩
theorem Arr.nil {α : Type} [Enc α] {I : Im} {a : Option Addr} : Arr I a ([] : List α) := fun j h => absurd h (Nat.not_lt_zero j)
theorem Sl.nil {α : Type} [Enc α] {I : Im} : Sl I (.slice none 0 0) ([] : List α) := ⟨none, 0, rfl, Nat.le_refl _, Arr.nil⟩

instance : Enc Int where
  sz := 1
  rep := fun _ cs x => cs = [.int .i64 x]
  len := fun h => by rw [h]; rfl
  mono := fun _ h => h
  one := fun h v hv => by rw [h] at hv; simp at hv; subst hv; rfl
instance : Enc ByteArray where
  sz := 1
  rep := fun _ cs x => cs = [.string x]
  len := fun h => by rw [h]; rfl
  mono := fun _ h => h
  one := fun h v hv => by rw [h] at hv; simp at hv; subst hv; rfl
instance {α : Type} [Enc α] : Enc (List α) where
  sz := 1
  rep := fun I cs x => ∃ v, cs = [v] ∧ Sl I v x
  len := fun ⟨v, h, _⟩ => by rw [h]; rfl
  mono := fun hle ⟨v, h, hs⟩ => ⟨v, h, hs.mono hle⟩
  one := fun ⟨u, h, hs⟩ v hv => by
    rw [h] at hv; simp at hv; subst hv
    obtain ⟨a, cap, rfl, _⟩ := hs.ex; rfl

theorem Arr.isSome {α : Type} [Enc α] {I : Im} {a : Option Addr} {xs : List α} (h : Arr I a xs) (hz : 0 < Enc.sz α) (hn : 0 < xs.length) : a.isSome = true := by
  obtain ⟨cs, h1, h2⟩ := h 0 hn
  have hl := Enc.len h1
  cases cs with
  | nil => simp at hl; omega
  | cons v r => exact (h2 0 v rfl).isSome
theorem Arr.addr {α : Type} [Enc α] {I : Im} {a : Option Addr} {xs : List α} (h : Arr I a xs) (hz : 0 < Enc.sz α) (hn : 0 < xs.length) : ∃ b o, a = some ⟨b, o, none⟩ := by
  obtain ⟨cs, h1, h2⟩ := h 0 hn
  have hl := Enc.len h1
  cases cs with
  | nil => simp at hl; omega
  | cons v r =>
    obtain ⟨b, off, _, _, _, rfl, _⟩ := h2 0 v rfl
    exact ⟨b, off, rfl⟩
theorem Arr.int {I : Im} {a : Option Addr} {xs : List Int} (h : Arr I a xs) {j : Nat} (hj : j < xs.length) : At I a (j * 1) (.int .i64 xs[j]) := by
  obtain ⟨cs, h1, h2⟩ := h j hj
  exact h2 0 _ (by rw [h1]; rfl)
theorem Arr.str {I : Im} {a : Option Addr} {xs : List ByteArray} (h : Arr I a xs) {j : Nat} (hj : j < xs.length) : At I a (j * 1) (.string xs[j]) := by
  obtain ⟨cs, h1, h2⟩ := h j hj
  exact h2 0 _ (by rw [h1]; rfl)
theorem Arr.sl {α : Type} [Enc α] {I : Im} {a : Option Addr} {xs : List (List α)} (h : Arr I a xs) {j : Nat} (hj : j < xs.length) : ∃ v, At I a (j * 1) v ∧ Sl I v xs[j] := by
  obtain ⟨cs, ⟨v, h1, h3⟩, h2⟩ := h j hj
  exact ⟨v, h2 0 _ (by rw [h1]; rfl), h3⟩
/-- a part from the front on -/
theorem Arr.take {α : Type} [Enc α] {I : Im} {a : Option Addr} {xs : List α} (h : Arr I a xs) (k : Nat) : Arr I a (xs.take k) := fun j hj => by
  have h1 : j < xs.length := by simp at hj; omega
  obtain ⟨cs, h2, h3⟩ := h j h1
  exact ⟨cs, by simpa using h2, h3⟩

/-- the cells of a list's elements, one after the other -/
inductive Flat {α : Type} [Enc α] (I : Im) : List Value → List α → Prop where
  | nil : Flat I [] []
  | cons {cs r : List Value} {x : α} {xs : List α} (h : Enc.rep I cs x) (hr : Flat I r xs) : Flat I (cs ++ r) (x :: xs)
theorem Flat.mono {α : Type} [Enc α] {I I' : Im} {cs : List Value} {xs : List α} (hle : I.le I') (h : Flat I cs xs) : Flat I' cs xs := by
  induction h with
  | nil => exact .nil
  | cons h _ ih => exact .cons (Enc.mono hle h) ih
theorem Flat.len {α : Type} [Enc α] {I : Im} {cs : List Value} {xs : List α} (h : Flat I cs xs) : cs.length = xs.length * Enc.sz α := by
  induction h with
  | nil => simp
  | cons h _ ih => simp [Enc.len h, ih, Nat.add_mul, Nat.add_comm]
theorem Flat.one {α : Type} [Enc α] {I : Im} {cs : List Value} {xs : List α} (h : Flat I cs xs) : ∀ v ∈ cs, v.oneCell' = true := by
  induction h with
  | nil => intro v hv; cases hv
  | cons h _ ih => intro v hv; rcases List.mem_append.1 hv with hv | hv; exact Enc.one h v hv; exact ih v hv
theorem Flat.append {α : Type} [Enc α] {I : Im} {cs ds : List Value} {xs ys : List α} (h : Flat I cs xs) (k : Flat I ds ys) : Flat I (cs ++ ds) (xs ++ ys) := by
  induction h with
  | nil => exact k
  | cons h _ ih => rw [List.append_assoc]; exact .cons h ih
theorem Flat.single {α : Type} [Enc α] {I : Im} {cs : List Value} {x : α} (h : Enc.rep I cs x) : Flat I cs [x] := by
  have := Flat.cons h (Flat.nil (α := α) (I := I)); simpa using this
theorem Flat.at_ {α : Type} [Enc α] {I : Im} {cs : List Value} {xs : List α} (h : Flat I cs xs) : ∀ (j : Nat) (hj : j < xs.length), ∃ ds, Enc.rep I ds xs[j] ∧ ∀ i v, ds[i]? = some v → cs[j * Enc.sz α + i]? = some v := by
  induction h with
  | nil => intro j hj; exact absurd hj (Nat.not_lt_zero j)
  | @cons c r x xs h _ ih =>
    intro j hj
    have hl := Enc.len h
    cases j with
    | zero => exact ⟨c, h, fun i v hv => by
        have : i < c.length := (List.getElem?_eq_some_iff.1 hv).1
        rw [Nat.zero_mul, Nat.zero_add, List.getElem?_append_left this]; exact hv⟩
    | succ j =>
      obtain ⟨ds, h1, h2⟩ := ih j (by simpa using hj)
      refine ⟨ds, by simpa using h1, fun i v hv => ?_⟩
      rw [List.getElem?_append_right (by rw [hl, Nat.add_mul]; omega), hl, show (j + 1) * Enc.sz α + i - Enc.sz α = j * Enc.sz α + i by rw [Nat.add_mul]; omega]
      exact h2 i v hv
theorem Flat.of_arr {α : Type} [Enc α] {I : Im} {a : Option Addr} : ∀ {xs : List α} {k : Nat}, (∀ (j : Nat) (h : j < xs.length), ∃ cs, Enc.rep I cs xs[j] ∧ ∀ i v, cs[i]? = some v → At I a ((k + j) * Enc.sz α + i) v) →
    ∃ cs, Flat I cs xs ∧ ∀ i v, cs[i]? = some v → At I a (k * Enc.sz α + i) v
  | [], _, _ => ⟨[], .nil, fun i v h => by simp at h⟩
  | x :: xs, k, h => by
    obtain ⟨c, h1, h2⟩ := h 0 (by simp)
    obtain ⟨r, h3, h4⟩ := Flat.of_arr (xs := xs) (k := k + 1) (fun j hj => by
      obtain ⟨cs, h5, h6⟩ := h (j + 1) (by simpa using hj)
      exact ⟨cs, by simpa using h5, fun i v hv => by have := h6 i v hv; rwa [show k + (j + 1) = k + 1 + j by omega] at this⟩)
    have hl := Enc.len h1
    refine ⟨c ++ r, .cons (by simpa using h1) h3, fun i v hv => ?_⟩
    by_cases hi : i < c.length
    · rw [List.getElem?_append_left hi] at hv
      simpa using h2 i v hv
    · rw [List.getElem?_append_right (by omega)] at hv
      have := h4 _ v hv
      rwa [show (k + 1) * Enc.sz α + (i - c.length) = k * Enc.sz α + i by rw [Nat.add_mul]; omega] at this
theorem Arr.flat {α : Type} [Enc α] {I : Im} {a : Option Addr} {xs : List α} (h : Arr I a xs) : ∃ cs, Flat I cs xs ∧ ∀ i v, cs[i]? = some v → At I a i v := by
  obtain ⟨cs, h1, h2⟩ := Flat.of_arr (xs := xs) (k := 0) (fun j hj => by simpa using h j hj)
  exact ⟨cs, h1, fun i v hv => by simpa using h2 i v hv⟩

/-- what is owned and holds a list's cells becomes, given away, a slice of it -/
theorem Arr.of_add {α : Type} [Enc α] {I : Im} {b : Nat} {c : Array Value} {e : TypeId} {fr : Nat × Nat} {cs : List Value} {xs : List α} {m : Nat} (hb : I b = none) (hc : c.toList.take m = cs) (h : Flat I cs xs) :
    Arr (I.add b (.cells c e fr)) (some ⟨b, 0, none⟩) xs := fun j hj => by
  obtain ⟨ds, h1, h2⟩ := h.at_ j hj
  refine ⟨ds, Enc.mono (Im.le_add hb) h1, fun i v hv => ⟨b, 0, c, e, fr, rfl, Im.add_self .., ?_⟩⟩
  have := h2 i v hv
  rw [← hc, List.getElem?_take] at this
  split at this
  · simpa using this
  · cases this

/-- a growing slice, given away -/
def Vec.give (V : Vec) (e : TypeId) (I : Im) : Im := match V.blk with | some (b, c) => I.add b (.cells c e (0, 0)) | none => I
theorem Vec.sl {α : Type} [Enc α] {V : Vec} {e : TypeId} {I : Im} {cs : List Value} {xs : List α} (hz : 0 < Enc.sz α) (hV : V.Is (Enc.sz α) cs) (h : Flat I cs xs) (hb : ∀ b c, V.blk = some (b, c) → I b = none) : V.len = xs.length ∧ Sl (V.give e I) V.val xs := by
  have h1 := h.len
  rw [hV.len] at h1
  have hl : V.len = xs.length := Nat.eq_of_mul_eq_mul_right hz h1
  refine ⟨hl, V.addr, V.cap, by rw [Vec.val, hl], by rw [← hl]; exact hV.le, ?_⟩
  cases hbk : V.blk with
  | none =>
    have h0 := hV.none hbk
    have h2 := hV.le
    have : xs = [] := List.length_eq_zero_iff.1 (by omega)
    subst this; exact Arr.nil
  | some p =>
    obtain ⟨b, c⟩ := p
    obtain ⟨_, h3⟩ := hV.some b c hbk
    have := Arr.of_add (e := e) (fr := (0, 0)) (hb b c hbk) h3 h
    simpa [Vec.give, hbk, Vec.addr] using this
theorem Vec.le_give {V : Vec} {e : TypeId} {I : Im} (hb : ∀ b c, V.blk = some (b, c) → I b = none) : I.le (V.give e I) := by
  unfold Vec.give
  cases hbk : V.blk with
  | none => exact Im.le_refl I
  | some p => obtain ⟨b, c⟩ := p; exact Im.le_add (hb b c hbk)
theorem Sat.give_vec {K w : World} {I : Im} {L : Own} {V : Vec} {e : TypeId} (h : Sat K w I (V.ent e :: L)) : Sat K w (V.give e I) L ∧ ∀ b c, V.blk = some (b, c) → I b = none := by
  unfold Vec.ent at h
  unfold Vec.give
  cases hbk : V.blk with
  | none => rw [hbk] at h; exact ⟨h.drop (List.sublist_cons_self ..), fun b c hc => by cases hc⟩
  | some p =>
    obtain ⟨b, c⟩ := p
    rw [hbk] at h
    exact ⟨h.give, fun b' c' hc => by cases hc; exact h.apart _ _ (List.mem_cons_self ..)⟩
section
variable {P : Program} {r : Option Nat} {K : World} {n : Nat} {ds : List Deferred} {ops : Array Oper} {Q : Exit → Act → World → Prop} {l : List Oper} {E : Env} {I : Im} {L : Own} {c : Code} {e : Exit} {V : Vec} {t : TypeId}
theorem XQ.give_vec (h : (∀ b c, V.blk = some (b, c) → I b = none) → XQ K n ds Q e E (V.give t I) L) : XQ K n ds Q e E I (V.ent t :: L) := fun a w hH hS => h hS.give_vec.2 a w hH hS.give_vec.1
theorem XO.give_vec (h : (∀ b c, V.blk = some (b, c) → I b = none) → XO P r K n ds ops Q l E (V.give t I) L) : XO P r K n ds ops Q l E I (V.ent t :: L) := fun a w hH hS => h hS.give_vec.2 a w hH hS.give_vec.1
theorem XC.give_vec (h : (∀ b c, V.blk = some (b, c) → I b = none) → XC P r K n ds c Q E (V.give t I) L) : XC P r K n ds c Q E I (V.ent t :: L) := fun a w hH hS => h hS.give_vec.2 a w hH hS.give_vec.1
theorem XQ.dropn (k : Nat) (h : XQ K n ds Q e E I (L.drop k)) : XQ K n ds Q e E I L := XQ.drop (List.drop_sublist k L) h
theorem XC.dropn (k : Nat) (h : XC P r K n ds c Q E I (L.drop k)) : XC P r K n ds c Q E I L := XC.drop (List.drop_sublist k L) h
theorem XO.dropn (k : Nat) (h : XO P r K n ds ops Q l E I (L.drop k)) : XO P r K n ds ops Q l E I L := XO.drop (List.drop_sublist k L) h
end
end Go.Xe
