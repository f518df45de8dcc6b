/- From a claim's arguments, read off the memory, to the small logic of XXe, and back: over the kit's forms. No program is named here. -/
import Derived.Test.YtkjhhifhgcihpaaDoorXm
import Derived.ProofKit
import Derived.OpenShut
import Derived.Lib.SmallJoins
import Derived.Deep.Strs
import Derived.Carry
namespace Go.Xe
open Go Go.RowKit Go.Deep

/-- all that lies in memory when the call begins -/
def heapIm (W : World) : Im := fun b => W.heap[b]?
theorem Sat.start (W : World) : Sat W W (heapIm W) [] := ⟨rfl, rfl, rfl, fun _ _ h => h, fun _ _ h => (by cases h), List.nodup_nil, fun _ _ h => (by cases h)⟩
theorem below_of_sat {W W' : World} {I : Im} (h : Sat W W' I []) (hle : (heapIm W).le I) : Below W.heap.size W W' := by
  have hb : ∀ k, k < W.heap.size → W'.heap[k]? = W.heap[k]? := fun k hk => by
    have h1 : W.heap[k]? = some W.heap[k] := by simp [hk]
    rw [h1]; exact h.im k _ (hle k _ h1)
  refine ⟨h.os, h.tape, h.output, ?_, hb⟩
  rcases Nat.eq_zero_or_pos W.heap.size with h0 | h0
  · omega
  · have h1 := hb (W.heap.size - 1) (by omega)
    have h2 : W.heap[W.heap.size - 1]? = some W.heap[W.heap.size - 1] := by simp
    rw [h2] at h1
    have := lt_of_heap h1
    omega

/-- what a type's readings are -/
def Rd (P : Program) (W : World) (t : TypeId) {α : Type} [Enc α] (ok : α → Prop) : Prop :=
  ∀ (H : Type) (enc : TypeId × Value → H) (base : Nat) (spare : Nat → Bool) (held : Bool) (fuel : Nat) (cs : List Value) (x : DataW H × List MemPlace), DataW.trod enc P W base spare held fuel t cs = some x → ∃ y : α, Enc.rep (heapIm W) cs y ∧ ok y
def In64' (n : Int) : Prop := -9223372036854775808 ≤ n ∧ n ≤ 9223372036854775807
section
variable {P : Program} {W : World}
theorem Rd.int {t : TypeId} (ht : P.underlying t = some (.int .i64)) : Rd P W t (α := Int) In64' := fun H enc base spare held fuel cs x h => by
  obtain ⟨n, rfl, _, hw⟩ := DataW.trod_int ht h
  exact ⟨n, rfl, bounds_i64 hw⟩
theorem at_of_cell {a : Addr} {k : Nat} {v : Value} (h : W.cell? (a.add k) = some v) (h0 : a.spot = none) : At (heapIm W) (some a) k v := by
  obtain ⟨b, o, s⟩ := a
  simp only at h0; subst h0
  rw [add_plain] at h
  unfold World.cell? at h
  cases hb : W.heap[b]? with
  | none => simp [hb] at h
  | some ob =>
    cases ob with
    | cells c e fr => simp [hb] at h; exact ⟨b, o, c, e, fr, rfl, hb, h⟩
    | _ => simp [hb] at h
theorem add_add {a : Addr} (h : a.spot = none) (i j : Nat) : (a.add i).add j = a.add (i + j) := by
  obtain ⟨b, o, s⟩ := a
  simp only at h; subst h
  rw [add_plain, add_plain, add_plain, Nat.add_assoc]
theorem spot_of_cell {a : Addr} {v : Value} (h : W.cell? a = some v) : a.spot = none := by
  unfold World.cell? at h
  split at h
  · split at h
    · cases h
    · rename_i hs; simpa using hs
  · cases h
theorem Rd.slice {t e : TypeId} {α : Type} [Enc α] [Inhabited α] {ok : α → Prop} (ht : P.underlying t = some (.slice e)) (hc : P.cellsOf e = Enc.sz α) (hz : 0 < Enc.sz α) (he : Rd P W e ok) : Rd P W t (α := List α) (fun ys => (∀ y ∈ ys, ok y) ∧ ys.length ≤ 9223372036854775807) := fun H enc base spare held fuel cs x h => by
  rcases open_slice ht h with ⟨rfl, _⟩ | ⟨a, len, cap, m, n, D, Pl, rfl, _, hl, hm, hmm, _, hx⟩
  · exact ⟨[], ⟨_, rfl, Sl.nil⟩, fun y hy => (by cases hy), by simp⟩
  · have hlm : len ≤ m := by rw [hmm]; split <;> omega
    obtain ⟨f, hf⟩ := choose_lt (α := α) (n := len) (p := fun i y => ok y ∧ ∃ cs', Enc.rep (heapIm W) cs' y ∧ ∀ j v, cs'[j]? = some v → At (heapIm W) (some a) (i * Enc.sz α + j) v) (fun i hi => by
      obtain ⟨cs', h1, h2⟩ := hx i (by omega)
      obtain ⟨y, h3, h4⟩ := he H enc base spare held n cs' _ h2
      obtain ⟨_, h5, h6⟩ := World.cells?_some h1
      have hlen := Enc.len h3
      -- the address is a plain one
      have hsp : a.spot = none := by
        obtain ⟨cs0, g1, g2⟩ := hx 0 (by omega)
        obtain ⟨_, g3, g4⟩ := World.cells?_some g1
        have g5 := g4 0 (by omega)
        rw [Nat.zero_mul, add_zero, add_zero] at g5
        have : cs0[0]? = some cs0[0] := by simp
        rw [this] at g5
        exact spot_of_cell g5
      refine ⟨y, h4, cs', h3, fun j v hj => ?_⟩
      have hjl : j < cs'.length := (List.getElem?_eq_some_iff.1 hj).1
      have h7 := h6 j (by omega)
      rw [hj, add_add hsp, hc] at h7
      exact at_of_cell h7 hsp)
    have h9 : maxLen = 9223372036854775807 := by decide
    have hlen9 : ((List.range len).map f).length ≤ 9223372036854775807 := by rw [List.length_map, List.length_range]; omega
    refine ⟨(List.range len).map f, ⟨_, rfl, some a, cap, by simp, by simpa using hl, fun j hj => ?_⟩, fun y hy => ?_, hlen9⟩
    · simp only [List.length_map, List.length_range] at hj
      obtain ⟨_, cs', h1, h2⟩ := hf j hj
      exact ⟨cs', by simpa using h1, h2⟩
    · obtain ⟨i, hi, rfl⟩ := List.mem_map.1 hy
      exact (hf i (List.mem_range.1 hi)).1
/-- one cell that holds an integer, or a slice -/
theorem Rd.cell_int {t : TypeId} (ht : P.underlying t = some (.int .i64)) {H : Type} {enc : TypeId × Value → H} {base : Nat} {spare : Nat → Bool} {held : Bool} {fuel : Nat} {c : Value} {x : DataW H × List MemPlace} (h : DataW.trod enc P W base spare held fuel t [c] = some x) : ∃ n, c = .int .i64 n ∧ In64' n := by
  obtain ⟨n, h1, _, hw⟩ := DataW.trod_int ht h
  simp at h1; exact ⟨n, h1, bounds_i64 hw⟩
theorem Rd.cell_slice {t : TypeId} {α : Type} [Enc α] {ok : List α → Prop} (hr : Rd P W t ok) {H : Type} {enc : TypeId × Value → H} {base : Nat} {spare : Nat → Bool} {held : Bool} {fuel : Nat} {c : Value} {x : DataW H × List MemPlace} (h : DataW.trod enc P W base spare held fuel t [c] = some x) :
    ∃ (a : Option Addr) (cap : Nat) (xs : List α), c = .slice a xs.length cap ∧ xs.length ≤ cap ∧ Arr (heapIm W) a xs ∧ ok xs := by
  obtain ⟨xs, ⟨v, h1, hs⟩, h2⟩ := hr H enc base spare held fuel [c] x h
  simp at h1; subst h1
  obtain ⟨a, cap, rfl, h3, h4⟩ := hs.ex
  exact ⟨a, cap, xs, rfl, h3, h4, h2⟩
/-- a law's call, out of its walk -/
theorem law_calls {f : FuncId} {args : List Value} (h : FC P f args (heapIm W) (fun u _ => u = .bool true)) : Calls P f args.toArray W fun e w' => e = .returned (.bool true) ∧ Below W.heap.size W w' := by
  refine (h W W [] (by simpa using Sat.start W)).mono ?_
  rintro e w' ⟨v, I', L', rfl, hle, hs, rfl, rfl⟩
  exact ⟨rfl, below_of_sat (by simpa using hs) hle⟩
end
end Go.Xe
