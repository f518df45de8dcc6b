/- Further facts for the last law. No program is named here. -/
import Derived.Test.YtmlliafhpbfdbaaDoorK9
namespace Go.At
open Go Go.Xe Go.Sh Go.RowKit
theorem two_strs {a b : ByteArray} {i : Nat} (hi : i < 2) : ∃ k : ByteArray, (k = a ∨ k = b) ∧ [Value.string a, .string b][i]? = some (.string k) := by
  rcases (by omega : i = 0 ∨ i = 1) with rfl | rfl
  · exact ⟨a, .inl rfl, rfl⟩
  · exact ⟨b, .inr rfl, rfl⟩
theorem two_dials {d e : Dial} {i : Nat} (hi : i < 2) : ∃ y : Dial, ∀ j v, y.cs[j]? = some v → (d.cs ++ e.cs)[i * 4 + j]? = some v := by
  have h4 : ∀ w : Dial, w.cs.length = 4 := fun _ => rfl
  rcases (by omega : i = 0 ∨ i = 1) with rfl | rfl
  · refine ⟨d, fun j v hj => ?_⟩
    have hl := (List.getElem?_eq_some_iff.1 hj).1
    rw [Nat.zero_mul, Nat.zero_add, List.getElem?_append_left hl]; exact hj
  · refine ⟨e, fun j v hj => ?_⟩
    rw [List.getElem?_append_right (by rw [h4]; omega), h4, show 1 * 4 + j - 4 = j by omega]; exact hj
theorem grow_len {key : ByteArray} {x : Att} {c l : Int} : ((grow key x c l).getD none0).hs.length ≤ x.hs.length + 1 := by
  unfold grow
  dsimp only
  split
  · simp [Att.add]
  · exact Nat.zero_le _
theorem begin_len {key : ByteArray} {d : Dial} {c l : Int} : ((beginA key d c l).getD none0).hs.length ≤ 10 := by
  have h := grow_len (key := key) (x := ⟨d, []⟩) (c := c) (l := l)
  have h2 : (⟨d, []⟩ : Att).hs.length = 0 := rfl
  unfold beginA; omega
theorem pass_len {key : ByteArray} {keys : List ByteArray} {x : Att} {c : Int} (h9 : x.hs.length ≤ 9) : ((pass key keys x c).getD none0).hs.length ≤ 10 := by
  unfold pass
  split
  · have h := grow_len (key := key) (x := x) (c := c) (l := says keys x (x.hs.length - 1)); omega
  · exact Nat.zero_le _
theorem cutS_size (s : ByteArray) : (cutS s).size ≤ 33 := by unfold cutS; rw [ByteArray.size_extract]; omega
theorem lo_size (l : List ByteArray) : ∀ s ∈ shortF l ++ [mtB], s.size ≤ 33 := fun s hs => by
  rcases List.mem_append.1 hs with h | h
  · obtain ⟨t, _, rfl⟩ := List.mem_map.1 h; exact cutS_size t
  · rw [List.mem_singleton.1 h]; decide
theorem lo_len (l : List ByteArray) : 1 ≤ (shortF l ++ [mtB]).length ∧ (shortF l ++ [mtB]).length ≤ 10 := by
  have := shortF_len l
  rw [List.length_append]; simp; omega
end Go.At
