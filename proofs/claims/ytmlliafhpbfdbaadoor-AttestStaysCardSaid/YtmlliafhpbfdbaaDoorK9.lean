/- Further facts for the laws. No program is named here. -/
import Derived.Test.YtmlliafhpbfdbaaDoorMK
namespace Go.At
open Go Go.Xe Go.Sh Go.RowKit
theorem check_at {keys : List ByteArray} {x : Att} (hf : x.formed = true) (hk : okKeys keys = true) : (check keys x).2.2 = 0 ∧ (((check keys x).2.1 = -1 ∧ (check keys x).1 = 0) ∨ ∃ k : Nat, (check keys x).2.1 = (k : Int) ∧ k < x.hs.length ∧ (check keys x).1 = (x.h k).l) := by
  rw [check_yes hf hk]
  cases h : firstI (shown keys x) x.hs.length with
  | none => exact ⟨rfl, .inl ⟨rfl, rfl⟩⟩
  | some k => exact ⟨rfl, .inr ⟨k, rfl, (firstI_some.1 h).1, rfl⟩⟩
theorem check_le {keys : List ByteArray} {x : Att} (hf : x.formed = true) (hk : okKeys keys = true) : (check keys x).1 ≤ (x.h 0).l := by
  have h1 := (formed_len hf).1
  rcases (check_at hf hk).2 with ⟨_, h⟩ | ⟨k, _, hk2, h⟩
  · rw [h]; exact (formed_l hf (i := 0) (by omega)).1
  · rw [h]; exact levels' hf (Nat.zero_le k) hk2
theorem pair_eq {p : Int × Int} {a b : Int} (h1 : p.1 = a) (h2 : p.2 = b) : p = (a, b) := by obtain ⟨c, d⟩ := p; simp only at h1 h2; subst h1; subst h2; rfl
/-- one of two attestations that lie side by side -/
theorem two_atts {I : Im} {x y : Att} {a b : Option Addr} {c e : Nat} (hx : Arr I a x.hs) (hy : Arr I b y.hs) {i : Nat} (hi : i < 2) {m : Nat} (h1 : x.hs.length ≤ m) (h2 : y.hs.length ≤ m) (hc : x.hs.length ≤ c) (he : y.hs.length ≤ e) :
    ∃ (z : Att) (f : Option Addr) (g : Nat), (z = if i = 0 then x else y) ∧ Arr I f z.hs ∧ z.hs.length ≤ m ∧ z.hs.length ≤ g ∧ ∀ j v, (z.cs f g)[j]? = some v → (x.cs a c ++ y.cs b e)[i * 5 + j]? = some v := by
  rcases (by omega : i = 0 ∨ i = 1) with rfl | rfl
  · refine ⟨x, a, c, rfl, hx, h1, hc, fun j v hj => ?_⟩
    have hl : j < (x.cs a c).length := (List.getElem?_eq_some_iff.1 hj).1
    rw [Nat.zero_mul, Nat.zero_add, List.getElem?_append_left hl]; exact hj
  · refine ⟨y, b, e, rfl, hy, h2, he, fun j v hj => ?_⟩
    have h5 : (x.cs a c).length = 5 := rfl
    rw [List.getElem?_append_right (by omega), h5, show 1 * 5 + j - 5 = j by omega]; exact hj
end Go.At
namespace Go.At
open Go Go.Xe Go.Sh Go.RowKit
theorem binds_or {x y : Att} {i j : Nat} (hx : x.formed = true) (hy : y.formed = true) (hi : i < x.hs.length) (hj : j < y.hs.length) (h1 : shown allK x i = true) (h2 : shown allK y j = true) (hs : (x.h i).s = (y.h j).s) :
    collF (hashA allK x (i + 1)) (hashA allK y (j + 1)) = true ∨ (x.d = y.d ∧ i = j ∧ x.h i = y.h j ∧ (i = 0 ∨ (x.h (i - 1)).s = (y.h (j - 1)).s)) := by
  cases hc : collF (hashA allK x (i + 1)) (hashA allK y (j + 1)) with
  | true => exact .inl rfl
  | false => exact .inr (binds hx hy hi hj h1 h2 hs hc)
end Go.At
namespace Go.At
theorem in64_tdiv8 {a : Int} (h : In64 a) : In64 (a.tdiv 8) := by
  unfold In64 at h ⊢
  rcases Int.le_total 0 a with h0 | h0
  · rw [Int.tdiv_eq_ediv_of_nonneg h0]; omega
  · have h1 : a.tdiv 8 = -((-a).tdiv 8) := by rw [Int.neg_tdiv]; omega
    rw [h1, Int.tdiv_eq_ediv_of_nonneg (by omega)]; omega
end Go.At
namespace Go.At
open Go Go.Xe Go.Sh Go.RowKit
def cutS (s : ByteArray) : ByteArray := s.extract 0 (min s.size 33)
def shortF (l : List ByteArray) : List ByteArray := (l.take 9).map cutS
theorem shortF_len (l : List ByteArray) : (shortF l).length ≤ 9 := by simp [shortF]; omega
theorem short_take {l : List ByteArray} {k : Nat} (h : k < l.length) (_h9 : k < 9) : (l.take (k + 1)).map cutS = (l.take k).map cutS ++ [cutS l[k]] := by
  rw [List.take_succ_eq_append_getElem h, List.map_append]; rfl
theorem short_end {l : List ByteArray} {k : Nat} (h : k ≤ l.length) (h9 : k ≤ 9) (hx : k = l.length ∨ k = 9) : (l.take k).map cutS = shortF l := by
  unfold shortF
  rcases hx with rfl | rfl
  · rw [List.take_of_length_le (Nat.le_refl _), List.take_of_length_le (by omega)]
  · rfl
def fewH (h : Hand) : Hand := h.ws (cutS h.s)
def fewA (x : Att) : Att := ⟨x.d, (x.hs.take 9).map fewH⟩
theorem fewA_len (x : Att) : (fewA x).hs.length ≤ 9 := by simp [fewA]; omega
theorem few_take {l : List Hand} {k : Nat} (h : k < l.length) : (l.take (k + 1)).map fewH = (l.take k).map fewH ++ [fewH l[k]] := by
  rw [List.take_succ_eq_append_getElem h, List.map_append]; rfl
theorem few_end {l : List Hand} {k : Nat} (h : k ≤ l.length) (h9 : k ≤ 9) (hx : k = l.length ∨ k = 9) : (l.take k).map fewH = (l.take 9).map fewH := by
  rcases hx with rfl | rfl
  · rw [List.take_of_length_le (Nat.le_refl _), List.take_of_length_le (by omega)]
  · rfl
theorem full_size {keys : List ByteArray} (h : fullKeys keys = true) : ∀ k ∈ keys, k.size ≤ 1000 := okKeys_sz (fullKeys_ok h)
theorem okKnows_of {knows : List Int} (h8 : knows.length = 8) (h : ∀ (j : Nat) (hj : j < knows.length), inB knows[j] 0 255 = true) : okKnows knows = true := by
  rw [okKnows_any h8, Bool.not_eq_true', List.any_eq_false]
  intro z hz
  obtain ⟨j, hj, rfl⟩ := List.mem_iff_getElem.1 hz
  rw [h j hj]; decide
theorem okKnows_bad {knows : List Int} {j : Nat} (hj : j < knows.length) (h : inB knows[j] 0 255 = false) : okKnows knows = false := by
  rw [Bool.eq_false_iff]
  intro hk
  unfold okKnows at hk
  simp only [Bool.and_eq_true, Bool.not_eq_true', List.any_eq_false] at hk
  have := hk.2 _ (List.getElem_mem hj)
  rw [h] at this; simp at this
end Go.At
namespace Go.At
open Go Go.Xe Go.Sh Go.RowKit
theorem three_atts {I : Im} {x y r : Att} {a b f : Option Addr} {c e g : Nat} (hx : Arr I a x.hs) (hy : Arr I b y.hs) (hr : Arr I f r.hs) {i : Nat} (hi : i < 3) {m : Nat} (h1 : x.hs.length ≤ m) (h2 : y.hs.length ≤ m) (h3 : r.hs.length ≤ m) (hc : x.hs.length ≤ c) (he : y.hs.length ≤ e) (hg : r.hs.length ≤ g) :
    ∃ (z : Att) (az : Option Addr) (cz : Nat), Arr I az z.hs ∧ z.hs.length ≤ m ∧ z.hs.length ≤ cz ∧ ∀ j v, (z.cs az cz)[j]? = some v → (x.cs a c ++ (y.cs b e ++ r.cs f g))[i * 5 + j]? = some v := by
  have h5 : ∀ (w : Att) (p : Option Addr) (q : Nat), (w.cs p q).length = 5 := fun _ _ _ => rfl
  have hl : ∀ (w : Att) (p : Option Addr) (q j : Nat) (v : Value), (w.cs p q)[j]? = some v → j < 5 := fun w p q j v h => by
    have := (List.getElem?_eq_some_iff.1 h).1
    rw [h5] at this; exact this
  rcases (by omega : i = 0 ∨ i = 1 ∨ i = 2) with rfl | rfl | rfl
  · refine ⟨x, a, c, hx, h1, hc, fun j v hj => ?_⟩
    have := hl _ _ _ _ _ hj
    rw [Nat.zero_mul, Nat.zero_add, List.getElem?_append_left (by rw [h5]; exact this)]; exact hj
  · refine ⟨y, b, e, hy, h2, he, fun j v hj => ?_⟩
    have := hl _ _ _ _ _ hj
    rw [List.getElem?_append_right (by rw [h5]; omega), h5, show 1 * 5 + j - 5 = j by omega, List.getElem?_append_left (by rw [h5]; exact this)]; exact hj
  · refine ⟨r, f, g, hr, h3, hg, fun j v hj => ?_⟩
    rw [List.getElem?_append_right (by rw [h5]; omega), h5, List.getElem?_append_right (by rw [h5]; omega), h5, show 2 * 5 + j - 5 - 5 = j by omega]; exact hj
theorem three_keys {I : Im} {k1 k2 k3 : List ByteArray} {a b c : Option Addr} {d e f : Nat} (h1 : Arr I a k1) (h2 : Arr I b k2) (h3 : Arr I c k3) {m : Nat} (l1 : k1.length ≤ m) (l2 : k2.length ≤ m) (l3 : k3.length ≤ m) {i : Nat} (hi : i < 3) :
    ∃ (kk : List ByteArray) (ka : Option Addr) (kc : Nat), Arr I ka kk ∧ kk.length ≤ m ∧ [Value.slice a k1.length d, .slice b k2.length e, .slice c k3.length f][i]? = some (.slice ka kk.length kc) := by
  rcases (by omega : i = 0 ∨ i = 1 ∨ i = 2) with rfl | rfl | rfl
  · exact ⟨k1, a, d, h1, l1, rfl⟩
  · exact ⟨k2, b, e, h2, l2, rfl⟩
  · exact ⟨k3, c, f, h3, l3, rfl⟩
theorem two_knows {I : Im} {k1 k2 : List Int} {a b : Option Addr} {d e : Nat} (h1 : Arr I a k1) (h2 : Arr I b k2) {m : Nat} (l1 : k1.length ≤ m) (l2 : k2.length ≤ m) {i : Nat} (hi : i < 2) :
    ∃ (kk : List Int) (ka : Option Addr) (kc : Nat), Arr I ka kk ∧ kk.length ≤ m ∧ [Value.slice a k1.length d, .slice b k2.length e][i]? = some (.slice ka kk.length kc) := by
  rcases (by omega : i = 0 ∨ i = 1) with rfl | rfl
  · exact ⟨k1, a, d, h1, l1, rfl⟩
  · exact ⟨k2, b, e, h2, l2, rfl⟩
theorem two_ints {a b : Int} {i : Nat} (hi : i < 2) : ∃ k : Int, (k = a ∨ k = b) ∧ [Value.int .i64 a, .int .i64 b][i]? = some (.int .i64 k) := by
  rcases (by omega : i = 0 ∨ i = 1) with rfl | rfl
  · exact ⟨a, .inl rfl, rfl⟩
  · exact ⟨b, .inr rfl, rfl⟩
theorem cut_len {x : Att} {n : Int} : ((cut x n).getD none0).hs.length ≤ x.hs.length := by
  unfold cut
  split
  · exact pre_le
  · exact Nat.zero_le _
theorem known_len8 (s : Nat) : (known allK s).length ≤ 9 := by rw [known_len, allK_len]; decide
theorem allK_len9 : allK.length ≤ 9 := by rw [allK_len]; decide
end Go.At
