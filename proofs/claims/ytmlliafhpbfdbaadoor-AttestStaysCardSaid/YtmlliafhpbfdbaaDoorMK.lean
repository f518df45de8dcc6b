/- Attestations, told plainly: what is formed, contents, seals, what is shown, checked, blamed, made. No program is named here. A further hand; hands that lie in a slice that is being written; results with an error. No program is named here. What the reference computes, told plainly. No program is named here. Attestations that carriers made as they should; what changes where hands are added or cut off. No program is named here. What the laws of layer 25 say of what was computed. No program is named here. Lists in memory, as layer 25 lays them; what the reference's loops say. No program is named here. Small facts on lists of integers and on what lies in memory. No program is named here. Three integers in memory. No program is named here. -/
import Derived.Test.YtmlliafhpbfdbaaDoorXu
import Derived.Test.YtmlliafhpbfdbaaDoorXp
import Derived.Test.YtmlliafhpbfdbaaDoorXh
namespace Go.At
open Go Go.Xe Go.Sh Go.RowKit
/-- the first place with a property, or -1 -/
def idx {α : Type} (p : α → Bool) (l : List α) : Int := match l.findIdx? p with | some i => (i : Int) | none => -1
theorem idx_found {α : Type} {p : α → Bool} {l : List α} {k : Nat} (h : k < l.length) (hp : p l[k] = true) (hn : ∀ (j : Nat) (h : j < l.length), j < k → p l[j] = false) : idx p l = k := by
  have : l.findIdx? p = some k := List.findIdx?_eq_some_iff_getElem.2 ⟨h, hp, fun j hj => by simp [hn j (by omega) hj]⟩
  simp [idx, this]
theorem idx_none {α : Type} {p : α → Bool} {l : List α} (hn : ∀ (j : Nat) (h : j < l.length), p l[j] = false) : idx p l = -1 := by
  have : l.findIdx? p = none := List.findIdx?_eq_none_iff.2 fun x hx => by
    obtain ⟨j, hj, rfl⟩ := List.mem_iff_getElem.1 hx
    exact hn j hj
  simp [idx, this]
theorem idx_ge {α : Type} {p : α → Bool} {l : List α} : (0 ≤ idx p l) ↔ l.any p = true := by
  unfold idx
  cases h : l.findIdx? p with
  | none =>
    have := List.findIdx?_eq_none_iff.1 h
    simp
    intro x hx; simpa using this x hx
  | some i =>
    obtain ⟨h1, h2, _⟩ := List.findIdx?_eq_some_iff_getElem.1 h
    simp
    exact ⟨_, List.getElem_mem h1, h2⟩
/-- the table, where it lies -/
def Glob (I : Im) : Prop := ∃ e fr, I 0 = some (.cells (wC KR).toArray e fr)
theorem Glob.mono {I J : Im} (h : Glob I) (hle : I.le J) : Glob J := let ⟨e, fr, h⟩ := h; ⟨e, fr, hle _ _ h⟩
abbrev mtB : ByteArray := ⟨#[]⟩
def inB (n lo hi : Int) : Bool := decide (lo ≤ n) && decide (n ≤ hi)
theorem inB_iff {n lo hi : Int} : inB n lo hi = true ↔ lo ≤ n ∧ n ≤ hi := by simp [inB]
def In64 (x : Int) : Prop := -9223372036854775808 ≤ x ∧ x ≤ 9223372036854775807
structure Hand where
  c : Int
  l : Int
  s : ByteArray
  deriving DecidableEq
instance : Inhabited Hand := ⟨⟨0, 0, mtB⟩⟩
@[reducible] def Hand.cs (h : Hand) : List Value := [.int .i64 h.c, .int .i64 h.l, .string h.s]
instance : Enc Hand where
  sz := 3
  rep := fun _ cs x => cs = x.cs
  len := fun h => by rw [h]; rfl
  mono := fun _ h => h
  one := fun h v hv => by rw [h] at hv; simp [Hand.cs] at hv; rcases hv with rfl | rfl | rfl <;> rfl
theorem _root_.Go.Xe.Arr.hand {I : Im} {a : Option Addr} {xs : List Hand} (h : Arr I a xs) {j : Nat} (hj : j < xs.length) : ∀ i v, (xs[j].cs)[i]? = some v → At I a (j * 3 + i) v := by
  obtain ⟨cs, h1, h2⟩ := h j hj
  rw [show cs = xs[j].cs from h1] at h2
  exact h2
structure Dial where
  a : Int
  b : Int
  t : Int
  n : Int
  deriving DecidableEq
@[reducible] def Dial.cs (d : Dial) : List Value := [.int .i64 d.a, .int .i64 d.b, .int .i64 d.t, .int .i64 d.n]
structure Dial.In (d : Dial) : Prop where
  a : In64 d.a
  b : In64 d.b
  t : In64 d.t
  n : In64 d.n
structure Att where
  d : Dial
  hs : List Hand
  deriving DecidableEq
/-- an attestation's cells; its hands lie at a -/
@[reducible] def Att.cs (x : Att) (a : Option Addr) (cap : Nat) : List Value := [.int .i64 x.d.a, .int .i64 x.d.b, .int .i64 x.d.t, .int .i64 x.d.n, .slice a x.hs.length cap]
theorem dial_at (x : Att) (a : Option Addr) (cap : Nat) {j : Nat} {v : Value} (h : x.d.cs[j]? = some v) : (x.cs a cap)[j]? = some v := by
  match j, h with
  | 0, h => simpa using h
  | 1, h => simpa using h
  | 2, h => simpa using h
  | 3, h => simpa using h
  | j + 4, h => simp at h
def AttV (I : Im) (u : Value) (x : Att) : Prop := ∃ a cap, u = .agg (x.cs a cap).toArray ∧ x.hs.length ≤ cap ∧ Arr I a x.hs
theorem AttV.mono {I I' : Im} {u : Value} {x : Att} (h : AttV I u x) (hle : I.le I') : AttV I' u x := let ⟨a, c, h1, h2, h3⟩ := h; ⟨a, c, h1, h2, h3.mono hle⟩
def none0 : Att := ⟨⟨0, 0, 0, 0⟩, []⟩
/-- an attestation, or the error -/
def AOut (I : Im) (u : Value) (o : Option Att) : Prop := ∃ v e, u = .tuple #[v, .int .i64 e] ∧ (∀ y, o = some y → e = 0 ∧ AttV I v y) ∧ (o = none → e = 250 ∧ v = .agg (none0.cs none 0).toArray)
theorem AOut.any {I : Im} {u : Value} {o : Option Att} (h : AOut I u o) : ∃ a c, u = .tuple #[.agg ((o.getD none0).cs a c).toArray, .int .i64 (if o.isSome then 0 else 250)] ∧ (o.getD none0).hs.length ≤ c ∧ Arr I a (o.getD none0).hs := by
  obtain ⟨v, e, rfl, h1, h2⟩ := h
  cases o with
  | none => obtain ⟨rfl, rfl⟩ := h2 rfl; exact ⟨none, 0, rfl, Nat.le_refl _, Arr.nil⟩
  | some y =>
    obtain ⟨rfl, a, c, rfl, h3, h4⟩ := h1 y rfl
    exact ⟨a, c, rfl, h3, h4⟩
def Att.h (x : Att) (i : Nat) : Hand := x.hs.getD i default
theorem Att.h_get (x : Att) {i : Nat} (h : i < x.hs.length) : x.h i = x.hs[i] := by simp [Att.h, h]
/-! what is formed -/
def okD (d : Dial) : Bool := inB d.a 0 99999999 && inB d.b 0 99999999 && inB d.t 0 10000000 && inB d.n 0 1000000
def okH (x : Att) (i : Nat) : Bool := inB (x.h i).c 0 7 && inB (x.h i).l 0 3 && decide ((x.h i).s.size = 32) && (decide (i = 0) || (decide (¬ (x.h i).c = (x.h (i - 1)).c) && decide ((x.h i).l ≤ (x.h (i - 1)).l)))
def Att.formed (x : Att) : Bool := okD x.d && decide (1 ≤ x.hs.length ∧ x.hs.length ≤ 8) && (List.range x.hs.length).all (okH x)
theorem okH_iff {x : Att} {i : Nat} : okH x i = true ↔ (0 ≤ (x.h i).c ∧ (x.h i).c ≤ 7) ∧ (0 ≤ (x.h i).l ∧ (x.h i).l ≤ 3) ∧ (x.h i).s.size = 32 ∧ (i = 0 ∨ (¬ (x.h i).c = (x.h (i - 1)).c ∧ (x.h i).l ≤ (x.h (i - 1)).l)) := by
  simp [okH, inB, and_assoc]
theorem formed_iff {x : Att} : x.formed = true ↔ okD x.d = true ∧ (1 ≤ x.hs.length ∧ x.hs.length ≤ 8) ∧ ∀ i, i < x.hs.length → okH x i = true := by
  simp [Att.formed, and_assoc]
theorem okH_step {x : Att} {j : Nat} {p h : Hand} (hjh : x.h j = h) (hp : (j = 0 ∧ p = ⟨-1, 3, mtB⟩) ∨ (0 < j ∧ p = x.h (j - 1))) (hp3 : p.l ≤ 3) (h1 : inB h.c 0 7 = true) (h2 : ¬ h.c = p.c) (h3 : inB h.l 0 p.l = true) (h4 : h.s.size = 32) : okH x j = true := by
  rw [inB_iff] at h1 h3
  rw [okH_iff, hjh]
  refine ⟨h1, ⟨h3.1, by omega⟩, h4, ?_⟩
  rcases hp with ⟨e, _⟩ | ⟨_, rfl⟩
  · exact .inl e
  · exact .inr ⟨h2, h3.2⟩
theorem okH_un {x : Att} {j : Nat} {p h : Hand} (hjh : x.h j = h) (hp : (j = 0 ∧ p = ⟨-1, 3, mtB⟩) ∨ (0 < j ∧ p = x.h (j - 1))) (hok : okH x j = true) : inB h.c 0 7 = true ∧ ¬ h.c = p.c ∧ inB h.l 0 p.l = true ∧ h.s.size = 32 := by
  rw [okH_iff, hjh] at hok
  obtain ⟨h1, h2, h3, h4⟩ := hok
  rw [inB_iff, inB_iff]
  rcases hp with ⟨rfl, rfl⟩ | ⟨h0, rfl⟩
  · exact ⟨h1, (by simp only; omega), ⟨h2.1, (by simp only; omega)⟩, h3⟩
  · have h5 := h4.resolve_left (by omega)
    exact ⟨h1, h5.1, ⟨h2.1, h5.2⟩, h3⟩
def okKeys (l : List ByteArray) : Bool := decide (l.length = 8) && !l.any (fun s => !decide (s = mtB) && !decide (s.size = 32))
def fullKeys (l : List ByteArray) : Bool := decide (l.length = 8) && !l.any (fun s => !decide (s.size = 32))
theorem size_zero {s : ByteArray} (h : s.size = 0) : s = mtB := by
  apply ByteArray.ext
  exact Array.eq_empty_of_size_eq_zero h
theorem okKeys_iff {l : List ByteArray} : okKeys l = true ↔ l.length = 8 ∧ ∀ i (h : i < l.length), l[i] = mtB ∨ l[i].size = 32 := by
  simp only [okKeys, Bool.and_eq_true, decide_eq_true_eq, Bool.not_eq_true', List.any_eq_false, decide_eq_true_eq]
  constructor
  · rintro ⟨h1, h2⟩
    refine ⟨h1, fun i h => ?_⟩
    have := h2 _ (List.getElem_mem h)
    by_cases e : l[i] = mtB
    · exact .inl e
    · simp [e] at this; exact .inr this
  · rintro ⟨h1, h2⟩
    refine ⟨h1, fun s hs => ?_⟩
    obtain ⟨i, hi, rfl⟩ := List.mem_iff_getElem.1 hs
    rcases h2 i hi with e | e <;> simp [e]
theorem fullKeys_iff {l : List ByteArray} : fullKeys l = true ↔ l.length = 8 ∧ ∀ i (h : i < l.length), l[i].size = 32 := by
  simp only [fullKeys, Bool.and_eq_true, decide_eq_true_eq, Bool.not_eq_true', List.any_eq_false, decide_eq_true_eq]
  constructor
  · rintro ⟨h1, h2⟩; exact ⟨h1, fun i h => by simpa using h2 _ (List.getElem_mem h)⟩
  · rintro ⟨h1, h2⟩
    refine ⟨h1, fun s hs => ?_⟩
    obtain ⟨i, hi, rfl⟩ := List.mem_iff_getElem.1 hs
    simpa using h2 i hi
theorem fullKeys_ok {l : List ByteArray} (h : fullKeys l = true) : okKeys l = true := by
  obtain ⟨h1, h2⟩ := fullKeys_iff.1 h
  exact okKeys_iff.2 ⟨h1, fun i hi => .inr (h2 i hi)⟩
/-! contents and seals -/
def numB (l : List Int) : List UInt8 := l.flatMap fun n => (putX n).data.toList
theorem numB_snoc (l : List Int) (n : Int) : numB (l ++ [n]) = numB l ++ (putX n).data.toList := by simp [numB]
theorem numB_len (l : List Int) : (numB l).length ≤ 10 * l.length := by
  induction l with
  | nil => simp [numB]
  | cons n l ih =>
    have h1 := putX_size n
    have h2 : (putX n).data.toList.length = (putX n).size := rfl
    simp only [numB, List.flatMap_cons, List.length_append, List.length_cons] at ih ⊢
    omega
def Att.nums (x : Att) (i : Nat) : List Int := [7, x.d.a, x.d.b, x.d.t, x.d.n, i, (x.h i).c, (x.h i).l]
def before (x : Att) (i : Nat) : ByteArray := if i = 0 then mtB else (x.h (i - 1)).s
def contentB (x : Att) (i : Nat) : List UInt8 := numB (x.nums i) ++ (before x i).data.toList
def content (x : Att) (i : Nat) : ByteArray := ⟨(contentB x i).toArray⟩
theorem content_size (x : Att) (i : Nat) : (content x i).size ≤ 80 + (before x i).size := by
  have h1 := numB_len (x.nums i)
  have h2 : (content x i).size = (contentB x i).length := by simp [content, ByteArray.size]
  have h3 : (before x i).data.toList.length = (before x i).size := rfl
  have h4 : (x.nums i).length = 8 := rfl
  rw [h2, contentB, List.length_append]; omega
theorem contentB_ne (x : Att) (i : Nat) : contentB x i ≠ [] := by
  intro h
  have h1 : (putX 7).data.toList ++ numB [x.d.a, x.d.b, x.d.t, x.d.n, i, (x.h i).c, (x.h i).l] = numB (x.nums i) := by simp [numB, Att.nums]
  unfold contentB at h
  rw [← h1] at h
  have h2 : (putX 7).data.toList = [14] := by decide
  rw [h2] at h; cases h
def sealOf (key c : ByteArray) : ByteArray := node key (leaf c)
theorem sealOf_size (key c : ByteArray) : (sealOf key c).size = 32 := sha_size _
def right (key : ByteArray) (x : Att) (i : Nat) : Bool := decide ((x.h i).s = sealOf key (content x i))
def keyAt (keys : List ByteArray) (x : Att) (i : Nat) : ByteArray := keys.getD (x.h i).c.toNat mtB
def shown (keys : List ByteArray) (x : Att) (i : Nat) : Bool := !decide (keyAt keys x i = mtB) && right (keyAt keys x i) x i
/-- the first index with a property -/
def firstI (p : Nat → Bool) (n : Nat) : Option Nat := (List.range n).find? p
theorem firstI_some {p : Nat → Bool} {n i : Nat} : firstI p n = some i ↔ i < n ∧ p i = true ∧ ∀ j, j < i → p j = false := by
  unfold firstI
  rw [List.find?_range_eq_some]
  simp only [List.mem_range, Bool.not_eq_true']
  exact ⟨fun ⟨h1, h2, h3⟩ => ⟨h2, h1, h3⟩, fun ⟨h1, h2, h3⟩ => ⟨h2, h1, h3⟩⟩
theorem firstI_none {p : Nat → Bool} {n : Nat} : firstI p n = none ↔ ∀ j, j < n → p j = false := by
  unfold firstI
  rw [List.find?_range_eq_none]
  simp
def fIdx (r : Option Nat) : Int := match r with | some i => i | none => -1
def fh (x : Att) (r : Option Nat) : Hand := match r with | some i => x.h i | none => ⟨0, 0, mtB⟩
def fct (x : Att) (r : Option Nat) : ByteArray := match r with | some i => content x i | none => mtB
def check (keys : List ByteArray) (x : Att) : Int × Int × Int :=
  if x.formed && okKeys keys then ((fh x (firstI (shown keys x) x.hs.length)).l, fIdx (firstI (shown keys x) x.hs.length), 0) else (0, 0, 250)
def can (knows : List Int) (x : Att) (i : Nat) : Bool := decide ((knows.getD (x.h i).c.toNat 0).toNat / 2 ^ (x.h (i - 1)).c.toNat % 2 = 1)
def most (knows : List Int) (x : Att) (i : Nat) : Int := if can knows x i then (x.h (i - 1)).l else min (x.h (i - 1)).l 1
def bad (keys : List ByteArray) (knows : List Int) (x : Att) (i : Nat) : Bool := !right (keyAt keys x i) x i || (!decide (i = 0) && !decide ((x.h i).l = most knows x i))
def okKnows (knows : List Int) : Bool := decide (knows.length = 8) && !knows.any (fun n => !inB n 0 255)
def blame (keys : List ByteArray) (knows : List Int) (x : Att) : Int × Int :=
  if x.formed && fullKeys keys && okKnows knows then (fIdx (firstI (bad keys knows x) x.hs.length), 0) else (0, 250)
def cut (x : Att) (n : Int) : Option Att := if x.formed && inB n 1 x.hs.length then some ⟨x.d, x.hs.take n.toNat⟩ else none
def shownI (keys : List ByteArray) (x : Att) (i : Int) : Bool := x.formed && okKeys keys && inB i 0 ((x.hs.length : Int) - 1) && shown keys x i.toNat
def zero32 : ByteArray := ⟨(List.replicate 32 0).toArray⟩
theorem zero32_size : zero32.size = 32 := rfl
/-- a further hand -/
def Att.add (x : Att) (h : Hand) : Att := ⟨x.d, x.hs ++ [h]⟩
def grow (key : ByteArray) (x : Att) (c l : Int) : Option Att :=
  let y := x.add ⟨c, l, zero32⟩
  if decide (key.size = 32) && y.formed then some (x.add ⟨c, l, sealOf key (content y x.hs.length)⟩) else none
def beginA (key : ByteArray) (d : Dial) (c l : Int) : Option Att := grow key ⟨d, []⟩ c l
def says (keys : List ByteArray) (x : Att) (i : Nat) : Int := if shown keys x i then (x.h i).l else min (x.h i).l 1
def pass (key : ByteArray) (keys : List ByteArray) (x : Att) (c : Int) : Option Att :=
  if x.formed && okKeys keys then grow key x c (says keys x (x.hs.length - 1)) else none
/-- which keys are known -/
def known (keys : List ByteArray) (set : Nat) : List ByteArray := (List.range keys.length).map fun i => if set / 2 ^ i % 2 = 1 then keys.getD i mtB else mtB
def keyC (c : Nat) : ByteArray := ⟨(List.replicate 32 (UInt8.ofNat c)).toArray⟩
def allK : List ByteArray := (List.range 8).map keyC
def pickI (c n : Int) : Int := (if c < 0 then -(c + 1) else c) % n
theorem pickI_range {c n : Int} (hn : 0 < n) : 0 ≤ pickI c n ∧ pickI c n < n := ⟨Int.emod_nonneg _ (by omega), Int.emod_lt_of_pos _ hn⟩
/-! hands in memory; the first hand with a property -/
def handC (hs : List Hand) : List Value := hs.flatMap Hand.cs
theorem handC_append (a b : List Hand) : handC (a ++ b) = handC a ++ handC b := by simp [handC]
theorem handC_len (hs : List Hand) : (handC hs).length = hs.length * 3 := by
  induction hs with
  | nil => rfl
  | cons x hs ih => simp only [handC, List.flatMap_cons, List.length_append] at *; rw [ih]; simp; omega
theorem flat_hand (I : Im) : ∀ (hs : List Hand), Flat I (handC hs) hs
  | [] => .nil
  | x :: hs => by
    have := Flat.cons (α := Hand) (I := I) (cs := x.cs) (x := x) rfl (flat_hand I hs)
    simpa [handC] using this
theorem flat_hand_eq {I : Im} {cs : List Value} : ∀ {hs : List Hand}, Flat I cs hs → cs = handC hs := by
  intro hs h
  induction h with
  | nil => rfl
  | cons h1 _ ih => rw [ih, show _ = _ from h1]; simp [handC]
theorem handC_at : ∀ (hs : List Hand) {j : Nat} (hj : j < hs.length) (i : Nat) (v : Value), hs[j].cs[i]? = some v → (handC hs)[j * 3 + i]? = some v
  | [], j, hj, _, _, _ => by simp at hj
  | x :: hs, 0, _, i, v, h => by
    have hi : i < 3 := by have := (List.getElem?_eq_some_iff.1 h).1; simpa using this
    simp only [handC, List.flatMap_cons]
    rw [List.getElem?_append_left (by simp; omega)]
    simpa using h
  | x :: hs, j + 1, hj, i, v, h => by
    have ih := handC_at hs (j := j) (by simpa using hj) i v (by simpa using h)
    simp only [handC, List.flatMap_cons] at ih ⊢
    rw [List.getElem?_append_right (by simp; omega)]
    rw [← ih]; congr 1; simp; omega
theorem handC_set : ∀ (hs : List Hand) {j : Nat} (s : ByteArray) (hj : j < hs.length), (handC hs).set (j * 3 + 2) (.string s) = handC (hs.set j ⟨hs[j].c, hs[j].l, s⟩)
  | [], j, _, hj => by simp at hj
  | x :: hs, 0, s, _ => by simp [handC]
  | x :: hs, j + 1, s, hj => by
    have ih := handC_set hs (j := j) s (by simpa using hj)
    simp only [handC, List.flatMap_cons, List.set_cons_succ, List.getElem_cons_succ] at ih ⊢
    rw [List.set_append_right _ _ (by simp; omega), ← ih]
    congr 2
    simp; omega
@[reducible] def hand84 (x : Att) (j : Nat) : List Value := [.int .i64 (x.h j).c, .int .i64 (x.h j).l, .string (x.h j).s, .string (content x j)]
@[reducible] def fHand (x : Att) (r : Option Nat) : List Value := [.int .i64 (fh x r).c, .int .i64 (fh x r).l, .string (fh x r).s, .string (fct x r)]
theorem before_size {x : Att} (h : ∀ i, i < x.hs.length → (x.h i).s.size ≤ 40) {j : Nat} (hj : j < x.hs.length) : (before x j).size ≤ 40 := by
  unfold before
  split
  · decide
  · exact h _ (by omega)
theorem nums_in {x : Att} {j : Nat} (hd : x.d.In) (hh : In64 (x.h j).c ∧ In64 (x.h j).l) (hj : j ≤ 1000) : ∀ z ∈ x.nums j, In64 z := by
  intro z hz
  simp only [Att.nums, List.mem_cons, List.not_mem_nil, or_false] at hz
  rcases hz with rfl | rfl | rfl | rfl | rfl | rfl | rfl | rfl
  · exact ⟨by decide, by decide⟩
  · exact hd.a
  · exact hd.b
  · exact hd.t
  · exact hd.n
  · exact ⟨by omega, by omega⟩
  · exact hh.1
  · exact hh.2
theorem vec_zero (b s : Nat) : (⟨some (b, #[]), 0, 0⟩ : Vec).Is s [] := ⟨by simp, Nat.le_refl _, (fun h => by cases h), (fun b' c h => by cases h; simp)⟩
theorem contentB_len {x : Att} (h : ∀ i, i < x.hs.length → (x.h i).s.size ≤ 40) {j : Nat} (hj : j < x.hs.length) : (contentB x j).length ≤ 100000000 := by
  have h1 := content_size x j
  have h2 := before_size h hj
  have h3 : (content x j).size = (contentB x j).length := by simp [content, ByteArray.size]
  omega
/-! what is formed is small -/
section
variable {x : Att}
theorem formed_len (h : x.formed = true) : 1 ≤ x.hs.length ∧ x.hs.length ≤ 8 := (formed_iff.1 h).2.1
theorem formed_h (h : x.formed = true) {i : Nat} (hi : i < x.hs.length) : (0 ≤ (x.h i).c ∧ (x.h i).c ≤ 7) ∧ (0 ≤ (x.h i).l ∧ (x.h i).l ≤ 3) ∧ (x.h i).s.size = 32 ∧ (i = 0 ∨ (¬ (x.h i).c = (x.h (i - 1)).c ∧ (x.h i).l ≤ (x.h (i - 1)).l)) := okH_iff.1 ((formed_iff.1 h).2.2 i hi)
theorem formed_sz (h : x.formed = true) : ∀ i, i < x.hs.length → (x.h i).s.size ≤ 40 := fun i hi => by have := (formed_h h hi).2.2.1; omega
theorem formed_in (h : x.formed = true) : ∀ i, i < x.hs.length → In64 (x.h i).c ∧ In64 (x.h i).l := fun i hi => by
  obtain ⟨h1, h2, _⟩ := formed_h h hi
  exact ⟨⟨by omega, by omega⟩, ⟨by omega, by omega⟩⟩
theorem formed_c (h : x.formed = true) {i : Nat} (hi : i < x.hs.length) : 0 ≤ (x.h i).c ∧ (x.h i).c ≤ 7 := (formed_h h hi).1
theorem formed_l (h : x.formed = true) {i : Nat} (hi : i < x.hs.length) : 0 ≤ (x.h i).l ∧ (x.h i).l ≤ 3 := (formed_h h hi).2.1
theorem formed_s (h : x.formed = true) {i : Nat} (hi : i < x.hs.length) : (x.h i).s.size = 32 := (formed_h h hi).2.2.1
theorem formed_d (h : x.formed = true) : x.d.In := by
  have h1 := (formed_iff.1 h).1
  simp only [okD, Bool.and_eq_true, inB_iff] at h1
  obtain ⟨⟨⟨h2, h3⟩, h4⟩, h5⟩ := h1
  exact ⟨⟨by omega, by omega⟩, ⟨by omega, by omega⟩, ⟨by omega, by omega⟩, ⟨by omega, by omega⟩⟩
theorem formed_ct (h : x.formed = true) {i : Nat} (hi : i < x.hs.length) : (content x i).size ≤ 10000 := by
  have h1 := content_size x i
  have h2 := before_size (formed_sz h) hi
  omega
theorem okKeys_sz {l : List ByteArray} (h : okKeys l = true) : ∀ k ∈ l, k.size ≤ 1000 := fun k hk => by
  obtain ⟨i, hi, rfl⟩ := List.mem_iff_getElem.1 hk
  rcases (okKeys_iff.1 h).2 i hi with e | e
  · rw [e]; decide
  · omega
end
theorem cut_no1 {x : Att} {n : Int} (h : x.formed = false) : cut x n = none := by simp [cut, h]
theorem cut_no2 {x : Att} {n : Int} (h : inB n 1 x.hs.length = false) : cut x n = none := by simp [cut, h]
end Go.At
namespace Go.At
open Go Go.Xe Go.Sh Go.RowKit
theorem vec_rd {I : Im} {L : Own} {V : Vec} {e : TypeId} {hs : List Hand} (hV : V.Is 3 (handC hs)) (hm : V.ent e ∈ L) {j : Nat} (hj : j < hs.length) {i : Nat} {v : Value} (h : hs[j].cs[i]? = some v) : AtR I L V.addr (j * 3 + i) v := by
  obtain ⟨b, c, hb, h1, h2⟩ := vec_cells hV (handC_at hs hj i v h)
  refine .inr ⟨b, 0, by simp [Vec.addr, hb], c, e, (0, 0), ?_, by simpa using h2⟩
  have : V.ent e = some (b, .cells c e (0, 0)) := by simp [Vec.ent, hb]
  rw [← this]; exact hm
theorem vec_addr3 {V : Vec} {hs : List Hand} (hV : V.Is 3 (handC hs)) (h : 0 < hs.length) : ∃ b o, V.addr = some ⟨b, o, none⟩ := vec_addr hV (handC_at hs h 0 (.int .i64 hs[0].c) rfl)
section
variable {key : ByteArray} {x : Att} {c l : Int}
abbrev newH (c l : Int) : Hand := ⟨c, l, zero32⟩
abbrev grown (key : ByteArray) (x : Att) (c l : Int) : Att := x.add ⟨c, l, sealOf key (content (x.add (newH c l)) x.hs.length)⟩
theorem grow_some (h1 : key.size = 32) (h2 : (x.add (newH c l)).formed = true) : grow key x c l = some (grown key x c l) := by
  unfold grow; simp only [h1, h2, decide_true, Bool.true_and, if_true]
theorem grow_no1 (h1 : ¬ key.size = 32) : grow key x c l = none := by simp [grow, h1]
theorem grow_no2 (h2 : (x.add (newH c l)).formed = false) : grow key x c l = none := by
  unfold grow; simp only [h2, Bool.and_false, Bool.false_eq_true, if_false]
theorem add_len (h : Hand) : (x.add h).hs.length = x.hs.length + 1 := by simp [Att.add]
theorem handC_add (h : Hand) : handC (x.add h).hs = handC x.hs ++ h.cs := by simp [handC, Att.add]
theorem grown_set {s : ByteArray} {j : Nat} (hj : j = x.hs.length) (hlt : j < (x.add (newH c l)).hs.length) : (x.add (newH c l)).hs.set j ⟨(x.add (newH c l)).hs[j].c, (x.add (newH c l)).hs[j].l, s⟩ = (x.add ⟨c, l, s⟩).hs := by
  subst hj
  simp [Att.add, newH]
theorem add_last {j : Nat} (hj : j = x.hs.length) : (handC (x.add (newH c l)).hs)[j * 3 + 2]? = some (.string zero32) := by
  subst hj
  have h1 : x.hs.length < (x.add (newH c l)).hs.length := by rw [add_len]; omega
  have h2 : (x.add (newH c l)).hs[x.hs.length] = newH c l := by simp [Att.add]
  exact handC_at _ h1 2 _ (by rw [h2]; rfl)
end
theorem _root_.Go.At.AOut.any4 {I : Im} {u : Value} {o : Option Att} (h : AOut I u o) : ∃ a c, u = .tuple #[.agg ((o.getD none0).cs a c).toArray, .int .i64 (if o.isSome then 0 else 250)] ∧ (o.getD none0).hs.length ≤ c ∧ Arr I a (o.getD none0).hs ∧ (o = none → a = none ∧ c = 0) := by
  obtain ⟨v, e, rfl, h1, h2⟩ := h
  cases o with
  | none => obtain ⟨rfl, rfl⟩ := h2 rfl; exact ⟨none, 0, rfl, Nat.le_refl _, Arr.nil, fun _ => ⟨rfl, rfl⟩⟩
  | some y =>
    obtain ⟨rfl, a, c, rfl, h3, h4⟩ := h1 y rfl
    exact ⟨a, c, rfl, h3, h4, fun h => by cases h⟩
theorem _root_.Go.At.AOut.mk4 {I : Im} {o : Option Att} {a : Option Addr} {c : Nat} (h1 : (o.getD none0).hs.length ≤ c) (h2 : Arr I a (o.getD none0).hs) (h3 : o = none → a = none ∧ c = 0) : AOut I (.tuple #[.agg ((o.getD none0).cs a c).toArray, .int .i64 (if o.isSome then 0 else 250)]) o := by
  refine ⟨_, _, rfl, fun y hy => ?_, fun hy => ?_⟩
  · subst hy; exact ⟨rfl, a, c, rfl, h1, h2⟩
  · obtain ⟨rfl, rfl⟩ := h3 hy
    subst hy; exact ⟨rfl, rfl⟩
theorem pass_no1 {key : ByteArray} {keys : List ByteArray} {x : Att} {c : Int} (h : x.formed = false) : pass key keys x c = none := by simp [pass, h]
theorem pass_no2 {key : ByteArray} {keys : List ByteArray} {x : Att} {c : Int} (h : okKeys keys = false) : pass key keys x c = none := by simp [pass, h]
theorem pass_yes {key : ByteArray} {keys : List ByteArray} {x : Att} {c : Int} (h : x.formed = true) (h2 : okKeys keys = true) : pass key keys x c = grow key x c (says keys x (x.hs.length - 1)) := by simp [pass, h, h2]
/-- what a carrier can say of the hand before the j-th; 0 of none -/
def lastS (keys : List ByteArray) (x : Att) : Nat → Int
  | 0 => 0
  | j + 1 => says keys x j
theorem lastS_end {keys : List ByteArray} {x : Att} (h : 1 ≤ x.hs.length) : says keys x (x.hs.length - 1) = lastS keys x x.hs.length := by
  cases hn : x.hs.length with
  | zero => omega
  | succ n => rfl
/-- the hand before the j-th, or none -/
@[reducible] def lastC (x : Att) : Nat → Int
  | 0 => -1
  | j + 1 => (x.h j).c
@[reducible] def lastL (x : Att) : Nat → Int
  | 0 => 0
  | j + 1 => (x.h j).l
@[reducible] def lastSl (x : Att) : Nat → ByteArray
  | 0 => mtB
  | j + 1 => (x.h j).s
@[reducible] def lastCt (x : Att) : Nat → ByteArray
  | 0 => mtB
  | j + 1 => content x j
@[reducible] def lastH (x : Att) (j : Nat) : List Value := [.int .i64 (lastC x j), .int .i64 (lastL x j), .string (lastSl x j), .string (lastCt x j)]
theorem bad_yes {keys : List ByteArray} {knows : List Int} {x : Att} {j : Nat} (h : ¬ (x.h j).s = sealOf (keyAt keys x j) (content x j)) : bad keys knows x j = true := by simp [bad, right, h]
theorem lastC_pos {x : Att} {j : Nat} (h : 0 < j) : lastC x j = (x.h (j - 1)).c := by cases j with | zero => omega | succ j => rfl
theorem lastL_pos {x : Att} {j : Nat} (h : 0 < j) : lastL x j = (x.h (j - 1)).l := by cases j with | zero => omega | succ j => rfl
theorem last_neg {x : Att} {j : Nat} (hf : x.formed = true) (hj : j < x.hs.length) : lastC x j < 0 ↔ j = 0 := by
  cases j with
  | zero => simp
  | succ j =>
    have := formed_c hf (i := j) (by omega)
    have e : lastC x (j + 1) = (x.h j).c := rfl
    simp only [Nat.add_one_ne_zero, iff_false]; omega
theorem bad_zero {keys : List ByteArray} {knows : List Int} {x : Att} {j : Nat} (h : right (keyAt keys x j) x j = true) (h0 : j = 0) : bad keys knows x j = false := by subst h0; simp [bad, h]
theorem bad_pos {keys : List ByteArray} {knows : List Int} {x : Att} {j : Nat} (h : right (keyAt keys x j) x j = true) (h0 : 0 < j) : bad keys knows x j = !decide ((x.h j).l = most knows x j) := by
  have : ¬ j = 0 := by omega
  simp [bad, h, this]
theorem blame_no {keys : List ByteArray} {knows : List Int} {x : Att} (h : (x.formed && fullKeys keys && okKnows knows) = false) : blame keys knows x = (0, 250) := by simp only [blame, h, Bool.false_eq_true, if_false]
theorem blame_yes {keys : List ByteArray} {knows : List Int} {x : Att} (h : x.formed = true) (h2 : fullKeys keys = true) (h3 : okKnows knows = true) : blame keys knows x = (fIdx (firstI (bad keys knows x) x.hs.length), 0) := by simp only [blame, h, h2, h3, Bool.and_self, if_true]
theorem full_not {keys : List ByteArray} (h : okKeys keys = false) : fullKeys keys = false := by
  rw [Bool.eq_false_iff]; intro hh; rw [fullKeys_ok hh] at h; cases h
theorem full_any {keys : List ByteArray} (h : okKeys keys = true) : fullKeys keys = !keys.any (fun s => !decide (s.size = 32)) := by
  unfold fullKeys; rw [decide_eq_true (okKeys_iff.1 h).1]; rfl
theorem okKnows_any {knows : List Int} (h : knows.length = 8) : okKnows knows = !knows.any (fun n => !inB n 0 255) := by
  unfold okKnows; rw [decide_eq_true h]; rfl
theorem okKnows_in {knows : List Int} (h : knows.any (fun n => !inB n 0 255) = false) : ∀ n ∈ knows, 0 ≤ n ∧ n ≤ 255 := fun n hn => by
  have := (List.any_eq_false.1 h) n hn
  simp only [Bool.not_eq_true, Bool.not_eq_false'] at this
  exact inB_iff.1 this
end Go.At
namespace Go.At
open Go Go.Xe Go.Sh Go.RowKit
/-- numbers, encoded -/
def catN (l : List Int) : ByteArray := ⟨(numB l).toArray⟩
theorem catN_snoc (l : List Int) (n : Int) : catN (l ++ [n]) = catN l ++ putX n := by
  apply ByteArray.ext
  apply Array.ext'
  simp [catN, numB, ByteArray.data_append]
theorem catN_size (l : List Int) : (catN l).size ≤ 10 * l.length := by
  have h1 := numB_len l
  have h2 : (catN l).size = (numB l).length := by simp [catN, ByteArray.size]
  omega
theorem content_pos {x : Att} {i : Nat} (h : 0 < i) : content x i = catN (x.nums i) ++ (x.h (i - 1)).s := by
  apply ByteArray.ext
  apply Array.ext'
  have : ¬ i = 0 := by omega
  simp [content, contentB, catN, before, this, ByteArray.data_append]
theorem content_zero {x : Att} : content x 0 = catN (x.nums 0) := by
  apply ByteArray.ext
  apply Array.ext'
  simp [content, contentB, catN, before]
def keysR (all : Bool) (l : List ByteArray) : Bool := if all then fullKeys l else okKeys l
theorem keysR_iff {all : Bool} {l : List ByteArray} : keysR all l = true ↔ l.length = 8 ∧ ∀ i (h : i < l.length), l[i].size = 32 ∨ (all = false ∧ l[i] = mtB) := by
  cases all with
  | true => simp only [keysR, if_true, fullKeys_iff]; simp
  | false =>
    simp only [keysR, Bool.false_eq_true, if_false, okKeys_iff, true_and]
    exact ⟨fun ⟨h1, h2⟩ => ⟨h1, fun i h => (h2 i h).symm⟩, fun ⟨h1, h2⟩ => ⟨h1, fun i h => (h2 i h).symm⟩⟩
theorem keysR_end {all : Bool} {l : List ByteArray} (h : ∀ (j : Nat) (h : j < l.length), l[j].size = 32 ∨ (all = false ∧ l[j] = mtB)) : keysR all l = decide (l.length = 8) := by
  rw [Bool.eq_iff_iff, keysR_iff, decide_eq_true_eq]
  exact ⟨fun hh => hh.1, fun hh => ⟨hh, h⟩⟩
end Go.At
namespace Go.At
open Go Go.Xe Go.Sh Go.RowKit
/-! two attestations that are alike up to a hand -/
section
variable {x y : Att} {m : Nat}
theorem before_agree {i : Nat} (hh : ∀ i, i < m → x.h i = y.h i) (hi : i ≤ m) : before x i = before y i := by
  unfold before
  by_cases h : i = 0
  · rw [if_pos h, if_pos h]
  · rw [if_neg h, if_neg h, hh _ (by omega)]
theorem okH_agree {i : Nat} (hh : ∀ i, i < m → x.h i = y.h i) (hi : i < m) : okH x i = okH y i := by
  unfold okH
  rw [hh i hi, hh (i - 1) (by omega)]
theorem keyAt_agree {keys : List ByteArray} {i : Nat} (hh : ∀ i, i < m → x.h i = y.h i) (hi : i < m) : keyAt keys x i = keyAt keys y i := by unfold keyAt; rw [hh i hi]
theorem can_agree {knows : List Int} {i : Nat} (hh : ∀ i, i < m → x.h i = y.h i) (hi : i < m) : can knows x i = can knows y i := by unfold can; rw [hh i hi, hh (i - 1) (by omega)]
theorem most_agree {knows : List Int} {i : Nat} (hh : ∀ i, i < m → x.h i = y.h i) (hi : i < m) : most knows x i = most knows y i := by unfold most; rw [can_agree hh hi, hh (i - 1) (by omega)]
theorem content_agree {i : Nat} (hd : x.d = y.d) (hh : ∀ i, i < m → x.h i = y.h i) (hi : i < m) : content x i = content y i := by
  unfold content contentB Att.nums
  rw [hd, hh i hi, before_agree hh (by omega)]
theorem right_agree {key : ByteArray} {i : Nat} (hd : x.d = y.d) (hh : ∀ i, i < m → x.h i = y.h i) (hi : i < m) : right key x i = right key y i := by
  unfold right
  rw [hh i hi, content_agree hd hh hi]
theorem shown_agree {keys : List ByteArray} {i : Nat} (hd : x.d = y.d) (hh : ∀ i, i < m → x.h i = y.h i) (hi : i < m) : shown keys x i = shown keys y i := by
  unfold shown
  rw [keyAt_agree hh hi, right_agree hd hh hi]
theorem bad_agree {keys : List ByteArray} {knows : List Int} {i : Nat} (hd : x.d = y.d) (hh : ∀ i, i < m → x.h i = y.h i) (hi : i < m) : bad keys knows x i = bad keys knows y i := by
  unfold bad
  rw [keyAt_agree hh hi, right_agree hd hh hi, most_agree hh hi, hh i hi]
end
theorem firstI_congr {p q : Nat → Bool} {n : Nat} (h : ∀ i, i < n → p i = q i) : firstI p n = firstI q n := by
  cases hq : firstI q n with
  | none => rw [firstI_none] at hq ⊢; exact fun j hj => (h j hj).trans (hq j hj)
  | some i =>
    obtain ⟨h1, h2, h3⟩ := firstI_some.1 hq
    exact firstI_some.2 ⟨h1, (h i h1).trans h2, fun j hj => (h j (by omega)).trans (h3 j hj)⟩
theorem firstI_small {p : Nat → Bool} {n m i : Nat} (h : firstI p n = some i) (hi : i < m) : firstI p m = some i := by
  obtain ⟨_, h2, h3⟩ := firstI_some.1 h
  exact firstI_some.2 ⟨hi, h2, h3⟩
theorem firstI_gone {p : Nat → Bool} {n m : Nat} (hm : m ≤ n) (h : ∀ i, firstI p n = some i → m ≤ i) : firstI p m = none := by
  rw [firstI_none]
  intro j hj
  cases hn : firstI p n with
  | none => exact (firstI_none.1 hn) j (by omega)
  | some i => exact (firstI_some.1 hn).2.2 j (by have := h i hn; omega)
/-! hands that are added -/
section
variable {x : Att} {h : Hand} {i : Nat}
theorem h_add_lt (hi : i < x.hs.length) : (x.add h).h i = x.h i := by
  simp [Att.h, Att.add, List.getElem?_append_left hi]
theorem h_add_eq : (x.add h).h x.hs.length = h := by simp [Att.h, Att.add]
theorem add_agree : ∀ i, i < x.hs.length → (x.add h).h i = x.h i := fun _ hi => h_add_lt hi
theorem content_last {c l : Int} {s t : ByteArray} : content (x.add ⟨c, l, s⟩) x.hs.length = content (x.add ⟨c, l, t⟩) x.hs.length := by
  unfold content contentB Att.nums
  rw [before_agree (y := x.add ⟨c, l, t⟩) (m := x.hs.length) (fun i hi => by rw [h_add_lt hi, h_add_lt hi]) (Nat.le_refl _), h_add_eq, h_add_eq]
  rfl
theorem okH_add : okH (x.add h) x.hs.length = true ↔ (0 ≤ h.c ∧ h.c ≤ 7) ∧ (0 ≤ h.l ∧ h.l ≤ 3) ∧ h.s.size = 32 ∧ (x.hs.length = 0 ∨ (¬ h.c = (x.h (x.hs.length - 1)).c ∧ h.l ≤ (x.h (x.hs.length - 1)).l)) := by
  rw [okH_iff, h_add_eq]
  by_cases h0 : x.hs.length = 0
  · simp [h0]
  · rw [h_add_lt (i := x.hs.length - 1) (by omega)]
theorem formed_add (hd : okD x.d = true) (hl : x.hs.length ≤ 7) (ho : ∀ i, i < x.hs.length → okH x i = true) (h1 : (0 ≤ h.c ∧ h.c ≤ 7) ∧ (0 ≤ h.l ∧ h.l ≤ 3) ∧ h.s.size = 32 ∧ (x.hs.length = 0 ∨ (¬ h.c = (x.h (x.hs.length - 1)).c ∧ h.l ≤ (x.h (x.hs.length - 1)).l))) : (x.add h).formed = true := by
  refine formed_iff.2 ⟨hd, by rw [add_len]; omega, fun i hi => ?_⟩
  rw [add_len] at hi
  by_cases h0 : i < x.hs.length
  · rw [okH_agree add_agree h0]; exact ho i h0
  · obtain rfl : i = x.hs.length := by omega
    exact okH_add.2 h1
theorem formed_more (hf : x.formed = true) (hl : x.hs.length ≤ 7) (h1 : (0 ≤ h.c ∧ h.c ≤ 7) ∧ (0 ≤ h.l ∧ h.l ≤ 3) ∧ h.s.size = 32 ∧ (¬ h.c = (x.h (x.hs.length - 1)).c ∧ h.l ≤ (x.h (x.hs.length - 1)).l)) : (x.add h).formed = true :=
  formed_add (formed_iff.1 hf).1 hl (formed_iff.1 hf).2.2 ⟨h1.1, h1.2.1, h1.2.2.1, .inr h1.2.2.2⟩
theorem grown_right {key : ByteArray} {c l : Int} : right key (grown key x c l) x.hs.length = true := by
  unfold right grown
  rw [h_add_eq]
  exact decide_eq_true (congrArg (sealOf key) content_last)
end
/-! the keys -/
theorem keyC_size (c : Nat) : (keyC c).size = 32 := by simp [keyC, ByteArray.size]
theorem keyC_ne (c : Nat) : ¬ keyC c = mtB := fun h => by have := keyC_size c; rw [h] at this; cases this
theorem keyC_data (c : Nat) : (keyC c).data.toList = List.replicate 32 (UInt8.ofNat c) := by simp [keyC]
theorem keyC_inj {c e : Nat} (hc : c < 256) (he : e < 256) (h : keyC c = keyC e) : c = e := by
  have h1 : List.replicate 32 (UInt8.ofNat c) = List.replicate 32 (UInt8.ofNat e) := by rw [← keyC_data, ← keyC_data, h]
  have h2 : UInt8.ofNat c = UInt8.ofNat e := by
    have := congrArg List.head? h1
    simpa using this
  have h3 := congrArg UInt8.toNat h2
  simpa [UInt8.toNat_ofNat', Nat.mod_eq_of_lt hc, Nat.mod_eq_of_lt he] using h3
theorem allK_len : allK.length = 8 := by simp [allK]
theorem allK_get {i : Nat} (h : i < 8) : allK.getD i mtB = keyC i := by simp [allK, h]
theorem known_len (keys : List ByteArray) (s : Nat) : (known keys s).length = keys.length := by simp [known]
theorem known_get {keys : List ByteArray} {s i : Nat} (h : i < keys.length) : (known keys s).getD i mtB = if s / 2 ^ i % 2 = 1 then keys.getD i mtB else mtB := by
  simp only [known, List.getD_eq_getElem?_getD, List.getElem?_map, List.getElem?_range h, Option.map_some, Option.getD_some]
theorem known_at {s i : Nat} (h : i < 8) : (known allK s).getD i mtB = if s / 2 ^ i % 2 = 1 then keyC i else mtB := by
  rw [known_get (by rw [allK_len]; exact h), allK_get h]
theorem full_all : fullKeys allK = true := fullKeys_iff.2 ⟨allK_len, fun i h => by
  have h1 := allK_get (i := i) (by rw [allK_len] at h; exact h)
  rw [List.getD_eq_getElem?_getD, List.getElem?_eq_getElem h, Option.getD_some] at h1
  rw [h1]; exact keyC_size i⟩
theorem ok_all : okKeys allK = true := fullKeys_ok full_all
theorem ok_known (s : Nat) : okKeys (known allK s) = true := okKeys_iff.2 ⟨by rw [known_len, allK_len], fun i h => by
  have h8 : i < 8 := by rw [known_len, allK_len] at h; exact h
  have h1 := known_at (s := s) h8
  rw [List.getD_eq_getElem?_getD, List.getElem?_eq_getElem h, Option.getD_some] at h1
  rw [h1]
  split
  · exact .inr (keyC_size i)
  · exact .inl rfl⟩
section
variable {x : Att} {i : Nat}
theorem keyAt_all (hc : 0 ≤ (x.h i).c ∧ (x.h i).c ≤ 7) : keyAt allK x i = keyC (x.h i).c.toNat := allK_get (by omega)
theorem keyAt_known {s : Nat} (hc : 0 ≤ (x.h i).c ∧ (x.h i).c ≤ 7) : keyAt (known allK s) x i = if s / 2 ^ (x.h i).c.toNat % 2 = 1 then keyC (x.h i).c.toNat else mtB := known_at (by omega)
theorem shown_all (hc : 0 ≤ (x.h i).c ∧ (x.h i).c ≤ 7) : shown allK x i = right (keyC (x.h i).c.toNat) x i := by
  unfold shown
  rw [keyAt_all hc, decide_eq_false (keyC_ne _)]; rfl
theorem shown_known {s : Nat} (hc : 0 ≤ (x.h i).c ∧ (x.h i).c ≤ 7) : shown (known allK s) x i = (decide (s / 2 ^ (x.h i).c.toNat % 2 = 1) && right (keyC (x.h i).c.toNat) x i) := by
  unfold shown
  rw [keyAt_known hc]
  by_cases h : s / 2 ^ (x.h i).c.toNat % 2 = 1
  · rw [if_pos h, decide_eq_false (keyC_ne _), decide_eq_true h]; rfl
  · rw [if_neg h, decide_eq_false h]; simp
end
/-- each carrier did as it should -/
structure Chain (knows : List Int) (x : Att) : Prop where
  f : x.formed = true
  r : ∀ i, i < x.hs.length → right (keyC (x.h i).c.toNat) x i = true
  l : ∀ i, 0 < i → i < x.hs.length → (x.h i).l = most knows x i
section
variable {x : Att} {knows : List Int}
theorem Chain.bad (h : Chain knows x) {i : Nat} (hi : i < x.hs.length) : Go.At.bad allK knows x i = false := by
  unfold Go.At.bad
  rw [keyAt_all (formed_c h.f hi), h.r i hi]
  by_cases h0 : i = 0
  · simp [h0]
  · simp [h.l i (by omega) hi]
theorem Chain.blame (h : Chain knows x) (hk : okKnows knows = true) : Go.At.blame allK knows x = (-1, 0) := by
  rw [blame_yes h.f full_all hk, firstI_none.2 (fun j hj => h.bad hj)]; rfl
theorem Chain.shown (h : Chain knows x) {i s : Nat} (hi : i < x.hs.length) : Go.At.shown (known allK s) x i = decide (s / 2 ^ (x.h i).c.toNat % 2 = 1) := by
  rw [shown_known (formed_c h.f hi), h.r i hi, Bool.and_true]
theorem Chain.shown_all (h : Chain knows x) {i : Nat} (hi : i < x.hs.length) : Go.At.shown allK x i = true := by
  rw [Go.At.shown_all (formed_c h.f hi), h.r i hi]
/-- a first hand -/
theorem begin_chain {d : Dial} {c l : Int} (hd : okD d = true) (hc : 0 ≤ c ∧ c ≤ 7) (hl : 0 ≤ l ∧ l ≤ 3) : beginA (keyC c.toNat) d c l = some (grown (keyC c.toNat) ⟨d, []⟩ c l) ∧ Chain knows (grown (keyC c.toNat) ⟨d, []⟩ c l) := by
  have hz : ∀ s : ByteArray, s.size = 32 → ((⟨d, []⟩ : Att).add ⟨c, l, s⟩).formed = true := fun s hs => formed_add hd (by simp) (fun i hi => by simp at hi) ⟨hc, hl, hs, .inl rfl⟩
  refine ⟨grow_some (keyC_size _) (hz _ rfl), hz _ (sealOf_size _ _), fun i hi => ?_, fun i h0 hi => ?_⟩
  · have h1 : i = 0 := by rw [add_len] at hi; simp at hi; omega
    subst h1
    exact grown_right (x := ⟨d, []⟩) (c := c) (l := l)
  · rw [add_len] at hi; simp at hi; omega
theorem most_grown {key : ByteArray} {c l : Int} (h0 : 1 ≤ x.hs.length) : most knows (grown key x c l) x.hs.length = if (knows.getD c.toNat 0).toNat / 2 ^ (x.h (x.hs.length - 1)).c.toNat % 2 = 1 then (x.h (x.hs.length - 1)).l else min (x.h (x.hs.length - 1)).l 1 := by
  unfold most can grown
  rw [h_add_eq, h_add_lt (i := x.hs.length - 1) (by omega)]
  simp only [decide_eq_true_eq]
/-- a further hand -/
theorem pass_chain (h : Chain knows x) {c : Int} (hl : x.hs.length ≤ 7) (hc : 0 ≤ c ∧ c ≤ 7) (hne : ¬ c = (x.h (x.hs.length - 1)).c) {s : Nat} (hs : s = (knows.getD c.toNat 0).toNat) :
    pass (keyC c.toNat) (known allK s) x c = some (grown (keyC c.toNat) x c (says (known allK s) x (x.hs.length - 1))) ∧ Chain knows (grown (keyC c.toNat) x c (says (known allK s) x (x.hs.length - 1))) := by
  have h1 := (formed_len h.f).1
  have hsays : says (known allK s) x (x.hs.length - 1) = if (knows.getD c.toNat 0).toNat / 2 ^ (x.h (x.hs.length - 1)).c.toNat % 2 = 1 then (x.h (x.hs.length - 1)).l else min (x.h (x.hs.length - 1)).l 1 := by
    unfold says
    rw [h.shown (by omega), hs]
    simp only [decide_eq_true_eq]
  have hll := formed_l h.f (i := x.hs.length - 1) (by omega)
  generalize hL : says (known allK s) x (x.hs.length - 1) = L at *
  have hLr : 0 ≤ L ∧ L ≤ (x.h (x.hs.length - 1)).l := by
    rw [hsays]; split <;> omega
  have hz : ∀ t : ByteArray, t.size = 32 → (x.add ⟨c, L, t⟩).formed = true := fun t ht => formed_more h.f hl ⟨hc, ⟨hLr.1, by have := hLr.2; simp only; omega⟩, ht, hne, hLr.2⟩
  refine ⟨by rw [pass_yes h.f (ok_known _), hL]; exact grow_some (keyC_size _) (hz _ rfl), hz _ (sealOf_size _ _), fun i hi => ?_, fun i h0 hi => ?_⟩
  · rw [add_len] at hi
    by_cases h2 : i < x.hs.length
    · have h3 : right (keyC ((grown (keyC c.toNat) x c L).h i).c.toNat) (grown (keyC c.toNat) x c L) i = right (keyC (x.h i).c.toNat) x i := by
        rw [h_add_lt h2]; exact right_agree (x := grown (keyC c.toNat) x c L) (y := x) rfl add_agree h2
      rw [h3]; exact h.r i h2
    · obtain rfl : i = x.hs.length := by omega
      rw [h_add_eq]
      exact grown_right
  · rw [add_len] at hi
    by_cases h2 : i < x.hs.length
    · have h3 : most knows (grown (keyC c.toNat) x c L) i = most knows x i := most_agree (x := grown (keyC c.toNat) x c L) (y := x) add_agree h2
      rw [h3, h_add_lt h2]; exact h.l i h0 h2
    · obtain rfl : i = x.hs.length := by omega
      rw [most_grown h1, h_add_eq]; exact hsays
end
/-! the integers that determine an attestation -/
structure Num where
  d0 : Int
  d1 : Int
  d2 : Int
  d3 : Int
  lv : Int
  cars : List Int
  k0 : Int
  k1 : Int
  k2 : Int
  k3 : Int
  k4 : Int
  k5 : Int
  k6 : Int
  k7 : Int
@[reducible] def Num.kn (n : Num) : List Int := [n.k0, n.k1, n.k2, n.k3, n.k4, n.k5, n.k6, n.k7]
structure Num.In (n : Num) : Prop where
  d0 : In64 n.d0
  d1 : In64 n.d1
  d2 : In64 n.d2
  d3 : In64 n.d3
  lv : In64 n.lv
  cars : ∀ z ∈ n.cars, In64 z
  kn : ∀ z ∈ n.kn, In64 z
def dialOf (a b c d : Int) : Dial := ⟨pickI a 100, pickI b 100, pickI c 1000, pickI d 100⟩
theorem dialOf_ok (a b c d : Int) : okD (dialOf a b c d) = true := by
  have h1 := pickI_range (c := a) (n := 100) (by decide)
  have h2 := pickI_range (c := b) (n := 100) (by decide)
  have h3 := pickI_range (c := c) (n := 1000) (by decide)
  have h4 := pickI_range (c := d) (n := 100) (by decide)
  simp only [okD, dialOf, Bool.and_eq_true, inB_iff]
  omega
def Num.dial (n : Num) : Dial := dialOf n.d0 n.d1 n.d2 n.d3
def Num.knows (n : Num) : List Int := n.kn.map fun z => pickI z 256
theorem Num.ok_knows (n : Num) : okKnows n.knows = true := by
  have h : n.kn.length = 8 := rfl
  unfold okKnows Num.knows
  rw [List.length_map, decide_eq_true h, Bool.true_and, Bool.not_eq_true', List.any_eq_false]
  intro z hz
  obtain ⟨y, _, rfl⟩ := List.mem_map.1 hz
  have h1 := pickI_range (c := y) (n := 256) (by decide)
  rw [inB_iff.2 (by omega)]; decide
theorem Num.knows_in (n : Num) : ∀ z ∈ n.knows, 0 ≤ z ∧ z ≤ 255 := fun z hz => by
  obtain ⟨y, _, rfl⟩ := List.mem_map.1 hz
  have h1 := pickI_range (c := y) (n := 256) (by decide)
  omega
/-- the carrier of a hand -/
def Num.car (n : Num) : Nat → Int
  | 0 => if 0 < n.cars.length then pickI (n.cars.getD 0 0) 8 else 0
  | i + 1 => (n.car i + 1 + pickI (n.cars.getD (i + 1) 0) 7) % 8
theorem Num.car_range (n : Num) : ∀ i, 0 ≤ n.car i ∧ n.car i ≤ 7
  | 0 => by
    unfold Num.car
    have h1 := pickI_range (c := n.cars.getD 0 0) (n := 8) (by decide)
    split <;> omega
  | i + 1 => by unfold Num.car; omega
theorem Num.car_ne (n : Num) (i : Nat) : ¬ n.car (i + 1) = n.car i := by
  have h1 := n.car_range i
  have h2 := pickI_range (c := n.cars.getD (i + 1) 0) (n := 7) (by decide)
  rw [Num.car]; omega
def Num.set (n : Num) (c : Int) : Nat := (n.knows.getD c.toNat 0).toNat
/-- the first hands -/
def Num.madeN (n : Num) : Nat → Att
  | 0 => grown (keyC (n.car 0).toNat) ⟨n.dial, []⟩ (n.car 0) (pickI n.lv 4)
  | i + 1 => grown (keyC (n.car (i + 1)).toNat) (n.madeN i) (n.car (i + 1)) (says (known allK (n.set (n.car (i + 1)))) (n.madeN i) i)
theorem Num.madeN_begin (n : Num) : beginA (keyC (n.car 0).toNat) n.dial (n.car 0) (pickI n.lv 4) = some (n.madeN 0) := by
  have h1 := pickI_range (c := n.lv) (n := 4) (by decide)
  exact (begin_chain (knows := []) (dialOf_ok _ _ _ _) (n.car_range 0) (by omega)).1
theorem Num.madeN_len (n : Num) : ∀ i, (n.madeN i).hs.length = i + 1
  | 0 => rfl
  | i + 1 => by unfold Num.madeN; rw [add_len, n.madeN_len i]
theorem Num.madeN_last (n : Num) : ∀ i, ((n.madeN i).h i).c = n.car i
  | 0 => rfl
  | i + 1 => by
    have h := n.madeN_len i
    unfold Num.madeN
    have h2 : ∀ k : Hand, ((n.madeN i).add k).h (i + 1) = k := fun k => by rw [← h]; exact h_add_eq
    unfold grown; rw [h2]
theorem Num.madeN_chain (n : Num) : ∀ i, i ≤ 7 → Chain n.knows (n.madeN i)
  | 0, _ => by
    have h1 := pickI_range (c := n.lv) (n := 4) (by decide)
    exact (begin_chain (dialOf_ok _ _ _ _) (n.car_range 0) (by omega)).2
  | i + 1, h => by
    have h1 := n.madeN_len i
    have h2 := pass_chain (n.madeN_chain i (by omega)) (c := n.car (i + 1)) (by omega) (n.car_range (i + 1)) (by rw [h1, Nat.add_sub_cancel, n.madeN_last i]; exact n.car_ne i) (s := n.set (n.car (i + 1))) rfl
    rw [h1, Nat.add_sub_cancel] at h2
    exact h2.2
theorem Num.madeN_pass (n : Num) {i : Nat} (h : i ≤ 6) : pass (keyC (n.car (i + 1)).toNat) (known allK (n.set (n.car (i + 1)))) (n.madeN i) (n.car (i + 1)) = some (n.madeN (i + 1)) := by
  have h1 := n.madeN_len i
  have h2 := pass_chain (n.madeN_chain i (by omega)) (c := n.car (i + 1)) (by omega) (n.car_range (i + 1)) (by rw [h1, Nat.add_sub_cancel, n.madeN_last i]; exact n.car_ne i) (s := n.set (n.car (i + 1))) rfl
  rw [h1, Nat.add_sub_cancel] at h2
  exact h2.1
theorem Num.madeN_first (n : Num) : ∀ i, ((n.madeN i).h 0).l = pickI n.lv 4
  | 0 => rfl
  | i + 1 => by
    unfold Num.madeN
    have h := n.madeN_len i
    unfold grown
    rw [h_add_lt (by omega)]; exact n.madeN_first i
theorem Num.madeN_d (n : Num) : ∀ i, (n.madeN i).d = n.dial
  | 0 => rfl
  | i + 1 => by unfold Num.madeN; exact n.madeN_d i
def Num.cnt (n : Num) : Nat := min (n.cars.length - 1) 5
def Num.made (n : Num) : Att := n.madeN n.cnt
theorem Num.made_chain (n : Num) : Chain n.knows n.made := n.madeN_chain _ (by unfold Num.cnt; omega)
theorem Num.made_len (n : Num) : 1 ≤ n.made.hs.length ∧ n.made.hs.length ≤ 6 := by
  unfold Num.made; rw [n.madeN_len]; unfold Num.cnt; omega
end Go.At
namespace Go.At
open Go Go.Xe Go.Sh Go.RowKit
theorem firstI_is {p : Nat → Bool} {n : Nat} (i : Nat) (h : i < n ∧ p i = true ∧ ∀ j, j < i → p j = false) : firstI p n = some i := firstI_some.2 h
/-! hands cut off -/
section
variable {x : Att} {m : Nat}
@[reducible] def Att.pre (x : Att) (m : Nat) : Att := ⟨x.d, x.hs.take m⟩
theorem pre_agree : ∀ i, i < m → (x.pre m).h i = x.h i := fun i hi => by simp [Att.h, hi]
theorem pre_len (h : m ≤ x.hs.length) : (x.pre m).hs.length = m := by simp [h]
theorem pre_formed (hf : x.formed = true) (h1 : 1 ≤ m) (h2 : m ≤ x.hs.length) : (x.pre m).formed = true := by
  obtain ⟨g1, g2, g3⟩ := formed_iff.1 hf
  refine formed_iff.2 ⟨g1, by rw [pre_len h2]; omega, fun i hi => ?_⟩
  rw [pre_len h2] at hi
  rw [okH_agree pre_agree hi]; exact g3 i (by omega)
theorem cut_yes (hf : x.formed = true) (h1 : 1 ≤ m) (h2 : m ≤ x.hs.length) : cut x (m : Int) = some (x.pre m) := by
  unfold cut
  rw [hf, inB_iff.2 (by omega)]; rfl
theorem check_yes {keys : List ByteArray} (hf : x.formed = true) (hk : okKeys keys = true) : check keys x = ((fh x (firstI (shown keys x) x.hs.length)).l, fIdx (firstI (shown keys x) x.hs.length), 0) := by
  unfold check; rw [hf, hk]; rfl
theorem check_no {keys : List ByteArray} (h : x.formed = false) : check keys x = (0, 0, 250) := by unfold check; rw [h]; rfl
theorem check_cut {keys : List ByteArray} (hf : x.formed = true) (hk : okKeys keys = true) (h1 : 1 ≤ m) (h2 : m ≤ x.hs.length) :
    check keys (x.pre m) = if 0 ≤ (check keys x).2.1 ∧ (check keys x).2.1 < m then check keys x else (0, -1, 0) := by
  rw [check_yes (pre_formed hf h1 h2) hk, check_yes hf hk, pre_len h2, firstI_congr (p := shown keys (x.pre m)) (q := shown keys x) (fun i hi => shown_agree (x := x.pre m) (y := x) rfl pre_agree hi)]
  cases hx : firstI (shown keys x) x.hs.length with
  | none =>
    rw [firstI_gone h2 (fun i hi => by rw [hx] at hi; cases hi)]
    simp [fIdx, fh]
  | some i =>
    by_cases hi : i < m
    · rw [firstI_small hx hi, if_pos ⟨by simp [fIdx], by simp [fIdx, hi]⟩]
      simp only [fh, fIdx]
      rw [pre_agree i hi]
    · rw [firstI_gone h2 (fun j hj => by rw [hx] at hj; cases hj; omega), if_neg (by simp [fIdx, hi])]
      simp [fIdx, fh]
end
/-! levels never grow -/
theorem levels {x : Att} (hf : x.formed = true) : ∀ (k i : Nat), i + k < x.hs.length → (x.h (i + k)).l ≤ (x.h i).l
  | 0, i, _ => Int.le_refl _
  | k + 1, i, h => by
    have h1 := levels hf k i (by omega)
    have h2 := (formed_h hf (i := i + (k + 1)) h).2.2.2.resolve_left (by omega)
    have h3 : i + (k + 1) - 1 = i + k := by omega
    rw [h3] at h2
    omega
theorem levels' {x : Att} (hf : x.formed = true) {i j : Nat} (h : i ≤ j) (hj : j < x.hs.length) : (x.h j).l ≤ (x.h i).l := by
  have := levels hf (j - i) i (by omega)
  rwa [show i + (j - i) = j by omega] at this
/-! more keys -/
theorem bit_or {s t i : Nat} (h : s / 2 ^ i % 2 = 1) : (s ||| t) / 2 ^ i % 2 = 1 := by
  have e : ∀ n : Nat, n / 2 ^ i % 2 = 1 ↔ n.testBit i = true := fun n => by rw [Nat.testBit_eq_decide_div_mod_eq]; simp
  rw [e] at h ⊢
  rw [Nat.testBit_or, h]; rfl
theorem shown_more {x : Att} {s t i : Nat} (hc : 0 ≤ (x.h i).c ∧ (x.h i).c ≤ 7) (h : shown (known allK s) x i = true) : shown (known allK (s ||| t)) x i = true := by
  rw [shown_known hc, Bool.and_eq_true, decide_eq_true_eq] at h ⊢
  exact ⟨bit_or h.1, h.2⟩
theorem check_more {x : Att} {s t : Nat} (hf : x.formed = true) : (check (known allK s) x).1 ≤ (check (known allK (s ||| t)) x).1 ∧ ((check (known allK s) x).2.1 < 0 ∨ (0 ≤ (check (known allK (s ||| t)) x).2.1 ∧ (check (known allK (s ||| t)) x).2.1 ≤ (check (known allK s) x).2.1)) := by
  rw [check_yes hf (ok_known _), check_yes hf (ok_known _)]
  cases h1 : firstI (shown (known allK s) x) x.hs.length with
  | none =>
    refine ⟨?_, .inl (by simp [fIdx])⟩
    cases h2 : firstI (shown (known allK (s ||| t)) x) x.hs.length with
    | none => exact Int.le_refl _
    | some j => exact (formed_l hf (firstI_some.1 h2).1).1
  | some i =>
    obtain ⟨g1, g2, g3⟩ := firstI_some.1 h1
    have g4 := shown_more (t := t) (formed_c hf g1) g2
    cases h2 : firstI (shown (known allK (s ||| t)) x) x.hs.length with
    | none => rw [(firstI_none.1 h2) i g1] at g4; cases g4
    | some j =>
      obtain ⟨k1, k2, k3⟩ := firstI_some.1 h2
      have hji : j ≤ i := by
        rcases Nat.lt_or_ge i j with h9 | h9
        · rw [k3 i h9] at g4; cases g4
        · exact h9
      exact ⟨levels' hf hji g1, .inr ⟨by simp [fIdx], by simp only [fIdx]; omega⟩⟩
/-! nobody is blamed -/
theorem blame_ok {keys : List ByteArray} {knows : List Int} {x : Att} (h : blame keys knows x = (-1, 0)) : x.formed = true ∧ ∀ i, i < x.hs.length → bad keys knows x i = false := by
  by_cases h1 : (x.formed && fullKeys keys && okKnows knows) = true
  · simp only [Bool.and_eq_true] at h1
    rw [blame_yes h1.1.1 h1.1.2 h1.2] at h
    refine ⟨h1.1.1, ?_⟩
    cases h2 : firstI (bad keys knows x) x.hs.length with
    | none => exact firstI_none.1 h2
    | some i =>
      rw [h2] at h
      simp only [fIdx, Prod.mk.injEq] at h
      omega
  · rw [blame_no (by simpa using h1)] at h; cases h
theorem blame_err {keys : List ByteArray} {knows : List Int} {x : Att} (h : x.formed = false) : blame keys knows x = (0, 250) := blame_no (by rw [h]; rfl)
/-- a level that is more than passed on was checked by every carrier up to there -/
theorem checked {x : Att} {knows : List Int} (hf : x.formed = true) (hb : ∀ i, i < x.hs.length → bad allK knows x i = false) {i k : Nat} (hi : 0 < i) (hik : i ≤ k) (hk : k < x.hs.length) (hl : 1 < (x.h k).l) : can knows x i = true := by
  have h1 := hb i (by omega)
  have hr : right (keyAt allK x i) x i = true := by
    unfold bad at h1
    simp only [Bool.or_eq_false_iff, Bool.not_eq_false'] at h1
    exact h1.1
  rw [bad_pos hr hi, Bool.not_eq_false', decide_eq_true_eq] at h1
  have h2 := levels' hf hik hk
  unfold most at h1
  cases hc : can knows x i with
  | true => rfl
  | false => rw [hc, if_neg (by decide)] at h1; omega
/-! further hands -/
section
variable {x y : Att}
/-- y begins with x's hands -/
structure More (x y : Att) : Prop where
  d : y.d = x.d
  h : ∀ i, i < x.hs.length → y.h i = x.h i
  n : x.hs.length ≤ y.hs.length
  f : y.formed = true
theorem check_stays {keys : List ByteArray} (hf : x.formed = true) (hk : okKeys keys = true) (m : More x y) :
    if 0 ≤ (check keys x).2.1 then check keys y = check keys x else (check keys y).2.2 = 0 ∧ (check keys y).1 ≤ (x.h (x.hs.length - 1)).l ∧ ((check keys y).2.1 < 0 ∨ (x.hs.length : Int) ≤ (check keys y).2.1) := by
  have h1 := (formed_len hf).1
  rw [check_yes hf hk, check_yes m.f hk]
  have hs : ∀ i, i < x.hs.length → shown keys y i = shown keys x i := fun i hi => shown_agree m.d m.h hi
  cases h2 : firstI (shown keys x) x.hs.length with
  | some i =>
    obtain ⟨g1, g2, g3⟩ := firstI_some.1 h2
    have : firstI (shown keys y) y.hs.length = some i := firstI_some.2 ⟨by have := m.n; omega, by rw [hs i g1, g2], fun j hj => by rw [hs j (by omega), g3 j hj]⟩
    rw [this, if_pos (by simp [fIdx])]
    simp only [fh]; rw [m.h i g1]
  | none =>
    have g := firstI_none.1 h2
    rw [if_neg (by simp [fIdx])]
    cases h3 : firstI (shown keys y) y.hs.length with
    | none => exact ⟨rfl, (formed_l hf (by omega)).1, .inl (by simp [fIdx])⟩
    | some j =>
      obtain ⟨k1, k2, k3⟩ := firstI_some.1 h3
      have hj : x.hs.length ≤ j := by
        rcases Nat.lt_or_ge j x.hs.length with h9 | h9
        · rw [hs j h9, g j h9] at k2; cases k2
        · exact h9
      refine ⟨rfl, ?_, .inr (by simp only [fIdx]; omega)⟩
      have h5 := levels' m.f (i := x.hs.length - 1) (j := j) (by omega) k1
      rw [m.h (x.hs.length - 1) (by omega)] at h5
      exact h5
theorem More.refl (hf : x.formed = true) : More x x := ⟨rfl, fun _ _ => rfl, Nat.le_refl _, hf⟩
theorem More.add (m : More x y) {h : Hand} (hl : y.hs.length ≤ 7) (h1 : (0 ≤ h.c ∧ h.c ≤ 7) ∧ (0 ≤ h.l ∧ h.l ≤ 3) ∧ h.s.size = 32 ∧ (¬ h.c = (y.h (y.hs.length - 1)).c ∧ h.l ≤ (y.h (y.hs.length - 1)).l)) : More x (y.add h) :=
  ⟨m.d, fun i hi => by rw [h_add_lt (by have := m.n; omega), m.h i hi], by rw [add_len]; have := m.n; omega, formed_more m.f hl h1⟩
end
/-! contents and seals, one to one -/
theorem vb_inj : ∀ (f z z' : Nat) (r r' : List UInt8), z < 128 ^ f → z' < 128 ^ f → vb f z ++ r = vb f z' ++ r' → z = z' ∧ r = r'
  | 0, z, z', r, r', h, h', e => ⟨by simp at h h'; omega, by simpa [vb] using e⟩
  | f + 1, z, z', r, r', h, h', e => by
    have ho : ∀ a b : Nat, a < 256 → b < 256 → UInt8.ofNat a = UInt8.ofNat b → a = b := fun a b ha hb hab => by
      have := congrArg UInt8.toNat hab
      rw [UInt8.toNat_ofNat', UInt8.toNat_ofNat'] at this
      simp only [Nat.reducePow] at this
      omega
    unfold vb at e
    by_cases h1 : z < 128 <;> by_cases h2 : z' < 128
    · rw [if_pos h1, if_pos h2] at e
      simp only [List.cons_append, List.nil_append, List.cons.injEq] at e
      exact ⟨ho _ _ (by omega) (by omega) e.1, e.2⟩
    · rw [if_pos h1, if_neg h2] at e
      simp only [List.cons_append, List.nil_append, List.cons.injEq] at e
      have := ho _ _ (by omega) (by omega) e.1
      omega
    · rw [if_neg h1, if_pos h2] at e
      simp only [List.cons_append, List.nil_append, List.cons.injEq] at e
      have := ho _ _ (by omega) (by omega) e.1
      omega
    · rw [if_neg h1, if_neg h2] at e
      simp only [List.cons_append, List.cons.injEq] at e
      have g1 := ho _ _ (by omega) (by omega) e.1
      have g2 := vb_inj f (z / 128) (z' / 128) r r' (by rw [Nat.pow_succ] at h; omega) (by rw [Nat.pow_succ] at h'; omega) e.2
      exact ⟨by omega, g2.2⟩
def Sm (n : Int) : Prop := 0 ≤ n ∧ n ≤ 99999999
theorem putX_list {n : Int} (h : Sm n) : (putX n).data.toList = vb 10 (zz n) := by
  obtain ⟨h1, h2⟩ := h
  unfold putX; rw [if_pos (okI_iff.2 ⟨by omega, by omega⟩)]; rfl
theorem zz_small {n : Int} (h : Sm n) : zz n < 128 ^ 10 ∧ zz n = n.toNat * 2 := by
  obtain ⟨h1, h2⟩ := h
  unfold zz; rw [if_neg (by omega)]; exact ⟨by simp only [Nat.reducePow]; omega, rfl⟩
theorem numB_inj : ∀ (l l' : List Int) (r r' : List UInt8), l.length = l'.length → (∀ z ∈ l, Sm z) → (∀ z ∈ l', Sm z) → numB l ++ r = numB l' ++ r' → l = l' ∧ r = r'
  | [], [], r, r', _, _, _, e => ⟨rfl, by simpa [numB] using e⟩
  | [], _ :: _, _, _, h, _, _, _ => by cases h
  | _ :: _, [], _, _, h, _, _, _ => by cases h
  | a :: l, b :: l', r, r', h, h1, h2, e => by
    have ha := h1 a (by simp)
    have hb := h2 b (by simp)
    have e1 : vb 10 (zz a) ++ (numB l ++ r) = vb 10 (zz b) ++ (numB l' ++ r') := by
      rw [← putX_list ha, ← putX_list hb]
      simpa [numB] using e
    have za := zz_small ha
    have zb := zz_small hb
    obtain ⟨e2, e3⟩ := vb_inj 10 _ _ _ _ za.1 zb.1 e1
    obtain ⟨e4, e5⟩ := numB_inj l l' r r' (by simpa using h) (fun z hz => h1 z (by simp [hz])) (fun z hz => h2 z (by simp [hz])) e3
    rw [za.2, zb.2] at e2
    obtain ⟨a0, _⟩ := ha
    obtain ⟨b0, _⟩ := hb
    refine ⟨?_, e5⟩
    rw [e4, show a = b by omega]
theorem nums_small {x : Att} (hf : x.formed = true) {i : Nat} (hi : i < x.hs.length) : ∀ z ∈ x.nums i, Sm z := by
  have h1 := (formed_iff.1 hf).1
  simp only [okD, Bool.and_eq_true, inB_iff] at h1
  obtain ⟨⟨⟨a, b⟩, c⟩, d⟩ := h1
  have h2 := formed_c hf hi
  have h3 := formed_l hf hi
  have h4 := formed_len hf
  intro z hz
  simp only [Att.nums, List.mem_cons, List.not_mem_nil, or_false] at hz
  unfold Sm
  rcases hz with rfl | rfl | rfl | rfl | rfl | rfl | rfl | rfl <;> omega
theorem content_inj {x y : Att} (hx : x.formed = true) (hy : y.formed = true) {i j : Nat} (hi : i < x.hs.length) (hj : j < y.hs.length) (h : content x i = content y j) :
    x.d = y.d ∧ i = j ∧ (x.h i).c = (y.h j).c ∧ (x.h i).l = (y.h j).l ∧ before x i = before y j := by
  have e : contentB x i = contentB y j := by
    have e1 := congrArg (fun s : ByteArray => s.data.toList) h
    simpa [content] using e1
  obtain ⟨e1, e2⟩ := numB_inj _ _ _ _ (show (x.nums i).length = (y.nums j).length from rfl) (nums_small hx hi) (nums_small hy hj) e
  simp only [Att.nums, List.cons.injEq, true_and, and_true] at e1
  obtain ⟨g1, g2, g3, g4, g5, g6, g7⟩ := e1
  refine ⟨?_, by omega, g6, g7, ByteArray.ext (Array.ext' e2)⟩
  cases hxd : x.d; cases hyd : y.d
  simp only [hxd, hyd] at g1 g2 g3 g4
  subst g1; subst g2; subst g3; subst g4; rfl
/-- the strings whose digests are computed for the seals of the first hands -/
def hashA (keys : List ByteArray) (x : Att) : Nat → List ByteArray
  | 0 => []
  | i + 1 => hashA keys x i ++ [⟨#[0]⟩ ++ content x i, ⟨#[1]⟩ ++ keyAt keys x i ++ leaf (content x i)]
theorem hashA_len (keys : List ByteArray) (x : Att) : ∀ n, (hashA keys x n).length = 2 * n
  | 0 => rfl
  | n + 1 => by unfold hashA; rw [List.length_append, hashA_len keys x n]; simp; omega
theorem hashA_last {keys : List ByteArray} {x : Att} {n : Nat} : (hashA keys x (n + 1)).getD (2 * n) ⟨#[]⟩ = ⟨#[0]⟩ ++ content x n ∧ (hashA keys x (n + 1)).getD (2 * n + 1) ⟨#[]⟩ = ⟨#[1]⟩ ++ keyAt keys x n ++ leaf (content x n) := by
  have h := hashA_len keys x n
  unfold hashA
  rw [List.getD_eq_getElem?_getD, List.getD_eq_getElem?_getD, List.getElem?_append_right (by omega), List.getElem?_append_right (by omega), h]
  rw [show 2 * n - 2 * n = 0 by omega, show 2 * n + 1 - 2 * n = 1 by omega]
  exact ⟨rfl, rfl⟩
theorem toList_append (a b : ByteArray) : (a ++ b).data.toList = a.data.toList ++ b.data.toList := by simp
theorem append_inj {a b c d : ByteArray} (hs : a.size = c.size) (h : a ++ b = c ++ d) : a = c ∧ b = d := by
  have e : (a ++ b).data.toList = (c ++ d).data.toList := by rw [h]
  rw [toList_append, toList_append] at e
  obtain ⟨e1, e2⟩ := List.append_inj e (by rw [Array.length_toList, Array.length_toList]; exact hs)
  exact ⟨ByteArray.ext (Array.ext' e1), ByteArray.ext (Array.ext' e2)⟩
theorem coll_of {a b : List ByteArray} {i j : Nat} (hi : i < a.length) (hj : j < b.length) (hne : a.getD i ⟨#[]⟩ ≠ b.getD j ⟨#[]⟩) (he : sha (a.getD i ⟨#[]⟩) = sha (b.getD j ⟨#[]⟩)) : collF a b = true :=
  collF_yes hi hj (by simp only [coll1, Bool.and_eq_true, Bool.not_eq_true', decide_eq_false_iff_not, decide_eq_true_eq]; exact ⟨hne, he⟩)
/-- the same seal: the same content, or two strings with the same digest -/
theorem seal_same {keys : List ByteArray} {x y : Att} {i j : Nat} (hk : (keyAt keys x i).size = (keyAt keys y j).size) (h : sealOf (keyAt keys x i) (content x i) = sealOf (keyAt keys y j) (content y j)) (hc : collF (hashA keys x (i + 1)) (hashA keys y (j + 1)) = false) : content x i = content y j := by
  have lx := hashA_len keys x (i + 1)
  have ly := hashA_len keys y (j + 1)
  by_cases h1 : (⟨#[1]⟩ ++ keyAt keys x i ++ leaf (content x i) : ByteArray) = ⟨#[1]⟩ ++ keyAt keys y j ++ leaf (content y j)
  · obtain ⟨_, h3⟩ := append_inj (by rw [ByteArray.size_append, ByteArray.size_append, hk]) h1
    by_cases h4 : content x i = content y j
    · exact h4
    · refine absurd (coll_of (a := hashA keys x (i + 1)) (b := hashA keys y (j + 1)) (i := 2 * i) (j := 2 * j) (by omega) (by omega) ?_ ?_) (by rw [hc]; decide)
      · rw [(hashA_last (keys := keys) (x := x)).1, (hashA_last (keys := keys) (x := y)).1]
        exact fun h5 => h4 (append_inj rfl h5).2
      · rw [(hashA_last (keys := keys) (x := x)).1, (hashA_last (keys := keys) (x := y)).1]
        exact h3
  · refine absurd (coll_of (a := hashA keys x (i + 1)) (b := hashA keys y (j + 1)) (i := 2 * i + 1) (j := 2 * j + 1) (by omega) (by omega) ?_ ?_) (by rw [hc]; decide)
    · rw [(hashA_last (keys := keys) (x := x)).2, (hashA_last (keys := keys) (x := y)).2]; exact h1
    · rw [(hashA_last (keys := keys) (x := x)).2, (hashA_last (keys := keys) (x := y)).2]; exact h
theorem shown_seal {x : Att} {i : Nat} (hc : 0 ≤ (x.h i).c ∧ (x.h i).c ≤ 7) (h : shown allK x i = true) : (x.h i).s = sealOf (keyAt allK x i) (content x i) := by
  rw [keyAt_all hc]
  rw [shown_all hc] at h
  simpa [right] using h
theorem keyAt_size {x : Att} {i : Nat} (hc : 0 ≤ (x.h i).c ∧ (x.h i).c ≤ 7) : (keyAt allK x i).size = 32 := by rw [keyAt_all hc, keyC_size]
theorem hand_ext {h k : Hand} (h1 : h.c = k.c) (h2 : h.l = k.l) (h3 : h.s = k.s) : h = k := by
  cases h; cases k; simp only at h1 h2 h3; subst h1; subst h2; subst h3; rfl
/-- a seal belongs to one call and one hand -/
theorem binds {x y : Att} {i j : Nat} (hx : x.formed = true) (hy : y.formed = true) (hi : i < x.hs.length) (hj : j < y.hs.length) (h1 : shown allK x i = true) (h2 : shown allK y j = true) (hs : (x.h i).s = (y.h j).s)
    (hc : collF (hashA allK x (i + 1)) (hashA allK y (j + 1)) = false) : x.d = y.d ∧ i = j ∧ x.h i = y.h j ∧ (i = 0 ∨ (x.h (i - 1)).s = (y.h (j - 1)).s) := by
  have cx := formed_c hx hi
  have cy := formed_c hy hj
  have e := seal_same (keys := allK) (by rw [keyAt_size cx, keyAt_size cy]) (by rw [← shown_seal cx h1, ← shown_seal cy h2, hs]) hc
  obtain ⟨g1, g2, g3, g4, g5⟩ := content_inj hx hy hi hj e
  refine ⟨g1, g2, hand_ext g3 g4 hs, ?_⟩
  subst g2
  by_cases h0 : i = 0
  · exact .inl h0
  · unfold before at g5
    rw [if_neg h0, if_neg h0] at g5
    exact .inr g5
/-! a changed attestation -/
def Hand.wc (h : Hand) (n : Int) : Hand := ⟨n, h.l, h.s⟩
def Hand.wl (h : Hand) (n : Int) : Hand := ⟨h.c, n, h.s⟩
def Hand.ws (h : Hand) (s : ByteArray) : Hand := ⟨h.c, h.l, s⟩
def bentK (x : Att) (how n : Int) (k : Nat) : Att :=
  if how = 0 then ⟨⟨n, x.d.b, x.d.t, x.d.n⟩, x.hs⟩ else if how = 1 then ⟨⟨x.d.a, n, x.d.t, x.d.n⟩, x.hs⟩ else if how = 2 then ⟨⟨x.d.a, x.d.b, n, x.d.n⟩, x.hs⟩ else if how = 3 then ⟨⟨x.d.a, x.d.b, x.d.t, n⟩, x.hs⟩
  else if how = 4 then ⟨x.d, x.hs.set k ((x.h k).wc n)⟩ else if how = 5 then ⟨x.d, x.hs.set k ((x.h k).wl n)⟩ else if how = 6 then ⟨x.d, x.hs.set k ((x.h k).ws (keyC (pickI n 8).toNat))⟩
  else if how = 7 then ⟨x.d, x.hs.take k ++ x.hs.drop (k + 1)⟩ else ⟨x.d, x.hs ++ [x.h k]⟩
def bent (x : Att) (how n at_ : Int) : Att := bentK x (pickI how 9) n (pickI at_ x.hs.length).toNat
theorem bent_len (x : Att) (how n at_ : Int) : (bent x how n at_).hs.length ≤ x.hs.length + 1 := by
  unfold bent bentK
  repeat' split
  all_goals simp
  all_goals omega
/-! a level changed, and sealed rightly; a seal changed -/
section
variable {x : Att} {k : Nat}
@[reducible] def Att.put (x : Att) (k : Nat) (h : Hand) : Att := ⟨x.d, x.hs.set k h⟩
theorem put_len {h : Hand} : (x.put k h).hs.length = x.hs.length := by simp
theorem put_eq {h : Hand} (hk : k < x.hs.length) : (x.put k h).h k = h := by simp [Att.h, hk]
theorem put_ne {h : Hand} {i : Nat} (hi : i ≠ k) : (x.put k h).h i = x.h i := by
  simp [Att.h, List.getElem?_set_ne (Ne.symm hi)]
theorem put_lt {h : Hand} : ∀ i, i < k → (x.put k h).h i = x.h i := fun i hi => put_ne (by omega)
theorem put_content {h g : Hand} (hk : k < x.hs.length) (hc : h.c = g.c) (hl : h.l = g.l) : content (x.put k h) k = content (x.put k g) k := by
  unfold content contentB Att.nums
  rw [before_agree (y := x.put k g) (m := k) (fun i hi => by rw [put_lt i hi, put_lt i hi]) (Nat.le_refl _), put_eq hk, put_eq hk, hc, hl]
theorem put_self (hk : k < x.hs.length) : x.put k (x.h k) = x := by
  unfold Att.put
  rw [x.h_get hk, List.set_getElem_self]
theorem put_formed (hf : x.formed = true) (hk : k < x.hs.length) {h : Hand} (hc : h.c = (x.h k).c) (hs : h.s.size = 32) (h1 : 0 ≤ h.l ∧ h.l ≤ 3) (h2 : 0 < k → h.l ≤ (x.h (k - 1)).l) (h3 : k + 1 < x.hs.length → (x.h (k + 1)).l ≤ h.l) : (x.put k h).formed = true := by
  obtain ⟨g1, g2, g3⟩ := formed_iff.1 hf
  refine formed_iff.2 ⟨g1, by rw [put_len]; exact g2, fun i hi => ?_⟩
  rw [put_len] at hi
  have g4 := okH_iff.1 (g3 i hi)
  rw [okH_iff]
  by_cases hik : i = k
  · subst hik
    rw [put_eq hi, hc]
    refine ⟨g4.1, h1, hs, ?_⟩
    by_cases h0 : i = 0
    · exact .inl h0
    · rw [put_ne (by omega)]
      exact .inr ⟨(g4.2.2.2.resolve_left h0).1, h2 (by omega)⟩
  · rw [put_ne hik]
    refine ⟨g4.1, g4.2.1, g4.2.2.1, ?_⟩
    by_cases h0 : i = 0
    · exact .inl h0
    · by_cases h5 : i - 1 = k
      · rw [h5, put_eq hk, hc]
        have h6 := g4.2.2.2.resolve_left h0
        rw [h5] at h6
        refine .inr ⟨h6.1, ?_⟩
        have h7 := h3 (by omega)
        rwa [show k + 1 = i by omega] at h7
      · rw [put_ne h5]; exact g4.2.2.2
/-- the seal that is right -/
def sealed (x : Att) (k : Nat) (l : Int) : Att := x.put k ⟨(x.h k).c, l, sealOf (keyC (x.h k).c.toNat) (content (x.put k ((x.h k).wl l)) k)⟩
theorem sealed_right (hk : k < x.hs.length) {l : Int} : right (keyC ((sealed x k l).h k).c.toNat) (sealed x k l) k = true := by
  unfold right sealed
  rw [put_eq hk]
  exact decide_eq_true (congrArg (sealOf _) (put_content hk rfl rfl))
/-- whoever says another level than it can is blamed -/
theorem blame_sealed {knows : List Int} (hc : Chain knows x) (hkn : okKnows knows = true) (hk : k < x.hs.length) {l : Int} (h1 : 0 ≤ l ∧ l ≤ 3) (h2 : 0 < k → l ≤ (x.h (k - 1)).l) (h3 : k + 1 < x.hs.length → (x.h (k + 1)).l ≤ l) :
    (blame allK knows (sealed x k l)).2 = 0 ∧ (0 < k → l ≠ (x.h k).l → (blame allK knows (sealed x k l)).1 = k) ∧ (0 ≤ (blame allK knows (sealed x k l)).1 → (k : Int) ≤ (blame allK knows (sealed x k l)).1) := by
  have hf : (sealed x k l).formed = true := put_formed hc.f hk rfl (sealOf_size _ _) h1 h2 h3
  have hlen : (sealed x k l).hs.length = x.hs.length := put_len
  have hb : ∀ i, i < k → bad allK knows (sealed x k l) i = false := fun i hi => by
    have : bad allK knows (sealed x k l) i = bad allK knows x i := bad_agree (x := sealed x k l) (y := x) rfl put_lt hi
    rw [this]; exact hc.bad (by omega)
  rw [blame_yes hf full_all hkn, hlen]
  refine ⟨rfl, fun h0 hl => ?_, fun h0 => ?_⟩
  · have hbk : bad allK knows (sealed x k l) k = true := by
      have hck : 0 ≤ ((sealed x k l).h k).c ∧ ((sealed x k l).h k).c ≤ 7 := formed_c hf (by rw [hlen]; exact hk)
      rw [bad_pos (by rw [keyAt_all hck]; exact sealed_right hk) h0, Bool.not_eq_true', decide_eq_false_iff_not]
      have hm : most knows (sealed x k l) k = most knows x k := by
        unfold most can sealed
        rw [put_eq hk, put_ne (by omega)]
      rw [hm, ← hc.l k h0 hk]
      unfold sealed
      rw [put_eq hk]
      exact hl
    rw [firstI_some.2 ⟨hk, hbk, hb⟩]; rfl
  · cases hx : firstI (bad allK knows (sealed x k l)) x.hs.length with
    | none => rw [hx] at h0; simp [fIdx] at h0
    | some i =>
      obtain ⟨g1, g2, g3⟩ := firstI_some.1 hx
      simp only [fIdx]
      rcases Nat.lt_or_ge i k with h9 | h9
      · rw [hb i h9] at g2; cases g2
      · omega
/-- a wrong seal is blamed -/
theorem blame_wrong {knows : List Int} (hc : Chain knows x) (hkn : okKnows knows = true) (hk : k < x.hs.length) {s : ByteArray} (hs : s.size = 32) (hne : s ≠ (x.h k).s) : blame allK knows (x.put k ((x.h k).ws s)) = ((k : Int), (0 : Int)) := by
  have g := formed_h hc.f hk
  have hf : (x.put k ((x.h k).ws s)).formed = true := put_formed hc.f hk rfl hs g.2.1 (fun h0 => (g.2.2.2.resolve_left (by omega)).2) (fun h0 => by
    have := (formed_h hc.f h0).2.2.2.resolve_left (by omega)
    rw [Nat.add_sub_cancel] at this; exact this.2)
  have hck : 0 ≤ ((x.put k ((x.h k).ws s)).h k).c ∧ ((x.put k ((x.h k).ws s)).h k).c ≤ 7 := formed_c hf (by rw [put_len]; exact hk)
  rw [blame_yes hf full_all hkn, put_len, firstI_some.2 ⟨hk, bad_yes ?_, fun i hi => by rw [bad_agree (x := x.put k ((x.h k).ws s)) (y := x) rfl put_lt hi]; exact hc.bad (by omega)⟩]
  · rfl
  · rw [keyAt_all hck, put_eq hk]
    intro he
    apply hne
    have h9 : content (x.put k ((x.h k).ws s)) k = content (x.put k (x.h k)) k := put_content hk rfl rfl
    rw [h9, put_self hk] at he
    have h8 := hc.r k hk
    simp only [right, decide_eq_true_eq] at h8
    exact he.trans h8.symm
theorem blame_zero {knows : List Int} (hc : Chain knows x) (hkn : okKnows knows = true) (hk : k < x.hs.length) {s : ByteArray} (hs : s.size = 32) : (blame allK knows (x.put k ((x.h k).ws s))).2 = 0 := by
  by_cases h : s = (x.h k).s
  · have h9 : x.put k ((x.h k).ws s) = x := by
      have : (x.h k).ws s = x.h k := hand_ext rfl rfl h
      rw [this, put_self hk]
    rw [h9, hc.blame hkn]
  · rw [blame_wrong hc hkn hk hs h]
end
/-! the chapter's examples -/
abbrev exD : Dial := ⟨5, 6, 10, 7⟩
abbrev ex1 : Att := grown (keyC 1) ⟨exD, []⟩ 1 3
abbrev ex2 : Att := grown (keyC 2) ex1 2 3
abbrev ex3 : Att := grown (keyC 3) ex2 3 1
abbrev exK : List Int := [0, 0, 2, 0, 0, 0, 0, 0]
theorem ex1_ok : beginA (keyC 1) exD 1 3 = some ex1 ∧ Chain exK ex1 := begin_chain (c := 1) (l := 3) (by decide) (by decide) (by decide)
theorem ex1_h : ex1.h 0 = ⟨1, 3, sealOf (keyC 1) (content (Att.add ⟨exD, []⟩ (newH 1 3)) 0)⟩ := rfl
theorem ex2_says : says (known allK 2) ex1 (ex1.hs.length - 1) = 3 := by
  show says (known allK 2) ex1 0 = 3
  unfold says
  rw [ex1_ok.2.shown (Nat.zero_lt_succ 0)]
  rfl
theorem ex2_ok : pass (keyC 2) (known allK 2) ex1 2 = some ex2 ∧ Chain exK ex2 := by
  have h := pass_chain ex1_ok.2 (c := 2) (by decide) (by decide) (by decide) (s := 2) rfl
  rw [ex2_says] at h; exact h
theorem ex3_says : says (known allK 0) ex2 (ex2.hs.length - 1) = 1 := by
  show says (known allK 0) ex2 1 = 1
  unfold says
  rw [ex2_ok.2.shown (Nat.lt_succ_self 1)]
  rfl
theorem ex3_ok : pass (keyC 3) (known allK 0) ex2 3 = some ex3 ∧ Chain exK ex3 := by
  have h := pass_chain ex2_ok.2 (c := 3) (by decide) (by decide) (by decide) (s := 0) rfl
  rw [ex3_says] at h; exact h
theorem ex3_len : ex3.hs.length = 3 := rfl
theorem ex3_c0 : (ex3.h 0).c = 1 ∧ (ex3.h 0).l = 3 := ⟨rfl, rfl⟩
theorem ex3_c1 : (ex3.h 1).c = 2 ∧ (ex3.h 1).l = 3 := ⟨rfl, rfl⟩
theorem ex3_c2 : (ex3.h 2).c = 3 ∧ (ex3.h 2).l = 1 := ⟨rfl, rfl⟩
theorem ex3_shown (s : Nat) : shown (known allK s) ex3 0 = decide (s / 2 % 2 = 1) ∧ shown (known allK s) ex3 1 = decide (s / 4 % 2 = 1) ∧ shown (known allK s) ex3 2 = decide (s / 8 % 2 = 1) :=
  ⟨ex3_ok.2.shown (i := 0) (by decide), ex3_ok.2.shown (i := 1) (by decide), ex3_ok.2.shown (i := 2) (by decide)⟩
theorem ex3_all : check allK ex3 = (3, 0, 0) := by
  rw [check_yes ex3_ok.2.f ok_all, firstI_is 0 ⟨by decide, ex3_ok.2.shown_all (by decide), fun j hj => absurd hj (Nat.not_lt_zero j)⟩]; rfl
theorem ex3_253 : check (known allK 253) ex3 = (3, 1, 0) := by
  obtain ⟨h0, h1, h2⟩ := ex3_shown 253
  rw [check_yes ex3_ok.2.f (ok_known _), firstI_is 1 ⟨by decide, h1.trans rfl, fun j hj => by
    obtain rfl : j = 0 := by omega
    exact h0.trans rfl⟩]; rfl
theorem ex3_8 : check (known allK 8) ex3 = (1, 2, 0) := by
  obtain ⟨h0, h1, h2⟩ := ex3_shown 8
  rw [check_yes ex3_ok.2.f (ok_known _), firstI_is 2 ⟨by decide, h2.trans rfl, fun j hj => by
    rcases (by omega : j = 0 ∨ j = 1) with rfl | rfl
    · exact h0.trans rfl
    · exact h1.trans rfl⟩]; rfl
theorem ex3_0 : check (known allK 0) ex3 = (0, -1, 0) := by
  obtain ⟨h0, h1, h2⟩ := ex3_shown 0
  rw [check_yes ex3_ok.2.f (ok_known _), firstI_none.2 (fun j hj => by
    rcases (by have : ex3.hs.length = 3 := rfl; omega : j = 0 ∨ j = 1 ∨ j = 2) with rfl | rfl | rfl
    · exact h0.trans rfl
    · exact h1.trans rfl
    · exact h2.trans rfl)]; rfl
theorem ex3_blame : blame allK exK ex3 = (-1, 0) := ex3_ok.2.blame (by decide)
theorem ex3_cut : cut ex3 2 = some (ex3.pre 2) := cut_yes ex3_ok.2.f (by decide) (by decide)
theorem ex3_err : pass (keyC 3) allK ex3 3 = none := by
  rw [pass_yes ex3_ok.2.f ok_all]
  refine grow_no2 ?_
  rw [Bool.eq_false_iff]
  generalize says allK ex3 (ex3.hs.length - 1) = L
  intro h
  have h1 := ((formed_iff.1 h).2.2 ex3.hs.length (by rw [add_len]; exact Nat.lt_succ_self _))
  have h2 := (okH_add.1 h1).2.2.2.resolve_left (by rw [ex3_len]; decide)
  rw [ex3_len] at h2
  exact h2.1 ex3_c2.1.symm
def exCt : ByteArray := ⟨#[14, 10, 12, 20, 14, 0, 2, 6]⟩
theorem ex3_ct : content ex3 0 = exCt := by
  have : contentB ex3 0 = [14, 10, 12, 20, 14, 0, 2, 6] := by
    show numB [7, 5, 6, 10, 7, 0, 1, 3] ++ [] = _
    decide +kernel
  unfold content
  rw [this]; rfl
theorem ex3_seal : (ex3.h 0).s = sealOf (keyC 1) exCt := by
  have h := ex3_ok.2.r 0 (by decide)
  rw [right, decide_eq_true_eq, ex3_ct, show (ex3.h 0).c.toNat = 1 by rw [ex3_c0.1]; rfl] at h
  exact h
theorem ex3_sh1 : shownI allK ex3 0 = true := by
  unfold shownI
  rw [ex3_ok.2.f, ok_all, show shown allK ex3 (0 : Int).toNat = true from ex3_ok.2.shown_all (i := 0) (Nat.zero_lt_succ 2), inB_iff.2 (by rw [ex3_len]; decide)]; rfl
theorem ex3_sh2 : shownI (known allK 8) ex3 0 = false := by
  unfold shownI
  rw [show shown (known allK 8) ex3 (0 : Int).toNat = false from (ex3_shown 8).1.trans rfl, Bool.and_false]
theorem none_formed : none0.formed = false := rfl
/-- the third carrier lies -/
@[reducible] def liar0 : Att := ⟨exD, [ex3.h 0, ex3.h 1, ⟨3, 3, mtB⟩]⟩
@[reducible] def liar : Att := ⟨exD, [ex3.h 0, ex3.h 1, ⟨3, 3, sealOf (keyC 3) (content liar0 2)⟩]⟩
theorem liar_agree : ∀ i, i < 2 → liar.h i = ex3.h i := fun i hi => by
  rcases (by omega : i = 0 ∨ i = 1) with rfl | rfl <;> rfl
theorem liar_formed : liar.formed = true := by
  refine formed_iff.2 ⟨by decide, by decide, fun i hi => ?_⟩
  have h3 : liar.hs.length = 3 := rfl
  by_cases h : i < 2
  · rw [okH_agree liar_agree h]
    exact (formed_iff.1 ex3_ok.2.f).2.2 i (by rw [ex3_len]; omega)
  · obtain rfl : i = 2 := by omega
    exact okH_iff.2 ⟨by decide, by decide, sealOf_size _ _, .inr ⟨by decide, by decide⟩⟩
theorem liar_blame : blame allK exK liar = (2, 0) := by
  rw [blame_yes liar_formed full_all (by decide), firstI_is 2 ⟨by decide, ?_, fun j hj => by rw [bad_agree (x := liar) (y := ex3) rfl liar_agree hj]; exact ex3_ok.2.bad (by rw [ex3_len]; omega)⟩]
  · rfl
  · have hk : keyAt allK liar 2 = keyC 3 := keyAt_all (x := liar) (i := 2) (by decide)
    have hr : right (keyAt allK liar 2) liar 2 = true := by
      rw [hk]
      exact decide_eq_true (congrArg (sealOf (keyC 3)) rfl)
    rw [bad_pos hr (by decide)]
    rfl
end Go.At
namespace Go.At
open Go Go.Xe Go.Sh Go.RowKit
def intZ (l : List Int) : List Value := l.map fun n => .int .i64 n
theorem intZ_len (l : List Int) : (intZ l).length = l.length := by simp [intZ]
theorem intZ_append (a b : List Int) : intZ (a ++ b) = intZ a ++ intZ b := by simp [intZ]
theorem intZ_one (l : List Int) : ∀ v ∈ intZ l, v.oneCell' = true := by simp [intZ, Value.oneCell']
theorem flat_intZ (I : Im) : ∀ (l : List Int), Flat I (intZ l) l
  | [] => .nil
  | x :: l => .cons (cs := [.int .i64 x]) rfl (flat_intZ I l)
theorem wrap8 {z : Int} (h : 0 ≤ z ∧ z < 256) : IntKind.u8.wrap z = (((UInt8.ofNat z.toNat).toNat : Nat) : Int) := by
  rw [IntKind.wrap_u8, UInt8.toNat_ofNat_of_lt' (by show _ < 256; omega)]; omega
theorem key_step {v : UInt8} {k : Nat} (h : k < 32) : (fillD (List.replicate k v) 32).toArray.setIfInBounds k (.int .u8 ((v.toNat : Nat) : Int)) = (fillD (List.replicate (k + 1) v) 32).toArray := by
  have h1 := fillD_set (l := List.replicate k v) (n := 32) v (by simpa using h)
  rw [List.length_replicate] at h1
  rw [set_toArray, h1, List.replicate_succ']
theorem key_full {v : UInt8} : fillD (List.replicate 32 v) 32 = byteC (List.replicate 32 v) := fillD_full (by simp)
theorem key_data {n : Int} : (⟨(List.replicate 32 (UInt8.ofNat n.toNat)).toArray⟩ : ByteArray) = keyC n.toNat := rfl
theorem fill_size {v : UInt8} {k : Nat} (h : k ≤ 32) : (fillD (List.replicate k v) 32).toArray.size = 32 := by
  simp [fillD, byteC]; omega
theorem known_take {keys : List ByteArray} {s k : Nat} (h : k < keys.length) : (known keys s).take (k + 1) = (known keys s).take k ++ [if s / 2 ^ k % 2 = 1 then keys[k] else mtB] := by
  have hl : k < (known keys s).length := by rw [known_len]; exact h
  rw [List.take_succ_eq_append_getElem hl]
  have h1 := known_get (s := s) h
  rw [List.getD_eq_getElem?_getD, List.getElem?_eq_getElem hl, Option.getD_some, List.getD_eq_getElem?_getD, List.getElem?_eq_getElem h, Option.getD_some] at h1
  rw [h1]
theorem known_all {keys : List ByteArray} {s : Nat} : (known keys s).take keys.length = known keys s := List.take_of_length_le (by rw [known_len]; exact Nat.le_refl _)
theorem allK_take {k : Nat} (h : k < 8) : allK.take (k + 1) = allK.take k ++ [keyC k] := by
  have hl : k < allK.length := by rw [allK_len]; exact h
  rw [List.take_succ_eq_append_getElem hl]
  have h1 := allK_get h
  rw [List.getD_eq_getElem?_getD, List.getElem?_eq_getElem hl, Option.getD_some] at h1
  rw [h1]
theorem allK_all : allK.take 8 = allK := List.take_of_length_le (by rw [allK_len]; exact Nat.le_refl _)
theorem allK_size : ∀ k ∈ allK, k.size ≤ 1000 := fun k hk => by
  obtain ⟨c, _, rfl⟩ := List.mem_map.1 hk
  rw [keyC_size]; decide
theorem known_size (s : Nat) : ∀ k ∈ known allK s, k.size ≤ 1000 := okKeys_sz (ok_known s)
/-- the integers, as cells -/
@[reducible] def Num.cs (n : Num) (a : Option Addr) (cap : Nat) : List Value :=
  [.int .i64 n.d0, .int .i64 n.d1, .int .i64 n.d2, .int .i64 n.d3, .int .i64 n.lv, .slice a n.cars.length cap, .int .i64 n.k0, .int .i64 n.k1, .int .i64 n.k2, .int .i64 n.k3, .int .i64 n.k4, .int .i64 n.k5, .int .i64 n.k6, .int .i64 n.k7]
theorem Num.kn_at (n : Num) (a : Option Addr) (cap : Nat) {i : Nat} (h : i < 8) : (n.cs a cap)[6 + i]? = some (.int .i64 (n.kn.getD i 0)) := by
  match i, h with
  | 0, _ => rfl
  | 1, _ => rfl
  | 2, _ => rfl
  | 3, _ => rfl
  | 4, _ => rfl
  | 5, _ => rfl
  | 6, _ => rfl
  | 7, _ => rfl
  | k + 8, h => omega
theorem Num.kn_in {n : Num} (h : n.In) {i : Nat} (hi : i < 8) : In64 (n.kn.getD i 0) := by
  have hl : i < n.kn.length := hi
  rw [List.getD_eq_getElem?_getD, List.getElem?_eq_getElem hl]
  exact h.kn _ (List.getElem_mem hl)
theorem Num.knows_len (n : Num) : n.knows.length = 8 := rfl
theorem Num.knows_take (n : Num) {k : Nat} (h : k < 8) : n.knows.take (k + 1) = n.knows.take k ++ [pickI (n.kn.getD k 0) 256] := by
  have hl : k < n.knows.length := h
  have hk : k < n.kn.length := h
  rw [List.take_succ_eq_append_getElem hl]
  congr 2
  simp only [Num.knows, List.getElem_map]
  rw [List.getD_eq_getElem?_getD, List.getElem?_eq_getElem hk]; rfl
/-- what a carrier that keeps the rules says of the hand before -/
theorem says_most {keys : List ByteArray} {knows : List Int} {x : Att} {i s : Nat} (hf : x.formed = true) (hk : fullKeys keys = true) (h0 : 0 < i) (hi : i < x.hs.length) (hb : bad keys knows x (i - 1) = false) (hs : s = (knows.getD (x.h i).c.toNat 0).toNat) :
    says (known keys s) (x.pre i) (i - 1) = most knows x i := by
  have hlt : i - 1 < i := by omega
  have hc := formed_c hf (i := i - 1) (by omega)
  obtain ⟨k8, ks⟩ := fullKeys_iff.1 hk
  have hc8 : (x.h (i - 1)).c.toNat < keys.length := by omega
  have hkey : keyAt keys x (i - 1) = keys[(x.h (i - 1)).c.toNat] := by simp [keyAt, hc8]
  have hne : ¬ keyAt keys x (i - 1) = mtB := fun h => by
    have h1 := ks _ hc8
    rw [← hkey, h] at h1; cases h1
  have hr : right (keyAt keys x (i - 1)) x (i - 1) = true := by
    unfold bad at hb
    simp only [Bool.or_eq_false_iff, Bool.not_eq_false'] at hb
    exact hb.1
  have hka : keyAt (known keys s) x (i - 1) = if s / 2 ^ (x.h (i - 1)).c.toNat % 2 = 1 then keyAt keys x (i - 1) else mtB := known_get hc8
  have hsh : shown (known keys s) (x.pre i) (i - 1) = decide (s / 2 ^ (x.h (i - 1)).c.toNat % 2 = 1) := by
    rw [shown_agree (x := x.pre i) (y := x) rfl pre_agree hlt]
    unfold shown
    rw [hka]
    by_cases h : s / 2 ^ (x.h (i - 1)).c.toNat % 2 = 1
    · rw [if_pos h, decide_eq_false hne, hr, decide_eq_true h]; rfl
    · rw [if_neg h, decide_eq_false h]; simp
  unfold says most can
  rw [hsh, pre_agree (i - 1) hlt, hs]
theorem bad_step {keys : List ByteArray} {knows : List Int} {x : Att} {i : Nat} (hr : right (keyAt keys x i) x i = true) (h : i = 0 ∨ (x.h i).l = most knows x i) : bad keys knows x i = false := by
  rcases h with rfl | h
  · exact bad_zero hr rfl
  · by_cases h0 : i = 0
    · exact bad_zero hr h0
    · rw [bad_pos hr (by omega), h]; simp
theorem hashA_cells (keys : List ByteArray) (x : Att) (i : Nat) : hashA keys x (i + 1) = hashA keys x i ++ [⟨#[0]⟩ ++ content x i, ⟨#[1]⟩ ++ keyAt keys x i ++ leaf (content x i)] := rfl
theorem hand_ext_iff {h k : Hand} : h = k ↔ h.c = k.c ∧ h.l = k.l ∧ h.s = k.s := ⟨fun e => by subst e; exact ⟨rfl, rfl, rfl⟩, fun ⟨a, b, c⟩ => hand_ext a b c⟩
theorem dial_ext_iff {d e : Dial} : d = e ↔ d.a = e.a ∧ d.b = e.b ∧ d.t = e.t ∧ d.n = e.n := by
  constructor
  · rintro rfl; exact ⟨rfl, rfl, rfl, rfl⟩
  · obtain ⟨a, b, c, f⟩ := d; obtain ⟨a', b', c', f'⟩ := e
    rintro ⟨rfl, rfl, rfl, rfl⟩; rfl
theorem att_ext {x y : Att} (hd : x.d = y.d) (hl : x.hs.length = y.hs.length) (hh : ∀ i, i < x.hs.length → x.h i = y.h i) : x = y := by
  obtain ⟨d, hs⟩ := x
  obtain ⟨e, gs⟩ := y
  simp only at hd hl hh
  subst hd
  have : hs = gs := List.ext_getElem hl fun i h1 h2 => by
    have := hh i h1
    rw [Att.h_get _ h1, Att.h_get _ h2] at this
    exact this
  rw [this]
theorem pre_le {x : Att} {m : Nat} : (x.pre m).hs.length ≤ x.hs.length := by simp; omega
end Go.At
namespace Go.At
open Go Go.Xe Go.Sh Go.RowKit
theorem getD64 {l : List Int} {i : Nat} (h : ∀ z ∈ l, In64 z) : In64 (l.getD i 0) := by
  rw [List.getD_eq_getElem?_getD]
  cases hi : l[i]? with
  | none => exact ⟨by decide, by decide⟩
  | some z => exact h z (List.mem_of_getElem? hi)
theorem num_dial {n : Num} {a : Option Addr} {cap j : Nat} {v : Value} (h : [Value.int .i64 n.d0, .int .i64 n.d1, .int .i64 n.d2, .int .i64 n.d3][j]? = some v) : (n.cs a cap)[0 + j]? = some v := by
  rw [Nat.zero_add]
  match j, h with
  | 0, h => simpa using h
  | 1, h => simpa using h
  | 2, h => simpa using h
  | 3, h => simpa using h
  | j + 4, h => simp at h
theorem num_set (n : Num) {c : Int} (hc : 0 ≤ c ∧ c ≤ 7) : ((n.set c : Nat) : Int) = n.knows[c.toNat]'(by rw [n.knows_len]; omega) := by
  have hl : c.toNat < n.knows.length := by rw [n.knows_len]; omega
  have h1 := n.knows_in _ (List.getElem_mem hl)
  unfold Num.set
  rw [List.getD_eq_getElem?_getD, List.getElem?_eq_getElem hl, Option.getD_some]
  omega
theorem set_le (n : Num) (c : Int) : n.set c ≤ 255 := by
  unfold Num.set
  rw [List.getD_eq_getElem?_getD]
  cases hi : n.knows[c.toNat]? with
  | none => decide
  | some z => have := n.knows_in z (List.mem_of_getElem? hi); simp only [Option.getD_some]; omega
end Go.At
namespace Go.At
open Go Go.Xe Go.Sh Go.RowKit
theorem hands_vec (b : Nat) (hs : List Hand) : (⟨some (b, (handC hs).toArray), hs.length, hs.length⟩ : Vec).Is 3 (handC hs) :=
  ⟨handC_len hs, Nat.le_refl _, (fun h => by cases h), fun b' c h => by
    cases h
    refine ⟨by simp [handC_len], ?_⟩
    rw [List.toList_toArray, ← handC_len, List.take_length]⟩
theorem ex3_sz : ∀ i, i < ex3.hs.length → (ex3.h i).s.size ≤ 40 := formed_sz ex3_ok.2.f
theorem liar0_sz : ∀ i, i < liar0.hs.length → (liar0.h i).s.size ≤ 40 := fun i hi => by
  have h3 : liar0.hs.length = 3 := rfl
  rcases (by omega : i = 0 ∨ i = 1 ∨ i = 2) with rfl | rfl | rfl
  · exact ex3_sz 0 (by rw [ex3_len]; decide)
  · exact ex3_sz 1 (by rw [ex3_len]; decide)
  · show mtB.size ≤ 40; decide
theorem liar0_ct : (content liar0 2).size ≤ 10000 := by
  have h1 := content_size liar0 2
  have h2 := before_size liar0_sz (j := 2) (by show 2 < 3; decide)
  omega
end Go.At
namespace Go.Xe
open Go Go.RowKit
section
variable {P : Program} {dst : Option Tmp} {ty : TypeId} {pos : String} {after : Array Edge} {guard : Option (Nat × Bool)} {E : Env} {I : Im} {L : Own} {x y : Operand}
theorem Reads.cmp_yes {op : BinOp} {xt yt : TypeId} {k : IntKind} {m n : Int} (hop : isCmp op = true) (hx : ev E x = some (.int k m)) (hy : ev E y = some (.int k n)) (hc : cmpInt op m n = true) :
    Reads P { dst, op := .binOp op xt x y yt, type := ty, pos, after, guard } E I L (.bool true) := by have := Reads.cmp (P := P) (dst := dst) (ty := ty) (pos := pos) (after := after) (guard := guard) (I := I) (L := L) (xt := xt) (yt := yt) hop hx hy; rw [hc] at this; exact this
theorem Reads.cmp_no {op : BinOp} {xt yt : TypeId} {k : IntKind} {m n : Int} (hop : isCmp op = true) (hx : ev E x = some (.int k m)) (hy : ev E y = some (.int k n)) (hc : cmpInt op m n = false) :
    Reads P { dst, op := .binOp op xt x y yt, type := ty, pos, after, guard } E I L (.bool false) := by have := Reads.cmp (P := P) (dst := dst) (ty := ty) (pos := pos) (after := after) (guard := guard) (I := I) (L := L) (xt := xt) (yt := yt) hop hx hy; rw [hc] at this; exact this
end
theorem Reads.to {P : Program} {o : Oper} {E : Env} {I : Im} {L : Own} {v v' : Value} (h : Reads P o E I L v) (e : v = v') : Reads P o E I L v' := e ▸ h
section
variable {P : Program} {dst : Option Tmp} {ty : TypeId} {pos : String} {after : Array Edge} {guard : Option (Nat × Bool)} {E : Env} {I : Im} {L : Own} {x y : Operand}
theorem Reads.seq_yes {xt yt : TypeId} {a b : ByteArray} (hx : ev E x = some (.string a)) (hy : ev E y = some (.string b)) (h : a = b) : Reads P { dst, op := .binOp .eql xt x y yt, type := ty, pos, after, guard } E I L (.bool true) :=
  (Reads.seq hx hy).to (congrArg Value.bool (decide_eq_true h))
end
end Go.Xe
namespace Go.At
open Go Go.Xe Go.Sh Go.RowKit
theorem handC_setg : ∀ (hs : List Hand) {j i : Nat} {v : Value} {h' : Hand} (hj : j < hs.length) (_hi : i < 3) (_hc : h'.cs = hs[j].cs.set i v), (handC hs).set (j * 3 + i) v = handC (hs.set j h')
  | [], j, _, _, _, hj, _, _ => by simp at hj
  | x :: hs, 0, i, v, h', _, hi, hc => by
    simp only [handC, List.flatMap_cons, List.set_cons_zero, Nat.zero_mul, Nat.zero_add]
    rw [List.set_append_left _ _ (by simp; omega)]
    simp only [List.getElem_cons_zero] at hc
    rw [hc]
  | x :: hs, j + 1, i, v, h', hj, hi, hc => by
    have ih := handC_setg hs (j := j) (h' := h') (by simpa using hj) hi (by simpa using hc)
    simp only [handC, List.flatMap_cons, List.set_cons_succ] at ih ⊢
    rw [List.set_append_right _ _ (by simp; omega), ← ih]
    congr 2
    simp; omega
end Go.At
namespace Go.At
open Go Go.Xe Go.Sh Go.RowKit
theorem pick_nat (c : Int) {n : Int} (hn : 0 < n) : ∃ k : Nat, pickI c n = (k : Int) ∧ (k : Int) < n := by
  have h := pickI_range (c := c) hn
  exact ⟨(pickI c n).toNat, by omega, by omega⟩
theorem bent_len' {x : Att} {how n at_ : Int} (h : x.hs.length ≤ 6) : (bent x how n at_).hs.length ≤ 7 := by
  have := bent_len x how n at_; omega
end Go.At
namespace Go.At
open Go Go.Xe Go.Sh Go.RowKit
theorem check_ok {keys : List ByteArray} {x : Att} (_hk : okKeys keys = true) (h : (check keys x).2.2 = 0) : x.formed = true := by
  cases hf : x.formed with
  | true => rfl
  | false => rw [check_no hf] at h; cases h
theorem check_bad {keys : List ByteArray} {x : Att} (hk : okKeys keys = true) (h : ¬ (check keys x).2.2 = 0) : x.formed = false := by
  cases hf : x.formed with
  | true => rw [check_yes hf hk] at h; exact absurd rfl h
  | false => rfl
end Go.At
namespace Go.At
open Go Go.Xe Go.Sh Go.RowKit
theorem cmp_bit (a : Nat) : cmpInt .eql ((a : Int) % 2) 1 = decide (a % 2 = 1) := by
  simp only [cmpInt]
  rw [Bool.eq_iff_iff, beq_iff_eq, decide_eq_true_eq]; omega
theorem cmp_bit0 (a : Nat) : cmpInt .eql ((a : Int) % 2) 0 = decide (a % 2 = 0) := by
  simp only [cmpInt]
  rw [Bool.eq_iff_iff, beq_iff_eq, decide_eq_true_eq]; omega
theorem can_set (n : Num) (x : Att) (i : Nat) : can n.knows x i = decide (n.set (x.h i).c / 2 ^ (x.h (i - 1)).c.toNat % 2 = 1) := rfl
theorem pick_small {c n : Int} (h : 0 ≤ c) (h' : c < n) : pickI c n = c := by unfold pickI; rw [if_neg (by omega)]; exact Int.emod_eq_of_lt h h'
theorem most_yes {knows : List Int} {x : Att} {i : Nat} (h : can knows x i = true) : most knows x i = (x.h (i - 1)).l := by rw [most, if_pos h]
theorem most_no {knows : List Int} {x : Att} {i : Nat} (h : can knows x i = false) : most knows x i = min (x.h (i - 1)).l 1 := by rw [most, if_neg (by rw [h]; decide)]
end Go.At
namespace Go.At
open Go Go.Xe Go.Sh Go.RowKit
theorem keyAt_get {keys : List ByteArray} {x : Att} {i : Nat} (hk8 : keys.length = 8) (hc : 0 ≤ (x.h i).c ∧ (x.h i).c ≤ 7) : keyAt keys x i = keys[(x.h i).c.toNat]'(by omega) := by
  have h : (x.h i).c.toNat < keys.length := by omega
  simp [keyAt, h]
theorem keyAt_le {keys : List ByteArray} {x : Att} {i : Nat} (hk8 : keys.length = 8) (hks : ∀ k ∈ keys, k.size ≤ 1000) (hc : 0 ≤ (x.h i).c ∧ (x.h i).c ≤ 7) : (keyAt keys x i).size ≤ 1000 := by
  rw [keyAt_get hk8 hc]; exact hks _ (List.getElem_mem _)
end Go.At
namespace Go.At
open Go Go.Xe Go.Sh Go.RowKit
structure Q3 where
  a : Int
  b : Int
  c : Int
instance : Inhabited Q3 := ⟨⟨0, 0, 0⟩⟩
@[reducible] def Q3.cells (q : Q3) : List Value := [.int .i64 q.a, .int .i64 q.b, .int .i64 q.c]
structure Q3.In (q : Q3) : Prop where
  a : In64 q.a
  b : In64 q.b
  c : In64 q.c
instance : Enc Q3 where
  sz := 3
  rep := fun _ cs x => cs = x.cells
  len := fun h => by rw [h]; rfl
  mono := fun _ h => h
  one := fun h v hv => by rw [h] at hv; simp [Q3.cells] at hv; rcases hv with rfl | rfl | rfl <;> rfl
theorem _root_.Go.Xe.Arr.q3 {I : Im} {a : Option Addr} {xs : List Q3} (h : Arr I a xs) {j : Nat} (hj : j < xs.length) : ∀ i v, (xs[j].cells)[i]? = some v → At I a (j * 3 + i) v := by
  obtain ⟨cs, h1, h2⟩ := h j hj
  rw [show cs = xs[j].cells from h1] at h2
  exact h2
end Go.At
namespace Go.At
open Go Go.Xe Go.Sh Go.RowKit
theorem hashA_small {keys : List ByteArray} {x : Att} (hsz : ∀ i, i < x.hs.length → (x.h i).s.size ≤ 40) (hk8 : keys.length = 8) (hks : ∀ k ∈ keys, k.size ≤ 1000) (hcc : ∀ i, i < x.hs.length → 0 ≤ (x.h i).c ∧ (x.h i).c ≤ 7) : ∀ n, n ≤ x.hs.length → ∀ s ∈ hashA keys x n, s.size ≤ 10000000
  | 0, _, s, hs => by cases hs
  | n + 1, hn, s, hs => by
    rw [hashA_cells, List.mem_append] at hs
    rcases hs with hs | hs
    · exact hashA_small hsz hk8 hks hcc n (by omega) s hs
    · have h1 := content_size x n
      have h2 := before_size hsz (j := n) (by omega)
      have h3 := keyAt_le hk8 hks (hcc n (by omega))
      simp only [List.mem_cons, List.not_mem_nil, or_false] at hs
      rcases hs with rfl | rfl
      · rw [ByteArray.size_append]; show 1 + _ ≤ _; omega
      · rw [ByteArray.size_append, ByteArray.size_append, leaf, sha_size]; show 1 + _ + 32 ≤ _; omega
theorem hashA_len_le {keys : List ByteArray} {x : Att} {n : Nat} (h : n ≤ 10) : (hashA keys x n).length ≤ 100000 := by rw [hashA_len]; omega
theorem shownI_all {knows : List Int} {x : Att} (h : Chain knows x) {i : Nat} (hi : i < x.hs.length) : shownI allK x (i : Int) = true := by
  unfold shownI
  rw [h.f, ok_all, Int.toNat_natCast, h.shown_all hi, inB_iff.2 (by omega)]; rfl
theorem shownI_iff {keys : List ByteArray} {x : Att} {i : Nat} (h : shownI keys x (i : Int) = true) : x.formed = true ∧ i < x.hs.length ∧ shown keys x i = true := by
  simp only [shownI, Bool.and_eq_true, inB_iff, Int.toNat_natCast] at h
  exact ⟨h.1.1.1, by omega, h.2⟩
theorem other_coll {knows : List Int} {x : Att} {d : Dial} (h : Chain knows x) {i : Nat} (hd : ¬ x.d = d) (hs : shownI allK ⟨d, x.hs⟩ (i : Int) = true) : collF (hashA allK x (i + 1)) (hashA allK ⟨d, x.hs⟩ (i + 1)) = true := by
  obtain ⟨hf, hi, hy⟩ := shownI_iff hs
  cases hc : collF (hashA allK x (i + 1)) (hashA allK ⟨d, x.hs⟩ (i + 1)) with
  | true => rfl
  | false => exact absurd (binds h.f hf hi hi (h.shown_all hi) hy rfl hc).1 hd
end Go.At
