/- The reference's ends in memory, told by the same states as the program's. -/
import Derived.Test.YtkjhhifhgcihpaaDoorK1
namespace Go.Lk
open Go Go.Xe Go.Sh
def upd1 {α : Type} (f : Nat → α) (n : Nat) (v : α) : Nat → α := fun k => if k = n then v else f k
theorem upd1_self {α : Type} (f : Nat → α) (n : Nat) (v : α) : upd1 f n v n = v := if_pos rfl
theorem upd1_other {α : Type} (f : Nat → α) {n k : Nat} (v : α) (h : k ≠ n) : upd1 f n v k = f k := if_neg h
structure RH where
  V : Vec
  E : Nat → ByteArray
  H : Nat → Bool
def rowE (f : Nat → ByteArray) : List Value := (List.range 101).map fun i => Value.string (f i)
def rowH (f : Nat → Bool) : List Value := (List.range 101).map fun i => Value.bool (f i)
def rC (x : LEnd) (r : RH) : List Value := .string x.key :: .string x.other :: r.V.val :: .int .i64 (x.acked : Int) :: .int .i64 (x.got : Int) :: (rowE r.E ++ rowH r.H)
@[reducible] def refL (b : Nat) (x : LEnd) (r : RH) : Own := [some (b, .cells (rC x r).toArray 69 (0, 0)), r.V.ent 9]
structure RIs (x : LEnd) (r : RH) : Prop where
  vec : r.V.Is 1 (strC x.sent)
  has : ∀ k, x.got < k → k ≤ 100 → r.H k = (x.early k).isSome
  body : ∀ k s, x.got < k → x.early k = some s → r.E k = s
  ok : x.Ok
theorem RIs.len {x : LEnd} {r : RH} (h : RIs x r) : r.V.len = x.sent.length := by have := h.vec.len; rw [strC_len] at this; omega
theorem rowE_len (f : Nat → ByteArray) : (rowE f).length = 101 := by simp [rowE]
theorem rowH_len (f : Nat → Bool) : (rowH f).length = 101 := by simp [rowH]
theorem rC_len (x : LEnd) (r : RH) : (rC x r).length = 207 := by simp [rC, rowE_len, rowH_len]
theorem rC_E {x : LEnd} {r : RH} {i : Nat} (h : i < 101) : (rC x r)[5 + i]? = some (.string (r.E i)) := by
  rw [show 5 + i = i + 5 by omega]
  show (rowE r.E ++ rowH r.H)[i]? = _
  rw [List.getElem?_append_left (by rw [rowE_len]; exact h)]
  simp [rowE, h]
theorem rC_H {x : LEnd} {r : RH} {i : Nat} (h : i < 101) : (rC x r)[106 + i]? = some (.bool (r.H i)) := by
  rw [show 106 + i = (101 + i) + 5 by omega]
  show (rowE r.E ++ rowH r.H)[101 + i]? = _
  rw [List.getElem?_append_right (by rw [rowE_len]; omega), rowE_len, show 101 + i - 101 = i by omega]
  simp [rowH, h]
theorem rowE_set (f : Nat → ByteArray) {i : Nat} (s : ByteArray) : (rowE f).set i (.string s) = rowE (upd1 f i s) := by
  apply List.ext_getElem (by simp [rowE])
  intro j h1 h2
  rw [List.getElem_set]
  simp only [rowE, List.getElem_map, List.getElem_range]
  split
  · next e => subst e; rw [upd1_self]
  · next e => rw [upd1_other _ _ (by omega)]
theorem rowH_set (f : Nat → Bool) {i : Nat} (s : Bool) : (rowH f).set i (.bool s) = rowH (upd1 f i s) := by
  apply List.ext_getElem (by simp [rowH])
  intro j h1 h2
  rw [List.getElem_set]
  simp only [rowH, List.getElem_map, List.getElem_range]
  split
  · next e => subst e; rw [upd1_self]
  · next e => rw [upd1_other _ _ (by omega)]
theorem rC_setE {x : LEnd} {r : RH} {i : Nat} (h : i < 101) (s : ByteArray) : (rC x r).toArray.setIfInBounds (5 + i) (.string s) = (rC x { r with E := upd1 r.E i s }).toArray := by
  rw [set_toArray]; congr 1
  rw [show 5 + i = i + 5 by omega]
  show _ :: _ :: _ :: _ :: _ :: (rowE r.E ++ rowH r.H).set i _ = _
  rw [List.set_append_left _ _ (by rw [rowE_len]; exact h), rowE_set]; rfl
theorem rC_setH {x : LEnd} {r : RH} {i : Nat} (s : Bool) : (rC x r).toArray.setIfInBounds (106 + i) (.bool s) = (rC x { r with H := upd1 r.H i s }).toArray := by
  rw [set_toArray]; congr 1
  rw [show 106 + i = (101 + i) + 5 by omega]
  show _ :: _ :: _ :: _ :: _ :: (rowE r.E ++ rowH r.H).set (101 + i) _ = _
  rw [List.set_append_right _ _ (by rw [rowE_len]; omega), rowE_len, show 101 + i - 101 = i by omega, rowH_set]; rfl
theorem rC_acked (x : LEnd) (r : RH) (a : Nat) : (rC x r).toArray.setIfInBounds 3 (.int .i64 (a : Int)) = (rC { x with acked := a } r).toArray := by rw [set_toArray]; rfl
theorem rC_got (x : LEnd) (r : RH) (a : Nat) : (rC x r).toArray.setIfInBounds 4 (.int .i64 (a : Int)) = (rC { x with got := a } r).toArray := by rw [set_toArray]; rfl
theorem rC_vec (x : LEnd) (r : RH) (V : Vec) (l : List ByteArray) : (rC x r).toArray.setIfInBounds 2 V.val = (rC { x with sent := l } { r with V := V }).toArray := by rw [set_toArray]; rfl
theorem rC_take (x : LEnd) (p : Pkt) (r : RH) : rC { x with acked := max x.acked p.ack.toNat } r = rC (takeF x p) r := rfl
theorem rC_next (y : LEnd) (r : RH) : rC { y with got := y.got + 1 } r = rC y.next r := rfl
def newR : RH := ⟨Vec.nil, fun _ => ⟨#[]⟩, fun _ => false⟩
theorem newR_is {key other : ByteArray} (h : key.size = 32) (h' : other.size = 32) : RIs (newF key other) newR := ⟨Vec.nil_is 1, fun _ _ _ => rfl, fun _ _ _ h => (by cases h), newF_ok h h'⟩
theorem RIs.send {x : LEnd} {r : RH} (h : RIs x r) {s : ByteArray} {V' : Vec} (hs : s.size ≤ 200) (hl : x.sent.length < 100) (hV : V'.Is 1 (strC x.sent ++ strC [s])) : RIs { x with sent := x.sent ++ [s] } { r with V := V' } := by
  have hok := sendF_ok h.ok s
  rw [show sendF x s = ({ x with sent := x.sent ++ [s] }, 0) from if_pos ⟨hs, hl⟩] at hok
  exact ⟨by rw [strC_append]; exact hV, h.has, h.body, hok⟩
theorem RIs.skip {x : LEnd} {r : RH} {p : Pkt} (h : RIs x r) (hf : Form p) (ha : p.ack ≤ x.sent.length) (hn : ¬ (x.early p.ser.toNat = none ∧ x.got + 1 ≤ p.ser ∧ p.ser ≤ x.got + 4)) : RIs (takeF x p) r :=
  ⟨h.vec, by rw [takeF_skip hn]; exact h.has, by rw [takeF_skip hn]; exact h.body, takeF_ok h.ok hf ha⟩
theorem RIs.put {x : LEnd} {r : RH} {p : Pkt} (h : RIs x r) (hf : Form p) (ha : p.ack ≤ x.sent.length) (hy : x.early p.ser.toNat = none ∧ x.got + 1 ≤ p.ser ∧ p.ser ≤ x.got + 4) :
    RIs (takeF x p) { r with H := upd1 r.H p.ser.toNat true, E := upd1 r.E p.ser.toNat p.body } := by
  refine ⟨h.vec, fun k hk h1 => ?_, fun k s hk hs => ?_, takeF_ok h.ok hf ha⟩
  · rw [takeF_put hy]
    by_cases e : k = p.ser.toNat
    · subst e; simp [upd1_self]
    · simp only [upd1_other _ _ e, if_neg e]; exact h.has k hk h1
  · rw [takeF_put hy] at hs
    by_cases e : k = p.ser.toNat
    · subst e; simp at hs; subst hs; exact upd1_self _ _ _
    · simp only [if_neg e] at hs; simp only [upd1_other _ _ e]; exact h.body k s hk hs
theorem RIs.next {y : LEnd} {r : RH} (h : RIs y r) (hok : y.next.Ok) : RIs y.next r := by
  refine ⟨h.vec, fun k hk h1 => ?_, fun k s hk hs => ?_, hok⟩
  · have hk' : y.got + 1 < k := hk
    show _ = (if k = y.got + 1 then none else y.early k).isSome
    rw [if_neg (by omega)]; exact h.has k (by omega) h1
  · have hk' : y.got + 1 < k := hk
    have hs' : (if k = y.got + 1 then none else y.early k) = some s := hs
    rw [if_neg (by omega)] at hs'; exact h.body k s (by omega) hs'
/-- what waits, as the reference lists it -/
def wF (x : LEnd) : List Pkt := (List.range x.many).map fun i => ⟨(x.acked + i + 1 : Nat), x.got, x.sent.getD (x.acked + i) ⟨#[]⟩, ⟨#[]⟩⟩
theorem wF_len (x : LEnd) : (wF x).length = x.many := by simp [wF]
theorem wF_bare {x : LEnd} (h : ¬ x.acked = x.sent.length) : wF x = bareF x := by simp [wF, bareF, h, LEnd.many]
theorem wF_get {x : LEnd} {j : Nat} (h : j < x.many) : (wF x)[j]'(by rw [wF_len]; exact h) = ⟨(x.acked + j + 1 : Nat), x.got, x.sent.getD (x.acked + j) ⟨#[]⟩, ⟨#[]⟩⟩ := by simp [wF]
theorem wF_step {x : LEnd} {j : Nat} (h : j < x.many) : (wF x).take (j + 1) = (wF x).take j ++ [⟨(x.acked + j + 1 : Nat), x.got, x.sent.getD (x.acked + j) ⟨#[]⟩, ⟨#[]⟩⟩] := by
  rw [List.take_succ_eq_append_getElem (by rw [wF_len]; exact h), wF_get h]
end Go.Lk
