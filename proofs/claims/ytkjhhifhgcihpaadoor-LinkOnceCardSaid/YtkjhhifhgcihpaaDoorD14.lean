/- Packets that arrive one after the other, in whatever order: what the walk of LinkOrder uses. -/
import Derived.Test.YtkjhhifhgcihpaaDoorD13
import Derived.Test.YtkjhhifhgcihpaaDoorXq
namespace Go.Lk
open Go Go.Xe Go.Sh
theorem arr_step {n : Nat} {s y : LEnd} (hn : n < 2) (h : Rec n s y) {ps : List Pkt} (hps : ∀ q ∈ ps, q ∈ outF s) {p : Pkt} (hp : p ∈ outF s) :
    ∃ z ms, inF (arrF y ps).1 p = (z, ms, 0) ∧ arrF y (ps ++ [p]) = (z, (arrF y ps).2 ++ ms) ∧ (arrF y ps).2.length + ms.length ≤ 100 := by
  have r := arr_rec hn h ps hps
  obtain ⟨z, ms, e, r2⟩ := r.is.in_ hn hp
  refine ⟨z, ms, e, by rw [arrF_snoc, e], ?_⟩
  have h1 := r2.got; have h2 := r.got
  have h3 := r2.is.sys.ok (1 - n) (by omega)
  rw [two_other hn] at h3
  have h4 := h3.got
  omega
theorem snoc_take {α : Type} {l : List α} {k : Nat} (h : k < l.length) : l.take (k + 1) = l.take k ++ [l[k]] := List.take_succ_eq_append_getElem h
/-- what has arrived, and what has not -/
structure OrdSt where
  G : Vec
  h : EH
  rest : List Pkt
  done : List Pkt
  a : Option Addr
  c : Nat
  J : Im
theorem perm_round {ps d r : List Pkt} (h : ps.Perm (d ++ r)) {k : Nat} (hk : k < r.length) : ps.Perm ((d ++ [r[k]]) ++ (r.take k ++ r.drop (k + 1))) := by
  refine h.trans ?_
  rw [List.append_assoc]
  refine List.Perm.append_left d ?_
  have e : r = r.take k ++ r[k] :: r.drop (k + 1) := by rw [← List.drop_eq_getElem_cons hk, List.take_append_drop]
  have h2 : (r.take k ++ r[k] :: r.drop (k + 1)).Perm (r[k] :: (r.take k ++ r.drop (k + 1))) := List.perm_middle
  rw [← e] at h2
  exact h2
end Go.Lk
