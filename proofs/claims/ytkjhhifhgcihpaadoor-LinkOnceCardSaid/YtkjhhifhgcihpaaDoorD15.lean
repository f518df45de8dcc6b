/- Two slices in an array; the states that LinkAll goes through. -/
import Derived.Test.YtkjhhifhgcihpaaDoorD14
import Derived.Test.YtkjhhifhgcihpaaDoorK6
import Derived.Test.YtkjhhifhgcihpaaDoorK7
namespace Go.Lk
open Go Go.Xe Go.Sh

/-- an array (or a slice) of two slices, and what these hold -/
@[reducible] def avL (b t e : Nat) (S : Nat → Vec) : Own := [some (b, .cells #[(S 0).val, (S 1).val] t (0, 0)), (S 0).ent e, (S 1).ent e]
theorem av_get {S : Nat → Vec} : ∀ {n : Nat}, n < 2 → (#[(S 0).val, (S 1).val] : Array Value).toList[n]? = some (S n).val
  | 0, _ => rfl
  | 1, _ => rfl
theorem av_ent {b t e : Nat} {S : Nat → Vec} {u : Option (Nat × Obj)} {R : Own} : ∀ {n : Nat}, n < 2 → (u :: (avL b t e S ++ R))[n + 2]? = some ((S n).ent e)
  | 0, _ => rfl
  | 1, _ => rfl
theorem av_mem {b t e : Nat} {S : Nat → Vec} {R : Own} : ∀ {n : Nat}, n < 2 → (S n).ent e ∈ (avL b t e S ++ R)
  | 0, _ => List.mem_of_getElem? (i := 1) rfl
  | 1, _ => List.mem_of_getElem? (i := 2) rfl
theorem av_app {b t e : Nat} {S : Nat → Vec} {V : Vec} {u : Option (Nat × Obj)} {R : Own} : ∀ {n : Nat}, n < 2 →
    (u :: (avL b t e S ++ R)).set (n + 2) (V.ent e) = u :: some (b, .cells #[(S 0).val, (S 1).val] t (0, 0)) :: (upd S n V 0).ent e :: (upd S n V 1).ent e :: R
  | 0, _ => rfl
  | 1, _ => rfl
theorem av_store {S : Nat → Vec} {V : Vec} : ∀ {n : Nat}, n < 2 → (#[(S 0).val, (S 1).val] : Array Value).setIfInBounds n V.val = #[(upd S n V 0).val, (upd S n V 1).val]
  | 0, _ => rfl
  | 1, _ => rfl
theorem Arr.two {I : Im} {a : Option Addr} {m : Nat → Nat} (h : Arr I a [((m 0 : Nat) : Int), ((m 1 : Nat) : Int)]) : ∀ {n : Nat}, n < 2 → At I a n (.int .i64 ((m n : Nat) : Int))
  | 0, _ => by simpa using h.int (j := 0) (Nat.succ_pos 1)
  | 1, _ => by simpa using h.int (j := 1) (Nat.lt_succ_self 1)
theorem twoL_congr {b : Nat → Nat} {x z : Nat → LEnd} {h : Nat → EH} (e : ∀ k, k < 2 → x k = z k) : twoL b x h = twoL b z h := by
  unfold twoL; rw [e 0 (by decide), e 1 (by decide)]
theorem rounds_of {sz m0 m1 : Nat} (h1 : 1 ≤ sz) (h4 : sz ≤ 4) (hm0 : m0 ≤ 8) (hm1 : m1 ≤ 8) :
    ∃ N : Nat, (2 * (sz : Int) - 1) * (2 * ((m0 : Int) + (m1 : Int)) + 1) = (N : Int) ∧ N ≤ 231 ∧ 2 * (m0 + m1) * sz ≤ N := by
  rcases (by omega : sz = 1 ∨ sz = 2 ∨ sz = 3 ∨ sz = 4) with rfl | rfl | rfl | rfl
  · exact ⟨1 * (2 * (m0 + m1) + 1), by omega, by omega, by omega⟩
  · exact ⟨3 * (2 * (m0 + m1) + 1), by omega, by omega, by omega⟩
  · exact ⟨5 * (2 * (m0 + m1) + 1), by omega, by omega, by omega⟩
  · exact ⟨7 * (2 * (m0 + m1) + 1), by omega, by omega, by omega⟩

/-! what is sent -/
def sentF (n i : Nat) : List ByteArray := (List.range i).map fun (j : Nat) => bodyB (17 * (j : Int) + (n : Int))
theorem sentF_succ (n i : Nat) : sentF n (i + 1) = sentF n i ++ [bodyB (17 * (i : Int) + (n : Int))] := by simp [sentF, List.range_succ]
theorem sentF_len (n i : Nat) : (sentF n i).length = i := by simp [sentF]
def xA (m : Nat → Nat) (n i : Nat) : Nat → LEnd := fun k => { startF k with sent := if k < n then sentF k (m k) else if k = n then sentF k i else [] }
theorem xA_zero (m : Nat → Nat) : xA m 0 0 = startF := by
  funext k; unfold xA
  rw [if_neg (Nat.not_lt_zero k)]
  split <;> rfl
theorem xA_next (m : Nat → Nat) (n : Nat) : xA m n (m n) = xA m (n + 1) 0 := by
  funext k; unfold xA
  congr 1
  rcases Nat.lt_trichotomy k n with h | h | h
  · rw [if_pos h, if_pos (by omega)]
  · subst h; rw [if_neg (by omega), if_pos rfl, if_pos (by omega)]
  · rw [if_neg (by omega), if_neg (by omega), if_neg (by omega)]; split <;> rfl
theorem xA_sent (m : Nat → Nat) (n i : Nat) : (xA m n i n).sent = sentF n i := by simp [xA]
theorem xA_send {m : Nat → Nat} {n i : Nat} (hi : i < 8) : sendF (xA m n i n) (bodyB (17 * (i : Int) + (n : Int))) = (xA m n (i + 1) n, 0) := by
  have h1 := bodyB_size (17 * (i : Int) + (n : Int))
  unfold sendF
  rw [if_pos ⟨by omega, by rw [xA_sent, sentF_len]; omega⟩, xA_sent, ← sentF_succ]
  simp [xA]
theorem xA_upd (m : Nat → Nat) (n i : Nat) : upd (xA m n i) n (xA m n (i + 1) n) = xA m n (i + 1) := by
  funext k
  by_cases h : k = n
  · subst h; rw [upd_self]
  · rw [upd_other _ _ h]; unfold xA; rw [if_neg h, if_neg h]
theorem xA_vec {m : Nat → Nat} {n i : Nat} {S : Nat → Vec} {V : Vec} (h : ∀ k, k < 2 → (S k).Is 1 (strC (xA m n i k).sent)) (hV : V.Is 1 (strC (xA m n i n).sent ++ strC [bodyB (17 * (i : Int) + (n : Int))])) :
    ∀ k, k < 2 → (upd S n V k).Is 1 (strC (xA m n (i + 1) k).sent) := by
  intro k hk
  by_cases e : k = n
  · subst e; rw [upd_self, xA_sent, sentF_succ, strC_append]; rw [xA_sent] at hV; exact hV
  · rw [upd_other _ _ e, ← xA_upd, upd_other _ _ e]; exact h k hk
theorem xA_good {m : Nat → Nat} (hm : ∀ k, k < 2 → m k ≤ 8) : Good (xA m 2 0) ∧ ∀ k, k < 2 → (xA m 2 0 k).sent = sentF k (m k) := by
  have hs : ∀ k, k < 2 → (xA m 2 0 k).sent = sentF k (m k) := fun k hk => by unfold xA; simp [hk]
  have ok : ∀ k, k < 2 → (xA m 2 0 k).Ok := fun k hk => by
    have h0 := startF_sys.ok k hk
    refine ⟨h0.key, h0.other, ?_, ?_, ?_, h0.got, h0.early⟩
    · rw [hs k hk, sentF_len]; have := hm k hk; omega
    · rw [hs k hk]; intro s hsm
      simp only [sentF, List.mem_map] at hsm
      obtain ⟨j, _, rfl⟩ := hsm
      have := bodyB_size (17 * (j : Int) + (k : Int)); omega
    · exact Nat.zero_le _
  refine ⟨⟨⟨ok, fun k _ => rfl, fun k _ => rfl, fun k _ => Nat.zero_le _, fun k _ => Nat.zero_le _, fun k _ j s h => ?_⟩, fun k _ => rfl⟩, hs⟩
  simp [xA, startF, newF] at h

/-! one round, end by end -/
section
variable (ws : List Int) (size r : Nat) (x : Nat → LEnd)
def dF (n : Nat) : Nat → LEnd := fun k => if 1 - k < n then roundF ws size r x k else x k
/-- what has arrived of the first i packets of the end n -/
def dE (n i : Nat) : LEnd × List ByteArray := arrF (x (1 - n)) (((outF (x n)).take i).filter (hitF ws size r n))
theorem dF_zero (k : Nat) : dF ws size r x 0 k = x k := by unfold dF; rw [if_neg (Nat.not_lt_zero _)]
theorem dF_recv {n : Nat} (hn : n < 2) : dF ws size r x n (1 - n) = (dE ws size r x n 0).1 := by
  unfold dF; rw [if_neg (by omega)]; rfl
theorem dF_two {k : Nat} (hk : k < 2) : dF ws size r x 2 k = roundF ws size r x k := by unfold dF; rw [if_pos (by omega)]
theorem dE_all {n i : Nat} (hn : n < 2) (hi : (outF (x n)).length ≤ i) : dE ws size r x n i = arrF (x (1 - n)) ((outF (x (1 - (1 - n)))).filter (hitF ws size r (1 - (1 - n)))) := by
  unfold dE; rw [List.take_of_length_le hi, show 1 - (1 - n) = n by omega]
theorem dF_next {n i : Nat} (hn : n < 2) (hi : (outF (x n)).length ≤ i) : ∀ k, k < 2 → upd (dF ws size r x n) (1 - n) (dE ws size r x n i).1 k = dF ws size r x (n + 1) k := by
  intro k hk
  by_cases e : k = 1 - n
  · subst e; rw [upd_self, dE_all ws size r x hn hi]; unfold dF; rw [if_pos (by omega)]; rfl
  · rw [upd_other _ _ e]; unfold dF
    by_cases h : 1 - k < n
    · rw [if_pos h, if_pos (by omega)]
    · rw [if_neg h, if_neg (by omega)]
def gD (L : Nat → List ByteArray) (n : Nat) : Nat → List ByteArray := fun k => L k ++ (if 1 - k < n then newsF ws size r x k else [])
def gE (L : Nat → List ByteArray) (n i : Nat) : Nat → List ByteArray := fun k => if k = 1 - n then L k ++ (dE ws size r x n i).2 else gD ws size r x L n k
theorem gE_zero (L : Nat → List ByteArray) {n : Nat} (hn : n < 2) {k : Nat} (hk : k < 2) : gE ws size r x L n 0 k = gD ws size r x L n k := by
  unfold gE; split
  · next e => subst e; unfold gD; rw [if_neg (by omega)]; rfl
  · rfl
theorem gE_next (L : Nat → List ByteArray) {n i : Nat} (hn : n < 2) (hi : (outF (x n)).length ≤ i) {k : Nat} (hk : k < 2) : gE ws size r x L n i k = gD ws size r x L (n + 1) k := by
  unfold gE; split
  · next e => subst e; rw [dE_all ws size r x hn hi]; unfold gD; rw [if_pos (by omega)]; rfl
  · next e =>
    unfold gD
    by_cases h : 1 - k < n
    · rw [if_pos h, if_pos (by omega)]
    · rw [if_neg h, if_neg (by omega)]
theorem gD_zero (L : Nat → List ByteArray) (k : Nat) : gD ws size r x L 0 k = L k := by unfold gD; rw [if_neg (Nat.not_lt_zero _), List.append_nil]
variable {ws size r x}
theorem gE_vec {L : Nat → List ByteArray} {n i : Nat} {z : LEnd} {ms : List ByteArray} {G : Nat → Vec} {V : Vec} (h1 : dE ws size r x n (i + 1) = (z, (dE ws size r x n i).2 ++ ms)) (hG : ∀ k, k < 2 → (G k).Is 1 (strC (gE ws size r x L n i k)))
    (hV : V.Is 1 (strC (gE ws size r x L n i (1 - n)) ++ strC ms)) : ∀ k, k < 2 → (upd G (1 - n) V k).Is 1 (strC (gE ws size r x L n (i + 1) k)) := by
  intro k hk
  by_cases e : k = 1 - n
  · subst e
    rw [upd_self]
    have e1 : gE ws size r x L n i (1 - n) = L (1 - n) ++ (dE ws size r x n i).2 := if_pos rfl
    have e2 : gE ws size r x L n (i + 1) (1 - n) = L (1 - n) ++ (dE ws size r x n (i + 1)).2 := if_pos rfl
    rw [e2, h1]; rw [e1, ← strC_append, List.append_assoc] at hV
    exact hV
  · rw [upd_other _ _ e]
    have := hG k hk
    unfold gE at this ⊢
    rw [if_neg e] at this ⊢
    exact this
theorem dE_skip {n i : Nat} (hi : i < (outF (x n)).length) (hh : hitF ws size r n (outF (x n))[i] = false) : dE ws size r x n (i + 1) = dE ws size r x n i := by
  unfold dE; rw [List.take_succ_eq_append_getElem hi, List.filter_append]; simp [hh]
theorem dE_hit {n i : Nat} (hg : Good x) (hn : n < 2) (hi : i < (outF (x n)).length) (hh : hitF ws size r n (outF (x n))[i] = true) :
    ∃ z ms, inF (dE ws size r x n i).1 (outF (x n))[i] = (z, ms, 0) ∧ dE ws size r x n (i + 1) = (z, (dE ws size r x n i).2 ++ ms) ∧ (dE ws size r x n i).2.length + ms.length ≤ 100 := by
  have hR := hg.rcv (k := 1 - n) (by omega)
  rw [show 1 - (1 - n) = n by omega] at hR
  obtain ⟨z, ms, h1, h2, h3⟩ := arr_step hn hR (ps := ((outF (x n)).take i).filter (hitF ws size r n)) (fun q hq => List.mem_of_mem_take (List.mem_filter.1 hq).1) (List.getElem_mem hi)
  refine ⟨z, ms, h1, ?_, h3⟩
  unfold dE
  rw [List.take_succ_eq_append_getElem hi, List.filter_append]
  simp only [List.filter_cons, hh, if_true, List.filter_nil]
  exact h2
end
/-- the messages so far -/
def Lg (ws : List Int) (size : Nat) (x : Nat → LEnd) (r k : Nat) : List ByteArray := (x (1 - k)).sent.take (runR ws size x r k).got
theorem Lg_next {ws : List Int} {size r : Nat} {x : Nat → LEnd} (h : Good x) {k : Nat} (hk : k < 2) : gD ws size r (runR ws size x r) (Lg ws size x r) 2 k = Lg ws size x (r + 1) k := by
  have hg := run_good (ws := ws) (size := size) h r
  have ha := hg.arr hk (hitF ws size r (1 - k))
  have h1 := ha.got
  have h2 := ha.many
  unfold gD Lg
  rw [if_pos (by omega)]
  show _ ++ newsF ws size r (runR ws size x r) k = List.take (roundF ws size r (runR ws size x r) k).got _
  unfold newsF roundF
  rw [h1, List.take_add, ← run_sent h (by omega : 1 - k < 2) r (ws := ws) (size := size), ← h2]
theorem Lg_len {ws : List Int} {size r : Nat} {x : Nat → LEnd} (h : Good x) {k : Nat} (hk : k < 2) : (Lg ws size x r k).length ≤ 100 := by
  have hg := (run_good (ws := ws) (size := size) h r).sys.ok k hk
  have := hg.got
  unfold Lg; rw [List.length_take]; omega
theorem all_got {ws : List Int} {size N : Nat} {x : Nat → LEnd} (h : Good x) (hs : 0 < size) (hN : 2 * ((x 0).sent.length + (x 1).sent.length) * size ≤ N) {k : Nat} (hk : k < 2) :
    Lg ws size x N k = (x (1 - k)).sent ∧ (runR ws size x N k).acked = (runR ws size x N k).sent.length := by
  have h1 := all_done (ws := ws) h hs hN k hk
  have h2 := all_done (ws := ws) h hs hN (1 - k) (by omega)
  rw [show 1 - (1 - k) = k by omega] at h2
  exact ⟨by unfold Lg; rw [h2.2, List.take_of_length_le (Nat.le_refl _)], by rw [run_sent h hk]; exact h1.1⟩
end Go.Lk
