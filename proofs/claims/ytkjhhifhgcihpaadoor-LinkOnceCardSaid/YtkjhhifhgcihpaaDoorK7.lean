/- Whatever becomes of the packets: what LinkOnce says of two ends, told plainly. -/
import Derived.Test.YtkjhhifhgcihpaaDoorK2
import Derived.Test.YtkjhhifhgcihpaaDoorK4
import Derived.Test.YtkjhhifhgcihpaaDoorK5
namespace Go.Lk
open Go Go.Xe Go.Sh

theorem keys_differ : keyB 0 ≠ keyB 1 := fun h => by
  have h1 := PF_gen (i := 0) (by decide)
  have h2 := PF_other 0 (by decide)
  rw [h, h2] at h1; cases h1
theorem key_ne {n : Nat} (hn : n < 2) : keyB (1 - n : Nat) ≠ keyB n := by
  match n, hn with
  | 0, _ => exact fun h => keys_differ h.symm
  | 1, _ => exact keys_differ
/-- the strings of which the keys are digests -/
def keyS : List ByteArray := [⟨#[101, 0]⟩, ⟨#[101, 1]⟩]
theorem keyS_size : ∀ i, i < 2 → (keyS.getD i ⟨#[]⟩).size = 2
  | 0, _ => rfl
  | 1, _ => rfl
theorem keyB_sha (n : Int) : ∃ i, i < 2 ∧ keyB n = sha (keyS.getD i ⟨#[]⟩) := by
  have h := pickI_range (c := n) (n := 2) (by decide)
  unfold keyB
  rcases (by omega : (pickI n 2).toNat = 0 ∨ (pickI n 2).toNat = 1) with e | e
  · exact ⟨0, by decide, by rw [e]; rfl⟩
  · exact ⟨1, by decide, by rw [e]; rfl⟩
/-- a packet that went out, and from where -/
structure Sent (x : Nat → LEnd) (p : Pkt) (f : Nat) : Prop where
  f2 : f < 2
  gen : genF (keyB f) p = true
  ack : p.ack ≤ (x f).got
  of : p.ser = 0 ∨ (x f).sent[p.ser.toNat - 1]? = some p.body
theorem Sent.form {x : Nat → LEnd} {p : Pkt} {f : Nat} (h : Sent x p f) : Form p := ((genF_iff _ _).1 h.gen).2.1
theorem Sent.mono {x y : Nat → LEnd} {p : Pkt} {f : Nat} (h : Sent x p f) (hg : ∀ n, n < 2 → (x n).got ≤ (y n).got) (hs : ∀ n, n < 2 → ∃ l, (y n).sent = (x n).sent ++ l) : Sent y p f := by
  refine ⟨h.f2, h.gen, by have := hg f h.f2; have := h.ack; omega, h.of.imp id fun he => ?_⟩
  obtain ⟨l, hl⟩ := hs f h.f2
  obtain ⟨h1, _⟩ := List.getElem?_eq_some_iff.1 he
  rw [hl, List.getElem?_append_left h1]; exact he
/-- the state of LinkOnce -/
structure Once (x : Nat → LEnd) (G : Nat → List ByteArray) (pool : List Pkt) (from_ : List Nat) : Prop where
  sys : Sys x
  got : ∀ n, n < 2 → G n = (x (1 - n)).sent.take (x n).got
  len : from_.length = pool.length
  pool : ∀ (j : Nat) (h : j < pool.length) (h' : j < from_.length), Sent x pool[j] from_[j]
theorem Once.start : Once startF (fun _ => []) [] [] := ⟨startF_sys, fun n _ => by simp [startF, newF], rfl, fun j h => by simp at h⟩
theorem Once.send {x : Nat → LEnd} {G : Nat → List ByteArray} {pool : List Pkt} {fr : List Nat} (h : Once x G pool fr) {n : Nat} (hn : n < 2) {s : ByteArray} (hs : s.size ≤ 200) (hl : (x n).sent.length < 100) :
    sendF (x n) s = ({ x n with sent := (x n).sent ++ [s] }, 0) ∧ Once (upd x n { x n with sent := (x n).sent ++ [s] }) G pool fr := by
  obtain ⟨h1, h2⟩ := send_sys h.sys hn hs hl
  refine ⟨h1, h2, fun k hk => ?_, h.len, fun j hj hj' => (h.pool j hj hj').mono (fun k hk => ?_) (fun k hk => ?_)⟩
  · have hg := h.sys.got k hk
    rw [h.got k hk]
    by_cases e : k = n
    · subst e; rw [upd_self, upd_other _ _ (by omega : 1 - k ≠ k)]
    · obtain rfl : n = 1 - k := by omega
      rw [upd_self, upd_other _ _ e]
      show _ = List.take _ ((x (1 - k)).sent ++ [s])
      rw [List.take_append_of_le_length hg]
  · by_cases e : k = n
    · subst e; rw [upd_self]; exact Nat.le_refl _
    · rw [upd_other _ _ e]; exact Nat.le_refl _
  · by_cases e : k = n
    · subst e; rw [upd_self]; exact ⟨[s], rfl⟩
    · rw [upd_other _ _ e]; exact ⟨[], by simp⟩
theorem Once.out {x : Nat → LEnd} {G : Nat → List ByteArray} {pool : List Pkt} {fr : List Nat} (h : Once x G pool fr) {n : Nat} (hn : n < 2) {k : Nat} (hk : k < (outF (x n)).length) : Once x G (pool ++ [(outF (x n))[k]]) (fr ++ [n]) := by
  refine ⟨h.sys, h.got, by simp [h.len], fun j hj hj' => ?_⟩
  by_cases e : j < pool.length
  · rw [List.getElem_append_left e, List.getElem_append_left (by rw [h.len]; exact e)]; exact h.pool j e _
  · have hj2 : j = pool.length := by simp at hj; omega
    subst hj2
    obtain ⟨g1, g2, g3, g4⟩ := out_of h.sys hn (List.getElem_mem hk)
    have hfl := h.len
    simp only [List.getElem_concat_length]
    rw [show (fr ++ [n])[pool.length] = n by rw [List.getElem_append_right (by omega)]; simp]
    exact ⟨hn, g1, by rw [g3]; exact Int.le_refl _, g4.imp id And.right⟩
/-- a packet of the other end comes in -/
theorem Once.in_ {x : Nat → LEnd} {G : Nat → List ByteArray} {pool : List Pkt} {fr : List Nat} (h : Once x G pool fr) {n : Nat} (hn : n < 2) {p : Pkt} (hp : Sent x p (1 - n)) :
    ∃ z ms, inF (x n) p = (z, ms, 0) ∧ z.sent = (x n).sent ∧ Once (upd x n z) (upd G n (G n ++ ms)) pool fr := by
  have hm : 1 - n < 2 := by omega
  have i := in_sys h.sys hm hp.gen hp.form hp.ack hp.of
  rw [show 1 - (1 - n) = n by omega] at i
  obtain ⟨i1, i2, i3, i4, i5⟩ := i
  refine ⟨(inF (x n) p).1, (inF (x n) p).2.1, Prod.ext rfl (Prod.ext rfl i1), i5, i2, fun k hk => ?_, h.len, fun j hj hj' => (h.pool j hj hj').mono (fun k hk => ?_) (fun k hk => ?_)⟩
  · by_cases e : k = n
    · subst e
      rw [upd_self, upd_self, upd_other _ _ (by omega : 1 - k ≠ k), i4, h.got k hk, List.take_add, ← i3]
    · obtain rfl : n = 1 - k := by omega
      rw [upd_other _ _ e, upd_self, upd_other _ _ e, i5]; exact h.got k hk
  · by_cases e : k = n
    · subst e; rw [upd_self, i4]; omega
    · rw [upd_other _ _ e]; exact Nat.le_refl _
  · by_cases e : k = n
    · subst e; rw [upd_self, i5]; exact ⟨[], by simp⟩
    · rw [upd_other _ _ e]; exact ⟨[], by simp⟩
theorem in_err {x : LEnd} {p : Pkt} {z : LEnd} {ms : List ByteArray} {e : Int} (h : inF x p = (z, ms, e)) (he : ¬ e = 0) : z = x ∧ ms = [] := by
  by_cases hc : genF x.other p = true ∧ p.ack ≤ x.sent.length
  · have : (inF x p).2.2 = 0 := by unfold inF; rw [if_pos hc]
    rw [h] at this; exact absurd this he
  · rw [inF_no hc] at h
    simp only [Prod.mk.injEq] at h
    exact ⟨h.1.symm, h.2.1.symm⟩
theorem in_gen {x : LEnd} {p : Pkt} {z : LEnd} {ms : List ByteArray} (h : inF x p = (z, ms, 0)) : genF x.other p = true := by
  by_cases hc : genF x.other p = true ∧ p.ack ≤ x.sent.length
  · exact hc.1
  · rw [inF_no hc] at h
    simp only [Prod.mk.injEq] at h
    exact absurd h.2.2 (by decide)
/-- what nobody sent to this end is taken by a collision alone -/
theorem once_coll {k : Nat} {n f : Nat} (hn : n < 2) (hf : f < 2) {p q : Pkt} (hp : genF (keyB (1 - n : Nat)) p = true) (hq : genF (keyB f) q = true) (hb : p.sl = q.sl ∨ ∃ c, p.sl = keyB c)
    (h1 : collF (hashF (keyB (1 - n : Nat)) p) keyS = false) (h2 : collF (hashF (keyB (1 - n : Nat)) p) (hashF (keyB f) q) = false) (h3 : ¬ (q = p ∧ ¬ f = n)) (h4 : ¬ p = q ∨ f = n) : False := by
  obtain ⟨_, fp, sp⟩ := (genF_iff _ _).1 hp
  obtain ⟨_, fq, sq⟩ := (genF_iff _ _).1 hq
  rcases hb with hb | ⟨c, hb⟩
  · obtain ⟨hk, e1, e2, e3⟩ := seal_inj (keyB_size _) (keyB_size _) fp fq (by rw [← sp, ← sq, hb]) h2
    have he : p = q := pkt_ext e1 e2 e3 hb
    have hfn : f = n := h4.resolve_left (fun hh => hh he)
    rw [hfn] at hk
    exact key_ne hn hk
  · obtain ⟨i, hi, hki⟩ := keyB_sha c
    have hs : sha (⟨#[1]⟩ ++ keyB (1 - n : Nat) ++ leaf (content p)) = sha (keyS.getD i ⟨#[]⟩) := by rw [← hki, ← hb, sp]; rfl
    refine absurd (coll_of (a := hashF (keyB (1 - n : Nat)) p) (b := keyS) (i := 1) (j := i) (Nat.lt_succ_self 1) hi (fun he => ?_) hs) (by rw [h1]; decide)
    have he' : (⟨#[1]⟩ ++ keyB (1 - n : Nat) ++ leaf (content p) : ByteArray) = keyS.getD i ⟨#[]⟩ := he
    have hz := congrArg ByteArray.size he'
    rw [ByteArray.size_append, ByteArray.size_append, keyB_size, leaf, sha_size] at hz
    have h32 : (⟨#[1]⟩ : ByteArray).size = 1 := rfl
    have hk2 := keyS_size i hi
    omega
theorem bent_sl4 {p : Pkt} {how n : Int} : (bentF p how n).sl = p.sl ∨ ∃ c, (bentF p how n).sl = keyB c := by
  by_cases h : pickI how 5 = 4
  · refine .inr ⟨n, ?_⟩
    unfold bentF
    rw [if_neg (by omega), if_neg (by omega), if_neg (by omega), if_neg (by omega)]
  · exact .inl (bent_sl h)
end Go.Lk
